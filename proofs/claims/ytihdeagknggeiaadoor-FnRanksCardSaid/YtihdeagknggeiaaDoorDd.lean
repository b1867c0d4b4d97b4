import Derived.Test.YtihdeagknggeiaaDoorDc
import Derived.MapKept
set_option autoImplicit false
set_option linter.unusedSimpArgs false
set_option linter.unusedVariables false
/- Memory of one's own is changed. -/
namespace Go.Den

theorem splice_get {ds ys : List Cell} {j : Nat} (h : j + ys.length ≤ ds.length) (k : Nat) : (splice ds j ys)[k]? = if k < j then ds[k]? else if k < j + ys.length then ys[k - j]? else ds[k]? := by
  unfold splice
  have h1 : (ds.take j).length = j := by simp; omega
  by_cases hk : k < j
  · rw [if_pos hk, List.append_assoc, List.getElem?_append_left (by omega), List.getElem?_take, if_pos hk]
  · rw [if_neg hk]
    by_cases hk2 : k < j + ys.length
    · rw [if_pos hk2, List.append_assoc, List.getElem?_append_right (by omega), h1, List.getElem?_append_left (by omega)]
    · rw [if_neg hk2, List.getElem?_append_right (by simp; omega), List.getElem?_drop]
      congr 1
      simp
      omega
theorem spl_get {ds ys : List Value} {j : Nat} (h : j + ys.length ≤ ds.length) (k : Nat) : (spl ds j ys)[k]? = if k < j then ds[k]? else if k < j + ys.length then ys[k - j]? else ds[k]? := by
  unfold spl
  have h1 : (ds.take j).length = j := by simp; omega
  by_cases hk : k < j
  · rw [if_pos hk, List.append_assoc, List.getElem?_append_left (by omega), List.getElem?_take, if_pos hk]
  · rw [if_neg hk]
    by_cases hk2 : k < j + ys.length
    · rw [if_pos hk2, List.append_assoc, List.getElem?_append_right (by omega), h1, List.getElem?_append_left (by omega)]
    · rw [if_neg hk2, List.getElem?_append_right (by simp; omega), List.getElem?_drop]
      congr 1
      simp
      omega
theorem splice_length {ds ys : List Cell} {j : Nat} (h : j + ys.length ≤ ds.length) : (splice ds j ys).length = ds.length := by simp [splice]; omega
theorem spl_length {ds ys : List Value} {j : Nat} (h : j + ys.length ≤ ds.length) : (spl ds j ys).length = ds.length := by simp [spl]; omega
theorem take_spl {ds ys : List Value} {j m : Nat} (h : j + ys.length ≤ m) (hm : m ≤ ds.length) : (spl ds j ys).take m = spl (ds.take m) j ys := by
  apply List.ext_getElem?
  intro k
  rw [List.getElem?_take, spl_get (by omega), spl_get (by simp; omega), List.getElem?_take]
  by_cases h1 : k < m
  · simp [h1]
  · rw [if_neg h1, if_neg (by omega), if_neg (by omega), if_neg h1]

section
variable {E : Env} {w0 : World} {B Z0 : Nat → Prop} {gv : List Value} {s : List Ent} {a : Act} {w : World} {Z : Nat → Prop} {RV : Nat → Nat → Value}
  {L : Nat → Nat → List Nat} {C : FuncId → List Arg → Res → Prop} {α : Type} {K : α → List Ent → List Nat → List Nat → Prop}

theorem getC_some {R : List Cell} {i k : Nat} {x : Cell} (h : getC R i (some k) = some x) : ∃ sz n cs, R[i]? = some (.sl false sz n cs) ∧ cs[k]? = some x := by
  simp only [getC] at h
  split at h
  · rename_i sz n cs hr; exact ⟨sz, n, cs, hr, h⟩
  · cases h
theorem elemV_keep {w' : World} {b : Nat} {n cap k : Nat} (h : w'.heap[b]? = w.heap[b]?) : elemV w' (.slice (some ⟨b, 0, none⟩) n cap) k = elemV w (.slice (some ⟨b, 0, none⟩) n cap) k := by
  simp only [elemV, addrOf, Option.bind_some, add_off, World.cell?]
  rw [h]

/-- A block of one's own is written. -/
theorem At.write (h : At E w0 B Z0 gv s a w Z RV L) {r i : Nat} (hr : r < s.length) (hi : i < (rOf s r).length) {b : Nat} (hb : b ∈ L r i) {w' : World}
    (hx : Ext (fun c => c = b) w w') {y : Cell} {l : List Nat} (hl : ∀ c, c ∈ l → c ∈ L r i) (hn : l.Nodup)
    (hy : ∀ R', Refs w w' (rOf s) R' RV RV → RC w' Z R' RV y (RV r i) l)
    (he : ∀ k x, getC [y] 0 (some k) = some x → isHdr x = true → ∃ x0, getC (rOf s r) i (some k) = some x0 ∧ isHdr x0 = true ∧ elemV w' (RV r i) k = elemV w (RV r i) k) :
    At E w0 B Z0 gv (s.set r ⟨sOf s r, (rOf s r).set i y⟩) a w' Z RV (upd2 L r i l) := by
  have hown := h.inv.own r i b hb
  have hrf : Refs w w' (rOf s) (fun j => if j = r then (rOf s r).set i y else rOf s j) RV RV := by
    refine ⟨fun r' i' hlt => ⟨?_, rfl⟩, fun r' i' k x hlt hxx hh => ?_⟩
    · by_cases e : r' = r
      · subst e; simpa using hlt
      · simpa [e] using hlt
    · have other : (r', i') ≠ (r, i) → getC (rOf s r') i' (some k) = some x → ∃ x0, getC (rOf s r') i' (some k) = some x0 ∧ isHdr x0 = true ∧ elemV w' (RV r' i') k = elemV w (RV r' i') k := fun hne hg => by
        refine ⟨x, hg, hh, ?_⟩
        obtain ⟨sz, n, cs, hroot, hkk⟩ := getC_some hg
        have hrc := h.inv.root r' i' _ hroot
        simp only [RC] at hrc
        obtain ⟨b', cap, cur, e, l', e1, e2, -⟩ := hrc.sl_at hkk
        have hb' : b' ∈ L r' i' := by rw [e2]; simp
        rw [e1]
        refine elemV_keep (hx.keep b' (h.inv.own r' i' b' hb').2.1 fun e => ?_)
        subst e
        exact h.inv.sep r' i' r i hne _ hb' hb
      by_cases e : r' = r
      · subst e
        simp only [if_true] at hxx
        by_cases e2 : i' = i
        · subst e2
          exact he k x (by simpa [getC, hi] using hxx) hh
        · refine other (fun e => e2 (Prod.mk.inj e).2) ?_
          simpa [getC, List.getElem?_set_ne (fun e => e2 e.symm)] using hxx
      · refine other (fun e' => e (Prod.mk.inj e').1) ?_
        simpa [e] using hxx
  refine h.names hr (D := fun c => c = b) rfl hx (fun c hc => ?_) (fun _ h => h) (fun _ h => .inl h) hrf ?_ ?_ ?_ ?_ ?_ fun r' i' hi' => h.inv.one r' i' ?_
  rotate_right
  · by_cases e : r' = r
    · subst e; simpa using hi'
    · simpa [e] using hi'
  · subst hc; exact ⟨hown.1, hown.2.2⟩
  · intro r' i' x hxx
    by_cases e : (r', i') = (r, i)
    · obtain ⟨rfl, rfl⟩ := Prod.mk.inj e
      simp [hi] at hxx
      subst hxx
      rw [upd2_same]
      exact .inr (hy _ hrf)
    · refine .inl ⟨?_, by rw [upd2_ne _ _ e], fun c hc e' => ?_⟩
      · by_cases e1 : r' = r
        · subst e1
          simp only [if_true] at hxx
          rwa [List.getElem?_set_ne (fun e2 => e (by rw [e2]))] at hxx
        · simpa [e1] using hxx
      · subst e'
        exact h.inv.sep r' i' r i e _ hc hb
  · intro r' i'
    by_cases e : (r', i') = (r, i)
    · obtain ⟨rfl, rfl⟩ := Prod.mk.inj e; rw [upd2_same]; exact hn
    · rw [upd2_ne _ _ e]; exact h.inv.nodup _ _
  · have hsub : ∀ r' i' b, b ∈ upd2 L r i l r' i' → b ∈ L r' i' := fun r' i' b hb => by
      by_cases e : (r', i') = (r, i)
      · obtain ⟨rfl, rfl⟩ := Prod.mk.inj e; rw [upd2_same] at hb; exact hl b hb
      · rw [upd2_ne _ _ e] at hb; exact hb
    exact fun r1 i1 r2 i2 hne b h1 h2 => h.inv.sep r1 i1 r2 i2 hne b (hsub _ _ _ h1) (hsub _ _ _ h2)
  · intro r' i' b' hb'
    have := h.inv.own r' i' b' (by
      by_cases e : (r', i') = (r, i)
      · obtain ⟨rfl, rfl⟩ := Prod.mk.inj e; rw [upd2_same] at hb'; exact hl b' hb'
      · rw [upd2_ne _ _ e] at hb'; exact hb')
    exact ⟨this.1, Nat.lt_of_lt_of_le this.2.1 hx.size, this.2.2⟩
  · intro r' i' hxx
    by_cases e : (r', i') = (r, i)
    · obtain ⟨rfl, rfl⟩ := Prod.mk.inj e
      simp [hi] at hxx
    · rw [upd2_ne _ _ e]
      refine h.inv.out r' i' ?_
      by_cases e1 : r' = r
      · subst e1
        simp only [if_true] at hxx
        rwa [List.getElem?_set_ne (fun e2 => e (by rw [e2]))] at hxx
      · simpa [e1] using hxx

/-- What may be read as shared. -/
def Clean (s : List Ent) (x : Cell) : Prop := bare x = true ∨ ∃ r i z, x = .hd r i none ∧ (rOf s r)[i]? = some (.shd z)
theorem rd_clean (h : At E w0 B Z0 gv s a w Z RV L) {n : Nat} {x : Cell} {V : Value} {k : Cell → AM α} {r t : List Nat} (hc : SCell w Z (rOf s) RV x V) (hx : Clean s x) (hw : wp C (rdC n x k) s r t K) :
    ∃ y r', Sh w Z y V ∧ wp C (k y) s r' t K := by
  cases n with
  | zero => simp [rdC, wp] at hw
  | succ n =>
    rcases hx with hx | ⟨rr, i, z, rfl, hz⟩
    · cases x with
      | c v => obtain rfl := scell_c hc; exact ⟨_, r, .c _, hw⟩
      | sl => exact ⟨_, r, scell_sl hc, hw⟩
      | mp => exact ⟨_, r, scell_mp hc, hw⟩
      | ptr => exact ⟨_, r, scell_ptr hc, hw⟩
      | fn f caps =>
        cases caps with
        | cons _ _ => simp [bare] at hx
        | nil =>
          simp only [rdC] at hw
          cases n with
          | zero => simp [rdL, wp] at hw
          | succ n =>
            simp only [rdL] at hw
            cases hc with
            | sh hs => exact ⟨_, r, hs, hw⟩
            | fn hs => cases hs; exact ⟨_, r, .fn .nil, hw⟩
      | _ => simp [bare] at hx
    · simp only [rdC] at hw
      obtain ⟨y, r', hlt, hy, hok, hw⟩ := atP_sound hw
      simp only [getC] at hy
      rw [hz] at hy
      obtain rfl := Option.some.inj hy
      rcases name_value h hc (show getC (rOf s rr) i none = some (.shd z) from hz) hok with ⟨-, rfl, hrc⟩ | ⟨hn, -⟩
      · exact ⟨z, r', (Ow.shd_inv hrc).2, hw⟩
      · exact absurd rfl hn
theorem rds_clean (h : At E w0 B Z0 gv s a w Z RV L) : ∀ {n : Nat} {xs : List Cell} {vs : List Value} {k : List Cell → AM α} {r t : List Nat}, SCells w Z (rOf s) RV xs vs → (∀ x ∈ xs, Clean s x) →
    wp C (rdL n xs k) s r t K → ∃ ys r', Shs w Z ys vs ∧ wp C (k ys) s r' t K
  | 0, _, _, _, _, _, _, _, hw => by simp [rdL, wp] at hw
  | n + 1, _, _, k, r, t, .nil, _, hw => ⟨[], r, .nil, hw⟩
  | n + 1, _, _, k, r, t, .cons hc ht, hx, hw => by
    simp only [rdL] at hw
    obtain ⟨y, r', hy, hw⟩ := rd_clean h hc (hx _ (by simp)) hw
    obtain ⟨ys, r', hys, hw⟩ := rds_clean h ht (fun x hx' => hx x (by simp [hx'])) hw
    exact ⟨y :: ys, r', .cons hy hys, hw⟩

/-- What freezing leaves. -/
structure Frozen (w : World) (s s' : List Ent) (Z Z' : Nat → Prop) (RV : Nat → Nat → Value) (L L' : Nat → Nat → List Nat) : Prop where
  slots : sOf s' = sOf s
  refs : Refs w w (rOf s) (rOf s') RV RV
  zsub : ∀ b, Z b → Z' b
  zin : ∀ b, Z' b → Z b ∨ ∃ r i, b ∈ L r i
  lsub : ∀ r i b, b ∈ L' r i → b ∈ L r i
  za : ∀ b, ZA Z L b → ZA Z' L' b
  shd : ∀ (r i : Nat) (z : Cell), (rOf s r)[i]? = some (.shd z) → (rOf s' r)[i]? = some (.shd z)
theorem Frozen.refl (w : World) (s : List Ent) (Z : Nat → Prop) (RV : Nat → Nat → Value) (L : Nat → Nat → List Nat) : Frozen w s s Z Z RV L L :=
  ⟨rfl, Refs.refl .., fun _ h => h, fun _ h => .inl h, fun _ _ _ h => h, fun _ h => h, fun _ _ _ h => h⟩
theorem Frozen.trans {s1 s2 : List Ent} {Z1 Z2 : Nat → Prop} {L1 L2 : Nat → Nat → List Nat} (h : Frozen w s s1 Z Z1 RV L L1) (k : Frozen w s1 s2 Z1 Z2 RV L1 L2) : Frozen w s s2 Z Z2 RV L L2 :=
  ⟨k.slots.trans h.slots, h.refs.trans k.refs, fun b hb => k.zsub b (h.zsub b hb), fun b hb => by
      rcases k.zin b hb with hb | ⟨r, i, hb⟩
      · exact h.zin b hb
      · exact .inr ⟨r, i, h.lsub r i b hb⟩,
    fun r i b hb => h.lsub r i b (k.lsub r i b hb), fun b hb => k.za b (h.za b hb), fun r i z hz => k.shd r i z (h.shd r i z hz)⟩
theorem Clean.mono {s' : List Ent} {Z' : Nat → Prop} {L' : Nat → Nat → List Nat} (hf : Frozen w s s' Z Z' RV L L') {x : Cell} (h : Clean s x) : Clean s' x := by
  rcases h with h | ⟨r, i, z, e, hz⟩
  · exact .inl h
  · exact .inr ⟨r, i, z, e, hf.shd r i z hz⟩

theorem freeze_one (h : At E w0 B Z0 gv s a w Z RV L) {rr i : Nat} {y z : Cell} (hlt : rr < s.length) (hy : (rOf s rr)[i]? = some y) (hns : ∀ x, y ≠ .shd x)
    (hz : Sh w (fun b => Z b ∨ b ∈ L rr i) z (RV rr i)) : ∃ Z' L', At E w0 B Z0 gv (s.set rr ⟨sOf s rr, (rOf s rr).set i (.shd z)⟩) a w Z' RV L' ∧
      Frozen w s (s.set rr ⟨sOf s rr, (rOf s rr).set i (.shd z)⟩) Z Z' RV L L' ∧ Clean (s.set rr ⟨sOf s rr, (rOf s rr).set i (.shd z)⟩) (.hd rr i none) := by
  have hi := (List.getElem?_eq_some_iff.1 hy).1
  have hset : (rOf (s.set rr ⟨sOf s rr, (rOf s rr).set i (.shd z)⟩) rr)[i]? = some (.shd z) := by rw [rOf_set hlt]; simp [hi]
  refine ⟨_, _, h.freeze hlt hi hz, ⟨sOf_names hlt _, exch_refs hlt hi (fun k x hk => by simp [getC] at hk), fun _ h => .inl h, fun b hb => hb.imp id fun hb => ⟨rr, i, hb⟩, fun r' i' b hb => ?_, fun b hb => ?_, fun r' i' z' hz' => ?_⟩, .inr ⟨rr, i, z, rfl, hset⟩⟩
  · by_cases e : (r', i') = (rr, i)
    · obtain ⟨rfl, rfl⟩ := Prod.mk.inj e; rw [upd2_same] at hb; simp at hb
    · rwa [upd2_ne _ _ e] at hb
  · rcases hb with hb | ⟨r', i', hb⟩
    · exact .inl (.inl hb)
    · by_cases e : (r', i') = (rr, i)
      · obtain ⟨rfl, rfl⟩ := Prod.mk.inj e; exact .inl (.inr hb)
      · exact .inr ⟨r', i', by rwa [upd2_ne _ _ e]⟩
  · rw [rOf_set hlt]
    by_cases e : r' = rr
    · subst e
      rw [if_pos rfl]
      by_cases e2 : i' = i
      · subst e2
        rw [hy] at hz'
        exact absurd (Option.some.inj hz') (hns z')
      · rw [List.getElem?_set_ne (fun e => e2 e.symm)]; exact hz'
    · rw [if_neg e]; exact hz'

theorem frz_sound : ∀ {xs : List Cell} {vs : List Value} {s : List Ent} {Z : Nat → Prop} {L : Nat → Nat → List Nat} {k : AM α} {r t : List Nat}, At E w0 B Z0 gv s a w Z RV L → SCells w Z (rOf s) RV xs vs →
    wp C (frzL xs k) s r t K → ∃ s' Z' L' r' t', At E w0 B Z0 gv s' a w Z' RV L' ∧ Frozen w s s' Z Z' RV L L' ∧ (∀ x ∈ xs, Clean s' x) ∧ wp C k s' r' t' K
  | _, _, s, Z, L, k, r, t, h, .nil, hw => ⟨s, Z, L, r, t, h, Frozen.refl .., by simp, hw⟩
  | x :: xs, _, s, Z, L, k, r, t, h, .cons hc ht, hw => by
    have go : ∀ {s1 : List Ent} {Z1 : Nat → Prop} {L1 : Nat → Nat → List Nat} {r t : List Nat}, At E w0 B Z0 gv s1 a w Z1 RV L1 → Frozen w s s1 Z Z1 RV L L1 → Clean s1 x → wp C (frzL xs k) s1 r t K →
        ∃ s' Z' L' r' t', At E w0 B Z0 gv s' a w Z' RV L' ∧ Frozen w s s' Z Z' RV L L' ∧ (∀ y ∈ x :: xs, Clean s' y) ∧ wp C k s' r' t' K := by
      intro s1 Z1 L1 r t h1 hf hx hw
      obtain ⟨s', Z', L', r', t', g1, g2, g3, g4⟩ := frz_sound h1 (ht.mono hf.zsub (fun _ _ => rfl) hf.refs) hw
      refine ⟨s', Z', L', r', t', g1, hf.trans g2, fun y hy => ?_, g4⟩
      simp only [List.mem_cons] at hy
      rcases hy with rfl | hy
      · exact hx.mono g2
      · exact g3 y hy
    have id' := fun (hb : bare x = true) (hw : wp C (frzL xs k) s r t K) => go h (Frozen.refl ..) (.inl hb) hw
    cases x with
    | hd rr i kk =>
      cases kk with
      | some _ => exact hw.elim
      | none =>
        simp only [frzL] at hw
        obtain ⟨y, r', hlt, hy, hok, hw2⟩ := atP_sound hw
        clear hw
        have hi := (List.getElem?_eq_some_iff.1 (show (rOf s rr)[i]? = some y from hy)).1
        have hrc := h.inv.root rr i y hy
        cases y with
        | sl es sz n cs =>
          obtain ⟨-, r1, t1, hw⟩ := setP_eq hw2
          have hsh : Sh w (fun b => Z b ∨ b ∈ L rr i) (.sl es sz n cs) (RV rr i) := Ow.sh (Z := Z) hrc (fun b hb => .inl hb) fun b hb => .inr hb
          obtain ⟨Z', L', h1, h2, h3⟩ := freeze_one h hlt hy (by simp) hsh.ro
          exact go h1 h2 h3 hw
        | mp es ks cs =>
          obtain ⟨-, r1, t1, hw⟩ := setP_eq hw2
          have hsh : Sh w (fun b => Z b ∨ b ∈ L rr i) (.mp es ks cs) (RV rr i) := Ow.sh (Z := Z) hrc (fun b hb => .inl hb) fun b hb => .inr hb
          obtain ⟨Z', L', h1, h2, h3⟩ := freeze_one h hlt hy (by simp) hsh.ro
          exact go h1 h2 h3 hw
        | shd z => exact go h (Frozen.refl ..) (.inr ⟨rr, i, z, rfl, hy⟩) hw2
        | _ => exact hw2.elim
    | c => exact id' rfl hw
    | sl => exact id' rfl hw
    | mp => exact id' rfl hw
    | ptr => exact id' rfl hw
    | fn f caps =>
      cases caps with
      | nil => exact id' rfl hw
      | cons _ _ => exact hw.elim
    | _ => exact hw.elim
end
section
variable {P : Program} {E : Env} {o : Oper}
theorem Ows.takeL {w : World} : ∀ {Z : Nat → Prop} {xs : List Cell} {vs : List Value} {l : List Nat}, Ows w Z xs vs l → ∀ n, ∃ l', l'.Sublist l ∧ Ows w Z (xs.take n) (vs.take n) l'
  | _, _, _, _, .nil Z, n => ⟨[], .slnil, by rw [List.take_nil, List.take_nil]; exact .nil _⟩
  | _, _, _, _, .cons _ _, 0 => ⟨[], List.nil_sublist _, .nil _⟩
  | _, _, _, _, .cons h t, n + 1 => by
    obtain ⟨l', h1, h2⟩ := t.takeL n
    exact ⟨_, (List.Sublist.refl _).append h1, .cons h h2⟩
theorem ok_slice (hT : TabOK P E.T) {ty : TypeId} {x : Operand} {lo hi : Option Operand} (ho : o.op = .slice ty x lo hi none) : OpOK P E o := by
  intro w0 B Z0 gv s a w Z RV L r t K Q hd h hw
  simp only [astep, ho] at hw
  obtain ⟨c, r', hc, hw⟩ := opC_sound hw h
  split at hw
  · -- a slice of one's own is cut short
    split at hw
    · rename_i lo hi hx
      obtain ⟨k, m, r', hm, hw⟩ := opI_sound hw h
      unfold ownCutAM at hw
      split at hw
      · rename_i rr i _
        obtain ⟨y, r', hlt, hx, hok, hw2⟩ := atP_sound hw
        clear hw
        split at hw2
        · rename_i es sz n cs
          split at hw2
          · exact hw2.elim
          · rename_i hel
            simp only [ne_eq, Decidable.not_not] at hel
            rw [wp_test] at hw2
            obtain ⟨⟨h0, h1⟩, hw2⟩ := hw2
            obtain ⟨-, r1, t1, hw⟩ := setP_eq hw2
            have runsl : ∀ {A : Option Addr} {n' cap : Nat}, a.eval x = .slice A n' cap → n' = n → n ≤ cap → (execOp a.eval o).run P w = .ok (.value (.slice A m.toNat cap)) w := by
              intro A n' cap e1 e2 hcap
              subst e2
              unfold elSize at hel
              split at hel
              · rename_i e sz' by_ z ht
                simp only [Option.map_eq_some_iff] at hel
                obtain ⟨d, hd1, hd2⟩ := hel
                obtain ⟨-, i, hi', hsz, -, -⟩ := hT _ _ hd1
                have hu := (hT _ _ ht).1
                have hb : Bnd none (some m) n' 0 m.toNat := ⟨rfl, by simp; omega, by omega, by omega⟩
                simp only [execOp, ho, Instr.sliceAt, Instr.slice, e1]
                have hbd := fun w => run_bounds (P := P) (isSlice := true) (low := none) (high := some (a.eval hi)) (lo := none) (hi := some m) trivial ⟨k, hm⟩ hb hcap w
                cases A with
                | none => simp [run_underlying hu, hbd, sizeOf, typeInfo, hi']
                | some A => simp [run_underlying hu, hbd, sizeOf, typeInfo, hi', Addr.add]
              · cases hel
            have hrc := h.inv.root rr i _ hx
            have hV : a.eval x = RV rr i := by
              generalize a.eval x = V at hc
              cases hc with
              | sh hx => cases hx
              | hd hlt => rfl
            obtain ⟨V, l, L1, hat, hrf, htk, hsub, hcase⟩ := h.take (k := none) hlt hx rfl
            obtain ⟨-, -, -, hl, -⟩ := hcase.resolve_right (by simp)
            have hfree := htk.free h
            have hmul : m.toNat * sz ≤ n * sz := Nat.mul_le_mul_right _ (by omega)
            have hnil : a.eval x = .slice none 0 0 → n = 0 → cs = [] → o.wp P a w (fun a' w' => ∃ s' r' t' Z' RV' L', K () s' r' t' ∧ At E w0 B Z0 gv s' a' w' Z' RV' L') Q := fun e1 e2 e3 => by
              subst e2 e3
              have hm0 : m.toNat = 0 := by omega
              have hrun := runsl e1 rfl (Nat.le_refl _)
              rw [hm0] at hrun
              rw [hm0, List.take_nil] at hw
              obtain ⟨s', r', t', RV', L', hk, h'⟩ := setN_sound hw hat hd (V := .slice none 0 0) (l := []) (fun R RV' hrf => Ow.nil Z es sz) (hdr_nil ..) .nil (fun b hb => by simp at hb)
              exact wp_value hrun ⟨s', r', t', _, _, _, hk, h'⟩
            cases es with
            | false =>
              rcases Ow.sl_inv hrc with ⟨b, cap, cur, e, l', e1, e2, hh, h4, h5, h6, h7, h8⟩ | ⟨e1, e2, e3, -⟩
              rotate_left
              · exact hnil (hV.trans e1) e2 e3
              obtain ⟨l'', hsl, h9⟩ := h8.takeL (m.toNat * sz)
              rw [List.take_take, Nat.min_eq_left hmul] at h9
              have hbl : (b :: l'').Sublist (L rr i) := by rw [e2]; exact hsl.cons_cons b
              obtain ⟨s', r', t', RV', L', hk, h'⟩ := setN_sound hw hat hd (V := .slice (some ⟨b, 0, none⟩) m.toNat cap) (l := b :: l'')
                (fun R RV' hrf => Ow.sl hh (by rw [List.length_take, h4]; exact Nat.min_eq_left hmul) h5 (by omega) h7 rfl h9) (hdr_slice ..) ((h.inv.nodup rr i).sublist hbl) (fun c hc => hfree c (by rw [hl]; exact hbl.subset hc))
              exact wp_value (runsl (hV.trans e1) rfl h6) ⟨s', r', t', _, _, _, hk, h'⟩
            | true =>
              rcases Ow.sls_inv hrc with ⟨b, cap, cur, e, e1, e2, hh, h4, h5, h6, h7, h8⟩ | ⟨e1, e2, e3, -⟩
              rotate_left
              · exact hnil (hV.trans e1) e2 e3
              have h9 := h8.take (m.toNat * sz)
              rw [List.take_take, Nat.min_eq_left hmul] at h9
              obtain ⟨s', r', t', RV', L', hk, h'⟩ := setN_sound hw hat hd (V := .slice (some ⟨b, 0, none⟩) m.toNat cap) (l := [b])
                (fun R RV' hrf => Ow.sls hh (by rw [List.length_take, h4]; exact Nat.min_eq_left hmul) h5 (by omega) h7 rfl h9) (hdr_slice ..) (by simp) (fun c hc => hfree c (by rw [hl, e2]; exact hc))
              exact wp_value (runsl (hV.trans e1) rfl h6) ⟨s', r', t', _, _, _, hk, h'⟩
        · exact hw2.elim
      · exact hw.elim
    · exact hw.elim
  have hw' : ∃ l hh r', IsB (lo.map a.eval) l ∧ IsB (hi.map a.eval) hh ∧ wp (Ret P E.G) (sliceAM (isStD (E.T ty)) (elSize E.T ty) c l hh fun v => setD o.dst v) s r' t K := by
    cases lo with
    | none =>
      cases hi with
      | none => exact ⟨none, none, r', trivial, trivial, hw⟩
      | some y =>
        obtain ⟨k, n, r', hn, hw⟩ := opI_sound hw h
        exact ⟨none, some n, r', trivial, ⟨k, hn⟩, hw⟩
    | some z =>
      cases hi with
      | none =>
        obtain ⟨k, n, r', hn, hw⟩ := opI_sound hw h
        exact ⟨some n, none, r', ⟨k, hn⟩, trivial, hw⟩
      | some y =>
        obtain ⟨k, n, r', hn, hw⟩ := opI_sound hw h
        obtain ⟨k', n', r', hn', hw⟩ := opI_sound hw h
        exact ⟨some n, some n', r', ⟨k, hn⟩, ⟨k', hn'⟩, hw⟩
  clear hw
  obtain ⟨l, hh, r', hl, hhh, hw⟩ := hw'
  have runsl : ∀ {sz : Nat} {V : Value} {A : Addr} {n cap l' h' : Nat}, elSize E.T ty = some sz → a.eval x = V → V = .slice (some A) n cap → n ≤ cap → Bnd l hh n l' h' →
      (execOp a.eval o).run P w = .ok (.value (.slice (some (if cap = l' then A else A.add (l' * sz))) (h' - l') (cap - l'))) w := by
    intro sz V A n cap l' h' hel e1 e2 hcap hb
    unfold elSize at hel
    split at hel
    · rename_i e sz' by_ z ht
      simp only [Option.map_eq_some_iff] at hel
      obtain ⟨d, hd1, hd2⟩ := hel
      obtain ⟨-, i, hi', hsz, -, -⟩ := hT _ _ hd1
      have hu := (hT _ _ ht).1
      subst e2
      simp only [execOp, ho, Instr.sliceAt, Instr.slice, e1]
      have hif : (if cap = l' then some A else some (A.add (l' * sz))) = some (if cap = l' then A else A.add (l' * sz)) := by split <;> rfl
      simp [run_underlying hu, run_bounds hl hhh hb hcap, sizeOf, typeInfo, hi', hsz, hd2, hif]
    · cases hel
  -- a shared slice is cut
  have fin : ∀ {s' : List Ent} {Z' : Nat → Prop} {L' : Nat → Nat → List Nat} {r' t' : List Nat} {es : Bool} {sz n : Nat} {cs : List Cell} {V : Value}, At E w0 B Z0 gv s' a w Z' RV L' → a.eval x = V →
      Sh w Z' (.sl es sz n cs) V →
      wp (Ret P E.G) (cutAM (elSize E.T ty) l hh es sz n cs fun y => setD o.dst (.one y)) s' r' t' K →
      o.wp P a w (fun a' w' => ∃ s' r' t' Z' RV' L', K () s' r' t' ∧ At E w0 B Z0 gv s' a' w' Z' RV' L') Q := by
    intro s' Z' L' r' t' es sz n cs V h' e1 hsh hw
    unfold cutAM at hw
    split at hw
    · exact hw.elim
    · rename_i hel
      simp only [ne_eq, Decidable.not_not] at hel
      rcases hsh.sl_inv with ⟨A, cap, vs, e2, h4, h6, h8, hm⟩ | ⟨e2, rfl, rfl⟩
      rotate_left
      · subst e2
        have runnl : Bnd l hh 0 0 0 → (execOp a.eval o).run P w = .ok (.value (.slice none 0 0)) w := fun hb => by
          unfold elSize at hel
          split at hel
          · rename_i e sz' by_ z ht
            have hu := (hT _ _ ht).1
            simp only [Option.map_eq_some_iff] at hel
            obtain ⟨d, hd1, hd2⟩ := hel
            obtain ⟨-, i, hi', hsz, -, -⟩ := hT _ _ hd1
            simp only [execOp, ho, Instr.sliceAt, Instr.slice, e1]
            simp [run_underlying hu, run_bounds hl hhh hb (Nat.le_refl _), sizeOf, typeInfo, hi', hsz]
          · cases hel
        rcases l with _ | l0 <;> rcases hh with _ | h0'
        · exact fin_value hd h' hw (.sh (.nil _ _)) (runnl ⟨rfl, rfl, by omega, by omega⟩)
        · rw [wp_test] at hw
          obtain ⟨⟨h0, h1⟩, hw⟩ := hw
          have e3 : h0'.toNat = 0 := by omega
          rw [e3] at hw
          exact fin_value hd h' hw (.sh (by simpa using Sh.nil es sz)) (runnl ⟨rfl, by simp; omega, by omega, by omega⟩)
        · rw [wp_test] at hw
          obtain ⟨⟨h0, h1⟩, hw⟩ := hw
          exact fin_value hd h' hw (.sh (by simpa using Sh.nil es sz)) (runnl ⟨by simp; omega, rfl, by omega, by omega⟩)
        · rw [wp_test] at hw
          obtain ⟨⟨h0, h1, h2⟩, hw⟩ := hw
          have e3 : h0'.toNat = 0 := by omega
          rw [e3] at hw
          exact fin_value hd h' hw (.sh (by simpa using Sh.nil es sz)) (runnl ⟨by simp; omega, by simp; omega, by omega, by omega⟩)
      subst e2
      rcases l with _ | l0 <;> rcases hh with _ | h0'
      · have hb : Bnd none none n 0 n := ⟨rfl, rfl, by omega, by omega⟩
        have := cut_sh hsh (Nat.zero_le n) (Nat.le_refl n)
        simp only [Nat.zero_mul, List.drop_zero, Nat.sub_zero] at this
        rw [← h4, List.take_length] at this
        refine fin_value hd h' hw (.sh this) ?_
        have := runsl hel e1 rfl h6 hb
        simpa using this
      rotate_left
      · rw [wp_test] at hw
        obtain ⟨⟨h0, h1⟩, hw⟩ := hw
        have hb : Bnd (some l0) none n l0.toNat n := ⟨by simp; omega, rfl, by omega, by omega⟩
        have := cut_sh hsh (show l0.toNat ≤ n by omega) (Nat.le_refl n)
        rw [List.take_of_length_le (by simp [h4, Nat.sub_mul])] at this
        exact fin_value hd h' hw (.sh this) (runsl hel e1 rfl h6 hb)
      rotate_left
      · rw [wp_test] at hw
        obtain ⟨⟨h0, h1⟩, hw⟩ := hw
        have hb : Bnd none (some h0') n 0 h0'.toNat := ⟨rfl, by simp; omega, by omega, by omega⟩
        have := cut_sh hsh (Nat.zero_le h0'.toNat) (show h0'.toNat ≤ n by omega)
        simp only [Nat.zero_mul, List.drop_zero, Nat.sub_zero] at this
        refine fin_value hd h' hw (.sh this) ?_
        have := runsl hel e1 rfl h6 hb
        simpa using this
      · rw [wp_test] at hw
        obtain ⟨⟨h0, h1, h2⟩, hw⟩ := hw
        have hb : Bnd (some l0) (some h0') n l0.toNat h0'.toNat := ⟨by simp; omega, by simp; omega, by omega, by omega⟩
        exact fin_value hd h' hw (.sh (cut_sh hsh hb.lh hb.hn)) (runsl hel e1 rfl h6 hb)
  cases c with
  | c v =>
    have e1 := scell_c hc
    cases v with
    | string str =>
      simp only [sliceAM] at hw
      split at hw
      · exact hw.elim
      · rename_i hst
        rw [wp_test] at hw
        obtain ⟨⟨h0, h1, h2⟩, hw⟩ := hw
        have hu : P.underlying ty = some .string := by
          unfold isStD at hst
          split at hst
          · rename_i ht; exact (hT _ _ ht).1
          · simp at hst
        refine fin_value hd h hw (.c _) ?_
        have hb : Bnd l hh str.size (l.getD 0).toNat (hh.getD str.size).toNat := ⟨by omega, by omega, by omega, by omega⟩
        simp only [execOp, ho, Instr.sliceAt, Instr.slice, e1]
        simp [run_underlying hu, run_bounds hl hhh hb (Nat.le_refl _)]
    | slice sa n k =>
      cases sa with
      | some _ => exact hw.elim
      | none =>
        simp only [sliceAM] at hw
        split at hw
        · exact hw.elim
        · rename_i hel
          simp only [Bool.or_eq_true, not_or, bne_iff_ne, ne_eq, Decidable.not_not] at hel
          obtain ⟨⟨hel, rfl⟩, rfl⟩ := hel
          rw [wp_test] at hw
          obtain ⟨⟨h0, h1⟩, hw⟩ := hw
          refine fin_value hd h hw (.c _) ?_
          have hb : Bnd l hh 0 0 0 := ⟨by simpa using h0, by simpa using h1, by omega, by omega⟩
          unfold elSize at hel
          split at hel
          · rename_i e sz' by_ z ht
            have hu := (hT _ _ ht).1
            cases hd1 : E.T e with
            | none => simp [hd1] at hel
            | some d =>
              obtain ⟨-, i, hi', hsz, -, -⟩ := hT _ _ hd1
              simp only [execOp, ho, Instr.sliceAt, Instr.slice, e1]
              simp [run_underlying hu, run_bounds hl hhh hb (Nat.le_refl _), sizeOf, typeInfo, hi', hsz]
          · simp at hel
    | _ => exact hw.elim
  | sl => exact fin h rfl (scell_sl hc) hw
  | hd rr i kk =>
    cases kk with
    | some _ => exact hw.elim
    | none =>
      simp only [sliceAM] at hw
      obtain ⟨y, r', hlt, hx, hok, hw2⟩ := atP_sound hw
      clear hw
      have hi' := (List.getElem?_eq_some_iff.1 hx).1
      rcases name_value h hc hx hok with ⟨-, e1, hrc⟩ | ⟨hn, -⟩
      · cases y with
        | sl es sz n cs =>
          obtain ⟨-, r1, t1, hw⟩ := setP_eq hw2
          have hsh0 : Sh w (fun b => Z b ∨ b ∈ L rr i) (.sl es sz n cs) (RV rr i) := Ow.sh (Z := Z) (by rw [← e1]; exact hrc) (fun b hb => .inl hb) fun b hb => .inr hb
          have hsh : Sh w (fun b => Z b ∨ b ∈ L rr i) (.sl false sz n cs) (RV rr i) := hsh0.ro
          exact fin (h.freeze hlt hi' hsh) e1 hsh hw
        | shd z =>
          cases z with
          | sl es sz n cs => exact fin h e1 (by rw [← e1]; exact (Ow.shd_inv hrc).2) hw2
          | _ => exact hw2.elim
        | _ => exact hw2.elim
      · exact absurd rfl hn
  | _ => exact hw.elim
end
end Go.Den

/- A tree is replaced while no name leads into it. -/
namespace Go.Den

/-- Names lead where they led, but for those of elements of trees in q. -/
structure RefsX (q : Nat → Nat → Bool) (w w' : World) (R R' : Nat → List Cell) (RV RV' : Nat → Nat → Value) : Prop where
  len : ∀ r i, i < (R r).length → i < (R' r).length ∧ RV' r i = RV r i
  elem : ∀ r i k x, q r i = false → i < (R r).length → getC (R' r) i (some k) = some x → isHdr x = true →
    ∃ x0, getC (R r) i (some k) = some x0 ∧ isHdr x0 = true ∧ elemV w' (RV r i) k = elemV w (RV r i) k
theorem Refs.x {q : Nat → Nat → Bool} {w w' : World} {R R' : Nat → List Cell} {RV RV' : Nat → Nat → Value} (h : Refs w w' R R' RV RV') : RefsX q w w' R R' RV RV' :=
  ⟨h.len, fun r i k x _ => h.elem r i k x⟩
theorem RefsX.weak {q q' : Nat → Nat → Bool} {w w' : World} {R R' : Nat → List Cell} {RV RV' : Nat → Nat → Value} (h : RefsX q w w' R R' RV RV') (hq : ∀ r i, q r i = true → q' r i = true) : RefsX q' w w' R R' RV RV' :=
  ⟨h.len, fun r i k x h0 => h.elem r i k x (by cases e : q r i with | false => rfl | true => rw [hq r i e] at h0; cases h0)⟩
mutual
theorem noN_weak {q q' : Nat → Nat → Bool} (hq : ∀ r i, q r i = true → q' r i = true) : ∀ {x : Cell}, noN q' x = true → noN q x = true
  | .hd r i k, h => by
    simp only [noN, Bool.or_eq_true, Bool.not_eq_true'] at h ⊢
    refine h.imp id fun h => ?_
    cases e : q r i with
    | false => rfl
    | true => rw [hq r i e] at h; cases h
  | .ad r i k _, h => by
    simp only [noN, Bool.or_eq_true, Bool.not_eq_true'] at h ⊢
    refine h.imp id fun h => ?_
    cases e : q r i with
    | false => rfl
    | true => rw [hq r i e] at h; cases h
  | .ptr cs, h => by simp only [noN] at h ⊢; exact noNL_weak hq h
  | .fn _ cs, h => by simp only [noN] at h ⊢; exact noNL_weak hq h
  | .c _, _ | .sl .., _ | .mp .., _ | .shd _, _ | .hole, _ => rfl
theorem noNL_weak {q q' : Nat → Nat → Bool} (hq : ∀ r i, q r i = true → q' r i = true) : ∀ {xs : List Cell}, noNL q' xs = true → noNL q xs = true
  | [], _ => rfl
  | x :: xs, h => by
    simp only [noNL, Bool.and_eq_true] at h ⊢
    exact ⟨noN_weak hq h.1, noNL_weak hq h.2⟩
end
mutual
theorem SCell.monoX {q : Nat → Nat → Bool} {w w' : World} {Z Z' : Nat → Prop} {R R' : Nat → List Cell} {RV RV' : Nat → Nat → Value} (hz : ∀ b, Z b → Z' b)
    (hw : ∀ b, Z b → w'.heap[b]? = w.heap[b]?) (hr : RefsX q w w' R R' RV RV') : ∀ {x : Cell} {v : Value}, noN q x = true → SCell w Z R RV x v → SCell w' Z' R' RV' x v
  | _, _, _, .c v => .c v
  | _, _, _, .hole v => .hole v
  | _, _, _, .sh h => .sh (h.frame hz hw)
  | _, _, _, .hd (r := r) (i := i) h => by
    have := hr.len r i h
    rw [← this.2]
    exact .hd this.1
  | .hd r i (some _), _, hn, .hde h hv => by
    have := hr.len r i h
    simp only [noN, Option.isNone_some, Bool.false_or, Bool.not_eq_true'] at hn
    refine .hde this.1 fun x hx hh => ?_
    obtain ⟨x0, h0, h1, h2⟩ := hr.elem r i _ x hn h hx hh
    rw [this.2, h2]
    exact hv x0 h0 h1
  | _, _, _, .ad (r := r) (i := i) h ha => by
    have := hr.len r i h
    exact .ad this.1 (by rw [this.2]; exact ha)
  | .ad r i (some _) _, _, hn, .ade h hv => by
    have := hr.len r i h
    simp only [noN, Option.isNone_some, Bool.false_or, Bool.not_eq_true'] at hn
    refine .ade this.1 fun x hx hh => ?_
    obtain ⟨x0, h0, h1, h2⟩ := hr.elem r i _ x hn h hx hh
    rw [this.2, h2]
    exact hv x0 h0 h1
  | _, _, hn, .fn h => .fn (SCells.monoX hz hw hr (by simpa [noN] using hn) h)
theorem SCells.monoX {q : Nat → Nat → Bool} {w w' : World} {Z Z' : Nat → Prop} {R R' : Nat → List Cell} {RV RV' : Nat → Nat → Value} (hz : ∀ b, Z b → Z' b)
    (hw : ∀ b, Z b → w'.heap[b]? = w.heap[b]?) (hr : RefsX q w w' R R' RV RV') : ∀ {xs : List Cell} {vs : List Value}, noNL q xs = true → SCells w Z R RV xs vs → SCells w' Z' R' RV' xs vs
  | _, _, _, .nil => .nil
  | _, _, hn, .cons h t => by
    simp only [noNL, Bool.and_eq_true] at hn
    exact .cons (SCell.monoX hz hw hr hn.1 h) (SCells.monoX hz hw hr hn.2 t)
end
section
variable {q : Nat → Nat → Bool} {w w' : World} {Z Z' : Nat → Prop} {R R' : Nat → List Cell} {RV RV' : Nat → Nat → Value}
theorem STup.monoX (hz : ∀ b, Z b → Z' b) (hw : ∀ b, Z b → w'.heap[b]? = w.heap[b]?) (hr : RefsX q w w' R R' RV RV') :
    ∀ {ts : List (Bool × List Cell)} {vs : List Value}, (ts.all fun v => noNL q v.2) = true → STup w Z R RV ts vs → STup w' Z' R' RV' ts vs
  | [], [], _, _ => trivial
  | (true, _) :: _, _ :: _, hn, ⟨⟨us, e, h⟩, t⟩ => by
    simp only [List.all_cons, Bool.and_eq_true] at hn
    exact ⟨⟨us, e, h.monoX hz hw hr hn.1⟩, STup.monoX hz hw hr hn.2 t⟩
  | (false, xs) :: _, _ :: _, hn, ⟨⟨x, e, h⟩, t⟩ => by
    simp only [List.all_cons, Bool.and_eq_true] at hn
    refine ⟨⟨x, e, h.monoX hz hw hr ?_⟩, STup.monoX hz hw hr hn.2 t⟩
    have := hn.1
    simp only [e, noNL, Bool.and_true] at this
    exact this
  | [], _ :: _, _, h => h.elim
  | (true, _) :: _, [], _, h => h.elim
  | (false, _) :: _, [], _, h => h.elim
theorem Slot.monoX (hz : ∀ b, Z b → Z' b) (hw : ∀ b, Z b → w'.heap[b]? = w.heap[b]?) (hr : RefsX q w w' R R' RV RV') {x : SV} {v : Value}
    (hn : noSV q x = true) (h : Slot w Z R RV x v) : Slot w' Z' R' RV' x v := by
  cases x with
  | dead => trivial
  | one x => exact SCell.monoX hz hw hr hn h
  | agg xs => obtain ⟨us, e, h⟩ := h; exact ⟨us, e, h.monoX hz hw hr hn⟩
  | tup ts => obtain ⟨us, e, h⟩ := h; exact ⟨us, e, h.monoX hz hw hr hn⟩
theorem RC.monoX (hz : ∀ b, Z b → Z' b) (hw : ∀ b, Z b → w'.heap[b]? = w.heap[b]?) (hr : RefsX q w w' R R' RV RV') {x : Cell} {v : Value} {l : List Nat} (hl : ∀ b, b ∈ l → w'.heap[b]? = w.heap[b]?)
    (hn : noB q x = true) (h : RC w Z R RV x v l) : RC w' Z' R' RV' x v l := by
  unfold RC at *
  split at h
  · obtain ⟨b, cur, e, h1, h2, h3, h4⟩ := h
    exact ⟨b, cur, e, h1, h2, (hl b (by simp [h2])).trans h3, h4.monoX hz hw hr (by simpa [noB] using hn)⟩
  · exact h.frame hz hw hl
end

section
variable {E : Env} {w0 : World} {B Z0 : Nat → Prop} {gv : List Value} {s : List Ent} {a : Act} {w : World} {Z : Nat → Prop} {RV : Nat → Nat → Value} {L : Nat → Nat → List Nat}
def setR2 (s : List Ent) (r i : Nat) (y : Cell) : Nat → List Cell := fun j => if j = r then (rOf s r).set i y else rOf s j
theorem setR2_get {r i : Nat} {y : Cell} {r' i' : Nat} (e : (r', i') ≠ (r, i)) : (setR2 s r i y r')[i']? = (rOf s r')[i']? := by
  by_cases e1 : r' = r
  · subst e1
    simp only [setR2, if_true]
    rw [List.getElem?_set_ne (fun e2 => e (by rw [e2]))]
  · simp [setR2, e1]
theorem setR2_len {r i : Nat} {y : Cell} (r' : Nat) : (setR2 s r i y r').length = (rOf s r').length := by
  by_cases e1 : r' = r
  · subst e1; simp [setR2]
  · simp [setR2, e1]
theorem setR2_at {r i : Nat} {y : Cell} (hi : i < (rOf s r).length) : (setR2 s r i y r)[i]? = some y := by simp [setR2, hi]
theorem At.keepD (h : At E w0 B Z0 gv s a w Z RV L) {r i : Nat} {D : Nat → Prop} (hd : ∀ c, D c → c ∈ L r i) : ∀ r' i' b, (r', i') ≠ (r, i) → b ∈ L r' i' → ¬ D b :=
  fun r' i' b hne hb hdb => h.inv.sep r' i' r i hne b hb (hd b hdb)
theorem At.elemD (h : At E w0 B Z0 gv s a w Z RV L) {r i : Nat} {D : Nat → Prop} {w' : World} (hx : Ext D w w') (hd : ∀ c, D c → c ∈ L r i) {r' i' k : Nat} {x : Cell} (hne : (r', i') ≠ (r, i))
    (hg : getC (rOf s r') i' (some k) = some x) : elemV w' (RV r' i') k = elemV w (RV r' i') k := by
  obtain ⟨sz, n, cs, hroot, hkk⟩ := getC_some hg
  have hrc := h.inv.root r' i' _ hroot
  simp only [RC] at hrc
  obtain ⟨b', cap, cur, e, l', e1, e2, -⟩ := hrc.sl_at hkk
  have hb' : b' ∈ L r' i' := by rw [e2]; simp
  rw [e1]
  exact elemV_keep (hx.keep b' (h.inv.own r' i' b' hb').2.1 (h.keepD hd r' i' b' hne hb'))
theorem At.put0 {q : Nat → Nat → Bool} (h : At E w0 B Z0 gv s a w Z RV L) {r i : Nat} (hr : r < s.length) (hi : i < (rOf s r).length) {D : Nat → Prop} {w' : World} (hx : Ext D w w') (hd : ∀ c, D c → c ∈ L r i)
    {y : Cell} {l : List Nat} (hy : Ow w' Z y (RV r i) l) (hp : ∀ ys, y ≠ .ptr ys) (hn : l.Nodup)
    (hl : ∀ c, c ∈ l → c ∈ L r i ∨ (¬ Z c ∧ c < w.heap.size ∧ (B c ∨ w0.heap.size ≤ c) ∧ ∀ r i, c ∉ L r i))
    (hrf : RefsX q w w' (rOf s) (setR2 s r i y) RV RV) (hslot : ∀ j, noSV q (sOf s j) = true) (hbox : ∀ (r' i' : Nat) (x : Cell), (rOf s r')[i']? = some x → noB q x = true) :
    At E w0 B Z0 gv (s.set r ⟨sOf s r, (rOf s r).set i y⟩) a w' Z RV (upd2 L r i l) ∧ RefsX q w w' (rOf s) (rOf (s.set r ⟨sOf s r, (rOf s r).set i y⟩)) RV RV := by
  have hRs : rOf (s.set r ⟨sOf s r, (rOf s r).set i y⟩) = setR2 s r i y := by funext j; rw [rOf_set hr]; rfl
  have hS : sOf (s.set r ⟨sOf s r, (rOf s r).set i y⟩) = sOf s := by
    funext j
    rw [sOf_set hr]
    split
    · rename_i e; rw [e]
    · rfl
  have hnd := h.keepD hd
  have hz : ∀ b, Z b → w'.heap[b]? = w.heap[b]? := fun b hb => hx.keep b (h.inv.zlt b hb) fun hdb => (h.inv.own r i b (hd b hdb)).1 hb
  rw [hRs]
  refine ⟨⟨h.n, by simp [h.len], h.dfr, ?_⟩, hrf⟩
  rw [hS, hRs]
  refine ⟨h.inv.ext.trans hx fun b hb => (h.inv.own r i b (hd b hb)).2.2, fun g vs hg => ?_, fun b hb => Nat.lt_of_lt_of_le (h.inv.zlt b hb) hx.size, h.inv.zin, h.inv.zsub, fun r' i' x hxi => ?_, fun r' i' => ?_, fun r1 i1 r2 i2 hne b h1 h2 => ?_, fun r' i' b hb => ?_, fun r' i' hno => ?_, fun r' i' hi' => h.inv.one r' i' (by rwa [setR2_len] at hi'), fun j => (h.inv.slot j).monoX (fun _ h => h) hz hrf (hslot j)⟩
  · obtain ⟨h1, e, fr, h2⟩ := h.inv.glob g vs hg
    exact ⟨h1, e, fr, (hz g h1).trans h2⟩
  · by_cases e : (r', i') = (r, i)
    · obtain ⟨rfl, rfl⟩ := Prod.mk.inj e
      have : (setR2 s r' i' y r')[i']? = some y := setR2_at hi
      rw [this] at hxi
      obtain rfl := Option.some.inj hxi
      rw [upd2_same]
      unfold RC
      split
      · exact absurd rfl (hp _)
      · exact hy
    · rw [setR2_get e] at hxi
      rw [upd2_ne _ _ e]
      exact (h.inv.root r' i' x hxi).monoX (fun _ h => h) hz hrf (fun b hb => hx.keep b (h.inv.own r' i' b hb).2.1 (hnd r' i' b e hb)) (hbox r' i' x hxi)
  · by_cases e : (r', i') = (r, i)
    · obtain ⟨rfl, rfl⟩ := Prod.mk.inj e; rw [upd2_same]; exact hn
    · rw [upd2_ne _ _ e]; exact h.inv.nodup _ _
  · by_cases e1 : (r1, i1) = (r, i)
    · by_cases e2 : (r2, i2) = (r, i)
      · exact hne (e1.trans e2.symm)
      · obtain ⟨rfl, rfl⟩ := Prod.mk.inj e1
        rw [upd2_same] at h1
        rw [upd2_ne _ _ e2] at h2
        rcases hl b h1 with h1 | h1
        · exact h.inv.sep _ _ _ _ hne b h1 h2
        · exact h1.2.2.2 _ _ h2
    · rw [upd2_ne _ _ e1] at h1
      by_cases e2 : (r2, i2) = (r, i)
      · obtain ⟨rfl, rfl⟩ := Prod.mk.inj e2
        rw [upd2_same] at h2
        rcases hl b h2 with h2 | h2
        · exact h.inv.sep _ _ _ _ hne b h1 h2
        · exact h2.2.2.2 _ _ h1
      · rw [upd2_ne _ _ e2] at h2
        exact h.inv.sep _ _ _ _ hne b h1 h2
  · by_cases e : (r', i') = (r, i)
    · obtain ⟨rfl, rfl⟩ := Prod.mk.inj e
      rw [upd2_same] at hb
      rcases hl b hb with hb | hb
      · have := h.inv.own r' i' b hb
        exact ⟨this.1, Nat.lt_of_lt_of_le this.2.1 hx.size, this.2.2⟩
      · exact ⟨hb.1, Nat.lt_of_lt_of_le hb.2.1 hx.size, hb.2.2.1⟩
    · rw [upd2_ne _ _ e] at hb
      have := h.inv.own r' i' b hb
      exact ⟨this.1, Nat.lt_of_lt_of_le this.2.1 hx.size, this.2.2⟩
  · by_cases e : (r', i') = (r, i)
    · obtain ⟨rfl, rfl⟩ := Prod.mk.inj e
      have : (setR2 s r' i' y r')[i']? = some y := setR2_at hi
      rw [this] at hno; cases hno
    · rw [setR2_get e] at hno
      rw [upd2_ne _ _ e]
      exact h.inv.out r' i' hno
theorem At.putX {q : Nat → Nat → Bool} (h : At E w0 B Z0 gv s a w Z RV L) {r i : Nat} (hr : r < s.length) (hi : i < (rOf s r).length) {D : Nat → Prop} {w' : World} (hx : Ext D w w') (hd : ∀ c, D c → c ∈ L r i)
    {y : Cell} {l : List Nat} (hy : Ow w' Z y (RV r i) l) (hp : ∀ ys, y ≠ .ptr ys) (hn : l.Nodup)
    (hl : ∀ c, c ∈ l → c ∈ L r i ∨ (¬ Z c ∧ c < w.heap.size ∧ (B c ∨ w0.heap.size ≤ c) ∧ ∀ r i, c ∉ L r i)) (hq : q r i = true) (hall : s.all (noE q) = true) :
    At E w0 B Z0 gv (s.set r ⟨sOf s r, (rOf s r).set i y⟩) a w' Z RV (upd2 L r i l) ∧ RefsX q w w' (rOf s) (rOf (s.set r ⟨sOf s r, (rOf s r).set i y⟩)) RV RV := by
  refine h.put0 hr hi hx hd hy hp hn hl ⟨fun r' i' hlt => ⟨by rw [setR2_len]; exact hlt, rfl⟩, fun r' i' k x hqq hlt hxx hh => ?_⟩ (fun j => ?_) fun r' i' x hx' => ?_
  · have hne : (r', i') ≠ (r, i) := fun e => by
      obtain ⟨rfl, rfl⟩ := Prod.mk.inj e
      rw [hq] at hqq; cases hqq
    have hg : getC (rOf s r') i' (some k) = some x := by
      simp only [getC] at hxx ⊢
      rwa [setR2_get hne] at hxx
    exact ⟨x, hg, hh, h.elemD hx hd hne hg⟩
  · cases e : s[j]? with
    | none => unfold sOf; rw [e]; rfl
    | some x =>
      have e' : sOf s j = x.s := by simp [sOf, e]
      rw [e']
      have := List.all_eq_true.1 hall x (List.mem_of_getElem? e)
      simp only [noE, Bool.and_eq_true] at this
      exact this.1
  · cases e : s[r']? with
    | none =>
      have e2 : (rOf s r').length = 0 := by unfold rOf; rw [e]; rfl
      rw [List.getElem?_eq_none (by omega)] at hx'
      cases hx'
    | some e' =>
      have e2 : rOf s r' = e'.r := by simp [rOf, e]
      rw [e2] at hx'
      have := List.all_eq_true.1 hall e' (List.mem_of_getElem? e)
      simp only [noE, Bool.and_eq_true] at this
      exact List.all_eq_true.1 this.2 x (List.mem_of_getElem? hx')
mutual
theorem noN_none : ∀ (x : Cell), noN (fun _ _ => false) x = true
  | .hd r i k => by simp [noN]
  | .ad r i k _ => by simp [noN]
  | .ptr cs => by simp only [noN]; exact noNL_none cs
  | .fn _ cs => by simp only [noN]; exact noNL_none cs
  | .c _ | .sl .. | .mp .. | .shd _ | .hole => rfl
theorem noNL_none : ∀ (xs : List Cell), noNL (fun _ _ => false) xs = true
  | [] => rfl
  | x :: xs => by simp only [noNL, noN_none x, noNL_none xs, Bool.and_true]
end
theorem noSV_none (v : SV) : noSV (fun _ _ => false) v = true := by
  cases v with
  | one x => exact noN_none x
  | agg xs => exact noNL_none xs
  | tup ts => simp [noSV, noNL_none]
  | dead => rfl
theorem noB_none (x : Cell) : noB (fun _ _ => false) x = true := by
  cases x <;> first | rfl | exact noNL_none _
theorem RefsX.full {w w' : World} {R R' : Nat → List Cell} {RV RV' : Nat → Nat → Value} (h : RefsX (fun _ _ => false) w w' R R' RV RV') : Refs w w' R R' RV RV' :=
  ⟨h.len, fun r i k x => h.elem r i k x rfl⟩
/-- A tree is replaced: names in it lead to what they led to. -/
theorem At.putE (h : At E w0 B Z0 gv s a w Z RV L) {r i : Nat} (hr : r < s.length) (hi : i < (rOf s r).length)
    {y : Cell} {l : List Nat} (hy : Ow w Z y (RV r i) l) (hp : ∀ ys, y ≠ .ptr ys) (hn : l.Nodup)
    (hl : ∀ c, c ∈ l → c ∈ L r i ∨ (¬ Z c ∧ c < w.heap.size ∧ (B c ∨ w0.heap.size ≤ c) ∧ ∀ r i, c ∉ L r i))
    (he : ∀ k x, getC [y] 0 (some k) = some x → isHdr x = true → ∃ x0, getC (rOf s r) i (some k) = some x0 ∧ isHdr x0 = true) :
    At E w0 B Z0 gv (s.set r ⟨sOf s r, (rOf s r).set i y⟩) a w Z RV (upd2 L r i l) ∧ Refs w w (rOf s) (rOf (s.set r ⟨sOf s r, (rOf s r).set i y⟩)) RV RV := by
  have := h.put0 (q := fun _ _ => false) hr hi (Ext.refl (fun _ => False) w) (by simp) hy hp hn hl ⟨fun r' i' hlt => ⟨by rw [setR2_len]; exact hlt, rfl⟩, fun r' i' k x _ hlt hxx hh => ?_⟩ (fun j => noSV_none _) fun _ _ _ _ => noB_none _
  · exact ⟨this.1, this.2.full⟩
  · by_cases e : (r', i') = (r, i)
    · obtain ⟨rfl, rfl⟩ := Prod.mk.inj e
      obtain ⟨x0, h1, h2⟩ := he k x (by simp only [getC] at hxx ⊢; rw [setR2_at hi] at hxx; simpa using hxx) hh
      exact ⟨x0, h1, h2, rfl⟩
    · exact ⟨x, by simp only [getC] at hxx ⊢; rwa [setR2_get e] at hxx, hh, rfl⟩
end
end Go.Den

/- Stores. -/
namespace Go.Den

section
variable {w0 : World} {B Z0 : Nat → Prop} {gv : List Value} {s : List Ent} {a : Act} {w : World} {Z : Nat → Prop} {RV : Nat → Nat → Value}
  {L : Nat → Nat → List Nat} {C : FuncId → List Arg → Res → Prop}
theorem ext_row (w : World) (b : Nat) (cs : Array Value) : Ext (fun c => c = b) w (w.setRow b cs) :=
  ⟨rfl, rfl, rfl, Nat.le_refl _, by simp, fun c _ hc => setRow_other w b c cs hc⟩
variable {P : Program} {E : Env} {o : Oper}
theorem run_store (hT : TabOK P E.T) {ty : TypeId} {d : Ty} (ht : E.T ty = some d) {V : Value} (hl : V.cells.toList.length = d.size) (h1 : ∀ v ∈ V.cells.toList, v.oneCell' = true) {b j : Nat} {cur : Array Value} {e : TypeId}
    (hh : w.heap[b]? = some (.cells cur e (0, 0))) (hr : j + d.size ≤ cur.size) :
    (Instr.storeAt ty (.pointer (some ⟨b, j, none⟩)) V).run P w = .ok () (w.setRow b (spl cur.toList j V.cells.toList).toArray) := by
  obtain ⟨-, i, hi, hsz, -⟩ := hT _ _ ht
  have hst := run_storeCells_at P b j e V.cells.toList 0 cur w hh (by omega) h1
  simp only [Nat.add_zero] at hst
  have hl' : V.cells.size = d.size := by simpa using hl
  simp only [Instr.storeAt, Instr.sureAddr, storeVar]
  simp [sizeOf, typeInfo, hi, hsz, hl', hst, spl]

/-- A store that goes well. -/
theorem fin_store {r t : List Nat} {K : Unit → List Ent → List Nat → List Nat → Prop} {Q : Exit → Act → World → Prop} {ty : TypeId} {x y : Operand} (ho : o.op = .store ty x y) (hd : o.dst.getD 0 < E.n) {w' : World}
    (h : At E w0 B Z0 gv s a w' Z RV L) (hw : wp C (setD o.dst (.one (.c undef))) s r t K) (hr : (Instr.storeAt ty (a.eval x) (a.eval y)).run P w = .ok () w') :
    o.wp P a w (fun a' w' => ∃ s' r' t' Z' RV' L', K () s' r' t' ∧ At E w0 B Z0 gv s' a' w' Z' RV' L') Q := by
  obtain ⟨s', r', t', hk, h'⟩ := setD_sound hw h hd (V := undef) (.c _)
  exact wp_skip' (w' := w') (by simp [execOp, ho, hr]) ⟨s', r', t', _, _, _, hk, h'⟩

theorem ok_store (hT : TabOK P E.T) {ty : TypeId} {x y : Operand} (ho : o.op = .store ty x y) : OpOK P E o := by
  intro w0 B Z0 gv s a w Z RV L r t K Q hd h hw
  simp only [astep, ho] at hw
  split at hw
  · rename_i d ht
    obtain ⟨c, r1, hc, hw⟩ := opC_sound hw h
    obtain ⟨v, r2, hv, hw⟩ := opd_sound hw h
    unfold storeAM at hw
    split at hw
    · exact hw.elim
    · rename_i hcond
      simp only [ne_eq, Bool.or_eq_true, decide_eq_true_eq, Bool.not_eq_true', not_or, Decidable.not_not, Bool.not_eq_false, Bool.and_eq_true] at hcond
      obtain ⟨hl, hok, hwr⟩ := hcond
      have hcs := slot_cells h hv hwr hok
      have hone := cells_all h hcs hwr
      have hlen : (a.eval y).cells.toList.length = d.size := by rw [← hcs.length]; exact hl
      have hlenS : (a.eval y).cells.size = d.size := by simpa using hlen
      generalize hV : a.eval x = V at *
      -- a box
      have box : ∀ {rr i j : Nat} {ds : List Cell} {r t : List Nat}, rr < s.length → (rOf s rr)[i]? = some (.ptr ds) → (∃ A, addrOf (RV rr i) = some A ∧ V = .pointer (some (A.add j))) → j + d.size ≤ ds.length →
          wp (Ret P E.G) (setP rr i (.ptr (splice ds j (svCells v))) none (setD o.dst (.one (.c undef)))) s r t K →
          o.wp P a w (fun a' w' => ∃ s' r' t' Z' RV' L', K () s' r' t' ∧ At E w0 B Z0 gv s' a' w' Z' RV' L') Q := by
        intro rr i j ds r t hlt hx hVA hj hw
        obtain ⟨A, hA, hVA⟩ := hVA
        obtain ⟨-, r', t', hw⟩ := setP_eq hw
        obtain ⟨b, cur, e, e1, e2, hh, hsc⟩ := h.inv.root rr i _ hx
        rw [e1] at hA
        obtain rfl := Option.some.inj hA
        rw [add_off] at hVA
        have hcl : cur.size = ds.length := by have := hsc.length; simp at this; exact this.symm
        have hrun := run_store (P := P) (w := w) (V := a.eval y) (j := j) hT ht hlen hone hh (by omega)
        have hat := h.write hlt (List.getElem?_eq_some_iff.1 hx).1 (b := b) (by rw [e2]; simp) (ext_row w b (spl cur.toList j (a.eval y).cells.toList).toArray) (y := .ptr (splice ds j (svCells v))) (l := [b]) (by rw [e2]; simp) (by simp)
          (fun R' hrf => ⟨b, _, e, e1, rfl, setRow_heap w b cur _ e _ hh, by
            have hb := (h.inv.own rr i b (by rw [e2]; simp)).1
            exact (hsc.splice hcs j).mono (fun _ h => h) (fun c hc => setRow_other w b c _ fun e => hb (e ▸ hc)) hrf⟩)
          (fun k x hk => by simp [getC] at hk)
        exact fin_store ho hd hat hw (by rw [hV, hVA]; exact hrun)
      have hadd0 : ∀ A : Addr, A.add 0 = A := fun A => by simp [Addr.add]
      cases c with
      | ad rr i k j =>
        simp only at hw
        obtain ⟨yy, r', hlt, hx, hokx, hw2⟩ := atP_sound hw
        clear hw
        cases k with
        | none =>
          have hi := (List.getElem?_eq_some_iff.1 (show (rOf s rr)[i]? = some yy from hx)).1
          have hVA : ∃ A, addrOf (RV rr i) = some A ∧ V = .pointer (some (A.add j)) := by
            cases hc with
            | sh hx => cases hx
            | ad hlt ha => exact ⟨_, ha, rfl⟩
          cases yy with
          | sl es sz n ds =>
            cases es with
            | false =>
              simp only at hw2
              split at hw2
              · -- trees of one's own go in
                simp only [wp_test] at hw2
                obtain ⟨hj0, hw⟩ := hw2
                obtain ⟨ys, m, s1, L1, r3, t3, g1, g2, g3, g4, g5, hw⟩ := (pk_sound 12).2 h hcs hw
                split at hw
                · exact hw.elim
                · rename_i hsh
                  simp only [Bool.not_eq_true] at hsh
                  rw [wp_all] at hw
                  obtain ⟨hall, hw⟩ := hw
                  obtain ⟨y2, r5, hlt1, hx1, hok1, hw2⟩ := atP_sound hw
                  clear hw
                  cases y2 with
                  | sl es2 sz2 n2 ds2 =>
                    cases es2 with
                    | true => exact hw2.elim
                    | false =>
                      simp only [wp_test] at hw2
                      obtain ⟨hj, hw⟩ := hw2
                      obtain ⟨-, r', t', hw⟩ := setP_eq hw
                      obtain ⟨A, hA, hVA⟩ := hVA
                      have hrc := g1.inv.root rr i _ hx1
                      obtain ⟨b, cap, cur, e, l', e1, e2, hh, h4, h5, h6, h7, h8⟩ := Ow.sl_addr hrc hA
                      rw [e1] at hA
                      obtain rfl := Option.some.inj hA
                      rw [add_off] at hVA
                      have hns : n2 * sz2 ≤ cur.size := by rw [h5]; exact Nat.mul_le_mul_right _ h6
                      have hrun := run_store (P := P) (w := w) (V := a.eval y) (j := j) hT ht hlen hone hh (by omega)
                      have hnd := g1.inv.nodup rr i
                      have hfr := g4.free h
                      have hyl : ys.length = (a.eval y).cells.toList.length := g5.length
                      obtain ⟨l1, l2, hsub, hsp⟩ := h8.splice (g5.noShd (Z' := noZ) hsh) j
                      have hnd2 : (l' ++ m).Nodup := by
                        rw [e2, List.nodup_cons] at hnd
                        exact List.nodup_append.2 ⟨hnd.2, g4.nodup, fun x hx y hy e => (hfr y hy).2.2.2 rr i (by rw [e2, ← e]; simp [hx])⟩
                      have hbm : b ∉ m := fun hb => (hfr b hb).2.2.2 rr i (by rw [e2]; simp)
                      have hbl : b ∉ l1 ++ m ++ l2 := fun hb => by
                        rw [e2, List.nodup_cons] at hnd
                        simp only [List.append_assoc, List.mem_append] at hb
                        rcases hb with hb | hb | hb
                        · exact hnd.1 (hsub.subset (by simp [hb]))
                        · exact hbm hb
                        · exact hnd.1 (hsub.subset (by simp [hb]))
                      have hat := (g1.putX hlt1 (List.getElem?_eq_some_iff.1 (show (rOf s1 rr)[i]? = some _ from hx1)).1 (q := isAt rr i) (ext_row w b (spl cur.toList j (a.eval y).cells.toList).toArray) (fun c hc => by rw [hc, e2]; simp)
                        (y := .sl false sz2 n2 (splice ds2 j ys)) (l := b :: (l1 ++ m ++ l2))
                        (by
                          rw [e1]
                          refine Ow.sl (setRow_heap w b cur _ e _ hh) (by rw [splice_length (by omega)]; exact h4) (by simp only [List.size_toArray]; rw [spl_length (by simp; omega)]; simpa using h5) h6 h7
                            (vs := spl (cur.toList.take (n2 * sz2)) j (a.eval y).cells.toList) (take_spl (by omega) (by simpa using hns)).symm ?_
                          exact hsp.frame (fun _ h => h) (fun _ h => h.elim) fun c hc => setRow_other w b c _ fun e => hbl (e ▸ hc))
                        (by simp) (List.nodup_cons.2 ⟨hbl, nodup_mid hsub hnd2⟩)
                        (fun c hc => by
                          simp only [List.mem_cons, List.append_assoc, List.mem_append] at hc
                          rcases hc with rfl | hc | hc | hc
                          · left; rw [e2]; simp
                          · left; rw [e2]; exact List.mem_cons_of_mem _ (hsub.subset (by simp [hc]))
                          · right; exact hfr c hc
                          · left; rw [e2]; exact List.mem_cons_of_mem _ (hsub.subset (by simp [hc])))
                        (by simp [isAt]) hall).1
                      exact fin_store ho hd hat hw (by rw [hV, hVA]; exact hrun)
                  | _ => exact hw2.elim
              · simp only [wp_test] at hw2
                obtain ⟨⟨hj, hp⟩, hw⟩ := hw2
                obtain ⟨-, r', t', hw⟩ := setP_eq hw
                obtain ⟨A, hA, hVA⟩ := hVA
                have hrc := h.inv.root rr i _ hx
                obtain ⟨b, cap, cur, e, l', e1, e2, hh, h4, h5, h6, h7, h8⟩ := Ow.sl_addr hrc hA
                rw [e1] at hA
                obtain rfl := Option.some.inj hA
                rw [add_off] at hVA
                have hns : n * sz ≤ cur.size := by rw [h5]; exact Nat.mul_le_mul_right _ h6
                have hpl := plain_scells hcs hp
                have hrun := run_store (P := P) (w := w) (V := a.eval y) (j := j) hT ht hlen hone hh (by omega)
                have hnd := h.inv.nodup rr i
                rw [e2, List.nodup_cons] at hnd
                obtain ⟨l1, l2, hsub, hsp⟩ := h8.splice (Ows.of_c (Z := noZ) (w := w) (a.eval y).cells.toList) j
                rw [← hpl, List.append_nil] at hsp
                have hb := (h.inv.own rr i b (by rw [e2]; simp)).1
                have hat := h.write hlt hi (b := b) (by rw [e2]; simp) (ext_row w b (spl cur.toList j (a.eval y).cells.toList).toArray) (y := .sl false sz n (splice ds j (svCells v))) (l := b :: (l1 ++ l2))
                  (fun c hc => by
                    rw [e2]
                    simp only [List.mem_cons] at hc ⊢
                    exact hc.imp id fun hc => hsub.subset hc)
                  (List.nodup_cons.2 ⟨fun hc => hnd.1 (hsub.subset hc), hnd.2.sublist hsub⟩)
                  (fun R' hrf => by
                    rw [e1]
                    refine Ow.sl (setRow_heap w b cur _ e _ hh) (by rw [splice_length (by omega)]; exact h4) (by simp only [List.size_toArray]; rw [spl_length (by simp; omega)]; simpa using h5) h6 h7
                      (vs := spl (cur.toList.take (n * sz)) j (a.eval y).cells.toList) (take_spl (by omega) (by simpa using hns)).symm ?_
                    exact hsp.frame (fun _ h => h) (fun _ h => h.elim) fun c hc => setRow_other w b c _ fun e => hnd.1 (by rw [← e]; exact hsub.subset hc))
                  (fun k x hk hh' => by
                    simp only [getC, List.getElem?_cons_zero] at hk
                    rw [splice_get (by omega)] at hk
                    have hk2 : ds[k]? = some x ∧ (k < j ∨ j + d.size ≤ k) := by
                      split at hk
                      · rename_i h1; exact ⟨hk, .inl h1⟩
                      · split at hk
                        · have := hp x (List.mem_of_getElem? hk)
                          cases x <;> simp [isC, isHdr] at this hh'
                        · exact ⟨hk, .inr (by omega)⟩
                    refine ⟨x, by simp only [getC]; rw [show (rOf s rr)[i]? = some (.sl false sz n ds) from hx]; exact hk2.1, hh', ?_⟩
                    rw [e1]
                    simp only [elemV, addrOf, Option.bind_some, add_off]
                    rw [cell_at (setRow_heap w b cur _ e _ hh), cell_at hh, List.toList_toArray, spl_get (by simp; omega)]
                    rcases hk2.2 with h1 | h1
                    · rw [if_pos h1]
                    · rw [if_neg (by omega), if_neg (by omega)])
                exact fin_store ho hd hat hw (by rw [hV, hVA]; exact hrun)
            | true =>
              simp only [wp_test] at hw2
              obtain ⟨hj, hw⟩ := hw2
              obtain ⟨s1, Z1, L1, r3, t3, h1, hf, hcl, hw⟩ := frz_sound h hcs hw
              obtain ⟨ys, r4, hys, hw⟩ := rds_clean h1 (hcs.mono hf.zsub (fun _ _ => rfl) hf.refs) hcl hw
              obtain ⟨y2, r5, hlt1, hx1, hok1, hw2⟩ := atP_sound hw
              clear hw
              cases y2 with
              | sl es sz n ds =>
                cases es with
                | true =>
                  simp only [wp_test] at hw2
                  obtain ⟨hj, hw⟩ := hw2
                  obtain ⟨-, r', t', hw⟩ := setP_eq hw
                  obtain ⟨A, hA, hVA⟩ := hVA
                  have hrc := h1.inv.root rr i _ hx1
                  obtain ⟨b, cap, cur, e, e1, e2, hh, h4, h5, h6, h7, h8⟩ := Ow.sls_addr hrc hA
                  rw [e1] at hA
                  obtain rfl := Option.some.inj hA
                  rw [add_off] at hVA
                  have hns : n * sz ≤ cur.size := by rw [h5]; exact Nat.mul_le_mul_right _ h6
                  have hrun := run_store (P := P) (w := w) (V := a.eval y) (j := j) hT ht hlen hone hh (by omega)
                  have hb := (h1.inv.own rr i b (by rw [e2]; simp)).1
                  have hyl : ys.length = d.size := by rw [hys.length]; exact hlen
                  have hi1 := (List.getElem?_eq_some_iff.1 (show (rOf s1 rr)[i]? = some (.sl true sz n ds) from hx1)).1
                  have hat := h1.write hlt1 hi1 (b := b) (by rw [e2]; simp) (ext_row w b (spl cur.toList j (a.eval y).cells.toList).toArray) (y := .sl true sz n (splice ds j ys)) (l := [b]) (by rw [e2]; simp) (by simp)
                    (fun R' hrf => by
                      rw [e1]
                      refine Ow.sls (setRow_heap w b cur _ e _ hh) (by rw [splice_length (by omega)]; exact h4) (by simp only [List.size_toArray]; rw [spl_length (by simp; omega)]; simpa using h5) h6 h7
                        (vs := spl (cur.toList.take (n * sz)) j (a.eval y).cells.toList) (take_spl (by omega) (by simpa using hns)).symm ?_
                      have hsp : Shs w Z1 (splice ds j ys) (spl (cur.toList.take (n * sz)) j (a.eval y).cells.toList) := by
                        unfold splice spl
                        rw [hys.length]
                        exact ((h8.take j).append hys).append (h8.drop _)
                      exact hsp.frame (fun _ h => h) fun c hc => setRow_other w b c _ fun e => hb (e ▸ hc))
                    (fun k x hk => by simp [getC] at hk)
                  exact fin_store ho hd hat hw (by rw [hV, hVA]; exact hrun)
                | false => exact hw2.elim
              | _ => exact hw2.elim
          | ptr ds =>
            simp only [wp_test] at hw2
            obtain ⟨hj, hw⟩ := hw2
            exact box hlt hx hVA hj hw
          | _ => exact hw2.elim
        | some kk =>
          cases yy with
          | sl es sz n ds =>
            cases es with
            | false =>
              simp only at hw2
              split at hw2
              · exact hw2.elim
              · simp only [wp_test] at hw2
                obtain ⟨⟨hj, hp⟩, hw⟩ := hw2
                obtain ⟨-, r', t', hw⟩ := setP_eq hw
                obtain ⟨sz', n', cs, hroot, hkk⟩ := getC_some hx
                have hi := (List.getElem?_eq_some_iff.1 hroot).1
                have hrc := h.inv.root rr i _ hroot
                obtain ⟨b, cap, cur, e, l', e1, e2, hh, h4, h5, h6, h7, h8⟩ := Ow.sl_at hrc hkk
                obtain ⟨u, l1, lx, l2, hu, hl', hox, hset⟩ := h8.split hkk
                have hel : elemV w (RV rr i) kk = some u := by
                  rw [e1]
                  simp only [elemV, addrOf, Option.bind_some, add_off, cell_at hh]
                  have h9 := List.getElem?_take (l := cur.toList) (i := n' * sz') (j := kk)
                  rw [hu] at h9
                  split at h9
                  · exact h9.symm
                  · simp at h9
                have hua : ∃ A, addrOf u = some A := by
                  cases hc with
                  | sh hx => cases hx
                  | ade hi' hv' =>
                    obtain ⟨u', A, hu', hA, -⟩ := hv' _ hx rfl
                    rw [hel] at hu'
                    obtain rfl := Option.some.inj hu'
                    exact ⟨A, hA⟩
                obtain ⟨Au, hua⟩ := hua
                obtain ⟨bb, cap', cur', e', lx', f1, f2, fh, f4, f5, f6, f7, f8⟩ := hox.sl_addr hua
                have hVA : V = .pointer (some ⟨bb, j, none⟩) := by
                  cases hc with
                  | sh hx => cases hx
                  | ade hi' hv' =>
                    obtain ⟨u', A, hu', hA, hVA⟩ := hv' _ hx rfl
                    rw [hel] at hu'
                    obtain rfl := Option.some.inj hu'
                    rw [f1] at hA
                    obtain rfl := Option.some.inj hA
                    rw [hVA, add_off]
                have hnd := h.inv.nodup rr i
                rw [e2, hl', List.nodup_cons] at hnd
                have hbbl : bb ∈ L rr i := by rw [e2, hl', f2]; simp
                have hbne : b ≠ bb := fun e => hnd.1 (by rw [f2, e]; simp)
                have hnd2 := hnd.2
                rw [List.append_assoc, List.nodup_append] at hnd2
                have hnd3 := List.nodup_append.1 hnd2.2.1
                have hnx := hnd3.1
                rw [f2, List.nodup_cons] at hnx
                have hns : n * sz ≤ cur'.size := by rw [f5]; exact Nat.mul_le_mul_right _ f6
                have hpl := plain_scells hcs hp
                have hrun := run_store (P := P) (w := w) (V := a.eval y) (j := j) hT ht hlen hone fh (by omega)
                obtain ⟨m1, m2, hsub, hsp⟩ := f8.splice (Ows.of_c (Z := noZ) (w := w) (a.eval y).cells.toList) j
                rw [← hpl, List.append_nil] at hsp
                have hxx := ext_row w bb (spl cur'.toList j (a.eval y).cells.toList).toArray
                have hnew : Ow (w.setRow bb (spl cur'.toList j (a.eval y).cells.toList).toArray) noZ (.sl false sz n (splice ds j (svCells v))) u (bb :: (m1 ++ m2)) := by
                  rw [f1]
                  refine Ow.sl (setRow_heap w bb cur' _ e' _ fh) (by rw [splice_length (by omega)]; exact f4) (by simp only [List.size_toArray]; rw [spl_length (by simp; omega)]; simpa using f5) f6 f7
                      (vs := spl (cur'.toList.take (n * sz)) j (a.eval y).cells.toList) (take_spl (by omega) (by simpa using hns)).symm ?_
                  exact hsp.frame (fun _ h => h) (fun _ h => h.elim) fun c hc => setRow_other w bb c _ fun e => hnx.1 (by rw [← e]; exact hsub.subset hc)
                have hmem : ∀ c, c ∈ bb :: (m1 ++ m2) → c ∈ lx := fun c hc => by
                  rw [f2]
                  simp only [List.mem_cons] at hc ⊢
                  exact hc.imp id fun hc => hsub.subset hc
                have hnn : (bb :: (m1 ++ m2)).Nodup := List.nodup_cons.2 ⟨fun hc => hnx.1 (hsub.subset hc), hnx.2.sublist hsub⟩
                have hset' := hset _ noZ (fun _ h => h) (fun _ h => h.elim) (fun c hc => setRow_other w bb c (spl cur'.toList j (a.eval y).cells.toList).toArray fun e => by
                  subst e
                  have hcx : c ∈ lx := by rw [f2]; simp
                  rcases List.mem_append.1 hc with hc | hc
                  · exact hnd2.2.2 c hc c (by simp [hcx]) rfl
                  · exact hnd3.2.2 c hcx c hc rfl) _ u _ hnew
                have hvs : (cur.toList.take (n' * sz')).set kk u = cur.toList.take (n' * sz') := by
                  refine List.ext_getElem? fun m => ?_
                  by_cases hm : kk = m
                  · subst hm
                    rw [List.getElem?_set]
                    have := (List.getElem?_eq_some_iff.1 hu).1
                    simp only [if_true, this]
                    exact hu.symm
                  · rw [List.getElem?_set_ne hm]
                rw [hvs] at hset'
                have hat := h.write hlt hi hbbl hxx (y := .sl false sz' n' (cs.set kk (.sl false sz n (splice ds j (svCells v))))) (l := b :: (l1 ++ (bb :: (m1 ++ m2)) ++ l2))
                  (fun c hc => by
                    rw [e2, hl']
                    simp only [List.mem_cons, List.mem_append, or_assoc] at hc ⊢
                    have h10 := fun hc => hmem c hc
                    simp only [List.mem_cons, List.mem_append] at h10
                    rcases hc with hc | hc | hc | hc | hc | hc
                    · exact .inl hc
                    · exact .inr (.inl hc)
                    · exact .inr (.inr (.inl (h10 (.inl hc))))
                    · exact .inr (.inr (.inl (h10 (.inr (.inl hc)))))
                    · exact .inr (.inr (.inl (h10 (.inr (.inr hc)))))
                    · exact .inr (.inr (.inr hc)))
                  (List.nodup_cons.2 ⟨fun hc => hnd.1 (by
                      simp only [List.append_assoc, List.mem_append] at hc ⊢
                      rcases hc with hc | hc | hc
                      · exact .inl hc
                      · exact .inr (.inl (hmem b hc))
                      · exact .inr (.inr hc)), by
                    rw [List.append_assoc]
                    refine List.nodup_append.2 ⟨hnd2.1, List.nodup_append.2 ⟨hnn, hnd3.2.1, fun c hc c' hc' => hnd3.2.2 c (hmem c hc) c' hc'⟩, fun c hc c' hc' => ?_⟩
                    refine hnd2.2.2 c hc c' ?_
                    rcases List.mem_append.1 hc' with hc' | hc'
                    · exact List.mem_append.2 (.inl (hmem c' hc'))
                    · exact List.mem_append.2 (.inr hc')⟩)
                  (fun R' hrf => by
                    rw [e1]
                    exact Ow.sl ((setRow_other w bb b _ hbne).trans hh) (by simpa using h4) h5 h6 h7 rfl hset')
                  (fun k x hk hh' => by
                    simp only [getC, List.getElem?_cons_zero] at hk
                    have hsame : elemV (w.setRow bb (spl cur'.toList j (a.eval y).cells.toList).toArray) (RV rr i) k = elemV w (RV rr i) k := by
                      rw [e1]
                      exact elemV_keep (setRow_other w bb b _ hbne)
                    by_cases hkk2 : kk = k
                    · subst hkk2
                      exact ⟨_, hx, rfl, hsame⟩
                    · rw [List.getElem?_set_ne hkk2] at hk
                      exact ⟨x, by simp only [getC, hroot]; exact hk, hh', hsame⟩)
                have hsc : setC (rOf s rr) i (.sl false sz n (splice ds j (svCells v))) (some kk) = (rOf s rr).set i (.sl false sz' n' (cs.set kk (.sl false sz n (splice ds j (svCells v))))) := by
                  simp only [setC, hroot]
                rw [hsc] at hw
                exact fin_store ho hd hat hw (by rw [hV, hVA]; exact hrun)
            | true => exact hw2.elim
          | ptr => exact hw2.elim
          | _ => exact hw2.elim
      | hd rr i k =>
        cases k with
        | some _ => exact hw.elim
        | none =>
          simp only at hw
          obtain ⟨yy, r', hlt, hx, hokx, hw2⟩ := atP_sound hw
          clear hw
          cases yy with
          | ptr ds =>
            simp only [wp_test] at hw2
            obtain ⟨hj, hw⟩ := hw2
            refine box (j := 0) hlt hx ?_ (by omega) hw
            obtain ⟨b, cur, e, e1, -⟩ := h.inv.root rr i _ hx
            have : V = RV rr i := by
              cases hc with
              | sh hx => cases hx
              | hd hlt => rfl
            rw [this, e1]
            exact ⟨_, rfl, by rw [hadd0]⟩
          | _ => exact hw2.elim
      | _ => exact hw.elim
  · exact hw.elim
end
end Go.Den

/- Append. -/
namespace Go.Den

section
variable {P : Program} {w : World}
/-- What is appended to. -/
def IsBase (w : World) (V : Value) (n size : Nat) (olds : List Value) (bl : List Nat) : Prop :=
  (V = .slice none 0 0 ∧ n = 0 ∧ olds = [] ∧ bl = []) ∨
  ∃ b cap cur e, V = .slice (some ⟨b, 0, none⟩) n cap ∧ w.heap[b]? = some (.cells cur e (0, 0)) ∧ cur.size = cap * size ∧ n ≤ cap ∧ cap ≤ 9223372036854775807 ∧ olds = cur.toList.take (n * size) ∧ bl = [b]
/-- What is appended. -/
structure IsNews (P : Program) (w : World) (X : Value) (m size : Nat) (news : List Value) : Prop where
  len : ∀ w', (Builtin.lenOf X).run P w' = .ok m w'
  cells : ∀ w', w'.heap = w.heap → (Builtin.firstCells size m X).run P w' = .ok news.toArray w'
  length : news.length = m * size

theorem run_append_any {t u ty e : TypeId} {du : TypeDesc} {i : TypeInfo} {z : Value} {size : Nat} (ht : P.underlying t = some (.slice e)) (hu : P.underlying u = some du) (hdu : ∀ k, du ≠ .int k)
    (hi : P.info? e = some i) (hz : i.zero = some z) (hsize : i.size = size) (hzs : z.cells.size = size) (hby : 0 < i.bytes)
    {S X : Value} {n m : Nat} {olds news : List Value} {bl : List Nat} (hs : IsBase w S n size olds bl) (hx : IsNews P w X m size news) (hone : ∀ v ∈ news, v.oneCell' = true)
    (hne : bl = [] → m ≠ 0) (hfit : (n + m) * i.bytes ≤ 140737488355328) :
    ∃ g cap cur e' w', (Builtin.append_ #[t, u] ty #[S, X]).run P w = .ok (.slice (some ⟨g, 0, none⟩) (n + m) cap) w' ∧ w'.heap[g]? = some (.cells cur e' (0, 0)) ∧ cur.size = cap * size ∧ n + m ≤ cap ∧
      cap ≤ 9223372036854775807 ∧ cur.toList.take ((n + m) * size) = olds ++ news ∧ Ext (· ∈ bl) w w' ∧ (g ∈ bl ∨ (w.heap.size ≤ g ∧ g < w'.heap.size)) := by
  have hnm : n + m ≤ 140737488355328 := Nat.le_trans (Nat.le_mul_of_pos_right _ hby) hfit
  have h63' : ¬ (9223372036854775807 < ((n : Int) + (m : Int))) := by omega
  have hint : (match du with | .int _ => true | _ => false) = false := by cases du <;> first | rfl | exact absurd rfl (hdu _)
  have hnl : ∀ w', (Builtin.lenOf X).run P w' = .ok m w' := hx.len
  have hgrow : ∀ (sCap : Nat) (base : Option Addr), S = .slice base n sCap → sCap < n + m → (Builtin.firstCells size n S).run P w.drew = .ok olds.toArray w.drew → olds.length = n * size →
      ∃ g cap cur e' w', (Builtin.append_ #[t, u] ty #[S, X]).run P w = .ok (.slice (some ⟨g, 0, none⟩) (n + m) cap) w' ∧ w'.heap[g]? = some (.cells cur e' (0, 0)) ∧ cur.size = cap * size ∧ n + m ≤ cap ∧
      cap ≤ 9223372036854775807 ∧ cur.toList.take ((n + m) * size) = olds ++ news ∧ Ext (· ∈ bl) w w' ∧ (g ∈ bl ∨ (w.heap.size ≤ g ∧ g < w'.heap.size)) := by
    intro sCap base hS hlt hfo hlo
    have h48' : ¬ (281474976710656 < Builtin.nextslicecap (n + m) sCap * i.bytes) := by have := growslice_fits (bytes := i.bytes) hlt hfit; omega
    have hn : ¬ (n + m ≤ sCap) := by omega
    have hge := grownCap_ge w (n + m) sCap e
    have hle := grownCap_le_maxLen w (n + m) sCap e (by simp only [maxLen]; omega)
    have hfx := hx.cells w.drew rfl
    have hlen : (olds ++ news).length = (n + m) * size := by rw [List.length_append, hlo, hx.length, Nat.add_mul]
    refine ⟨w.heap.size, grownCap w (n + m) sCap e, (olds ++ news).toArray ++ Builtin.zeroCells z.cells (grownCap w (n + m) sCap e - (n + m)), e,
      w.drew.alloc (.cells ((olds ++ news).toArray ++ Builtin.zeroCells z.cells (grownCap w (n + m) sCap e - (n + m))) e), ?_, heap_new w.drew _, ?_, hge, ?_, ?_, ?_, .inr ⟨Nat.le_refl _, by simp⟩⟩
    · subst hS hsize
      simp [Builtin.append_, run_underlying ht, run_underlying hu, sizeOf, typeInfo, zeroValue, hi, hz, hint, hnl, hn, h63', h48', Question.forced, hfx, hfo, newRow, grownCap]
      congr 2
      apply Array.ext'
      simp [List.append_assoc]
    · rw [Array.size_append, size_zeroCells, List.size_toArray, hlen, hzs, ← Nat.add_mul]
      congr 1
      omega
    · simpa [maxLen] using hle
    · simp only [Array.toList_append]
      exact List.take_left' hlen
    · exact (Ext.drew (· ∈ bl) w).trans (Ext.alloc (· ∈ bl) _ _) fun x hx => .inl hx
  rcases hs with ⟨rfl, rfl, rfl, rfl⟩ | ⟨b, cap, cur, e', rfl, hh, h5, h6, h7, ho, rfl⟩
  · have := hne rfl
    exact hgrow 0 none rfl (by omega) (by simp [Builtin.firstCells]) (by simp)
  · have hlo : olds.length = n * size := by
      rw [ho]
      have := Nat.mul_le_mul_right size h6
      simp
      omega
    by_cases hroom : n + m ≤ cap
    · have hfx := hx.cells w rfl
      have hst := run_storeCells_at P b (n * size) e' news 0 cur w hh (by rw [hx.length, h5, Nat.add_zero, ← Nat.add_mul]; exact Nat.mul_le_mul_right _ hroom) hone
      simp only [Nat.add_zero] at hst
      have hcs : (n + m) * size ≤ cur.size := by rw [h5]; exact Nat.mul_le_mul_right _ hroom
      have hlen : (cur.toList.take (n * size) ++ news).length = (n + m) * size := by rw [← ho, List.length_append, hlo, hx.length, Nat.add_mul]
      refine ⟨b, cap, (cur.toList.take (n * size) ++ news ++ cur.toList.drop (n * size + news.length)).toArray, e', w.setRow b (cur.toList.take (n * size) ++ news ++ cur.toList.drop (n * size + news.length)).toArray, ?_, setRow_heap w b cur _ e' _ hh, ?_, hroom, h7, ?_, ?_, .inl (by simp)⟩
      · subst hsize
        simp [Builtin.append_, run_underlying ht, run_underlying hu, sizeOf, typeInfo, hi, hint, hnl, hroom, hfx, Addr.add_lit, hst]
      · rw [List.size_toArray, List.length_append, hlen, List.length_drop, hx.length, Array.length_toList, ← Nat.add_mul, h5]
        have := Nat.mul_le_mul_right size hroom
        omega
      · rw [ho]; exact List.take_left' hlen
      · exact (ext_row w b _).mono fun c hc => by simp [hc]
    · have hfo : (Builtin.firstCells size n (.slice (some ⟨b, 0, none⟩) n cap)).run P w.drew = .ok olds.toArray w.drew :=
        run_firstCells_some w.drew size n ⟨b, 0, none⟩ n cap olds hlo (by rw [ho]; exact fun j v hv => cells_0 (w := w.drew) hh _ j v hv)
      exact hgrow cap _ rfl (by omega) hfo hlo
theorem run_append_zeros {t u ty e : TypeId} {i : TypeInfo} {z : Value} {size : Nat} (ht : P.underlying t = some (.slice e)) (hu : P.underlying u = some (.int .i64)) (hi : P.info? e = some i) (hz : i.zero = some z) (hsize : i.size = size) (hzs : z.cells.size = size) (hby : 0 < i.bytes)
    {k : IntKind} {m : Int} (h0 : 0 < m) (hfit : m * i.bytes ≤ 140737488355328) :
    ∃ cap cur, (Builtin.append_ #[t, u] ty #[.slice none 0 0, .int k m]).run P w = .ok (.slice (some ⟨w.heap.size, 0, none⟩) m.toNat cap) (w.drew.alloc (.cells cur e)) ∧ cur.size = cap * size ∧ m.toNat ≤ cap ∧
      cap ≤ 9223372036854775807 ∧ cur.toList.take (m.toNat * size) = (List.replicate m.toNat z.cells.toList).flatten := by
  have hm : m ≤ 140737488355328 := by
    have : m * 1 ≤ m * i.bytes := Int.mul_le_mul_of_nonneg_left (by omega) (by omega)
    omega
  obtain ⟨n, rfl⟩ : ∃ n : Nat, m = n := ⟨m.toNat, by omega⟩
  have hn0 : 0 < n := by omega
  have hfit' : n * i.bytes ≤ 140737488355328 := by
    have h := hfit
    rw [← Int.natCast_mul] at h
    omega
  have hw : IntKind.i64.wrap (n : Int) = n := by
    have : IntKind.i64.wrap (n : Int) = if (n : Int) % 18446744073709551616 ≥ 9223372036854775808 then (n : Int) % 18446744073709551616 - 18446744073709551616 else (n : Int) % 18446744073709551616 := by
      simp [IntKind.wrap, IntKind.bits, IntKind.signed]
    rw [this]
    split <;> omega
  have h48 : ¬ (281474976710656 < (n : Int) * i.bytes) := by omega
  have h48' : ¬ (281474976710656 < Builtin.nextslicecap n 0 * i.bytes) := by
    have := growslice_fits (bytes := i.bytes) (need := n) (old := 0) (by omega) hfit'
    omega
  have hge := grownCap_ge w n 0 e
  have hle := grownCap_le_maxLen w n 0 e (by simp only [maxLen]; omega)
  have h63 : ¬ (9223372036854775807 < (n : Int)) := by omega
  have hneg : ¬ ((n : Int) < 0) := by omega
  have hns : n * i.size = 0 → Builtin.zeroCells z.cells n = #[] := fun h => Array.eq_empty_of_size_eq_zero (by rw [size_zeroCells, hzs, ← hsize]; exact h)
  refine ⟨grownCap w n 0 e, Builtin.zeroCells z.cells n ++ Builtin.zeroCells z.cells (grownCap w n 0 e - n), ?_, ?_, hge, ?_, ?_⟩
  · have hif : (if n * i.size = 0 then (pure #[] : Sem (Array Value)) else do pure (Builtin.zeroCells (← zeroValue e).cells n)).run P w.drew = .ok (Builtin.zeroCells z.cells n) w.drew := by
      split
      · rename_i h; rw [hns h]; rfl
      · simp [zeroValue, typeInfo, hi, hz]
    have hn : ¬ (n ≤ 0) := by omega
    have hn0' : ¬ ((n : Int) ≤ 0) := by omega
    have hn1 : ¬ (n = 0) := by omega
    simp [Builtin.append_, run_underlying ht, run_underlying hu, sizeOf, typeInfo, zeroValue, hi, hz, hw, hneg, h48, h48', h63, hn, Question.forced, newRow, grownCap, asInt, asIntOf, Builtin.firstCells, hn0', hn1]
    intro h
    rw [hns h]
    simp
  · rw [Array.size_append, size_zeroCells, size_zeroCells, hzs, ← Nat.add_mul]
    congr 1
    omega
  · simpa [maxLen] using hle
  · rw [Array.toList_append, Int.toNat_natCast]
    have hzc : (Builtin.zeroCells z.cells n).toList = (List.replicate n z.cells.toList).flatten := zero_cells (z := z.cells) hzs n ▸ by subst hzs; rfl
    rw [hzc]
    exact List.take_left' (by simp [List.length_flatten, hzs])
end
end Go.Den

/- Append, as an operation. -/
namespace Go.Den

section
variable {w0 : World} {B Z0 : Nat → Prop} {gv : List Value} {s : List Ent} {a : Act} {w : World} {Z : Nat → Prop} {RV : Nat → Nat → Value}
  {L : Nat → Nat → List Nat} {C : FuncId → List Arg → Res → Prop} {P : Program} {E : Env} {o : Oper} {K : Unit → List Ent → List Nat → List Nat → Prop}

theorem news_sl {A : Addr} {n cap sz : Nat} {news : List Value} (hl : news.length = n * sz) (hc : ∀ j v, news[j]? = some v → w.cell? (A.add j) = some v) : IsNews P w (.slice (some A) n cap) n sz news :=
  ⟨fun w' => by simp [Builtin.lenOf], fun w' hw' => run_firstCells_some w' sz n A n cap news hl fun j v hv => by
    have := hc j v hv
    simp only [World.cell?, hw'] at this ⊢
    exact this, hl⟩

/-- What is told of what is appended. -/
def IsSrc (w : World) (s : List Ent) (Z : Nat → Prop) (RV : Nat → Nat → Value) (rt : Option (Nat × Nat)) (ok : Bool) (sz m : Nat) (ds : List Cell) (news : List Value) : Prop :=
  (∃ Z', Shs w Z' ds news) ∧ match rt with
    | none => ok = true → Shs w Z ds news
    | some (r, i) => r < s.length ∧ (rOf s r)[i]? = some (.sl false sz m ds) ∧ ∀ l, Ow w Z (.sl false sz m ds) (RV r i) l → ∃ lb lx, l = lb ++ lx ∧ Ows w noZ ds news lx

theorem src_sound (h : At E w0 B Z0 gv s a w Z RV L) {el : Ty} {x : Cell} {X : Value} {k : Option (Nat × Nat) → Bool → Nat → Nat → List Cell → AM Unit} {r t : List Nat} (hc : SCell w Z (rOf s) RV x X)
    (hw : wp C (srcAM el x k) s r t K) : ∃ rt ok sz m ds news r', wp C (k rt ok sz m ds) s r' t K ∧ IsNews P w X m sz news ∧ IsSrc w s Z RV rt ok sz m ds news := by
  unfold srcAM at hw
  cases x with
  | c v =>
    have hv := scell_c hc
    subst hv
    cases X with
    | slice A n cap =>
      simp only at hw
      split at hw
      · rename_i h0
        subst h0
        refine ⟨_, _, _, _, _, [], _, hw, ⟨fun w' => by simp [Builtin.lenOf], fun w' _ => ?_, by simp⟩, ⟨Z, .nil⟩, fun _ => .nil⟩
        cases A with
        | none => simp [Builtin.firstCells]
        | some A => exact run_firstCells_some w' _ 0 A 0 cap [] (by simp) fun j v hv => by simp at hv
      · exact hw.elim
    | string b =>
      have hbs : (b.data.toList.map fun u => Cell.c (.int .u8 (u.toNat : Int))) = (b.data.toList.map fun u => Value.int .u8 (u.toNat : Int)).map .c := by simp
      refine ⟨_, _, _, _, _, b.data.toList.map fun u => .int .u8 (u.toNat : Int), _, hw, ⟨fun w' => by simp [Builtin.lenOf], fun w' _ => ?_, by simp⟩, ⟨Z, ?_⟩, fun _ => ?_⟩
      · simp only [Builtin.firstCells]
        have : (b.extract 0 b.size) = b := by simp
        rw [this]
        simp only [Sem.run_pure]
        congr 1
        apply Array.ext'
        simp
      · rw [hbs]; exact Shs.of_c _
      · rw [hbs]; exact Shs.of_c _
    | _ => exact hw.elim
  | sl es sz n cs =>
    rcases (scell_sl hc).sl_inv with ⟨A, cap, vs, rfl, h4, h6, h8, hm⟩ | ⟨rfl, rfl, rfl⟩
    rotate_left
    · exact ⟨_, _, _, _, _, [], _, hw, ⟨fun w' => by simp [Builtin.lenOf], fun w' _ => by simp [Builtin.firstCells], by simp⟩, ⟨Z, .nil⟩, fun _ => .nil⟩
    exact ⟨_, _, _, _, _, _, _, hw, news_sl (by rw [← h8.length]; exact h4) (sl_cells h8 hm), ⟨Z, h8⟩, fun _ => h8⟩
  | hd rr i kk =>
    simp only at hw
    obtain ⟨y, r', hlt, hx, hok, hw2⟩ := atP_sound hw
    clear hw
    have hnv := name_value h hc hx hok
    cases y with
    | sl es sz m ds =>
      simp only at hw2
      cases kk with
      | none =>
        rcases hnv with ⟨-, rfl, hrc⟩ | ⟨hn, -⟩
        · cases es with
          | false =>
            rcases Ow.sl_inv hrc with ⟨b, cap, cur, e, l', e1, e2, hh, h4, h5, h6, h7, h8⟩ | ⟨e1, rfl, rfl, e2⟩
            rotate_left
            · refine ⟨_, _, _, _, _, [], _, hw2, by rw [e1]; exact ⟨fun w' => by simp [Builtin.lenOf], fun w' _ => by simp [Builtin.firstCells], by simp⟩, ⟨Z, .nil⟩, hlt, hx, fun l hl => ⟨l, [], by simp, .nil _⟩⟩
            refine ⟨_, _, _, _, _, cur.toList.take (m * sz), _, hw2, by rw [e1]; exact news_sl (by rw [← h8.length]; exact h4) (cells_0 hh _), ⟨fun _ => True, h8.sh (fun _ h => h.elim) fun _ _ => trivial⟩, hlt, hx, fun l hl => ?_⟩
            obtain ⟨b', cap', cur', e', l'', f1, f2, fh, f4, f5, f6, f7, f8⟩ := Ow.sl_addr (A := ⟨b, 0, none⟩) hl (by rw [e1]; rfl)
            rw [e1] at f1
            cases f1
            rw [hh] at fh
            cases fh
            exact ⟨[_], _, f2, f8⟩
          | true =>
            rcases Ow.sls_inv hrc with ⟨b, cap, cur, e, e1, e2, hh, h4, h5, h6, h7, h8⟩ | ⟨e1, rfl, rfl, e2⟩
            rotate_left
            · exact ⟨_, _, _, _, _, [], _, hw2, by rw [e1]; exact ⟨fun w' => by simp [Builtin.lenOf], fun w' _ => by simp [Builtin.firstCells], by simp⟩, ⟨Z, .nil⟩, fun _ => .nil⟩
            exact ⟨_, _, _, _, _, _, _, hw2, by rw [e1]; exact news_sl (by rw [← h8.length]; exact h4) (cells_0 hh _), ⟨Z, h8⟩, fun _ => h8⟩
        · exact absurd rfl hn
      | some k =>
        rcases hnv with ⟨hn, -⟩ | ⟨-, -, -, l, ho, -⟩
        · cases hn
        · cases es with
          | false =>
            rcases Ow.sl_inv ho with ⟨b, cap, cur, e, l', e1, e2, hh, h4, h5, h6, h7, h8⟩ | ⟨e1, rfl, rfl, e2⟩
            rotate_left
            · exact ⟨_, _, _, _, _, [], _, hw2, by rw [e1]; exact ⟨fun w' => by simp [Builtin.lenOf], fun w' _ => by simp [Builtin.firstCells], by simp⟩, ⟨Z, .nil⟩, fun h => by cases h⟩
            exact ⟨_, _, _, _, _, _, _, hw2, by rw [e1]; exact news_sl (by rw [← h8.length]; exact h4) (cells_0 hh _), ⟨fun _ => True, h8.sh (fun _ h => h.elim) fun _ _ => trivial⟩, fun h => by cases h⟩
          | true =>
            rcases Ow.sls_inv ho with ⟨b, cap, cur, e, e1, e2, hh, h4, h5, h6, h7, h8⟩ | ⟨e1, rfl, rfl, e2⟩
            rotate_left
            · exact ⟨_, _, _, _, _, [], _, hw2, by rw [e1]; exact ⟨fun w' => by simp [Builtin.lenOf], fun w' _ => by simp [Builtin.firstCells], by simp⟩, ⟨Z, .nil⟩, fun h => by cases h⟩
            exact ⟨_, _, _, _, _, _, _, hw2, by rw [e1]; exact news_sl (by rw [← h8.length]; exact h4) (cells_0 hh _), ⟨_, h8⟩, fun h => by cases h⟩
    | shd z =>
      cases kk with
      | some _ => simp [okAt] at hok
      | none =>
        rcases hnv with ⟨-, rfl, hrc⟩ | ⟨hn, -⟩
        · cases z with
          | sl es sz n cs =>
            rcases (Ow.shd_inv hrc).2.sl_inv with ⟨A, cap, vs, e1, h4, h6, h8, hm⟩ | ⟨e1, rfl, rfl⟩
            rotate_left
            · exact ⟨_, _, _, _, _, [], _, hw2, by rw [e1]; exact ⟨fun w' => by simp [Builtin.lenOf], fun w' _ => by simp [Builtin.firstCells], by simp⟩, ⟨Z, .nil⟩, fun _ => .nil⟩
            exact ⟨_, _, _, _, _, _, _, hw2, by rw [e1]; exact news_sl (by rw [← h8.length]; exact h4) (sl_cells h8 hm), ⟨Z, h8⟩, fun _ => h8⟩
          | _ => exact hw2.elim
        · exact absurd rfl hn
    | _ => exact hw2.elim
  | _ => exact hw.elim

/-- The operation's end: the row that append gives. -/
theorem put_append (hT : TabOK P E.T) {c : Call} (ho : o.op = .call c) (hcc : c.callee = .builtin .append) {S X : Operand} {t u e : TypeId} {du : TypeDesc} {el : Ty} {sz' by' : Nat} {z' : Value}
    (hargs : c.args.toList = [S, X]) (htys : c.argTypes.toList = [t, u]) (ht : E.T t = some ⟨.slice e, sz', by', z'⟩) (hu : P.underlying u = some du) (hdu : ∀ k, du ≠ .int k) (hel : E.T e = some el) (hby : el.bytes ≠ 0)
    (hd : o.dst.getD 0 < E.n) {Q : Exit → Act → World → Prop} {n m : Nat} {olds news : List Value} {bl le : List Nat} {es : Bool} {cs ds : List Cell} {r t' : List Nat}
    (h : At E w0 B Z0 gv s a w Z RV L) (hs : IsBase w (a.eval S) n el.size olds bl) (hx : IsNews P w (a.eval X) m el.size news) (hone : ∀ v ∈ news, v.oneCell' = true)
    (hfb : Free w0 B w Z L bl) (hfe : Free w0 B w Z L le) (hnd : (bl ++ le).Nodup) (hes : match es with | false => Ows w noZ (cs ++ ds) (olds ++ news) le | true => Shs w Z (cs ++ ds) (olds ++ news) ∧ le = [])
    (hw : wp C (putAM o.dst el es n m cs ds) s r t' K) : o.wp P a w (fun a' w' => ∃ s' r' t' Z' RV' L', K () s' r' t' ∧ At E w0 B Z0 gv s' a' w' Z' RV' L') Q := by
  simp only [putAM, wp_test] at hw
  obtain ⟨hfit, hw⟩ := hw
  obtain ⟨-, i, hi, hsz, hbyt, hz, hzs⟩ := hT _ _ hel
  have hut := (hT _ _ ht).1
  by_cases hnil : bl = [] ∧ m = 0
  · obtain ⟨rfl, rfl⟩ := hnil
    have hn0 : news = [] := List.eq_nil_of_length_eq_zero (by simpa using hx.length)
    obtain ⟨hv, rfl, rfl, -⟩ := hs.resolve_right fun ⟨b, cap, cur, e', _, _, _, _, _, _, h⟩ => by cases h
    subst hn0
    have hcd : cs ++ ds = [] ∧ le = [] := by
      cases es with
      | false => exact ⟨List.eq_nil_of_length_eq_zero (by simpa using hes.length), by generalize cs ++ ds = xs at hes; cases hes; rfl⟩
      | true => exact ⟨List.eq_nil_of_length_eq_zero (by simpa using hes.1.length), hes.2⟩
    obtain ⟨hcd, rfl⟩ := hcd
    rw [hcd] at hw
    have hint' : (match du with | .int _ => true | _ => false) = false := by cases du <;> first | rfl | exact absurd rfl (hdu _)
    have hf : ∀ size w', w'.heap = w.heap → ∃ xs : Array Value, (Builtin.firstCells size 0 (a.eval X)).run P w' = .ok xs w' := by
      intro size w' hw'
      have h1 := hx.cells w' hw'
      cases hX : a.eval X with
      | slice A' n' cap' => cases A' <;> simp [Builtin.firstCells, loadCells, loadCellsFrom]
      | string b => simp [Builtin.firstCells]
      | _ => rw [hX] at h1; simp [Builtin.firstCells] at h1
    obtain ⟨xs, hxs⟩ := hf i.size w rfl
    obtain ⟨s', r', t', RV', L', hk, h'⟩ := setN_sound hw h hd (V := .slice none 0 0) (l := []) (fun R RV' hrf => Ow.nil Z es el.size) (hdr_nil ..) .nil (fun b hb => by simp at hb)
    refine wp_value (w' := w) (v := .slice none 0 0) ?_ ⟨s', r', t', _, _, _, hk, h'⟩
    obtain ⟨q, hq⟩ := call_builtin ho hcc a.eval
    rw [hq, arr2 hargs, arr2 htys]
    simp [builtin, Builtin.append_, hv, run_underlying hut, run_underlying hu, sizeOf, typeInfo, hi, hx.len, hxs]
  have hne : bl = [] → m ≠ 0 := fun h1 h2 => hnil ⟨h1, h2⟩
  obtain ⟨g, cap, cur, e', w', hrun, hg, hcur, hnm, hcap, htake, hext, hgb⟩ := run_append_any (ty := o.type) hut hu hdu hi hz hsz hzs (by omega) hs hx hone hne (by rw [hbyt]; exact hfit)
  have hat : At E w0 B Z0 gv s a w' Z RV L := h.move hext (fun b hb => ⟨(hfb b hb).1, (hfb b hb).2.2.1, (hfb b hb).2.2.2⟩) (fun _ h => h) fun _ h => .inl h
  have hnd' := List.nodup_append.1 hnd
  have hle : ∀ b, b ∈ le → w'.heap[b]? = w.heap[b]? := fun b hb => hext.keep b (hfe b hb).2.1 fun hb' => hnd'.2.2 b hb' b hb rfl
  have hzz : ∀ b, Z b → w'.heap[b]? = w.heap[b]? := fun b hb => hext.keep b (h.inv.zlt b hb) fun hb' => (hfb b hb').1 hb
  have hgle : g ∉ le := fun hb => by
    rcases hgb with h1 | h1
    · exact hnd'.2.2 g h1 g hb rfl
    · have := (hfe g hb).2.1; omega
  have hfree : Free w0 B w' Z L (g :: le) := fun b hb => by
    simp only [List.mem_cons] at hb
    rcases hb with rfl | hb
    · rcases hgb with h1 | h1
      · have := hfb b h1
        exact ⟨this.1, Nat.lt_of_lt_of_le this.2.1 hext.size, this.2.2⟩
      · exact ⟨fun hz => by have := h.inv.zlt b hz; omega, h1.2, .inr (Nat.le_trans h.inv.ext.size h1.1), fun r i hb => by have := (h.inv.own r i b hb).2.1; omega⟩
    · have := hfe b hb
      exact ⟨this.1, Nat.lt_of_lt_of_le this.2.1 hext.size, this.2.2⟩
  have hlen : (olds ++ news).length = (n + m) * el.size := by
    rw [← htake]
    have := Nat.mul_le_mul_right el.size hnm
    simp
    omega
  obtain ⟨q, hq⟩ := call_builtin ho hcc a.eval
  have hval : (execOp a.eval o).run P w = .ok (.value (.slice (some ⟨g, 0, none⟩) (n + m) cap)) w' := by
    rw [hq, arr2 hargs, arr2 htys]
    simp [builtin, hrun]
  cases es with
  | false =>
    have h8 := Ows.frame (fun _ h => h) (fun _ h => h.elim) hes hle
    obtain ⟨s', r', t', RV', L', hk, h'⟩ := setN_sound hw hat hd (V := .slice (some ⟨g, 0, none⟩) (n + m) cap) (l := g :: le)
      (fun R RV' hrf => Ow.sl hg (by rw [h8.length]; exact hlen) hcur hnm hcap htake.symm h8) (hdr_slice ..) (List.nodup_cons.2 ⟨hgle, hnd'.2.1⟩) hfree
    exact wp_value hval ⟨s', r', t', _, _, _, hk, h'⟩
  | true =>
    obtain ⟨hes, rfl⟩ := hes
    have h8 := Shs.frame (fun _ h => h) hzz hes
    obtain ⟨s', r', t', RV', L', hk, h'⟩ := setN_sound hw hat hd (V := .slice (some ⟨g, 0, none⟩) (n + m) cap) (l := [g])
      (fun R RV' hrf => Ow.sls hg (by rw [h8.length]; exact hlen) hcur hnm hcap htake.symm h8) (hdr_slice ..) (by simp) hfree
    exact wp_value hval ⟨s', r', t', _, _, _, hk, h'⟩

theorem go_append (hT : TabOK P E.T) {c : Call} (ho : o.op = .call c) (hcc : c.callee = .builtin .append) {S X : Operand} {t u e : TypeId} {du : TypeDesc} {el : Ty} {sz' by' : Nat} {z' : Value}
    (hargs : c.args.toList = [S, X]) (htys : c.argTypes.toList = [t, u]) (ht : E.T t = some ⟨.slice e, sz', by', z'⟩) (hu : P.underlying u = some du) (hdu : ∀ k, du ≠ .int k) (hel : E.T e = some el) (hby : el.bytes ≠ 0)
    (hd : o.dst.getD 0 < E.n) {Q : Exit → Act → World → Prop} {n m sz : Nat} {olds news : List Value} {bl lo : List Nat} {es0 ok : Bool} {cs ds : List Cell} {rt : Option (Nat × Nat)} {r t' : List Nat}
    (h : At E w0 B Z0 gv s a w Z RV L) (hs : IsBase w (a.eval S) n el.size olds bl) (hx : IsNews P w (a.eval X) m sz news)
    (hfb : Free w0 B w Z L (bl ++ lo)) (hnd : (bl ++ lo).Nodup) (hes : match es0 with | false => Ows w noZ cs olds lo | true => Shs w Z cs olds ∧ lo = []) (hsrc : IsSrc w s Z RV rt ok sz m ds news)
    (hw : wp C (goAM E o.dst el es0 n cs rt ok sz m ds) s r t' K) : o.wp P a w (fun a' w' => ∃ s' r' t' Z' RV' L', K () s' r' t' ∧ At E w0 B Z0 gv s' a' w' Z' RV' L') Q := by
  unfold goAM at hw
  split at hw
  · exact hw.elim
  · rename_i hc1
    simp only [ne_eq, Decidable.not_not] at hc1
    subst hc1
    rw [wp_test] at hw
    obtain ⟨hokd, hw⟩ := hw
    obtain ⟨⟨Z1, hsh1⟩, hsrc⟩ := hsrc
    have hone := shs_one hsh1 hokd
    have hfb1 : Free w0 B w Z L bl := fun b hb => hfb b (by simp [hb])
    have hfl1 : Free w0 B w Z L lo := fun b hb => hfb b (by simp [hb])
    have hnd' := List.nodup_append.1 hnd
    split at hw
    · -- plain values
      split at hw
      · exact hw.elim
      · rename_i hes0
        simp only [Bool.not_eq_true] at hes0
        subst hes0
        rw [wp_test] at hw
        obtain ⟨hp, hw⟩ := hw
        have hpl := plain_shs hsh1 hp
        refine put_append hT ho hcc hargs htys ht hu hdu hel hby hd h hs hx hone hfb1 hfl1 hnd (es := false) ?_ hw
        have := Ows.append hes (Ows.of_c (Z := noZ) (w := w) news)
        rw [List.append_nil, ← hpl] at this
        exact this
    · split at hw
      · exact hw.elim
      · rename_i hok
        simp only [Bool.not_eq_true', Bool.not_eq_false] at hok
        subst hok
        -- the elements of what was there, shared
        have shared : ∀ {s1 : List Ent} {Z1 : Nat → Prop} {L1 : Nat → Nat → List Nat} {r t' : List Nat}, At E w0 B Z0 gv s1 a w Z1 RV L1 → (∀ b, Z b → Z1 b) → Free w0 B w Z1 L1 (bl ++ lo) → Shs w Z1 ds news →
            wp C (putAM o.dst el true n m (roL cs) (roL ds)) s1 r t' K → o.wp P a w (fun a' w' => ∃ s' r' t' Z' RV' L', K () s' r' t' ∧ At E w0 B Z0 gv s' a' w' Z' RV' L') Q := by
          intro s1 Z1 L1 r t' h1 hz hf hds hw
          have hf1 : Free w0 B w Z1 L1 lo := fun b hb => hf b (by simp [hb])
          have h2 := h1.share hf1
          have hcs : Shs w (fun b => Z1 b ∨ b ∈ lo) cs olds := by
            cases es0 with
            | false => exact hes.sh (fun _ h => h.elim) fun _ h => .inr h
            | true => exact hes.1.zmono fun b hb => .inl (hz b hb)
          refine put_append hT ho hcc hargs htys ht hu hdu hel hby hd h2 hs hx hone (bl := bl) (le := []) (fun b hb => ?_) (fun b hb => by simp at hb) (by simpa using hnd'.1) (es := true)
            ⟨hcs.roL.append (hds.zmono fun b hb => .inl hb).roL, rfl⟩ hw
          have := hf b (by simp [hb])
          exact ⟨fun hz' => hz'.elim this.1 fun hb' => hnd'.2.2 b hb b hb' rfl, this.2⟩
        cases rt with
        | none => exact shared h (fun _ h => h) hfb (hsrc rfl) hw
        | some p =>
          obtain ⟨rr, i⟩ := p
          obtain ⟨hlt, hroot, hown⟩ := hsrc
          obtain ⟨lb, lx, hlr, hds⟩ := hown _ (h.inv.root rr i _ hroot)
          have hi := (List.getElem?_eq_some_iff.1 hroot).1
          simp only at hw
          split at hw
          · obtain ⟨-, r1, t1, hw⟩ := setP_eq hw
            have hsh : Sh w (fun b => Z b ∨ b ∈ L rr i) (.sl false el.size m ds) (RV rr i) := Ow.sh (Z := Z) (h.inv.root rr i _ hroot) (fun b hb => .inl hb) fun b hb => .inr hb
            have hdsh : Shs w (fun b => Z b ∨ b ∈ L rr i) ds news := hds.sh (fun _ h => h.elim) fun b hb => .inr (by rw [hlr]; simp [hb])
            have hz : Sh w (fun b => Z b ∨ b ∈ L rr i) (.sl false el.size m (roL ds)) (RV rr i) := by
              rcases hsh.sl_inv with ⟨A, cap, vs, e1, h4, h6, h8, hm⟩ | ⟨e1, rfl, rfl⟩
              rotate_left
              · rw [e1]; exact .nil _ _
              rw [e1]
              exact .sl (by rw [h8.roL.length, ← h8.length]; exact h4) h6 h8.roL fun hne => hm fun e => hne (by rw [e]; rfl)
            refine shared (h.freeze hlt hi hz) (fun _ h => .inl h) (fun c hc => ?_) hdsh hw
            have := hfb c hc
            refine ⟨fun hz' => hz'.elim this.1 (this.2.2.2 rr i), this.2.1, this.2.2.1, fun r' i' hb' => ?_⟩
            by_cases e : (r', i') = (rr, i)
            · obtain ⟨rfl, rfl⟩ := Prod.mk.inj e; rw [upd2_same] at hb'; simp at hb'
            · rw [upd2_ne _ _ e] at hb'; exact this.2.2.2 r' i' hb'
          · rename_i hc2
            simp only [Bool.or_eq_true, not_or, Bool.not_eq_true] at hc2
            have he0 := hc2.1
            subst he0
            obtain ⟨-, r1, t1, hw⟩ := setP_eq hw
            obtain ⟨V, l, L1, hat, hrf, htk, hsub, hcase⟩ := h.take (k := none) hlt hroot rfl
            obtain ⟨-, -, -, hl, -⟩ := hcase.resolve_right (by simp)
            have hlx : ∀ c, c ∈ lx → c ∈ L rr i := fun c hc => by rw [hlr]; simp [hc]
            have hndl := h.inv.nodup rr i
            rw [hlr, List.nodup_append] at hndl
            have hf2 : ∀ c, c ∈ bl ++ lo → c ∉ L rr i := fun c hc => (hfb c hc).2.2.2 rr i
            refine put_append hT ho hcc hargs htys ht hu hdu hel hby hd hat hs hx hone (bl := bl) (le := lo ++ lx) (fun c hc => ?_) (fun c hc => ?_) ?_ (es := false) (Ows.append hes hds) hw
            · have := hfb1 c hc
              exact ⟨this.1, this.2.1, this.2.2.1, fun r' i' hb' => this.2.2.2 r' i' (htk.sub r' i' c hb')⟩
            · rcases List.mem_append.1 hc with hc | hc
              · have := hfl1 c hc
                exact ⟨this.1, this.2.1, this.2.2.1, fun r' i' hb' => this.2.2.2 r' i' (htk.sub r' i' c hb')⟩
              · have := h.inv.own rr i c (hlx c hc)
                exact ⟨this.1, this.2.1, this.2.2, htk.gone c (by rw [hl]; exact hlx c hc)⟩
            · rw [← List.append_assoc]
              exact List.nodup_append.2 ⟨hnd, hndl.2.1, fun c hc c' hc' e => hf2 c hc (by rw [e]; exact hlx c' hc')⟩

theorem isIntD_spec {T : TypeId → Option Ty} (hT : TabOK P T) {u : TypeId} (h : isIntD (T u) = false) : ∃ du, P.underlying u = some du ∧ ∀ k, du ≠ .int k := by
  unfold isIntD at h
  split at h
  · rename_i hu; exact ⟨_, (hT _ _ hu).1, by simp⟩
  · rename_i hu; exact ⟨_, (hT _ _ hu).1, by simp⟩
  · cases h

theorem ok_append (hT : TabOK P E.T) {c : Call} (ho : o.op = .call c) (hcc : c.callee = .builtin .append) : OpOK P E o := by
  intro w0 B Z0 gv s a w Z RV L r t K Q hd h hw
  simp only [astep, ho, hcc] at hw
  split at hw
  · rename_i S X t u hargs htys
    split at hw
    · rename_i e sz' by' z' ht
      split at hw
      · rename_i el hel
        split at hw
        · -- zero values behind nil
          unfold zerosAM at hw
          split at hw
          · rename_i s1 b1 z1 hud
            obtain ⟨ca, r1, hca, hw1⟩ := opC_sound hw h
            clear hw
            obtain ⟨k, m, r2, hm, hw⟩ := opI_sound hw1 h
            clear hw1
            split at hw
            · rename_i hcaa
              rw [wp_test] at hw
              obtain ⟨⟨h0, h1⟩, hw⟩ := hw
              split at hw
              · exact hw.elim
              · rename_i hby
                have hv := scell_c hca
                obtain ⟨-, i, hi, hsz, hbyt, hz, hzs⟩ := hT _ _ hel
                have hut := (hT _ _ ht).1
                have huu := (hT _ _ hud).1
                have e1 : (zeros el m.toNat).length = m.toNat * el.size := by rw [zeros_eq]; simp [List.length_flatten, hzs]
                obtain ⟨q, hq⟩ := call_builtin ho hcc a.eval
                rcases Int.lt_or_le 0 m with hpos | hnp
                · obtain ⟨cap, cur, hrun, hcur, hle, hcap, htake⟩ := run_append_zeros (P := P) (w := w) (ty := o.type) (k := k) hut huu hi hz hsz hzs (by omega) hpos (by rw [hbyt]; exact h1)
                  have ha := h.drew.alloc (.cells cur e)
                  obtain ⟨s', r', t', RV', L', hk, h'⟩ := setN_sound hw ha.1 hd (V := .slice (some ⟨w.heap.size, 0, none⟩) m.toNat cap) (l := [w.heap.size])
                    (fun R RV' hrf => Ow.sl (heap_new w.drew _) e1 hcur hle hcap htake.symm (by rw [zeros_eq]; exact Ows.of_c _)) (hdr_slice ..) (by simp) ha.2
                  refine wp_value (w' := w.drew.alloc (.cells cur e)) (v := .slice (some ⟨w.heap.size, 0, none⟩) m.toNat cap) ?_ ⟨s', r', t', _, _, _, hk, h'⟩
                  rw [hq, arr2 hargs, arr2 htys]
                  simp [builtin, hv, hm, hrun]
                · obtain rfl : m = 0 := by omega
                  have hnz : zeros el (0 : Int).toNat = [] := List.length_eq_zero_iff.1 (by rw [e1]; simp)
                  rw [hnz] at hw
                  obtain ⟨s', r', t', RV', L', hk, h'⟩ := setN_sound hw h hd (V := .slice none 0 0) (l := []) (fun R RV' hrf => Ow.nil Z false el.size) (hdr_nil ..) .nil (fun b hb => by simp at hb)
                  refine wp_value (w' := w) (v := .slice none 0 0) ?_ ⟨s', r', t', _, _, _, hk, h'⟩
                  rw [hq, arr2 hargs, arr2 htys]
                  have hw0 : IntKind.i64.wrap 0 = 0 := rfl
                  simp [builtin, Builtin.append_, hv, hm, run_underlying hut, run_underlying huu, sizeOf, typeInfo, hi, asInt, asIntOf, hw0]
            · exact hw.elim
          · exact hw.elim
        · rename_i hint
          simp only [Bool.not_eq_true] at hint
          obtain ⟨du, hu, hdu⟩ := isIntD_spec hT hint
          obtain ⟨ca, r1, hca, hw1⟩ := opC_sound hw h
          clear hw
          obtain ⟨cb, r2, hcb, hw⟩ := opC_sound hw1 h
          clear hw1
          unfold appendAM at hw
          split at hw
          · exact hw.elim
          · rename_i hby
            cases ca with
            | c v =>
              have hv := scell_c hca
              cases v with
              | slice A n cap =>
                cases A with
                | some _ => exact hw.elim
                | none =>
                  simp only at hw
                  split at hw
                  · rename_i h0
                    obtain ⟨rfl, rfl⟩ := h0
                    obtain ⟨rt, ok, sz, m, ds, news, r3, hw, hnews, hsrc⟩ := src_sound (P := P) h hcb hw
                    rw [wp_ite] at hw
                    by_cases hm : m = 0
                    · have hw5 := hw.1 (by simp [hm])
                      clear hw
                      subst hm
                      refine fin_value hd h hw5 (.c _) ?_
                      obtain ⟨q, hq⟩ := call_builtin ho hcc a.eval
                      rw [hq, arr2 hargs, arr2 htys]
                      obtain ⟨-, i, hi, hsz, -⟩ := hT _ _ hel
                      have hut := (hT _ _ ht).1
                      have hl := hnews.length
                      have hn0 : news = [] := List.eq_nil_of_length_eq_zero (by simpa using hl)
                      subst hn0
                      have hint' : (match du with | .int _ => true | _ => false) = false := by cases du <;> first | rfl | exact absurd rfl (hdu _)
                      -- the run: nothing is appended to nothing
                      have hf : ∀ size w', w'.heap = w.heap → ∃ xs : Array Value, (Builtin.firstCells size 0 (a.eval X)).run P w' = .ok xs w' := by
                        intro size w' hw'
                        have h1 := hnews.cells w' hw'
                        cases hX : a.eval X with
                        | slice A' n' cap' => cases A' <;> simp [Builtin.firstCells, loadCells, loadCellsFrom]
                        | string b => simp [Builtin.firstCells]
                        | _ => rw [hX] at h1; simp [Builtin.firstCells] at h1
                      obtain ⟨xs, hxs⟩ := hf i.size w rfl
                      simp [builtin, Builtin.append_, hv, run_underlying hut, run_underlying hu, sizeOf, typeInfo, hi, hnews.len, hxs]
                    · have hw := hw.2 (by simp [hm])
                      exact go_append hT ho hcc hargs htys ht hu hdu hel hby hd h (.inl ⟨hv, rfl, rfl, rfl⟩) hnews (lo := []) (fun b hb => by simp at hb) (by simp) (es0 := false) (.nil _) hsrc hw
                  · exact hw.elim
              | _ => exact hw.elim
            | hd rr i k =>
              cases k with
              | some _ => exact hw.elim
              | none =>
                simp only at hw
                obtain ⟨y, r3, hlt, hx, hok, hw2⟩ := atP_sound hw
                clear hw
                cases y with
                | sl es sz n cs =>
                  simp only at hw2
                  split at hw2
                  · exact hw2.elim
                  · rename_i hsz
                    simp only [ne_eq, Decidable.not_not] at hsz
                    subst hsz
                    obtain ⟨-, r4, t4, hw⟩ := setP_eq hw2
                    clear hw2
                    rcases name_value h hca hx hok with ⟨-, hV, hrc⟩ | ⟨hn, -⟩
                    · obtain ⟨V, l, L1, hat, hrf, htk, hsub, hcase⟩ := h.take (k := none) hlt hx rfl
                      obtain ⟨-, -, -, hl, -⟩ := hcase.resolve_right (by simp)
                      have hfree := htk.free h
                      obtain ⟨rt, ok, sz, m, ds, news, r5, hw, hnews, hsrc⟩ := src_sound (P := P) hat (hcb.mono (fun _ h => h) (fun _ _ => rfl) hrf) hw
                      cases es with
                      | false =>
                        rcases Ow.sl_inv hrc with ⟨b, cap, cur, e', l', e1, e2, hh, h4, h5, h6, h7, h8⟩ | ⟨e1, rfl, rfl, e2⟩
                        rotate_left
                        · exact go_append hT ho hcc hargs htys ht hu hdu hel hby hd hat (.inl ⟨e1, rfl, rfl, rfl⟩) hnews (lo := []) (fun b hb => by simp at hb) (by simp) (es0 := false) (.nil _) hsrc hw
                        refine go_append hT ho hcc hargs htys ht hu hdu hel hby hd hat (bl := [b]) (lo := l') (.inr ⟨b, cap, cur, e', e1, hh, h5, h6, h7, rfl, rfl⟩) hnews (fun c hc => hfree c ?_) ?_ (es0 := false) h8 hsrc hw
                        · rw [hl, e2]; simpa using hc
                        · rw [List.singleton_append, ← e2]; exact h.inv.nodup rr i
                      | true =>
                        rcases Ow.sls_inv hrc with ⟨b, cap, cur, e', e1, e2, hh, h4, h5, h6, h7, h8⟩ | ⟨e1, rfl, rfl, e2⟩
                        rotate_left
                        · exact go_append hT ho hcc hargs htys ht hu hdu hel hby hd hat (.inl ⟨e1, rfl, rfl, rfl⟩) hnews (lo := []) (fun b hb => by simp at hb) (by simp) (es0 := true) ⟨.nil, rfl⟩ hsrc hw
                        refine go_append hT ho hcc hargs htys ht hu hdu hel hby hd hat (bl := [b]) (lo := []) (.inr ⟨b, cap, cur, e', e1, hh, h5, h6, h7, rfl, rfl⟩) hnews (fun c hc => hfree c ?_) (by simp) (es0 := true) ⟨h8, rfl⟩ hsrc hw
                        rw [hl, e2]; simpa using hc
                    · exact absurd rfl hn
                | _ => exact hw2.elim
            | _ => exact hw.elim
      · exact hw.elim
    · exact hw.elim
  · exact hw.elim
end
end Go.Den

/- Maps. -/
namespace Go.Den

section
variable {P : Program} {T : TypeId → Option Ty}
theorem run_equalIn_int' {d : Nat} {t : TypeId} {k k' : IntKind} (h : P.underlying t = some (.int k')) (a b : Int) (w : World) : (Op.equalIn (d + 1) t (.int k a) (.int k b)).run P w = .ok (a == b) w := by
  rw [Op.equalIn]
  simp [run_underlying h]
theorem keyEq_go_two (k1 k2 k3 k4 : IntKind) (a b c d : Int) : keyEq.go [.int k1 a, .int k2 b] [.int k3 c, .int k4 d] = (k1 == k3 && a == c && (k2 == k4 && b == d && true)) := rfl

inductive GoodKey (P : Program) (kt : TypeId) : Value → Prop
  | int {k : IntKind} (h : P.underlying kt = some (.int k)) (n : Int) : GoodKey P kt (.int k n)
  | str (h : P.underlying kt = some .string) (s : ByteArray) : GoodKey P kt (.string s)
  | two {e : TypeId} {k : IntKind} {i : TypeInfo} (h : P.underlying kt = some (.array 2 e)) (he : P.underlying e = some (.int k)) (hi : P.info? e = some i) (hs : i.size = 1) (a b : Int) : GoodKey P kt (.agg #[.int k a, .int k b])
theorem keyOk_good (hT : TabOK P T) {kt : TypeId} {v : Value} (h : keyOk T kt v = true) : GoodKey P kt v := by
  unfold keyOk at h
  split at h
  · rename_i k sz by_ z ht
    split at h
    · rename_i n; rw [← of_decide_eq_true h]; exact .int (hT _ _ ht).1 _
    · cases h
  · rename_i ht
    split at h
    · exact .str (hT _ _ ht).1 _
    · cases h
  · rename_i n e sz by_ z ht
    split at h
    · rename_i k sz' by' z' he
      split at h
      · rename_i xs
        simp only [Bool.and_eq_true, decide_eq_true_eq] at h
        obtain ⟨⟨rfl, rfl⟩, h⟩ := h
        split at h
        · rename_i k1 a k2 b hx
          simp only [Bool.and_eq_true, decide_eq_true_eq] at h
          obtain ⟨rfl, rfl⟩ := h
          obtain ⟨hu, i, hi, hsz, -⟩ := hT _ _ he
          have : xs = #[.int k a, .int k b] := by apply Array.ext'; simp [hx]
          rw [this]
          exact .two (hT _ _ ht).1 hu hi hsz a b
        · cases h
      · cases h
    · cases h
  · cases h
theorem good_check {kt : TypeId} {v : Value} (h : GoodKey P kt v) (em : Bool) (w : World) : (Instr.checkKey em 10000 kt v).run P w = .ok () w := by
  show (Instr.checkKey em (9998 + 1 + 1) kt v).run P w = _
  cases h with
  | int h n => rw [Instr.checkKey]; simp [run_underlying h]
  | str h s => rw [Instr.checkKey]; simp [run_underlying h]
  | two h he hi hs a b =>
    rename_i e k i
    have h1 : ∀ v w, (Instr.checkKey em (9998 + 1) e v).run P w = .ok () w := fun v w => by
      rw [Instr.checkKey]
      cases v <;> simp [run_underlying he]
    rw [Instr.checkKey]
    simp only [Sem.run_bind, run_underlying h, Result.andThen_ok, Std.Legacy.Range.forIn_eq_forIn_range', Std.Legacy.Range.size, Nat.sub_zero, Nat.add_sub_cancel, Nat.div_one, List.range'_succ, List.range'_zero, List.forIn_cons, List.forIn_nil]
    simp [sizeOf, typeInfo, hi, hs, part, isAgg, run_underlying he, h1]
theorem good_equal {kt : TypeId} {x y : Value} (h : GoodKey P kt x) (k : GoodKey P kt y) (w : World) : (Op.equal kt x y).run P w = .ok (keyEq x y) w := by
  show (Op.equalIn (9998 + 1 + 1) kt x y).run P w = _
  cases h with
  | int h n =>
    cases k with
    | int k m =>
      rw [h] at k
      cases k
      rw [run_equalIn_int' h]
      simp [keyEq]
    | str k => rw [h] at k; cases k
    | two k => rw [h] at k; cases k
  | str h n =>
    cases k with
    | int k m => rw [h] at k; cases k
    | str k =>
      rw [Op.equalIn]
      simp [run_underlying h, keyEq, beq_toListBytes, ByteArray.toList_eq]
    | two k => rw [h] at k; cases k
  | two h he hi hs a b =>
    cases k with
    | int k m => rw [h] at k; cases k
    | str k => rw [h] at k; cases k
    | two k ke ki ks c d =>
      rw [h] at k
      cases k
      rw [he] at ke
      cases ke
      rw [Op.equalIn]
      simp only [Sem.run_bind, run_underlying h, Result.andThen_ok, Std.Legacy.Range.forIn_eq_forIn_range', Std.Legacy.Range.size, Nat.sub_zero, Nat.add_sub_cancel, Nat.div_one, List.range'_succ, List.range'_zero, List.forIn_cons, List.forIn_nil]
      simp [sizeOf, typeInfo, hi, hs, part, isAgg, run_underlying he, run_equalIn_int' he, keyEq, keyEq_go_two]
      by_cases h1 : a = c
      · subst h1
        by_cases h2 : b = d
        · subst h2; simp
        · simp [h2]
      · simp [h1]
end
end Go.Den

/- Maps: what is found, what is put. -/
namespace Go.Den

section
variable {P : Program} {kt : TypeId}
theorem findNow_eq {d : TypeDesc} {k : Value} : ∀ (es : List MapEntry) (i : Nat), (∀ e ∈ es, Instr.sameNow d k e.key = some (keyEq k e.key)) →
    Instr.findNow d k es i = some ((findK k (es.map (·.key))).bind fun j => (es[j]?).map fun e => (i + j, e.val))
  | [], i, _ => rfl
  | e :: es, i, h => by
    rw [Instr.findNow, h e (by simp), List.map_cons, findK]
    cases hk : keyEq k e.key with
    | true => simp
    | false =>
      simp only [Bool.false_eq_true, if_false]
      rw [findNow_eq es (i + 1) fun e he => h e (by simp [he])]
      cases findK k (es.map (·.key)) with
      | none => rfl
      | some j => simp [Nat.add_assoc, Nat.add_comm 1 j]
theorem findAsking_eq {k : Value} (w : World) : ∀ (es : List MapEntry) (i : Nat), (∀ e ∈ es, (Op.equal kt k e.key).run P w = .ok (keyEq k e.key) w) →
    (Instr.findAsking kt k es i).run P w = .ok ((findK k (es.map (·.key))).bind fun j => (es[j]?).map fun e => (i + j, e.val)) w
  | [], i, _ => rfl
  | e :: es, i, h => by
    rw [Instr.findAsking, Sem.run_bind, h e (by simp), List.map_cons, findK]
    cases hk : keyEq k e.key with
    | true => simp
    | false =>
      simp only [Result.andThen_ok, Bool.false_eq_true, if_false]
      rw [findAsking_eq w es (i + 1) fun e he => h e (by simp [he])]
      cases findK k (es.map (·.key)) with
      | none => rfl
      | some j => simp [Nat.add_assoc, Nat.add_comm 1 j]
theorem run_findKey {k : Value} (hk : GoodKey P kt k) {es : List MapEntry} (hes : ∀ e ∈ es, GoodKey P kt e.key) (w : World) :
    (Instr.findKey kt k es).run P w = .ok ((findK k (es.map (·.key))).bind fun j => (es[j]?).map fun e => (j, e.val)) w := by
  have ask := findAsking_eq (P := P) (kt := kt) (k := k) w es 0 fun e he => good_equal hk (hes e he) w
  simp only [Nat.zero_add] at ask
  unfold Instr.findKey
  cases hk with
  | int h n =>
    rename_i k0
    have h1 := findNow_eq (d := .int k0) es 0 (k := .int k0 n) fun e he => by
      have := hes e he
      generalize e.key = y at this
      cases this with
      | int k m => rw [h] at k; cases k; simp [Instr.sameNow, keyEq]
      | str k => rw [h] at k; cases k
      | two k => rw [h] at k; cases k
    simp only [Nat.zero_add] at h1
    rw [Sem.run_bind, run_underlying h]
    simp only [Result.andThen_ok]
    rw [h1]
    rfl
  | str h s =>
    have h1 := findNow_eq (d := .string) es 0 (k := .string s) fun e he => by
      have := hes e he
      generalize e.key = y at this
      cases this with
      | int k m => rw [h] at k; cases k
      | str k => simp [Instr.sameNow, keyEq, beq_toListBytes, ByteArray.toList_eq]
      | two k => rw [h] at k; cases k
    simp only [Nat.zero_add] at h1
    rw [Sem.run_bind, run_underlying h]
    simp only [Result.andThen_ok]
    rw [h1]
    rfl
  | two h he hi hs a b =>
    rw [Sem.run_bind, run_underlying h]
    simp only [Result.andThen_ok]
    cases es with
    | nil => rfl
    | cons e es => simp only [Instr.findNow, Instr.sameNow]; exact ask
theorem good_eq {x y : Value} (hx : GoodKey P kt x) (hy : GoodKey P kt y) (h : keyEq x y = true) : x = y := by
  cases hx with
  | int k n =>
    cases hy with
    | int k' m => rw [k] at k'; cases k'; simp [keyEq] at h; rw [h]
    | str k' => rw [k] at k'; cases k'
    | two k' => rw [k] at k'; cases k'
  | str k s =>
    cases hy with
    | int k' m => rw [k] at k'; cases k'
    | str k' =>
      rename_i s'
      simp [keyEq] at h
      obtain ⟨⟨x⟩⟩ := s
      obtain ⟨⟨y⟩⟩ := s'
      simp at h
      rw [h]
    | two k' => rw [k] at k'; cases k'
  | two k he hi hs a b =>
    cases hy with
    | int k' m => rw [k] at k'; cases k'
    | str k' => rw [k] at k'; cases k'
    | two k' ke ki ks c d =>
      rw [k] at k'
      cases k'
      rw [he] at ke
      cases ke
      simp [keyEq, keyEq_go_two] at h
      rw [h.1, h.2]
theorem good_stays {x : Value} (hx : GoodKey P kt x) (w : World) : (Instr.keyThatStays x x).run P w = .ok x w := by
  have : Instr.sameBits 10000 x x = true := by
    show Instr.sameBits (9998 + 1 + 1) x x = true
    cases hx with
    | int => simp [Instr.sameBits]
    | str => simp [Instr.sameBits, beq_toListBytes]
    | two => simp [Instr.sameBits]
  unfold Instr.keyThatStays
  rw [this]
  rfl
theorem findK_some {k : Value} : ∀ {ks : List Value} {j : Nat}, findK k ks = some j → ∃ x, ks[j]? = some x ∧ keyEq k x = true
  | [], j, h => by simp [findK] at h
  | x :: ks, j, h => by
    rw [findK] at h
    split at h
    · rename_i hk
      obtain rfl := Option.some.inj h
      exact ⟨x, rfl, hk⟩
    · simp only [Option.map_eq_some_iff] at h
      obtain ⟨i, hi, rfl⟩ := h
      obtain ⟨y, h1, h2⟩ := findK_some hi
      exact ⟨y, by simpa using h1, h2⟩
end

section
variable {w0 : World} {B Z0 : Nat → Prop} {gv : List Value} {s : List Ent} {a : Act} {w : World} {Z : Nat → Prop} {RV : Nat → Nat → Value}
  {L : Nat → Nat → List Nat} {C : FuncId → List Arg → Res → Prop} {P : Program} {E : Env} {o : Oper} {K : Unit → List Ent → List Nat → List Nat → Prop} {α : Type}

theorem svVal_go : ∀ {R : Nat → List Cell} {xs : List Cell} {vs us : List Value}, SCells w Z R RV xs vs → svVal.go xs = some us → us = vs
  | _, _, _, us, .nil, h => by simp [svVal.go] at h; exact h
  | _, _, _, us, .cons (x := x) hc ht, h => by
    cases x with
    | c v =>
      simp only [svVal.go, Option.map_eq_some_iff] at h
      obtain ⟨us', h1, rfl⟩ := h
      rw [svVal_go ht h1, scell_c hc]
    | _ => simp [svVal.go] at h
theorem svVal_sound {R : Nat → List Cell} {v : SV} {V u : Value} (h : Slot w Z R RV v V) (hv : svVal v = some u) : V = u := by
  cases v with
  | one x =>
    cases x with
    | c v => simp [svVal] at hv; rw [← hv]; exact scell_c h
    | _ => simp [svVal] at hv
  | agg xs =>
    simp only [svVal, Option.map_eq_some_iff] at hv
    obtain ⟨us, h1, rfl⟩ := hv
    obtain ⟨us', rfl, h2⟩ := h
    rw [svVal_go h2 h1]
  | _ => simp [svVal] at hv

/-- The map's entries. -/
def IsMap (w : World) (M : Value) (ents : List MapEntry) : Prop := (M = .map none ∧ ents = []) ∨ ∃ b es clock, M = .map (some b) ∧ w.heap[b]? = some (.map es clock) ∧ ents = es.toList
theorem look_sound (h : At E w0 B Z0 gv s a w Z RV L) {c : Cell} {M : Value} {k : Bool → List Value → List Cell → AM α} {r t : List Nat} {K : α → List Ent → List Nat → List Nat → Prop} (hc : SCell w Z (rOf s) RV c M)
    (hw : wp C (lookAM c k) s r t K) : ∃ pl ks cs ents r', wp C (k pl ks cs) s r' t K ∧ IsMap w M ents ∧ ents.map (·.key) = ks ∧ (∃ Z', Shs w Z' cs (ents.map (·.val))) ∧ (pl = false → Shs w Z cs (ents.map (·.val))) := by
  unfold lookAM at hw
  cases c with
  | c v =>
    have hv := scell_c hc
    subst hv
    cases M with
    | map b =>
      cases b with
      | some _ => exact hw.elim
      | none => exact ⟨_, _, _, [], _, hw, .inl ⟨rfl, rfl⟩, rfl, ⟨Z, .nil⟩, fun _ => .nil⟩
    | _ => exact hw.elim
  | mp es ks cs =>
    obtain ⟨b, ents, clock, rfl, hz, hh, hk, hs⟩ := (scell_mp hc).mp_inv
    exact ⟨_, _, _, ents.toList, _, hw, .inr ⟨b, ents, clock, rfl, hh, rfl⟩, hk, ⟨Z, hs⟩, fun _ => hs⟩
  | hd rr i kk =>
    cases kk with
    | some _ => exact hw.elim
    | none =>
      simp only at hw
      obtain ⟨y, r', hlt, hx, hok, hw2⟩ := atP_sound hw
      clear hw
      rcases name_value h hc hx hok with ⟨-, rfl, hrc⟩ | ⟨hn, -⟩
      · cases y with
        | mp es ks cs =>
          cases es with
          | false =>
            obtain ⟨b, ents, clock, l', e1, e2, hh, hk, hs⟩ := Ow.mp_inv hrc
            exact ⟨_, _, _, ents.toList, _, hw2, .inr ⟨b, ents, clock, e1, hh, rfl⟩, hk, ⟨fun _ => True, hs.sh (fun _ h => h.elim) fun _ _ => trivial⟩, fun h => by cases h⟩
          | true =>
            obtain ⟨b, ents, clock, e1, e2, hh, hk, hs⟩ := Ow.mps_inv hrc
            exact ⟨_, _, _, ents.toList, _, hw2, .inr ⟨b, ents, clock, e1, hh, rfl⟩, hk, ⟨Z, hs⟩, fun _ => hs⟩
        | shd z =>
          cases z with
          | mp es ks cs =>
            obtain ⟨b, ents, clock, e1, hz, hh, hk, hs⟩ := (Ow.shd_inv hrc).2.mp_inv
            exact ⟨_, _, _, ents.toList, _, hw2, .inr ⟨b, ents, clock, e1, hh, rfl⟩, hk, ⟨Z, hs⟩, fun _ => hs⟩
          | _ => exact hw2.elim
        | _ => exact hw2.elim
      · exact absurd rfl hn
  | _ => exact hw.elim

theorem run_lookup {t kt e : TypeId} {i : TypeInfo} {z : Value} (ht : P.underlying t = some (.map kt e)) (hi : P.info? e = some i) (hz : i.zero = some z) {M key : Value} {ents : List MapEntry} (hM : IsMap w M ents)
    (hk : GoodKey P kt key) (hes : ∀ e ∈ ents, GoodKey P kt e.key) (ok : Bool) :
    (Instr.lookup t M key ok).run P w = .ok (match (findK key (ents.map (·.key))).bind fun j => ents[j]? with
      | some e => if ok then .tuple #[e.val, .bool true] else e.val
      | none => if ok then .tuple #[z, .bool false] else z) w := by
  have hf := run_findKey hk hes w
  have hfin : ∀ (es : Array MapEntry), es.toList = ents → (do
      Instr.checkKey es.isEmpty 10000 kt key
      let (v, ok') ← match ← Instr.findKey kt key es.toList with
        | some (_, v) => pure (v, true)
        | none => pure (← zeroValue e, false)
      pure (if ok then .tuple #[v, .bool ok'] else v) : Sem Value).run P w = .ok (match (findK key (ents.map (·.key))).bind fun j => ents[j]? with
      | some e => if ok then .tuple #[e.val, .bool true] else e.val
      | none => if ok then .tuple #[z, .bool false] else z) w := by
    intro es hes'
    rw [hes', Sem.run_bind, good_check hk, Result.andThen_ok, Sem.run_bind, hf, Result.andThen_ok]
    cases hfk : findK key (ents.map (·.key)) with
    | none => simp [zeroValue, typeInfo, hi, hz]
    | some j =>
      obtain ⟨x, hx, -⟩ := findK_some hfk
      rw [List.getElem?_map] at hx
      cases hj : ents[j]? with
      | none => rw [hj] at hx; cases hx
      | some e' => simp [hj]
  unfold Instr.lookup
  rcases hM with ⟨rfl, rfl⟩ | ⟨b, es, clock, rfl, hh, rfl⟩
  · have := hfin #[] rfl
    rw [Sem.run_bind, run_underlying ht, Result.andThen_ok]
    exact this
  · have := hfin es rfl
    rw [Sem.run_bind, run_underlying ht, Result.andThen_ok]
    simp only
    rw [Sem.run_bind, MapKept.run_getObj_map hh, Result.andThen_ok]
    exact this

theorem slot_look {R : Nat → List Cell} {x : Cell} {v : Value} (h : SCell w Z R RV x v) (ok b : Bool) :
    Slot w Z R RV (if ok then .tup [(false, [x]), (false, [.c (.bool b)])] else .one x) (if ok then .tuple #[v, .bool b] else v) := by
  cases ok with
  | true => exact ⟨_, rfl, ⟨x, rfl, h⟩, ⟨_, rfl, .c _⟩, trivial⟩
  | false => exact h
theorem ok_lookup (hT : TabOK P E.T) {ty : TypeId} {m k : Operand} {ok : Bool} (ho : o.op = .lookup ty m k ok) : OpOK P E o := by
  intro w0 B Z0 gv s a w Z RV L r t K Q hd h hw
  simp only [astep, ho] at hw
  split at hw
  · rename_i kt e sz by_ z ht
    split at hw
    · rename_i el hel
      split at hw
      · exact hw.elim
      · obtain ⟨c, r1, hc, hw1⟩ := opC_sound hw h
        clear hw
        obtain ⟨kv, r2, hkv, hw⟩ := opd_sound hw1 h
        clear hw1
        split at hw
        · rename_i key hkey
          have hke := svVal_sound hkv hkey
          split at hw
          · rename_i hgood
            have hgk := keyOk_good hT hgood
            obtain ⟨pl, ks, cs, ents, r3, hw, hM, hks, ⟨Z', hs'⟩, hs⟩ := look_sound h hc hw
            rw [wp_test, wp_opt] at hw
            obtain ⟨hall, hw1, hw2⟩ := hw
            have hes : ∀ e ∈ ents, GoodKey P kt e.key := fun e he => keyOk_good hT (hall e.key (by rw [← hks]; exact List.mem_map.2 ⟨e, he, rfl⟩))
            obtain ⟨-, i, hi, hsz, -, hz, -⟩ := hT _ _ hel
            have hrun := run_lookup (w := w) (hT _ _ ht).1 hi hz hM hgk hes ok
            rw [hks] at hrun
            have hval : (execOp a.eval o).run P w = .ok (.value (match (findK key ks).bind fun j => ents[j]? with
              | some e => if ok then .tuple #[e.val, .bool true] else e.val
              | none => if ok then .tuple #[el.zero, .bool false] else el.zero)) w := by
              simp only [execOp, ho, hke]
              rw [Sem.run_bind, hrun]
              rfl
            cases hf : (findK key ks).bind fun j => ents[j]? with
            | none =>
              rw [hf] at hval
              have hn : getM key ks cs = none := by
                unfold getM
                cases hfk : findK key ks with
                | none => rfl
                | some j =>
                  rw [hfk] at hf
                  simp only [Option.bind_some] at hf ⊢
                  have hl := hs'.length
                  rw [List.getElem?_eq_none_iff] at hf ⊢
                  simp at hl
                  omega
              have hw := hw2 hn
              simp only [lookRes] at hw
              exact fin_value hd h hw (slot_look (.c _) ok false) hval
            | some en =>
              rw [hf] at hval
              cases hfk : findK key ks with
              | none => rw [hfk] at hf; cases hf
              | some j =>
                rw [hfk] at hf
                simp only [Option.bind_some] at hf
                have hl := hs'.length
                have hlt : j < cs.length := by
                  have := (List.getElem?_eq_some_iff.1 hf).1
                  simp at hl
                  omega
                have hg : getM key ks cs = some cs[j] := by simp [getM, hfk, hlt]
                have hw := hw1 _ hg
                split at hw
                · exact hw.elim
                · rename_i hpl
                  simp only [lookRes] at hw
                  refine fin_value hd h hw (slot_look ?_ ok true) hval
                  have hcj : cs[j]? = some cs[j] := List.getElem?_eq_getElem hlt
                  have hv : (ents.map (·.val))[j]? = some en.val := by rw [List.getElem?_map, hf]; rfl
                  cases pl with
                  | false =>
                    obtain ⟨v, h1, h2⟩ := (hs rfl).get hcj
                    rw [hv] at h1
                    obtain rfl := Option.some.inj h1
                    exact .sh h2
                  | true =>
                    obtain ⟨v, h1, h2⟩ := hs'.get hcj
                    rw [hv] at h1
                    obtain rfl := Option.some.inj h1
                    simp only [Bool.true_and, Bool.not_eq_true', Bool.not_eq_false] at hpl
                    generalize cs[j] = x at *
                    cases x with
                    | c v => cases h2; exact .c _
                    | _ => simp [isC] at hpl
          · exact hw.elim
        · exact hw.elim
    · exact hw.elim
  · exact hw.elim

theorem ext_map (w : World) (b : Nat) (o : Obj) : Ext (fun c => c = b) w { w with heap := w.heap.setIfInBounds b o } :=
  ⟨rfl, rfl, rfl, Nat.le_refl _, by simp, fun c _ hc => by simp [Array.getElem?_setIfInBounds_ne (Ne.symm hc)]⟩
theorem heap_map {b : Nat} {es : Array MapEntry} {clock : Nat} (hh : w.heap[b]? = some (.map es clock)) (o : Obj) : ({ w with heap := w.heap.setIfInBounds b o } : World).heap[b]? = some o := by
  have hlt := (Array.getElem?_eq_some_iff.1 hh).1
  simp [hlt]
theorem run_mapUpdate {t kt e : TypeId} (ht : P.underlying t = some (.map kt e)) {b : Nat} {es : Array MapEntry} {clock : Nat} (hh : w.heap[b]? = some (.map es clock)) {key : Value}
    (hk : GoodKey P kt key) (hes : ∀ e ∈ es.toList, GoodKey P kt e.key) (v : Value) :
    ∃ es' clock', (Instr.mapUpdate t (.map (some b)) key v).run P w = .ok () { w with heap := w.heap.setIfInBounds b (.map es' clock') } ∧ es'.toList.map (·.key) = putK key (es.toList.map (·.key)) ∧
      es'.toList.map (·.val) = match findK key (es.toList.map (·.key)) with | some j => (es.toList.map (·.val)).set j v | none => es.toList.map (·.val) ++ [v] := by
  have hf := run_findKey hk hes w
  unfold putK
  cases hfk : findK key (es.toList.map (·.key)) with
  | none =>
    refine ⟨es.push { key, val := v, born := clock }, clock + 1, ?_, by simp, by simp⟩
    rw [hfk] at hf
    simp [Instr.mapUpdate, run_underlying ht, MapKept.run_getObj_map hh, good_check hk, hf, MapKept.run_setObj_map _ hh]
  | some j =>
    obtain ⟨x, hx, hkx⟩ := findK_some hfk
    rw [List.getElem?_map] at hx
    cases hj : es.toList[j]? with
    | none => rw [hj] at hx; cases hx
    | some e' =>
      rw [hj] at hx
      simp only [Option.map_some, Option.some.injEq] at hx
      have hmem := List.mem_of_getElem? hj
      have heq : key = e'.key := good_eq hk (hes e' hmem) (by rw [hx]; exact hkx)
      have hj' : es[j]? = some e' := by simpa using hj
      have hlist : (es.modify j fun e => { e with key := key, val := v }).toList = es.toList.set j { e' with key := key, val := v } := by
        rw [Array.toList_modify]
        apply List.ext_getElem?
        intro m
        rw [List.getElem?_modify, List.getElem?_set]
        by_cases hm : j = m
        · subst hm
          have := (List.getElem?_eq_some_iff.1 hj).1
          simp only [if_true, this, hj]
          rfl
        · simp [hm]
      refine ⟨es.modify j fun e => { e with key := key, val := v }, clock, ?_, ?_, ?_⟩
      · rw [hfk] at hf
        simp only [Option.bind_some, hj, Option.map_some] at hf
        simp [Instr.mapUpdate, run_underlying ht, MapKept.run_getObj_map hh, good_check hk, hf, hj', ← heq, good_stays hk, MapKept.run_setObj_map _ hh]
      · rw [hlist, List.map_set]
        apply List.ext_getElem?
        intro m
        rw [List.getElem?_set]
        by_cases hm : j = m
        · subst hm
          have := (List.getElem?_eq_some_iff.1 hj).1
          simp only [List.length_map, this, if_true, List.getElem?_map, hj, Option.map_some, heq]
        · simp [hm]
      · rw [hlist, List.map_set]

theorem fin_upd {r t : List Nat} {K : Unit → List Ent → List Nat → List Nat → Prop} {Q : Exit → Act → World → Prop} {ty : TypeId} {m k x : Operand} (ho : o.op = .mapUpdate ty m k x) (hd : o.dst.getD 0 < E.n) {w' : World}
    (h : At E w0 B Z0 gv s a w' Z RV L) (hw : wp C (setD o.dst (.one (.c undef))) s r t K) (hr : (Instr.mapUpdate ty (a.eval m) (a.eval k) (a.eval x)).run P w = .ok () w') :
    o.wp P a w (fun a' w' => ∃ s' r' t' Z' RV' L', K () s' r' t' ∧ At E w0 B Z0 gv s' a' w' Z' RV' L') Q := by
  obtain ⟨s', r', t', hk, h'⟩ := setD_sound hw h hd (V := undef) (.c _)
  exact wp_skip' (w' := w') (by simp [execOp, ho, hr]) ⟨s', r', t', _, _, _, hk, h'⟩
theorem Shs.set {W : World} {Z : Nat → Prop} : ∀ {xs : List Cell} {vs : List Value}, Shs W Z xs vs → ∀ {x : Cell} {v : Value}, Sh W Z x v → ∀ j, Shs W Z (xs.set j x) (vs.set j v)
  | _, _, .nil, _, _, _, j => by simp; exact .nil
  | _, _, .cons _ t, _, _, hx, 0 => .cons hx t
  | _, _, .cons h t, _, _, hx, j + 1 => .cons h (t.set hx j)
theorem ok_mapUpdate (hT : TabOK P E.T) {ty : TypeId} {m k x : Operand} (ho : o.op = .mapUpdate ty m k x) : OpOK P E o := by
  intro w0 B Z0 gv s a w Z RV L r t K Q hd h hw
  simp only [astep, ho] at hw
  split at hw
  · rename_i kt e sz by_ z ht
    have hut := (hT _ _ ht).1
    obtain ⟨c, r1, hc, hw1⟩ := opC_sound hw h
    clear hw
    obtain ⟨kv, r2, hkv, hw⟩ := opd_sound hw1 h
    clear hw1
    obtain ⟨v, r3, hv, hw1⟩ := opC_sound hw h
    clear hw
    split at hw1
    · rename_i key hkey
      have hke := svVal_sound hkv hkey
      split at hw1
      · rename_i hgood
        have hgk := keyOk_good hT hgood
        unfold updAM at hw1
        cases c with
        | hd rr i kk =>
          cases kk with
          | some _ => exact hw1.elim
          | none =>
            simp only at hw1
            obtain ⟨y, r', hlt, hx, hok, hw2⟩ := atP_sound hw1
            clear hw1
            have hM : a.eval m = RV rr i := by
              generalize hV : a.eval m = M at *
              cases hc with
              | sh hx => cases hx
              | hd hlt => rfl
            cases y with
            | mp es ks cs =>
              cases es with
              | false =>
                simp only [wp_test] at hw2
                obtain ⟨hall, hw⟩ := hw2
                split at hw
                · rename_i hisc
                  obtain ⟨-, r4, t4, hw⟩ := setP_eq hw
                  have hi := (List.getElem?_eq_some_iff.1 (show (rOf s rr)[i]? = some (.mp false ks cs) from hx)).1
                  obtain ⟨b, ents, clock, l', e1, e2, hh, hks, hcs⟩ := Ow.mp_inv (h.inv.root rr i _ hx)
                  have hes : ∀ e ∈ ents.toList, GoodKey P kt e.key := fun e he => keyOk_good hT (hall e.key (by rw [← hks]; exact List.mem_map.2 ⟨e, he, rfl⟩))
                  obtain ⟨es', clock', hrun, hk', hv'⟩ := run_mapUpdate hut hh hgk hes (a.eval x)
                  rw [hks] at hk' hv'
                  have hvc : v = .c (a.eval x) := by
                    cases v with
                    | c u => rw [scell_c hv]
                    | _ => simp [isC] at hisc
                  have hnd := h.inv.nodup rr i
                  rw [e2, List.nodup_cons] at hnd
                  have hnew : ∃ l'', l''.Sublist l' ∧ Ows w noZ (putM key ks v cs) (es'.toList.map (·.val)) l'' := by
                    unfold putM
                    rw [hv']
                    cases hfk : findK key ks with
                    | none =>
                      have := hcs.append (Ows.cons (Ow.c noZ (a.eval x)) (.nil _))
                      rw [← hvc] at this
                      exact ⟨l', List.Sublist.refl _, by simpa using this⟩
                    | some j =>
                      obtain ⟨y, hy, -⟩ := findK_some hfk
                      have hlen := hcs.length
                      have hj : j < cs.length := by
                        have := (List.getElem?_eq_some_iff.1 hy).1
                        rw [← hks] at this
                        simp at this hlen
                        omega
                      obtain ⟨u, l1, lx, l2, hu, hl', hox, hset⟩ := hcs.split (List.getElem?_eq_getElem hj)
                      have := hset w noZ (fun _ h => h) (fun _ h => h.elim) (fun _ _ => rfl) v (a.eval x) [] (by rw [hvc]; exact .c _ _)
                      refine ⟨l1 ++ [] ++ l2, ?_, this⟩
                      rw [hl', List.append_nil]
                      exact (List.sublist_append_left l1 lx).append (List.Sublist.refl l2)
                  obtain ⟨l'', hsub, hnew⟩ := hnew
                  have hat := h.write hlt hi (b := b) (by rw [e2]; simp) (ext_map w b (.map es' clock')) (y := .mp false (putK key ks) (putM key ks v cs)) (l := b :: l'')
                    (fun c hc => by
                      rw [e2]
                      simp only [List.mem_cons] at hc ⊢
                      exact hc.imp id fun hc => hsub.subset hc)
                    (List.nodup_cons.2 ⟨fun hc => hnd.1 (hsub.subset hc), hnd.2.sublist hsub⟩)
                    (fun R' hrf => by
                      rw [e1]
                      refine Ow.mp (heap_map hh _) hk' (hnew.frame (fun _ h => h) (fun _ h => h.elim) fun c hc => (ext_map w b (.map es' clock')).keep c (h.inv.own rr i c (by rw [e2]; exact List.mem_cons_of_mem _ (hsub.subset hc))).2.1 fun e => ?_)
                      exact hnd.1 (by rw [← e]; exact hsub.subset hc))
                    (fun k x hk => by simp [getC] at hk)
                  exact fin_upd ho hd hat hw (by rw [hM, e1, hke]; exact hrun)
                · exact hw.elim
              | true =>
                simp only [wp_test] at hw2
                obtain ⟨-, hw⟩ := hw2
                split at hw
                · exact hw.elim
                · rename_i hwr
                  obtain ⟨s1, Z1, L1, r4, t4, h1, hf, hcl, hw⟩ := frz_sound h (SCells.cons hv .nil) hw
                  obtain ⟨zz, r5, hz, hw⟩ := rd_clean h1 (hv.mono hf.zsub (fun _ _ => rfl) hf.refs) (hcl v (by simp)) hw
                  obtain ⟨y2, r6, hlt1, hx1, hok1, hw2⟩ := atP_sound hw
                  clear hw
                  cases y2 with
                  | mp es2 ks2 cs2 =>
                    cases es2 with
                    | false => exact hw2.elim
                    | true =>
                      simp only [wp_test] at hw2
                      obtain ⟨hall, hw⟩ := hw2
                      obtain ⟨-, r7, t7, hw⟩ := setP_eq hw
                      have hi := (List.getElem?_eq_some_iff.1 (show (rOf s1 rr)[i]? = some (.mp true ks2 cs2) from hx1)).1
                      obtain ⟨b, ents, clock, e1, e2, hh, hks, hcs⟩ := Ow.mps_inv (h1.inv.root rr i _ hx1)
                      have hes : ∀ e ∈ ents.toList, GoodKey P kt e.key := fun e he => keyOk_good hT (hall e.key (by rw [← hks]; exact List.mem_map.2 ⟨e, he, rfl⟩))
                      obtain ⟨es', clock', hrun, hk', hv'⟩ := run_mapUpdate hut hh hgk hes (a.eval x)
                      rw [hks] at hk' hv'
                      have hnew : Shs w Z1 (putM key ks2 zz cs2) (es'.toList.map (·.val)) := by
                        unfold putM
                        rw [hv']
                        cases hfk : findK key ks2 with
                        | none => exact hcs.append (.cons hz .nil)
                        | some j => exact hcs.set hz j
                      have hb := (h1.inv.own rr i b (by rw [e2]; simp)).1
                      have hat := h1.write hlt1 hi (b := b) (by rw [e2]; simp) (ext_map w b (.map es' clock')) (y := .mp true (putK key ks2) (putM key ks2 zz cs2)) (l := [b]) (by rw [e2]; simp) (by simp)
                        (fun R' hrf => by
                          rw [e1]
                          exact Ow.mps (heap_map hh _) hk' (hnew.frame (fun _ h => h) fun c hc => (ext_map w b (.map es' clock')).keep c (h1.inv.zlt c hc) fun e => hb (e ▸ hc)))
                        (fun k x hk => by simp [getC] at hk)
                      exact fin_upd ho hd hat hw (by rw [hM, e1, hke]; exact hrun)
                  | _ => exact hw2.elim
            | _ => exact hw2.elim
        | _ => exact hw1.elim
      · exact hw1.elim
    · exact hw1.elim
  · exact hw.elim
theorem ok_insert (hT : TabOK P E.T) {ty : TypeId} {m k x : Operand} (ho : o.op = .insert ty m k x) : OpOK P E o := by
  intro w0 B Z0 gv s a w Z RV L r t K Q hd h hw
  have h1 := ok_mapUpdate (o := { o with op := .mapUpdate ty m k x }) hT rfl w0 B Z0 gv s a w Z RV L r t K Q hd h (by simp only [astep, ho] at hw ⊢; exact hw)
  have he : execOp a.eval { o with op := .mapUpdate ty m k x } = execOp a.eval o := by simp only [execOp, ho]
  unfold Oper.wp at h1 ⊢
  rw [he] at h1
  exact h1
end
end Go.Den
