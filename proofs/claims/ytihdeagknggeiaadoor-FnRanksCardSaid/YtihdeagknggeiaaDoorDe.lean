import Derived.Test.YtihdeagknggeiaaDoorDd
import Derived.Orders
import Derived.Lib.TrailingZeros
set_option autoImplicit false
set_option linter.unusedSimpArgs false
set_option linter.unusedVariables false
/- Calls: what is handed over. -/
namespace Go.Den

/-- Slots and their values. -/
def Slots (w : World) (Z : Nat → Prop) (R : Nat → List Cell) (RV : Nat → Nat → Value) : List SV → List Value → Prop
  | [], [] => True
  | v :: vs, V :: Vs => Slot w Z R RV v V ∧ Slots w Z R RV vs Vs
  | _, _ => False
def valsOf : SV → Value → List Value
  | .one _, V => [V]
  | .agg _, .agg us => us.toList
  | _, _ => []

section
variable {E : Env} {w0 : World} {B Z0 : Nat → Prop} {gv : List Value} {s : List Ent} {a : Act} {w : World} {Z : Nat → Prop} {RV : Nat → Nat → Value}
  {L : Nat → Nat → List Nat} {C : FuncId → List Arg → Res → Prop} {α : Type} {K : α → List Ent → List Nat → List Nat → Prop}

theorem Slots.mono {w' : World} {Z' : Nat → Prop} {R R' : Nat → List Cell} {RV' : Nat → Nat → Value} (hz : ∀ b, Z b → Z' b) (hw : ∀ b, Z b → w'.heap[b]? = w.heap[b]?) (hr : Refs w w' R R' RV RV') :
    ∀ {vs : List SV} {Vs : List Value}, Slots w Z R RV vs Vs → Slots w' Z' R' RV' vs Vs
  | [], [], _ => trivial
  | _ :: _, _ :: _, ⟨h, t⟩ => ⟨h.mono hz hw hr, t.mono hz hw hr⟩
theorem Slots.append {R : Nat → List Cell} : ∀ {vs us : List SV} {Vs Us : List Value}, Slots w Z R RV vs Vs → Slots w Z R RV us Us → Slots w Z R RV (vs ++ us) (Vs ++ Us)
  | [], _, [], _, _, h => h
  | _ :: _, _, _ :: _, _, ⟨h, t⟩, k => ⟨h, t.append k⟩
theorem Slots.ones {R : Nat → List Cell} : ∀ {xs : List Cell} {vs : List Value}, SCells w Z R RV xs vs → Slots w Z R RV (xs.map .one) vs
  | _, _, .nil => trivial
  | _, _, .cons h t => ⟨h, Slots.ones t⟩
theorem opds_sound (h : At E w0 B Z0 gv s a w Z RV L) : ∀ {xs : List Operand} {k : List SV → AM α} {r t : List Nat}, wp C (opds E xs k) s r t K →
    ∃ vs r', Slots w Z (rOf s) RV vs (xs.map a.eval) ∧ wp C (k vs) s r' t K
  | [], k, r, t, hw => ⟨[], r, trivial, hw⟩
  | x :: xs, k, r, t, hw => by
    obtain ⟨v, r', hv, hw⟩ := opd_sound hw h
    obtain ⟨vs, r', hvs, hw⟩ := opds_sound h hw
    exact ⟨v :: vs, r', ⟨hv, hvs⟩, hw⟩
theorem slot_valsOf {R : Nat → List Cell} {v : SV} {V : Value} (h : Slot w Z R RV v V) (hk : svOk v = true) : SCells w Z R RV (svCells v) (valsOf v V) := by
  cases v with
  | one x => exact .cons h .nil
  | agg xs => obtain ⟨us, rfl, h⟩ := h; exact h
  | _ => simp [svOk] at hk
theorem ow_like {R : Nat → List Cell} {v : SV} {V : Value} (h : Slot w Z R RV v V) (hk : svOk v = true) {ys : List Cell} {l : List Nat} {Z' : Nat → Prop} (ho : Ows w Z' ys (valsOf v V) l) : OwSV w Z' (svLike v ys) V l := by
  cases v with
  | one x =>
    simp only [valsOf] at ho
    cases ho with
    | cons ho t => cases t; rw [List.append_nil]; exact ho
  | agg xs => obtain ⟨us, rfl, h⟩ := h; exact ⟨us, rfl, ho⟩
  | _ => simp [svOk] at hk
theorem sh_like {R : Nat → List Cell} {v : SV} {V : Value} (h : Slot w Z R RV v V) (hk : svOk v = true) {ys : List Cell} {Z' : Nat → Prop} (ho : Shs w Z' ys (valsOf v V)) : ShSV w Z' (svLike v ys) V := by
  cases v with
  | one x =>
    simp only [valsOf] at ho
    cases ho with
    | cons ho t => cases t; exact ho
  | agg xs => obtain ⟨us, rfl, h⟩ := h; exact ⟨us, rfl, ho⟩
  | _ => simp [svOk] at hk

/-- What has been taken for the arguments. -/
def PkRel (w : World) (Z : Nat → Prop) : List PM → List SV → List Value → List (List Cell) → List Nat → Prop
  | _, [], [], ps, l => ps = [] ∧ l = []
  | ms, v :: vs, V :: Vs, p :: ps, l => match ms.headD .ro with
    | .ro | .sh => PkRel w Z ms.tail vs Vs ps l
    | _ => ∃ l1 l2, (svOk v = true → Ows w Z p (valsOf v V) l1) ∧ PkRel w Z ms.tail vs Vs ps l2 ∧ l = l1 ++ l2
  | _, _, _, _, _ => False
theorem PkRel.zmono {Z' : Nat → Prop} (hz : ∀ b, Z b → Z' b) : ∀ {ms : List PM} {vs : List SV} {Vs : List Value} {ps : List (List Cell)} {l : List Nat}, PkRel w Z ms vs Vs ps l → PkRel w Z' ms vs Vs ps l
  | _, [], [], _, _, h => h
  | ms, v :: vs, V :: Vs, p :: ps, l, h => by
    unfold PkRel at *
    split
    · rename_i hm
      rw [hm] at h
      exact PkRel.zmono hz h
    · rename_i hm
      rw [hm] at h
      exact PkRel.zmono hz h
    · rename_i h1 h2
      split at h
      · rename_i hm; exact absurd hm h1
      · rename_i hm; exact absurd hm h2
      · obtain ⟨l1, l2, h3, h4, h5⟩ := h
        exact ⟨l1, l2, fun hk => (h3 hk).frame hz (fun _ _ => rfl) fun _ _ => rfl, PkRel.zmono hz h4, h5⟩
theorem pkArgs_sound : ∀ {ms : List PM} {vs : List SV} {Vs : List Value} {s : List Ent} {L : Nat → Nat → List Nat} {k : List (List Cell) → AM α} {r t : List Nat}, At E w0 B Z0 gv s a w Z RV L → Slots w Z (rOf s) RV vs Vs →
    wp C (pkArgs ms vs k) s r t K → ∃ ps l s' L' r' t', At E w0 B Z0 gv s' a w Z RV L' ∧ sOf s' = sOf s ∧ Refs w w (rOf s) (rOf s') RV RV ∧ Taken L L' l ∧ PkRel w Z ms vs Vs ps l ∧ wp C (k ps) s' r' t' K
  | _, [], [], s, L, k, r, t, h, _, hw => ⟨[], [], s, L, r, t, h, rfl, Refs.refl .., Taken.nil L, ⟨rfl, rfl⟩, hw⟩
  | ms, v :: vs, V :: Vs, s, L, k, r, t, h, ⟨hv, hvs⟩, hw => by
    have pass : (ms.headD .ro = .ro ∨ ms.headD .ro = .sh) → wp C (pkArgs ms.tail vs fun ps => k ([] :: ps)) s r t K → ∃ ps l s' L' r' t', At E w0 B Z0 gv s' a w Z RV L' ∧ sOf s' = sOf s ∧ Refs w w (rOf s) (rOf s') RV RV ∧ Taken L L' l ∧
        PkRel w Z ms (v :: vs) (V :: Vs) ps l ∧ wp C (k ps) s' r' t' K := fun hm hw => by
      obtain ⟨ps, l, s', L', r', t', g1, g2, g3, g4, g5, g6⟩ := pkArgs_sound h hvs hw
      refine ⟨[] :: ps, l, s', L', r', t', g1, g2, g3, g4, ?_, g6⟩
      unfold PkRel
      rcases hm with hm | hm <;> rw [hm] <;> exact g5
    have take : (ms.headD .ro ≠ .ro ∧ ms.headD .ro ≠ .sh) → wp C (pkL 12 (svCells v) fun ys => pkArgs ms.tail vs fun ps => k (ys :: ps)) s r t K → ∃ ps l s' L' r' t', At E w0 B Z0 gv s' a w Z RV L' ∧ sOf s' = sOf s ∧ Refs w w (rOf s) (rOf s') RV RV ∧ Taken L L' l ∧
        PkRel w Z ms (v :: vs) (V :: Vs) ps l ∧ wp C (k ps) s' r' t' K := fun hm hw => by
      by_cases hk : svOk v = true
      · obtain ⟨ys, l1, s1, L1, r1, t1, g1, g2, g3, g4, g5, hw⟩ := (pk_sound 12).2 h (slot_valsOf hv hk) hw
        obtain ⟨ps, l, s', L', r', t', k1, k2, k3, k4, k5, k6⟩ := pkArgs_sound g1 (hvs.mono (fun _ h => h) (fun _ _ => rfl) g3) hw
        refine ⟨ys :: ps, l1 ++ l, s', L', r', t', k1, k2.trans g2, g3.trans k3, g4.append k4, ?_, k6⟩
        unfold PkRel
        split
        · rename_i e; exact absurd e hm.1
        · rename_i e; exact absurd e hm.2
        · exact ⟨l1, l, fun _ => g5, k5, rfl⟩
      · have hn : svCells v = [] := by cases v <;> simp_all [svOk, svCells]
        rw [hn] at hw
        simp only [pkL] at hw
        obtain ⟨ps, l, s', L', r', t', k1, k2, k3, k4, k5, k6⟩ := pkArgs_sound h hvs hw
        refine ⟨[] :: ps, l, s', L', r', t', k1, k2, k3, k4, ?_, k6⟩
        unfold PkRel
        split
        · rename_i e; exact absurd e hm.1
        · rename_i e; exact absurd e hm.2
        · exact ⟨[], l, fun e => absurd e hk, k5, rfl⟩
    unfold pkArgs at hw
    split at hw
    · rename_i e; exact pass (.inl e) hw
    · rename_i e; exact pass (.inr e) hw
    · rename_i e1 e2; exact take ⟨e1, e2⟩ hw

/-- The modes of what is handed over. -/
def Modes : List PM → List Arg → Prop
  | _, [] => True
  | ms, a :: as => a.m = (match ms.headD .ro with | .ro | .sh => .ro | m => m) ∧ Modes ms.tail as
theorem OwTup.frame {w' : World} {Z Z' : Nat → Prop} (hz : ∀ b, Z b → Z' b) (hw : ∀ b, Z b → w'.heap[b]? = w.heap[b]?) : ∀ {ts : List (Bool × List Cell)} {vs : List Value} {l : List Nat}, OwTup w Z ts vs l →
    (∀ b, b ∈ l → w'.heap[b]? = w.heap[b]?) → OwTup w' Z' ts vs l
  | [], [], _, h, _ => h
  | (true, xs) :: ts, v :: vs, l, h, hl => by
    obtain ⟨us, l1, l2, e1, h2, h3, rfl⟩ := h
    exact ⟨us, l1, l2, e1, h2.frame hz hw fun b hb => hl b (by simp [hb]), OwTup.frame hz hw h3 fun b hb => hl b (by simp [hb]), rfl⟩
  | (false, xs) :: ts, v :: vs, l, h, hl => by
    obtain ⟨x, l1, l2, e1, h2, h3, rfl⟩ := h
    exact ⟨x, l1, l2, e1, h2.frame hz hw fun b hb => hl b (by simp [hb]), OwTup.frame hz hw h3 fun b hb => hl b (by simp [hb]), rfl⟩
  | [], _ :: _, _, h, _ => h.elim
  | (true, _) :: _, [], _, h, _ => h.elim
  | (false, _) :: _, [], _, h, _ => h.elim
theorem OwSV.frame {w' : World} {Z Z' : Nat → Prop} (hz : ∀ b, Z b → Z' b) (hw : ∀ b, Z b → w'.heap[b]? = w.heap[b]?) {v : SV} {V : Value} {l : List Nat} (h : OwSV w Z v V l) (hl : ∀ b, b ∈ l → w'.heap[b]? = w.heap[b]?) :
    OwSV w' Z' v V l := by
  cases v with
  | dead => exact h
  | one x => exact Ow.frame hz hw h hl
  | agg xs => obtain ⟨us, e, h⟩ := h; exact ⟨us, e, h.frame hz hw hl⟩
  | tup ts => obtain ⟨us, e, h⟩ := h; exact ⟨us, e, h.frame hz hw hl⟩
theorem OwTup.noShd {Z Z' : Nat → Prop} : ∀ {ts : List (Bool × List Cell)} {vs : List Value} {l : List Nat}, OwTup w Z ts vs l → (ts.any fun v => hasShdL v.2) = false → OwTup w Z' ts vs l
  | [], [], _, h, _ => h
  | (true, xs) :: ts, v :: vs, l, h, hs => by
    obtain ⟨us, l1, l2, e1, h2, h3, rfl⟩ := h
    simp only [List.any_cons, Bool.or_eq_false_iff] at hs
    exact ⟨us, l1, l2, e1, h2.noShd hs.1, OwTup.noShd h3 hs.2, rfl⟩
  | (false, xs) :: ts, v :: vs, l, h, hs => by
    obtain ⟨x, l1, l2, e1, h2, h3, rfl⟩ := h
    simp only [List.any_cons, Bool.or_eq_false_iff] at hs
    subst e1
    simp only [hasShdL, Bool.or_false] at hs
    exact ⟨x, l1, l2, rfl, h2.noShd hs.1, OwTup.noShd h3 hs.2, rfl⟩
  | [], _ :: _, _, h, _ => h.elim
  | (true, _) :: _, [], _, h, _ => h.elim
  | (false, _) :: _, [], _, h, _ => h.elim
theorem OwSV.noShd {Z Z' : Nat → Prop} {v : SV} {V : Value} {l : List Nat} (h : OwSV w Z v V l) (hs : svShd v = false) : OwSV w Z' v V l := by
  cases v with
  | dead => exact h
  | one x => exact Ow.noShd h hs
  | agg xs => obtain ⟨us, e, h⟩ := h; exact ⟨us, e, h.noShd hs⟩
  | tup ts => obtain ⟨us, e, h⟩ := h; exact ⟨us, e, OwTup.noShd h hs⟩
theorem arg_ro {Z : Nat → Prop} {v : SV} {V : Value} (h : ShSV w Z v V) : ArgRel w Z ⟨.ro, v⟩ V [] := ⟨h, rfl⟩
theorem rdArgs_sound : ∀ {ms : List PM} {vs : List SV} {Vs : List Value} {ps : List (List Cell)} {s : List Ent} {Z : Nat → Prop} {L : Nat → Nat → List Nat} {l : List Nat} {k : List Arg → AM α} {r t : List Nat}, At E w0 B Z0 gv s a w Z RV L → Slots w Z (rOf s) RV vs Vs →
    PkRel w Z ms vs Vs ps l → wp C (rdArgs ms vs ps k) s r t K →
    ∃ as s' Z' L' r' t', At E w0 B Z0 gv s' a w Z' RV L' ∧ Frozen w s s' Z Z' RV L L' ∧ ArgsRel w (ZA Z' L') as Vs l ∧ (bares ms vs = true → ArgsRel w Z' as Vs l) ∧ Modes ms as ∧ wp C (k as) s' r' t' K
  | _, [], [], ps, s, Z, L, l, k, r, t, h, _, hp, hw => by
    obtain ⟨rfl, rfl⟩ := hp
    exact ⟨[], s, Z, L, r, t, h, Frozen.refl .., rfl, fun _ => rfl, trivial, hw⟩
  | ms, v :: vs, V :: Vs, p :: ps, s, Z, L, l, k, r, t, h, ⟨hv, hvs⟩, hp, hw => by
    unfold rdArgs at hw
    split at hw
    · rename_i hk
      have hsc := slot_valsOf hv hk
      unfold PkRel at hp
      split at hw
      · -- read
        rename_i hm
        rw [hm] at hp
        by_cases hb : (svCells v).all bare = true
        · obtain ⟨ys, r1, hys, hw⟩ := rds_clean h hsc (fun x hx => .inl (List.all_eq_true.1 hb x hx)) hw
          obtain ⟨as, s', Z', L', r', t', g1, g2, g3, g4, g5, g6⟩ := rdArgs_sound h hvs hp hw
          refine ⟨⟨.ro, svLike v ys⟩ :: as, s', Z', L', r', t', g1, g2, ⟨[], l, arg_ro (sh_like hv hk (hys.zmono fun b hb => .inl (g2.zsub b hb))), g3, rfl⟩, fun hb' => ?_, ⟨by rw [hm], g5⟩, g6⟩
          unfold bares at hb'
          simp only [Bool.and_eq_true] at hb'
          exact ⟨[], l, arg_ro (sh_like hv hk (hys.zmono g2.zsub)), g4 hb'.2, rfl⟩
        · obtain ⟨ys, r1, hys, hw⟩ := (rd_sound h 12).2 hsc hw
          obtain ⟨as, s', Z', L', r', t', g1, g2, g3, g4, g5, g6⟩ := rdArgs_sound h hvs hp hw
          refine ⟨⟨.ro, svLike v ys⟩ :: as, s', Z', L', r', t', g1, g2, ⟨[], l, arg_ro (sh_like hv hk (hys.zmono g2.za)), g3, rfl⟩, fun hb' => ?_, ⟨by rw [hm], g5⟩, g6⟩
          unfold bares at hb'
          rw [hm] at hb'
          simp only [Bool.and_eq_true] at hb'
          exact absurd hb'.1 hb
      · -- shared
        rename_i hm
        rw [hm] at hp
        obtain ⟨s1, Z1, L1, r1, t1, h1, hf, hcl, hw⟩ := frz_sound h hsc hw
        obtain ⟨ys, r2, hys, hw⟩ := rds_clean h1 (hsc.mono hf.zsub (fun _ _ => rfl) hf.refs) hcl hw
        obtain ⟨as, s', Z', L', r', t', g1, g2, g3, g4, g5, g6⟩ := rdArgs_sound h1 (hvs.mono hf.zsub (fun _ _ => rfl) hf.refs) (hp.zmono hf.zsub) hw
        refine ⟨⟨.ro, svLike v ys⟩ :: as, s', Z', L', r', t', g1, hf.trans g2, ⟨[], l, arg_ro (sh_like hv hk (hys.zmono fun b hb => .inl (g2.zsub b hb))), g3, rfl⟩, fun hb' => ?_, ⟨by rw [hm], g5⟩, g6⟩
        unfold bares at hb'
        simp only [Bool.and_eq_true] at hb'
        exact ⟨[], l, arg_ro (sh_like hv hk (hys.zmono g2.zsub)), g4 hb'.2, rfl⟩
      · -- given
        rename_i h1 h2
        split at hp
        · rename_i e; exact absurd e h1
        · rename_i e; exact absurd e h2
        · obtain ⟨l1, l2, h3, h4, h5⟩ := hp
          obtain ⟨as, s', Z', L', r', t', g1, g2, g3, g4, g5, g6⟩ := rdArgs_sound h hvs h4 hw
          have hne : ms.headD .ro ≠ .ro := h1
          have har : ∀ {Z' : Nat → Prop}, (∀ b, Z b → Z' b) → ArgRel w Z' ⟨ms.headD .ro, svLike v p⟩ V l1 := fun hz => by
            unfold ArgRel
            split
            · rename_i e; exact absurd e h1
            · exact ow_like hv hk ((h3 hk).frame hz (fun _ _ => rfl) fun _ _ => rfl)
          refine ⟨_ :: as, s', Z', L', r', t', g1, g2, ⟨l1, l2, har fun b hb => .inl (g2.zsub b hb), g3, h5⟩, fun hb' => ?_, ⟨?_, g5⟩, g6⟩
          · unfold bares at hb'
            simp only [Bool.and_eq_true] at hb'
            exact ⟨l1, l2, har g2.zsub, g4 hb'.2, h5⟩
          · split
            · rename_i e; exact absurd e h1
            · rename_i e; exact absurd e h2
            · rfl
    · exact hw.elim
end
end Go.Den

/- Calls: what comes back. -/
namespace Go.Den

section
variable {E : Env} {w0 : World} {B Z0 : Nat → Prop} {gv : List Value} {s : List Ent} {a : Act} {w : World} {Z : Nat → Prop} {RV : Nat → Nat → Value}
  {L : Nat → Nat → List Nat} {C : FuncId → List Arg → Res → Prop} {α : Type} {K : α → List Ent → List Nat → List Nat → Prop}

/-- A named tree is replaced by one that is given, with new names behind it. -/
theorem At.giveN (h : At E w0 B Z0 gv s a w Z RV L) {r i : Nat} (hr : r < s.length) (hi : i < (rOf s r).length) {y : Cell} {rs : List Cell} {vs : List Value} {ls : List (List Nat)} {ly l : List Nat}
    (hfl : ls.flatten = l) (hll : ls.length = rs.length) (hvo : ∀ j, j < rs.length → HdrV (vs.getD j undef))
    (hy : ∀ R RV', Fits r (rOf s r).length rs vs R RV' → Refs w w (rOf s) R RV RV' → RC w Z R RV' y (RV r i) ly ∧ ∀ j z, rs[j]? = some z → RC w Z R RV' z (vs.getD j undef) (ls.getD j []))
    (hno : ∀ k x, getC [y] 0 (some k) = some x → isHdr x = false) (hn : (ly ++ l).Nodup) (hf : Free w0 B w Z L (ly ++ l)) :
    ∃ RV' L', At E w0 B Z0 gv (s.set r ⟨sOf s r, (rOf s r).set i y ++ rs⟩) a w Z RV' L' ∧ Refs w w (rOf s) (rOf (s.set r ⟨sOf s r, (rOf s r).set i y ++ rs⟩)) RV RV' ∧ ∀ r i b, b ∈ L' r i → b ∈ L r i ∨ b ∈ ly ++ l := by
  let n := (rOf s r).length
  let RV' : Nat → Nat → Value := fun r' i' => if r' = r ∧ n ≤ i' then vs.getD (i' - n) undef else RV r' i'
  let L' : Nat → Nat → List Nat := fun r' i' => if r' = r then (if i' = i then ly else if n ≤ i' then ls.getD (i' - n) [] else L r' i') else L r' i'
  let R' : Nat → List Cell := fun j => if j = r then (rOf s r).set i y ++ rs else rOf s j
  have hR : rOf (s.set r ⟨sOf s r, (rOf s r).set i y ++ rs⟩) = R' := by funext j; rw [rOf_set hr]
  have hRr : R' r = (rOf s r).set i y ++ rs := by simp [R']
  have hRn : ∀ r', r' ≠ r → R' r' = rOf s r' := fun r' e => by simp [R', e]
  have hlt : ∀ i', i' < n → (R' r)[i']? = ((rOf s r).set i y)[i']? := fun i' h' => by rw [hRr, List.getElem?_append_left (by simpa using h')]
  have hge : ∀ i', n ≤ i' → (R' r)[i']? = rs[i' - n]? := fun i' h' => by rw [hRr, List.getElem?_append_right (by simpa using h')]; simp [n]
  have hRVo : ∀ r' i', i' < (rOf s r').length → RV' r' i' = RV r' i' := fun r' i' h' => by
    simp only [RV']
    rw [if_neg]
    rintro ⟨rfl, h2⟩
    omega
  have hRVn : ∀ j, RV' r (n + j) = vs.getD j undef := fun j => by simp [RV']
  have hrf : Refs w w (rOf s) R' RV RV' := by
    refine ⟨fun r' i' h' => ⟨?_, hRVo r' i' h'⟩, fun r' i' k x h' hx hh => ?_⟩
    · by_cases e : r' = r
      · subst e; rw [hRr]; simp; omega
      · rw [hRn r' e]; exact h'
    · by_cases e : r' = r
      · subst e
        by_cases e2 : i' = i
        · subst e2
          have : getC [y] 0 (some k) = some x := by
            simp only [getC] at hx ⊢
            rw [hlt i' h'] at hx
            simpa [hi] using hx
          rw [hno k x this] at hh
          cases hh
        · refine ⟨x, ?_, hh, rfl⟩
          simp only [getC] at hx ⊢
          rwa [hlt i' h', List.getElem?_set_ne (fun e => e2 e.symm)] at hx
      · refine ⟨x, ?_, hh, rfl⟩
        simp only [getC] at hx ⊢
        rwa [hRn r' e] at hx
  have hfit : Fits r n rs vs R' RV' := fun j z hz => by
    refine ⟨?_, hRVn j⟩
    rw [hge (n + j) (by omega)]
    simpa using hz
  obtain ⟨hyy, hzz⟩ := hy R' RV' hfit hrf
  have hnd := List.nodup_append.1 hn
  have hfd := flat_nodup (ls := ls) (by rw [hfl]; exact hnd.2.1)
  have hsub : ∀ r' i' b, b ∈ L' r' i' → b ∈ L r' i' ∨ b ∈ ly ++ l := fun r' i' b hb => by
    simp only [L'] at hb
    split at hb
    · split at hb
      · exact .inr (List.mem_append.2 (.inl hb))
      · split at hb
        · exact .inr (List.mem_append.2 (.inr (by rw [← hfl]; exact flat_mem hb)))
        · exact .inl hb
    · exact .inl hb
  refine ⟨RV', L', ?_, by rw [hR]; exact hrf, hsub⟩
  refine h.names hr (D := fun _ => False) (R' := R') rfl (Ext.refl _ w) (by simp) (fun _ h => h) (fun _ h => .inl h) hrf ?_ ?_ ?_ ?_ ?_ ?_
  · intro r' i' x hx
    by_cases e : r' = r
    · subst e
      by_cases e2 : i' = i
      · subst e2
        rw [hlt i' hi] at hx
        simp [hi] at hx
        subst hx
        rw [hRVo r' i' hi]
        simp only [L', if_true]
        exact .inr hyy
      · by_cases e3 : n ≤ i'
        · rw [hge i' e3] at hx
          have := hzz _ _ hx
          simp only [L', RV', if_true, if_neg e2, if_pos e3, true_and]
          exact .inr this
        · rw [hlt i' (by omega), List.getElem?_set_ne (fun e => e2 e.symm)] at hx
          exact .inl ⟨hx, by simp only [L', if_true, if_neg e2, if_neg e3], by simp⟩
    · rw [hRn r' e] at hx
      exact .inl ⟨hx, by simp only [L', if_neg e], by simp⟩
  · intro r' i'
    simp only [L']
    split
    · split
      · exact hnd.1
      · split
        · exact hfd.1 _
        · exact h.inv.nodup _ _
    · exact h.inv.nodup _ _
  · intro r1 i1 r2 i2 hne b h1 h2
    have hfr : ∀ {b}, b ∈ ly ++ l → ∀ r' i', b ∉ L r' i' := fun hb => (hf _ hb).2.2.2
    have hL : ∀ {b} {i'}, b ∈ ls.getD i' [] → b ∈ l := fun hb => by rw [← hfl]; exact flat_mem hb
    simp only [L'] at h1 h2
    split at h1
    · rename_i e1
      split at h1
      · rename_i e2
        split at h2
        · rename_i e3
          split at h2
          · rename_i e4; exact hne (by rw [e1, e2, e3, e4])
          · split at h2
            · exact hnd.2.2 b h1 b (hL h2) rfl
            · exact hfr (List.mem_append.2 (.inl h1)) _ _ h2
        · exact hfr (List.mem_append.2 (.inl h1)) _ _ h2
      · rename_i e2
        split at h1
        · rename_i e5
          split at h2
          · rename_i e3
            split at h2
            · exact hnd.2.2 b h2 b (hL h1) rfl
            · split at h2
              · rename_i e6
                exact hfd.2 (i1 - n) (i2 - n) b (fun e => hne (by rw [e1, e3]; congr 1; omega)) h1 h2
              · exact hfr (List.mem_append.2 (.inr (hL h1))) _ _ h2
          · exact hfr (List.mem_append.2 (.inr (hL h1))) _ _ h2
        · split at h2
          · split at h2
            · exact hfr (List.mem_append.2 (.inl h2)) _ _ h1
            · split at h2
              · exact hfr (List.mem_append.2 (.inr (hL h2))) _ _ h1
              · exact h.inv.sep _ _ _ _ hne b h1 h2
          · exact h.inv.sep _ _ _ _ hne b h1 h2
    · split at h2
      · split at h2
        · exact hfr (List.mem_append.2 (.inl h2)) _ _ h1
        · split at h2
          · exact hfr (List.mem_append.2 (.inr (hL h2))) _ _ h1
          · exact h.inv.sep _ _ _ _ hne b h1 h2
      · exact h.inv.sep _ _ _ _ hne b h1 h2
  · intro r' i' b hb
    rcases hsub r' i' b hb with hb | hb
    · exact h.inv.own r' i' b hb
    · have := hf b hb
      exact ⟨this.1, this.2.1, this.2.2.1⟩
  · intro r' i' hx
    by_cases e : r' = r
    · subst e
      have hge' : n + rs.length ≤ i' := by
        rw [hRr, List.getElem?_eq_none_iff] at hx
        simp at hx
        exact hx
      simp only [L', if_true]
      rw [if_neg (by omega), if_pos (by omega), List.getD_eq_getElem?_getD, List.getElem?_eq_none (by omega)]
      rfl
    · rw [hRn r' e] at hx
      simp only [L', if_neg e]
      exact h.inv.out r' i' hx
  · intro r' i' hi'
    by_cases e : r' = r
    · subst e
      by_cases e3 : n ≤ i'
      · simp only [RV']
        rw [if_pos ⟨trivial, e3⟩]
        refine hvo _ ?_
        rw [hRr] at hi'
        simp at hi'
        omega
      · rw [hRVo r' i' (by omega)]
        exact h.inv.one r' i' (by omega)
    · rw [hRn r' e] at hi'
      rw [hRVo r' i' hi']
      exact h.inv.one r' i' hi'

/-- What remains free while something is put back. -/
def Rest (w0 : World) (B : Nat → Prop) (w : World) (Z : Nat → Prop) (L : Nat → Nat → List Nat) (l m : List Nat) : Prop := Free w0 B w Z L (l ++ m) ∧ (l ++ m).Nodup
theorem Rest.next {L' : Nat → Nat → List Nat} {l m : List Nat} (h : Rest w0 B w Z L l m) (hs : ∀ r i b, b ∈ L' r i → b ∈ L r i ∨ b ∈ l) : Rest w0 B w Z L' [] m :=
  ⟨fun b hb => by
    have hb' : b ∈ l ++ m := List.mem_append.2 (.inr hb)
    have := h.1 b hb'
    exact ⟨this.1, this.2.1, this.2.2.1, fun r i hc => (hs r i b hc).elim (this.2.2.2 r i) fun hc => (List.nodup_append.1 h.2).2.2 b hc b hb rfl⟩, (List.nodup_append.1 h.2).2.1⟩
theorem Rest.skip {l m : List Nat} (h : Rest w0 B w Z L l m) : Rest w0 B w Z L [] m := h.next fun _ _ _ h => .inl h
theorem Rest.assoc {l1 l2 m : List Nat} (h : Rest w0 B w Z L (l1 ++ l2) m) : Rest w0 B w Z L l1 (l2 ++ m) := by
  unfold Rest at *; rw [← List.append_assoc]; exact h

theorem Rest.upd {r i : Nat} {l m : List Nat} (h : Rest w0 B w Z L l m) : Rest w0 B w Z (upd2 L r i l) [] m := h.next fun r' i' b hb => by
  by_cases e : (r', i') = (r, i)
  · obtain ⟨rfl, rfl⟩ := Prod.mk.inj e
    rw [upd2_same] at hb
    exact .inr hb
  · rw [upd2_ne _ _ e] at hb
    exact .inl hb
/-- Ways to say that something has come back. -/
def Back (E : Env) (w0 : World) (B Z0 : Nat → Prop) (gv : List Value) (s : List Ent) (a : Act) (w : World) (Z : Nat → Prop) (RV : Nat → Nat → Value) (C : FuncId → List Arg → Res → Prop) (q : Nat → Nat → Bool) (m : List Nat) (k : AM α) (K : α → List Ent → List Nat → List Nat → Prop) : Prop :=
  ∃ s' RV' L' r' t', At E w0 B Z0 gv s' a w Z RV' L' ∧ sOf s' = sOf s ∧ RefsX q w w (rOf s) (rOf s') RV RV' ∧ Rest w0 B w Z L' [] m ∧ wp C k s' r' t' K
theorem bkC_sound {q : Nat → Nat → Bool} (h : At E w0 B Z0 gv s a w Z RV L) {x y : Cell} {V : Value} {l m : List Nat} {k : AM α} {r t : List Nat} (hx : SCell w Z (rOf s) RV x V) (hy : Ow w Z y V l) (hf : Rest w0 B w Z L l m)
    (hq : ∀ r i, x = .hd r i none → q r i = true) (hw : wp C (bkC x y k) s r t K) : Back E w0 B Z0 gv s a w Z RV C q m k K := by
  have skip : wp C k s r t K → Back E w0 B Z0 gv s a w Z RV C q m k K := fun hw => ⟨s, RV, L, r, t, h, rfl, (Refs.refl ..).x, hf.skip, hw⟩
  have hfree : ∀ c, c ∈ l → ¬ Z c ∧ c < w.heap.size ∧ (B c ∨ w0.heap.size ≤ c) ∧ ∀ r i, c ∉ L r i := fun c hc => hf.1 c (List.mem_append.2 (.inl hc))
  have hnl : l.Nodup := (List.nodup_append.1 hf.2).1
  cases x with
  | c => exact skip hw
  | sl => exact skip hw
  | mp => exact skip hw
  | ptr => exact skip hw
  | hd rr i kk =>
    cases kk with
    | some kk =>
      have elem : (∀ ys, y ≠ .ptr ys) → wp C (if hasShd y then .fail else .get rr fun e => pickK (some kk) (getC e.r i (some kk)) fun z => match z with
          | .hole => setP rr i y (some kk) k
          | _ => .fail) s r t K → Back E w0 B Z0 gv s a w Z RV C q m k K := fun hp hw => by
        split at hw
        · exact hw.elim
        · rename_i hsh
          simp only [Bool.not_eq_true] at hsh
          simp only [wp_get, wp_pickK] at hw
          obtain ⟨e, he, z, hz, hw⟩ := hw
          have h2 : rOf s rr = e.r := by simp [rOf, he]
          rw [← h2] at hz
          have hlt := (List.getElem?_eq_some_iff.1 he).1
          cases z with
          | hole =>
            obtain ⟨-, r1, t1, hw⟩ := setP_eq hw
            have hV : elemV w (RV rr i) kk = some V := by
              cases hx with
              | sh hx => cases hx
              | hde hi hv => exact hv _ hz rfl
            obtain ⟨sz, n, cs, hroot, hk⟩ := getC_some hz
            have hi := (List.getElem?_eq_some_iff.1 hroot).1
            have hrc := h.inv.root rr i _ hroot
            simp only [RC] at hrc
            obtain ⟨b, cap, cur, e', l', e1, e2, h3, h4, h5, h6, h7, h8⟩ := hrc.sl_at hk
            obtain ⟨u, l1, lx, l3, hu, hl', hox, hset⟩ := h8.split hk
            have hlx : lx = [] := by cases hox; rfl
            subst hlx
            have huV : u = V := by
              rw [e1] at hV
              simp only [elemV, addrOf, Option.bind_some, add_off, cell_at h3] at hV
              have h9 := List.getElem?_take (l := cur.toList) (i := n * sz) (j := kk)
              rw [hu] at h9
              split at h9
              · rw [← h9] at hV; exact Option.some.inj hV
              · simp at h9
            subst huV
            have hset' := hset w noZ (fun _ h => h) (fun _ h => h.elim) (fun _ _ => rfl) y u l (hy.noShd hsh)
            have hvs : (cur.toList.take (n * sz)).set kk u = cur.toList.take (n * sz) := by
              refine List.ext_getElem? fun m => ?_
              by_cases hm : kk = m
              · subst hm
                rw [List.getElem?_set]
                have := (List.getElem?_eq_some_iff.1 hu).1
                simp only [if_true, this]
                exact hu.symm
              · rw [List.getElem?_set_ne hm]
            rw [hvs] at hset'
            have hnd := h.inv.nodup rr i
            have hLm : ∀ c, c ∈ L rr i ↔ c = b ∨ c ∈ l1 ∨ c ∈ l3 := fun c => by rw [e2, hl']; simp
            have hnd2 : (b :: (l1 ++ l ++ l3)).Nodup := by
              have hdis : ∀ c, c ∈ l → c ∉ L rr i := fun c hc => (hfree c hc).2.2.2 rr i
              rw [e2, hl', List.nodup_cons] at hnd
              simp only [List.append_nil] at hnd
              have hn13 := List.nodup_append.1 hnd.2
              refine List.nodup_cons.2 ⟨fun hc => ?_, List.nodup_append.2 ⟨List.nodup_append.2 ⟨hn13.1, hnl, fun x hx y hy e => hdis y hy ((hLm y).2 (.inr (.inl (e ▸ hx))))⟩, hn13.2.1, fun x hx y hy e => ?_⟩⟩
              · simp only [List.append_assoc, List.mem_append] at hc
                rcases hc with hc | hc | hc
                · exact hnd.1 (by simp [hc])
                · exact hdis b hc ((hLm b).2 (.inl rfl))
                · exact hnd.1 (by simp [hc])
              · rcases List.mem_append.1 hx with hx | hx
                · exact hn13.2.2 x hx y hy e
                · exact hdis x hx ((hLm x).2 (.inr (.inr (e ▸ hy))))
            obtain ⟨g1, g2⟩ := h.putE hlt hi (y := .sl false sz n (cs.set kk y)) (l := b :: (l1 ++ l ++ l3)) (by rw [e1]; exact Ow.sl h3 (by simpa using h4) h5 h6 h7 rfl hset') (by simp) hnd2
              (fun c hc => by
                simp only [List.mem_cons, List.append_assoc, List.mem_append] at hc
                rcases hc with hc | hc | hc | hc
                · exact .inl ((hLm c).2 (.inl hc))
                · exact .inl ((hLm c).2 (.inr (.inl hc)))
                · exact .inr (hfree c hc)
                · exact .inl ((hLm c).2 (.inr (.inr hc))))
              (fun k' x' hk' hh => by
                simp only [getC, List.getElem?_cons_zero] at hk'
                simp only [getC, hroot]
                by_cases hjk : kk = k'
                · subst hjk; exact ⟨.hole, hk, rfl⟩
                · rw [List.getElem?_set_ne hjk] at hk'
                  exact ⟨x', hk', hh⟩)
            refine ⟨_, _, _, r1, t1, by simp only [setC, hroot] at hw ⊢; exact g1, sOf_names hlt _, g2.x, hf.next fun r' i' c hc => ?_, by simpa only [setC, hroot] using hw⟩
            by_cases e : (r', i') = (rr, i)
            · obtain ⟨rfl, rfl⟩ := Prod.mk.inj e
              rw [upd2_same] at hc
              simp only [List.mem_cons, List.append_assoc, List.mem_append] at hc
              rcases hc with hc | hc | hc | hc
              · exact .inl ((hLm c).2 (.inl hc))
              · exact .inl ((hLm c).2 (.inr (.inl hc)))
              · exact .inr hc
              · exact .inl ((hLm c).2 (.inr (.inr hc)))
            · rw [upd2_ne _ _ e] at hc
              exact .inl hc
          | _ => exact hw.elim
      unfold bkC at hw
      cases y with
      | shd z => exact hw.elim
      | ptr ys => exact hw.elim
      | _ => exact elem (by simp) hw
    | none =>
      have hV : V = RV rr i ∧ i < (rOf s rr).length := by
        cases hx with
        | sh hx => cases hx
        | hd hlt => exact ⟨rfl, hlt⟩
      obtain ⟨rfl, hi⟩ := hV
      have hq0 : ∀ r' i', isAt rr i r' i' = true → q r' i' = true := fun r' i' e => by
        simp only [isAt, Bool.and_eq_true, beq_iff_eq] at e
        obtain ⟨rfl, rfl⟩ := e
        exact hq _ _ rfl
      unfold bkC at hw
      have flat : (∀ ys, y ≠ .ptr ys) → wp C (.all (noE (isAt rr i)) (.get rr fun e => .putR rr (e.r.set i y) k)) s r t K → Back E w0 B Z0 gv s a w Z RV C q m k K := fun hp hw => by
        simp only [wp_all, wp_get, wp_putR] at hw
        obtain ⟨hall, e, he, _, hw⟩ := hw
        have h2 : rOf s rr = e.r := by simp [rOf, he]
        rw [← h2] at hw
        have hlt := (List.getElem?_eq_some_iff.1 he).1
        obtain ⟨g1, g2⟩ := h.putX hlt hi (Ext.refl (fun _ => False) w) (by simp) hy hp hnl (fun c hc => .inr (hfree c hc)) (q := isAt rr i) (by simp [isAt]) hall
        exact ⟨_, _, _, _, _, g1, sOf_names hlt _, g2.weak hq0, hf.upd, hw⟩
      cases y with
      | shd z => exact skip hw
      | ptr ys =>
        simp only [wp_get, wp_putR] at hw
        obtain ⟨e, he, _, hw⟩ := hw
        have h2 : rOf s rr = e.r := by simp [rOf, he]
        rw [← h2] at hw
        have hlt := (List.getElem?_eq_some_iff.1 he).1
        generalize hVV : RV rr i = VV at hy
        cases hy with
        | ptr hh hc =>
          rename_i b cur e' l'
          obtain ⟨vs, ls, ho, hs⟩ := opens_sound hc rr (rOf s rr).length
          obtain ⟨RV', L', g1, g2, g3⟩ := h.giveN hlt hi (y := .ptr (openL rr (rOf s rr).length ys).1) (rs := (openL rr (rOf s rr).length ys).2) (vs := vs) (ls := ls) (ly := [b]) (l := l') ho.fl ho.ll ho.one
            (fun R RV' hfit hrf => ⟨⟨b, cur, e', hVV, rfl, hh, hs R RV' hfit⟩, ho.rc R RV' hfit⟩) (fun k x hk => by simp [getC] at hk) (by simpa using hnl) (fun c hc => hfree c (by simpa using hc))
          exact ⟨_, RV', L', _, _, g1, sOf_names hlt _, g2.x, hf.next g3, hw⟩
      | _ => exact flat (by simp) hw
  | _ => exact hw.elim
theorem RefsX.refl (q : Nat → Nat → Bool) (w : World) (R : Nat → List Cell) (RV : Nat → Nat → Value) : RefsX q w w R R RV RV := (Refs.refl ..).x
theorem RefsX.trans {q : Nat → Nat → Bool} {w w1 w2 : World} {R R1 R2 : Nat → List Cell} {RV RV1 RV2 : Nat → Nat → Value} (h : RefsX q w w1 R R1 RV RV1) (k : RefsX q w1 w2 R1 R2 RV1 RV2) : RefsX q w w2 R R2 RV RV2 :=
  ⟨fun r i hlt => ⟨(k.len r i (h.len r i hlt).1).1, (k.len r i (h.len r i hlt).1).2.trans (h.len r i hlt).2⟩, fun r i j x hq hlt hx hh => by
    obtain ⟨x1, h1, h2, h3⟩ := k.elem r i j x hq (h.len r i hlt).1 hx hh
    obtain ⟨x0, h4, h5, h6⟩ := h.elem r i j x1 hq hlt h1 h2
    rw [(h.len r i hlt).2] at h3
    exact ⟨x0, h4, h5, h3.trans h6⟩⟩
theorem go_sound {q : Nat → Nat → Bool} : ∀ {xs ys : List Cell} {vals : List Value} {s : List Ent} {RV : Nat → Nat → Value} {L : Nat → Nat → List Nat} {l m : List Nat} {k : AM α} {r t : List Nat}, At E w0 B Z0 gv s a w Z RV L → SCells w Z (rOf s) RV xs vals → Ows w Z ys vals l → Rest w0 B w Z L l m →
    noNL q xs = true → (∀ p, p ∈ rootsF xs → q p.1 p.2 = true) → wp C (bkL.go xs ys k) s r t K → Back E w0 B Z0 gv s a w Z RV C q m k K
  | _, _, _, s, RV, L, _, m, k, r, t, h, .nil, .nil _, hf, _, _, hw => ⟨s, RV, L, r, t, h, rfl, RefsX.refl .., hf.skip, hw⟩
  | x :: xs, _, _, s, RV, L, _, m, k, r, t, h, .cons hx hxs, .cons hy hys, hf, hn, hq, hw => by
    simp only [noNL, Bool.and_eq_true] at hn
    obtain ⟨s1, RV1, L1, r1, t1, g1, g2, g3, g4, hw⟩ := bkC_sound (q := q) h hx hy hf.assoc (fun r i e => by subst e; exact hq (r, i) (by simp [rootsF])) hw
    obtain ⟨s', RV', L', r', t', k1, k2, k3, k4, k5⟩ := go_sound g1 (hxs.monoX (fun _ h => h) (fun _ _ => rfl) g3 hn.2) hys g4 hn.2 (fun p hp => hq p (by unfold rootsF; split <;> simp_all)) hw
    exact ⟨s', RV', L', r', t', k1, k2.trans g2, g3.trans k3, k4, k5⟩
theorem bkL_sound {q : Nat → Nat → Bool} : ∀ {xs ys : List Cell} {vals : List Value} {s : List Ent} {RV : Nat → Nat → Value} {L : Nat → Nat → List Nat} {l m : List Nat} {k : AM α} {r t : List Nat}, At E w0 B Z0 gv s a w Z RV L → SCells w Z (rOf s) RV xs vals → Ows w Z ys vals l → Rest w0 B w Z L l m →
    noNL q xs = true → (∀ p, p ∈ rootsL xs → q p.1 p.2 = true) → wp C (bkL xs ys k) s r t K → Back E w0 B Z0 gv s a w Z RV C q m k K
  | _, _, _, s, RV, L, _, m, k, r, t, h, .nil, .nil _, hf, _, _, hw => ⟨s, RV, L, r, t, h, rfl, RefsX.refl .., hf.skip, hw⟩
  | x :: xs, y :: ys, _, s, RV, L, _, m, k, r, t, h, .cons hx hxs, .cons (l := l1) hy hys, hf, hn, hq, hw => by
    simp only [noNL, Bool.and_eq_true] at hn
    have hqs : ∀ p, p ∈ rootsL xs → q p.1 p.2 = true := fun p hp => hq p (by unfold rootsL; split <;> simp_all)
    have plain : wp C (bkC x y (bkL xs ys k)) s r t K → Back E w0 B Z0 gv s a w Z RV C q m k K := fun hw => by
      obtain ⟨s1, RV1, L1, r1, t1, g1, g2, g3, g4, hw⟩ := bkC_sound (q := q) h hx hy hf.assoc (fun r i e => by subst e; exact hq (r, i) (by simp [rootsL])) hw
      obtain ⟨s', RV', L', r', t', k1, k2, k3, k4, k5⟩ := bkL_sound g1 (hxs.monoX (fun _ h => h) (fun _ _ => rfl) g3 hn.2) hys g4 hn.2 hqs hw
      exact ⟨s', RV', L', r', t', k1, k2.trans g2, g3.trans k3, k4, k5⟩
    unfold bkL at hw
    split at hw
    · rename_i f caps f' zs
      have hc' : ∃ vs, SCells w Z (rOf s) RV caps vs ∧ Ows w Z zs vs l1 := by
        cases hy with
        | fn hzs =>
          generalize hVV : Value.func f' #[] (List.toArray _) = VV at hx
          cases hx with
          | sh hx => cases hx with | fn hx => cases hVV; exact ⟨_, .of_shs hx, hzs⟩
          | fn hc => cases hVV; exact ⟨_, hc, hzs⟩
      obtain ⟨vs, hcs, hzs⟩ := hc'
      obtain ⟨s1, RV1, L1, r1, t1, g1, g2, g3, g4, hw⟩ := go_sound (q := q) h hcs hzs hf.assoc (by simpa [noN] using hn.1) (fun p hp => hq p (by simp [rootsL, hp])) hw
      obtain ⟨s', RV', L', r', t', k1, k2, k3, k4, k5⟩ := bkL_sound g1 (hxs.monoX (fun _ h => h) (fun _ _ => rfl) g3 hn.2) hys g4 hn.2 hqs hw
      exact ⟨s', RV', L', r', t', k1, k2.trans g2, g3.trans k3, k4, k5⟩
    · exact plain hw
end
end Go.Den

/- Calls. -/
namespace Go.Den

section
variable {P : Program} {E : Env} {o : Oper} {w0 : World} {B Z0 : Nat → Prop} {gv : List Value} {s : List Ent} {a : Act} {w : World} {Z : Nat → Prop} {RV : Nat → Nat → Value}
  {L : Nat → Nat → List Nat} {C : FuncId → List Arg → Res → Prop} {α : Type} {K : α → List Ent → List Nat → List Nat → Prop}

theorem OutsRel.noShd {Z Z' : Nat → Prop} : ∀ {as : List Arg} {Vs : List Value} {os : List SV} {l : List Nat}, OutsRel w Z as Vs os l → os.any svShd = false → OutsRel w Z' as Vs os l
  | [], _, _, _, h, _ => h
  | a :: as, V :: Vs, os, l, h, hs => by
    unfold OutsRel at *
    split
    · rename_i hm
      rw [hm] at h
      obtain ⟨o, os', l1, l2, rfl, h1, h2, h3⟩ := h
      simp only [List.any_cons, Bool.or_eq_false_iff] at hs
      exact ⟨o, os', l1, l2, rfl, h1.noShd hs.1, h2.noShd hs.2, h3⟩
    · rename_i hm
      split at h
      · rename_i hm'; exact absurd hm' hm
      · exact h.noShd hs
  | _ :: _, [], _, _, h, _ => h.elim

theorem Slots.monoX {q : Nat → Nat → Bool} {w' : World} {Z' : Nat → Prop} {R R' : Nat → List Cell} {RV' : Nat → Nat → Value} (hz : ∀ b, Z b → Z' b) (hw : ∀ b, Z b → w'.heap[b]? = w.heap[b]?) (hr : RefsX q w w' R R' RV RV') :
    ∀ {vs : List SV} {Vs : List Value}, vs.all (noSV q) = true → Slots w Z R RV vs Vs → Slots w' Z' R' RV' vs Vs
  | [], [], _, _ => trivial
  | _ :: _, _ :: _, hn, ⟨h, t⟩ => by
    simp only [List.all_cons, Bool.and_eq_true] at hn
    exact ⟨h.monoX hz hw hr hn.1, Slots.monoX hz hw hr hn.2 t⟩
  | [], _ :: _, _, h => h.elim
  | _ :: _, [], _, h => h.elim
theorem back_sound {q : Nat → Nat → Bool} : ∀ {ms : List PM} {vs : List SV} {Vs : List Value} {as : List Arg} {os : List SV} {s : List Ent} {RV : Nat → Nat → Value} {L : Nat → Nat → List Nat} {l m : List Nat} {k : AM α} {r t : List Nat}, At E w0 B Z0 gv s a w Z RV L →
    Slots w Z (rOf s) RV vs Vs → Modes ms as → as.length = vs.length → OutsRel w Z as Vs os l → Rest w0 B w Z L l m → vs.all (noSV q) = true → (∀ p, p ∈ muRoots ms vs → q p.1 p.2 = true) → wp C (backAM ms vs os k) s r t K →
    Back E w0 B Z0 gv s a w Z RV C q m k K
  | _, [], [], [], os, s, RV, L, l, m, k, r, t, h, _, _, _, ho, hf, _, _, hw => by
    obtain ⟨rfl, rfl⟩ := ho
    exact ⟨s, RV, L, r, t, h, rfl, RefsX.refl .., hf, hw⟩
  | ms, v :: vs, V :: Vs, a' :: as, os, s, RV, L, l, m, k, r, t, h, ⟨hv, hvs⟩, ⟨hm, hms⟩, hlen, ho, hf, hn, hq, hw => by
    have hlen' : as.length = vs.length := by simpa using hlen
    simp only [List.all_cons, Bool.and_eq_true] at hn
    unfold backAM at hw
    unfold OutsRel at ho
    unfold muRoots at hq
    split at hw
    · rename_i e
      rw [e] at hm hq
      simp only at hm hq
      rw [hm] at ho
      obtain ⟨o', os', l1, l2, rfl, h1, h2, rfl⟩ := ho
      simp only at hw
      split at hw
      · rename_i hk
        have hok : svOk v = true := by cases v <;> simp_all [sameK, svOk]
        have hoo : Ows w Z (svCells o') (valsOf v V) l1 := by
          cases v with
          | one x =>
            cases o' with
            | one y => have := Ows.cons h1 (.nil Z); rw [List.append_nil] at this; exact this
            | _ => simp [sameK] at hk
          | agg xs =>
            cases o' with
            | agg ys => obtain ⟨us, rfl, h1⟩ := h1; exact h1
            | _ => simp [sameK] at hk
          | _ => simp [sameK] at hk
        have hnc : noNL q (svCells v) = true := by
          cases v with
          | one x => simpa [svCells, noNL, noSV] using hn.1
          | agg xs => simpa [svCells, noSV] using hn.1
          | _ => rfl
        obtain ⟨s1, RV1, L1, r1, t1, g1, g2, g3, g4, hw⟩ := bkL_sound (q := q) h (slot_valsOf hv hok) hoo hf.assoc hnc (fun p hp => hq p (List.mem_append.2 (.inl hp))) hw
        obtain ⟨s', RV', L', r', t', k1, k2, k3, k4, k5⟩ := back_sound (q := q) g1 (hvs.monoX (fun _ h => h) (fun _ _ => rfl) g3 hn.2) hms hlen' h2 g4 hn.2 (fun p hp => hq p (List.mem_append.2 (.inr hp))) hw
        exact ⟨s', RV', L', r', t', k1, k2.trans g2, g3.trans k3, k4, k5⟩
      · exact hw.elim
    · rename_i e
      have hne : a'.m ≠ .mu := by
        rw [hm]
        split
        · simp
        · simp
        · exact e
      split at ho
      · rename_i e'; exact absurd e' hne
      · refine back_sound h hvs hms hlen' ho hf hn.2 (fun p hp => hq p ?_) hw
        split
        · rename_i e'; exact absurd e' e
        · exact hp

theorem goes_wp {f : FuncId} {vs : Array Value} {R : Value → World → Prop} {next : Act → World → Prop} {Q : Exit → Act → World → Prop} (h : Goes P f vs w R) (hr : (execOp a.eval o).run P w = (callFunc f vs).run P w)
    (hn : ∀ v w', R v w' → next (a.put o.dst v) w') : o.wp P a w next Q := by
  unfold Oper.wp
  rw [hr]
  unfold Goes at h
  split at h
  · rename_i f' vs' w' he
    rw [he]
    refine Calls.mono h fun e w'' he' => ?_
    cases e with
    | returned v => exact hn v w'' he'
    | _ => exact he'.elim
  · rename_i v w' he
    rw [he]
    exact hn v w' h
  · exact h.elim

theorem slots_length {R : Nat → List Cell} : ∀ {vs : List SV} {Vs : List Value}, Slots w Z R RV vs Vs → vs.length = Vs.length
  | [], [], _ => rfl
  | _ :: _, _ :: _, ⟨_, t⟩ => by simp [slots_length t]
theorem args_length : ∀ {as : List Arg} {Vs : List Value} {l : List Nat}, ArgsRel w Z as Vs l → as.length = Vs.length
  | [], [], _, _ => rfl
  | _ :: _, _ :: _, _, ⟨_, _, _, t, _⟩ => by simp [args_length t]
  | [], _ :: _, _, h => h.elim
  | _ :: _, [], _, h => h.elim

theorem ok_callAM {g : FuncId} {vs : List SV} {Vs : List Value} (hd : o.dst.getD 0 < E.n) {r t : List Nat} {K : Unit → List Ent → List Nat → List Nat → Prop} {Q : Exit → Act → World → Prop} (h : At E w0 B Z0 gv s a w Z RV L) (hvs : Slots w Z (rOf s) RV vs Vs)
    (hr : (execOp a.eval o).run P w = (callFunc g Vs.toArray).run P w) (hw : wp (Ret P E.G) (callAM E o.dst g vs) s r t K) :
    o.wp P a w (fun a' w' => ∃ s' r' t' Z' RV' L', K () s' r' t' ∧ At E w0 B Z0 gv s' a' w' Z' RV' L') Q := by
  unfold callAM at hw
  obtain ⟨ps, l, s1, L1, r1, t1, g1, g2, g3, g4, g5, hw⟩ := pkArgs_sound h hvs hw
  have hvs1 := hvs.mono (fun _ h => h) (fun _ _ => rfl) g3
  obtain ⟨as, s2, Z2, L2, r2, t2, k1, k2, k3, k4, k5, hw⟩ := rdArgs_sound g1 hvs1 g5 hw
  have hvs2 := hvs1.mono k2.zsub (fun _ _ => rfl) k2.refs
  obtain ⟨res, hret, hw⟩ := hw
  have hfree : Free w0 B w Z2 L2 l := fun b hb => by
    have := g4.free h b hb
    refine ⟨fun hz => ?_, this.2.1, this.2.2.1, fun r i hb' => g4.gone b hb r i (k2.lsub r i b hb')⟩
    rcases k2.zin b hz with hz | ⟨r, i, hz⟩
    · exact this.1 hz
    · exact g4.gone b hb r i hz
  simp only at hw
  split at hw
  · exact hw.elim
  rename_i hsh
  split at hw
  · exact hw.elim
  · rename_i hno
    simp only [Bool.not_eq_true', Bool.not_eq_false, Bool.or_eq_true] at hno
    replace hno : vs.all (noSV (inL (muRoots (E.sig g) vs))) = true := by
      refine hno.elim (fun h => ?_) id
      rw [List.isEmpty_iff.1 h]
      exact List.all_eq_true.2 fun v _ => noSV_none v
    -- what is shared in the call, and behind it
    have key : ∀ (Zc : Nat → Prop), (∀ b, Z2 b → Zc b) → (∀ b, Zc b → ZA Z2 L2 b) → ArgsRel w Zc as Vs l →
        (∀ w' Z' v lr lo, (∀ b, Z' b → Zc b ∨ (b < w'.heap.size ∧ (b ∈ l ∨ w.heap.size ≤ b))) → (∀ b, Zc b → Z' b) → OwSV w' Z' res.v v lr → OutsRel w' Z' as Vs res.outs lo →
          ∃ Zf : Nat → Prop, (∀ b, Z2 b → Zf b) ∧ (∀ b, Zf b → Z' b) ∧ (∀ b, Zf b → Z2 b ∨ (b < w'.heap.size ∧ (b ∈ l ∨ w.heap.size ≤ b))) ∧ OwSV w' Zf res.v v lr ∧ OutsRel w' Zf as Vs res.outs lo) →
        o.wp P a w (fun a' w' => ∃ s' r' t' Z' RV' L', K () s' r' t' ∧ At E w0 B Z0 gv s' a' w' Z' RV' L') Q := by
      intro Zc hz1 hz2 hargs hfin
      have hcall := hret w Zc Vs l (fun g' vs' hg => ⟨hz1 _ (k1.inv.glob g' vs' hg).1, (k1.inv.glob g' vs' hg).2⟩)
        (fun b hb => by
          rcases hz2 b hb with hb | ⟨r, i, hb⟩
          · exact k1.inv.zlt b hb
          · exact (k1.inv.own r i b hb).2.1) hargs g4.nodup
        (fun b hb => ⟨fun hz => by
          rcases hz2 b hz with hz | ⟨r, i, hz⟩
          · exact (hfree b hb).1 hz
          · exact (hfree b hb).2.2.2 r i hz, (hfree b hb).2.1⟩)
      refine goes_wp hcall hr fun v w' hR => ?_
      obtain ⟨Z', lr, lo, hext, hzz, hzz', hv, ho, hnd, hown⟩ := hR
      obtain ⟨Zf, f1, f2, f3, f4, f5⟩ := hfin w' Z' v lr lo hzz' hzz hv ho
      have hin : ∀ b, (b ∈ l ∨ w.heap.size ≤ b) → (B b ∨ w0.heap.size ≤ b) ∧ ∀ r i, b ∉ L2 r i := fun b hb => by
        rcases hb with hb | hb
        · exact ⟨(hfree b hb).2.2.1, (hfree b hb).2.2.2⟩
        · exact ⟨.inr (Nat.le_trans k1.inv.ext.size hb), fun r i hb' => by have := (k1.inv.own r i b hb').2.1; omega⟩
      have hat : At E w0 B Z0 gv s2 a w' Zf RV L2 := k1.move hext (fun b hb => ⟨(hfree b hb).1, (hfree b hb).2.2.1, (hfree b hb).2.2.2⟩) f1 fun b hb => (f3 b hb).imp id fun hb => ⟨hb.1, (hin b hb.2).1, (hin b hb.2).2⟩
      have hw2 : ∀ b, Z2 b → w'.heap[b]? = w.heap[b]? := fun b hb => hext.keep b (k1.inv.zlt b hb) fun hb' => (hfree b hb').1 hb
      have hrf : Refs w w' (rOf s2) (rOf s2) RV RV := by
        refine ⟨fun r i hi => ⟨hi, rfl⟩, fun r i k x hi hx hh => ⟨x, hx, hh, ?_⟩⟩
        obtain ⟨sz, n, cs, hroot, hkk⟩ := getC_some hx
        have hrc := k1.inv.root r i _ hroot
        simp only [RC] at hrc
        obtain ⟨b, cap, cur, e, l', e1, e2, -⟩ := hrc.sl_at hkk
        have hb : b ∈ L2 r i := by rw [e2]; simp
        rw [e1]
        exact elemV_keep (hext.keep b (k1.inv.own r i b hb).2.1 fun hb' => (hfree b hb').2.2.2 r i hb)
      have hvs3 := hvs2.mono f1 hw2 hrf
      have hrest : Rest w0 B w' Zf L2 lo lr := by
        refine ⟨fun b hb => ?_, ?_⟩
        · have := hown b (by simp only [List.mem_append] at hb ⊢; exact hb.symm)
          exact ⟨fun hz => this.1 (f2 b hz), this.2.1, (hin b this.2.2).1, (hin b this.2.2).2⟩
        · exact (List.perm_append_comm.nodup_iff).1 hnd
      obtain ⟨s3, RV3, L3, r3, t3, m1, m2, m3, m4, hw⟩ := back_sound hat hvs3 k5 (by rw [args_length k3, slots_length hvs]) f5 hrest hno (fun p hp => by simp only [inL, List.any_eq_true, Bool.and_eq_true, beq_iff_eq]; exact ⟨p, hp, rfl, rfl⟩) hw
      obtain ⟨s', r', t', RV', L', hk, h'⟩ := setR_sound hw m1 hd f4 (List.nodup_append.1 hnd).1 (by simpa using m4.1)
      exact ⟨s', r', t', _, _, _, hk, h'⟩
    by_cases hs : (svShd res.v || res.outs.any svShd) = true
    · simp only [hs, Bool.true_and, Bool.not_eq_true', Bool.not_eq_false] at hsh
      refine key Z2 (fun _ h => h) (fun _ h => .inl h) (k4 hsh) fun w' Z' v lr lo h1 h2 h3 h4 => ⟨Z', h2, fun _ h => h, h1, h3, h4⟩
    · simp only [Bool.not_eq_true, Bool.or_eq_false_iff] at hs
      exact key (ZA Z2 L2) (fun _ h => .inl h) (fun _ h => h) k3 fun w' Z' v lr lo h1 h2 h3 h4 => ⟨Z2, fun _ h => h, fun b hb => h2 b (.inl hb), fun b hb => .inl hb, h3.noShd hs.1, h4.noShd hs.2⟩

theorem ok_callV {c : Call} {f : Operand} (ho : o.op = .call c) (hcc : c.callee = .value f) : OpOK P E o := by
  intro w0 B Z0 gv s a w Z RV L r t K Q hd h hw
  simp only [astep, ho, hcc] at hw
  obtain ⟨gc, r1, hg, hw1⟩ := opC_sound hw h
  clear hw
  cases gc with
  | fn fn caps =>
    cases fn with
    | func g =>
      have hV : ∃ cvs, a.eval f = .func (.func g) #[] cvs.toArray ∧ SCells w Z (rOf s) RV caps cvs := by
        generalize a.eval f = V at hg
        cases hg with
        | sh hx => cases hx with | fn hx => exact ⟨_, rfl, .of_shs hx⟩
        | fn hc => exact ⟨_, rfl, hc⟩
      obtain ⟨cvs, hV, hcs⟩ := hV
      obtain ⟨vs, r2, hvs, hw⟩ := opds_sound h hw1
      refine ok_callAM (g := g) hd h (hvs.append (Slots.ones hcs)) ?_ hw
      obtain ⟨dst, op, type, pos, after, guard⟩ := o
      obtain ⟨callee, args, ats⟩ := c
      simp only at ho hcc
      subst ho hcc
      simp only [execOp, resolve, hV, Deferred.ofValue, Sem.run_bind, Sem.run_pure, Result.andThen_ok, invoke]
      congr 2
      apply Array.ext'
      simp
    | _ => exact hw1.elim
  | _ => exact hw1.elim
end
end Go.Den

/- All operations; guards; regions in the text's order. -/
namespace Go.Den

section
variable {P : Program} {E : Env}
theorem ok_step (hT : TabOK P E.T) (o : Oper) : OpOK P E o := by
  have no : (∀ s r t K, ¬ wp (Ret P E.G) (astep E o) s r t K) → OpOK P E o := fun hn w0 B Z0 gv s a w Z RV L r t K Q hd h hw => absurd hw (hn s r t K)
  cases ho : o.op with
  | move x => exact ok_move ho
  | assign x => exact ok_assign ho
  | pick c x y => exact ok_pick ho
  | alloc t => exact ok_alloc hT ho
  | box t x => exact ok_box ho
  | build t ps => exact ok_build hT ho
  | buildSlice t n ps => exact ok_buildSlice hT ho
  | load t x => exact ok_load hT ho
  | store t x y => exact ok_store hT ho
  | nilCheck x => exact ok_nilCheck ho
  | binOp op t x y t' => exact ok_binOp hT ho
  | unOp op t x => exact ok_unOp ho
  | convert t t' x => exact ok_convert hT ho
  | makeFunc f first caps => exact ok_makeFunc ho
  | makeMap t r =>
    cases r with
    | none => exact ok_makeMap ho
    | some _ => exact no fun s r t K hw => by simp only [astep, ho] at hw; exact hw
  | makeSlice t x y => exact ok_makeSlice hT ho
  | slice t x lo hi mx =>
    cases mx with
    | none => exact ok_slice hT ho
    | some _ => exact no fun s r t K hw => by simp only [astep, ho] at hw; exact hw
  | fieldAddr t x f => exact ok_fieldAddr hT ho
  | field t x f => exact ok_field hT ho
  | indexAddr t x y => exact ok_indexAddr hT ho
  | index t x y => exact ok_index hT ho
  | lookup t m k ok => exact ok_lookup hT ho
  | mapUpdate t m k x => exact ok_mapUpdate hT ho
  | insert t m k x => exact ok_insert hT ho
  | extract x i => exact ok_extract ho
  | call c =>
    cases hc : c.callee with
    | value f => exact ok_callV ho hc
    | invoke r m => exact no fun s r t K hw => by simp only [astep, ho, hc] at hw; exact hw
    | builtin b =>
      cases b with
      | len => exact ok_len hT ho hc
      | cap => exact ok_cap hT ho hc
      | append => exact ok_append hT ho hc
      | min => exact ok_min ho hc
      | max => exact ok_max ho hc
      | _ => exact no fun s r t K hw => by simp only [astep, ho, hc] at hw; exact hw
  | _ => exact no fun s r t K hw => by simp only [astep, ho] at hw; exact hw

theorem run_wp {C : FuncId → List Arg → Res → Prop} {α : Type} : ∀ {m : AM α} {s : List Ent} {r' t' : List Nat} {x : α} {s' : List Ent}, Run C m s r' t' x s' →
    ∀ (r t : List Nat) (K : α → List Ent → List Nat → List Nat → Prop), (∀ r t, K x s' r t) → wp C m s r t K
  | .ret a, _, _, _, _, _, ⟨_, _, hx, h⟩, r, t, K, hk => by subst hx h; exact hk r t
  | .get i k, s, _, t', x, s', ⟨e, r', he, _, h⟩, r, t, K, hk => by
    simp only [wp, he]
    exact run_wp h _ _ K hk
  | .put i e k, s, _, _, x, s', ⟨e0, r', t', hi, _, _, h⟩, r, t, K, hk => by
    simp only [wp, hi]
    exact run_wp h _ _ K hk
  | .getS i k, s, _, t', x, s', ⟨e, r', he, _, h⟩, r, t, K, hk => by
    simp only [wp, he]
    exact run_wp h _ _ K hk
  | .putR i rs k, s, _, _, x, s', ⟨e0, r', t', hi, _, _, h⟩, r, t, K, hk => by
    simp only [wp, hi]
    exact run_wp h _ _ K hk
  | .test p k, s, _, _, x, s', ⟨hp, h⟩, r, t, K, hk => ⟨hp, run_wp h _ _ K hk⟩
  | .ite true m n, s, _, _, x, s', h, r, t, K, hk => .t (run_wp (m := m) h _ _ K hk)
  | .ite false m n, s, _, _, x, s', h, r, t, K, hk => .f (run_wp (m := n) h _ _ K hk)
  | .pick o k, s, _, _, x, s', ⟨c, hc, h⟩, r, t, K, hk => by subst hc; exact run_wp h _ _ K hk
  | .picks o n k, s, _, _, x, s', ⟨c, hc, h⟩, r, t, K, hk => ⟨c, hc, run_wp h _ _ K hk⟩
  | .str cs k, s, _, _, x, s', ⟨c, hc, h⟩, r, t, K, hk => ⟨c, hc, run_wp h _ _ K hk⟩
  | .opt (some c) k n, s, _, _, x, s', h, r, t, K, hk => ⟨_, rfl, .s (run_wp (m := k c) h _ _ K hk)⟩
  | .opt none k n, s, _, _, x, s', h, r, t, K, hk => ⟨_, rfl, .n (run_wp (m := n) h _ _ K hk)⟩
  | .call f as k, s, _, _, x, s', ⟨c, hc, h⟩, r, t, K, hk => ⟨c, hc, run_wp h _ _ K hk⟩
  | .all p k, s, _, _, x, s', ⟨r', hp, _, h⟩, r, t, K, hk => ⟨hp, run_wp h _ _ K hk⟩
  | .fail, _, _, _, _, _, h, _, _, _, _ => h.elim

variable {w0 : World} {B Z0 : Nat → Prop} {gv : List Value} {s : List Ent} {a : Act} {w : World} {Z : Nat → Prop} {RV : Nat → Nat → Value} {L : Nat → Nat → List Nat}
theorem put_same {a : Act} {T : Nat} (h : T < a.tmps.size) : a.put (some T) (a.tmps.getD T undef) = a := by
  unfold Act.put
  have : a.tmps.setIfInBounds T (a.tmps.getD T undef) = a.tmps := by
    refine Array.ext (by simp) fun i h1 h2 => ?_
    rw [Array.getElem_setIfInBounds h2]
    split
    · rename_i e; subst e; simp [h2]
    · rfl
  simp only [this]
theorem takeT_sound {C : FuncId → List Arg → Res → Prop} {T : Nat} (hT : T < E.n) {m : AM Unit} {r t : List Nat} {K : Unit → List Ent → List Nat → List Nat → Prop} (hw : wp C (takeT T m) s r t K) (h : At E w0 B Z0 gv s a w Z RV L) :
    ∃ s' r' t' RV' L', wp C m s' r' t' K ∧ At E w0 B Z0 gv s' a w Z RV' L' := by
  unfold takeT at hw
  rw [wp_getS] at hw
  obtain ⟨e, he, hw⟩ := hw
  split at hw
  · rename_i rr i k hes
    have hsl := h.inv.slot T
    simp only [sOf, he, Option.getD_some, tvOf, h.n, hT, if_true, hes] at hsl
    obtain ⟨y, l, s', L', r2, t2, h', -, -, htk, how, hw⟩ := (pk_sound 12).1 h hsl hw
    have hw' : wp C (setR (some T) (.one y)) s' r2 t2 (fun _ s r t => wp C m s r t K) := by
      simp only [setR]
      rw [wp_get] at hw ⊢
      obtain ⟨e', he', hw⟩ := hw
      refine ⟨e', he', ?_⟩
      split at hw
      · rename_i hr
        try rw [hr]
        try simp only
        rw [wp_put] at hw ⊢
        exact hw
      · exact hw.elim
    obtain ⟨s'', r3, t3, RV', L'', hk, h''⟩ := setR_sound hw' h' (d := some T) (v := .one y) hT how htk.nodup (htk.free0 h)
    rw [put_same (by rw [h.n]; exact hT)] at h''
    exact ⟨s'', r3, t3, RV', L'', hk, h''⟩
  · rename_i xs hes
    have hsl := h.inv.slot T
    simp only [sOf, he, Option.getD_some, tvOf, h.n, hT, if_true, hes] at hsl
    obtain ⟨us, hV, hcs⟩ := hsl
    obtain ⟨ys, l, s', L', r2, t2, h', -, -, htk, how, hw⟩ := (pk_sound 12).2 h hcs hw
    have hw' : wp C (setR (some T) (.agg ys)) s' r2 t2 (fun _ s r t => wp C m s r t K) := by
      simp only [setR]
      rw [wp_get] at hw ⊢
      obtain ⟨e', he', hw⟩ := hw
      refine ⟨e', he', ?_⟩
      split at hw
      · rename_i hr
        try rw [hr]
        try simp only
        rw [wp_put] at hw ⊢
        exact hw
      · exact hw.elim
    obtain ⟨s'', r3, t3, RV', L'', hk, h''⟩ := setR_sound hw' h' (d := some T) (v := .agg ys) hT ⟨us, hV, how⟩ htk.nodup (htk.free0 h)
    rw [put_same (by rw [h.n]; exact hT)] at h''
    exact ⟨s'', r3, t3, RV', L'', hk, h''⟩
  · exact hw.elim
theorem dropT_sound {C : FuncId → List Arg → Res → Prop} {T : Nat} (hT : T < E.n) {m : AM Unit} {r t : List Nat} {K : Unit → List Ent → List Nat → List Nat → Prop} (hw : wp C (dropT T m) s r t K) (h : At E w0 B Z0 gv s a w Z RV L) :
    ∃ s' r' t' RV' L', wp C m s' r' t' K ∧ At E w0 B Z0 gv s' a w Z RV' L' := by
  unfold dropT at hw
  rw [wp_get] at hw
  obtain ⟨e, he, hw⟩ := hw
  rw [wp_put] at hw
  have h' := h.put he hT (v := .dead) (V := a.tmps.getD T undef) trivial
  rw [put_same (by rw [h.n]; exact hT)] at h'
  exact ⟨_, _, _, _, _, hw.2, h'⟩
theorem preAM_sound {C : FuncId → List Arg → Res → Prop} {o : Oper} {m : AM Unit} {r t : List Nat} {K : Unit → List Ent → List Nat → List Nat → Prop} (hw : wp C (preAM E o m) s r t K) (h : At E w0 B Z0 gv s a w Z RV L) :
    ∃ s' r' t' RV' L', wp C m s' r' t' K ∧ At E w0 B Z0 gv s' a w Z RV' L' := by
  unfold preAM at hw
  split at hw
  · split at hw
    · rename_i hT
      exact takeT_sound hT hw h
    · exact hw.elim
  · split at hw
    · split at hw
      · rename_i hT
        exact dropT_sound hT hw h
      · exact hw.elim
    · exact ⟨s, r, t, RV, L, hw, h⟩
/-- An operation of a region. -/
theorem opAM_sound (hT : TabOK P E.T) {ops : Array Oper} {i : Nat} {o : Oper} (ho : ops[i]? = some o) {Q : Exit → Act → World → Prop} {r t : List Nat} {K : Unit → List Ent → List Nat → List Nat → Prop} (h : At E w0 B Z0 gv s a w Z RV L)
    (hw : wp (Ret P E.G) (opAM E ops o) s r t K) :
    wpOp P ops Q i (fun a' w' => ∃ s' r' t' Z' RV' L', K () s' r' t' ∧ At E w0 B Z0 gv s' a' w' Z' RV' L') a w := by
  unfold wpOp
  rw [ho]
  simp only
  unfold opAM at hw
  split at hw
  · rename_i hd
    cases hg : o.guard with
    | none =>
      rw [hg] at hw
      simp only [Region.wanted, hg, if_true]
      obtain ⟨s1, r1, t1, RV1, L1, hw1, h1⟩ := preAM_sound hw h
      exact .inl (ok_step hT o _ _ _ _ _ _ _ _ _ _ _ _ _ _ hd h1 hw1)
    | some p =>
      obtain ⟨j, want⟩ := p
      rw [hg] at hw
      simp only at hw
      cases hdst : (ops[j]?).bind (·.dst) with
      | none => rw [hdst] at hw; exact hw.elim
      | some tt =>
        rw [hdst] at hw
        simp only at hw
        split at hw
        · rename_i htt
          rw [wp_get] at hw
          obtain ⟨e, he, hw⟩ := hw
          have hsl := h.inv.slot tt
          simp only [sOf, he, Option.getD_some, tvOf, h.n, htt, if_true] at hsl
          have hsz : tt < a.tmps.size := by rw [h.n]; exact htt
          have hget : a.tmps[tt]? = some (a.tmps.getD tt undef) := by simp [hsz]
          have skip : wp (Ret P E.G) (setD o.dst (.one (.c undef))) s (3 * tt :: r) t K → ∃ s' r' t' Z' RV' L', K () s' r' t' ∧ At E w0 B Z0 gv s' (a.put o.dst undef) w Z' RV' L' := fun hw => by
            obtain ⟨s', r', t', hk, h'⟩ := setD_sound hw h hd (V := undef) (.c _)
            exact ⟨s', r', t', _, _, _, hk, h'⟩
          cases hes : e.s with
          | one c =>
            rw [hes] at hw hsl
            cases c with
            | c v =>
              have hv := scell_c hsl
              cases v with
              | bool b =>
                have hy : yielded ops a.tmps j = some b := by simp [yielded, hdst, hget, hv]
                simp only [Region.wanted, hg, hy]
                cases want with
                | true =>
                  simp only [wp_ite] at hw
                  cases b with
                  | true => exact .inl (ok_step hT o _ _ _ _ _ _ _ _ _ _ _ _ _ _ hd h (hw.1 rfl))
                  | false => exact skip (hw.2 rfl)
                | false =>
                  simp only [wp_ite] at hw
                  cases b with
                  | true => exact skip (hw.1 rfl)
                  | false => exact .inl (ok_step hT o _ _ _ _ _ _ _ _ _ _ _ _ _ _ hd h (hw.2 rfl))
              | tuple vs =>
                have hy : yielded ops a.tmps j = none := by simp [yielded, hdst, hget, hv]
                simp only [Region.wanted, hg, hy]
                have hne : ((none : Option Bool) == some want) = false := rfl
                simp only [hne, Bool.false_eq_true, if_false]
                exact skip hw
              | _ => exact hw.elim
            | _ => exact hw.elim
          | _ => rw [hes] at hw; exact hw.elim
        · exact hw.elim
  · exact hw.elim

/-- A region in the text's order. -/
theorem wpOps_sound (hT : TabOK P E.T) {ops : Array Oper} {Q : Exit → Act → World → Prop} : ∀ (os : List Oper) (i : Nat) {s : List Ent} {a : Act} {w : World} {Z : Nat → Prop} {RV : Nat → Nat → Value} {L : Nat → Nat → List Nat} {l : List (List Nat × List Nat)} {K : List Ent → List (List Nat × List Nat) → Prop},
    os = ops.toList.drop i → At E w0 B Z0 gv s a w Z RV L → Den.wpOps E (Ret P E.G) ops os s l K →
    (∀ s' l' a' w' Z' RV' L', K s' l' → At E w0 B Z0 gv s' a' w' Z' RV' L' → Q .normal a' w') → Go.wpOps P ops Q (List.range' i os.length) a w
  | [], i, s, a, w, Z, RV, L, l, K, _, h, hw, hq => hq _ _ _ _ _ _ _ hw h
  | o :: os, i, s, a, w, Z, RV, L, l, K, hos, h, hw, hq => by
    have ho : ops[i]? = some o := by
      have : (ops.toList.drop i)[0]? = some o := by rw [← hos]; rfl
      simpa using this
    have hrest : os = ops.toList.drop (i + 1) := by
      have : os = (ops.toList.drop i).tail := by rw [← hos]; rfl
      rw [this, List.tail_drop]
    rw [List.length_cons, List.range'_succ, wpOps_cons]
    simp only [Den.wpOps] at hw
    refine wpOp_mono (fun a' w' hk => ?_) (opAM_sound hT ho h hw)
    obtain ⟨s', r', t', Z', RV', L', ⟨_, rfl, hk⟩, h'⟩ := hk
    exact wpOps_sound hT os (i + 1) hrest h' hk hq
end
end Go.Den

/- Regions in any order. -/
namespace Go.Den

theorem mask_go (l : List Nat) : ∀ (m i : Nat), (l.foldl (fun m i => m ||| 2 ^ i) m).testBit i = (m.testBit i || decide (i ∈ l)) := by
  induction l with
  | nil => intro m i; simp
  | cons x l ih =>
    intro m i
    rw [List.foldl_cons, ih, Nat.testBit_or, Nat.testBit_two_pow]
    by_cases h : x = i
    · subst h; simp
    · have : ¬ i = x := fun e => h e.symm
      simp [h, this]
theorem mask_bit (l : List Nat) (i : Nat) : (mask l).testBit i = decide (i ∈ l) := by
  unfold mask; rw [mask_go]; simp
theorem and_ne {a b i : Nat} (h1 : a.testBit i = true) (h2 : b.testBit i = true) : (a &&& b != 0) = true := by
  rw [bne_iff_ne]
  intro e
  have := congrArg (fun n => n.testBit i) e
  simp [h1, h2] at this
/-- Two operations meet in an entry. -/
def Meet (a b : List Nat × List Nat) (e : Nat) : Prop := (e ∈ a.2 ∧ (e ∈ b.1 ∨ e ∈ b.2)) ∨ (e ∈ a.1 ∧ e ∈ b.2)
theorem meets_of {a b : List Nat × List Nat} {e : Nat} (h : Meet a b e) : meets (mask a.1, mask a.2) (mask b.1, mask b.2) = true := by
  unfold meets
  rw [Bool.or_eq_true]
  rcases h with ⟨h1, h2⟩ | ⟨h1, h2⟩
  · refine .inl (and_ne (i := e) (by rw [mask_bit]; simpa using h1) ?_)
    rw [Nat.testBit_or, mask_bit, mask_bit]
    simpa using h2
  · exact .inr (and_ne (i := e) (by rw [mask_bit]; simpa using h1) (by rw [mask_bit]; simpa using h2))
theorem clash_spec {x : Nat × Nat} {b : Nat} : ∀ {ys : List (Nat × Nat)} {i : Nat}, clash x b i ys = true → ∀ {j : Nat} {y : Nat × Nat}, ys[j]? = some y → meets y x = true → b.testBit (i + j) = true
  | [], i, _, j, y, hy, _ => by simp at hy
  | z :: ys, i, h, j, y, hy, hm => by
    simp only [clash, Bool.and_eq_true] at h
    cases j with
    | zero =>
      simp at hy
      subst hy
      simpa [hm] using h.1
    | succ j =>
      have := clash_spec h.2 (j := j) (by simpa using hy) hm
      rwa [show i + 1 + j = i + (j + 1) by omega] at this
theorem apart_spec : ∀ {xs done : List (Nat × Nat)} {bs : List Nat}, apart done xs bs = true → ∀ {i : Nat} {x : Nat × Nat}, xs[i]? = some x → ∃ b, bs[i]? = some b ∧ ∀ {j : Nat} {y : Nat × Nat}, (done ++ xs)[j]? = some y → j < done.length + i → meets y x = true → b.testBit j = true
  | [], done, bs, _, i, x, hx => by simp at hx
  | z :: xs, done, [], h, i, x, hx => by simp [apart] at h
  | z :: xs, done, b :: bs, h, i, x, hx => by
    simp only [apart, Bool.and_eq_true] at h
    cases i with
    | zero =>
      simp at hx
      subst hx
      refine ⟨b, rfl, fun {j y} hj hlt hm => ?_⟩
      have := clash_spec h.1 (j := j) (y := y) (by rwa [List.getElem?_append_left (by omega)] at hj) hm
      simpa using this
    | succ i =>
      obtain ⟨b', h1, h2⟩ := apart_spec h.2 (i := i) (by simpa using hx)
      refine ⟨b', by simpa using h1, fun {j y} hj hlt hm => h2 (y := y) (by simpa using hj) (by simp; omega) hm⟩

/-! ### What stands before -/
theorem bef_pre : ∀ (os : List Oper) (acc : List Nat), ∃ x, bef os acc = acc ++ x
  | [], acc => ⟨[], by simp [bef]⟩
  | o :: os, acc => by
    obtain ⟨x, hx⟩ := bef_pre os (acc ++ [o.after.toList.foldl (fun s e => if Region.binds .any e then s ||| 2 ^ e.on ||| acc.getD e.on 0 else s) 0])
    exact ⟨_, by rw [bef, hx, List.append_assoc]⟩
theorem bef_get : ∀ (os : List Oper) (acc : List Nat) (i : Nat) (o : Oper), os[i]? = some o →
    (bef os acc)[acc.length + i]? = some (o.after.toList.foldl (fun s e => if Region.binds .any e then s ||| 2 ^ e.on ||| ((bef os acc).take (acc.length + i)).getD e.on 0 else s) 0)
  | [], acc, i, o, h => by simp at h
  | x :: os, acc, 0, o, h => by
    simp at h
    subst h
    obtain ⟨y, hy⟩ := bef_pre os (acc ++ [x.after.toList.foldl (fun s e => if Region.binds .any e then s ||| 2 ^ e.on ||| acc.getD e.on 0 else s) 0])
    rw [bef, hy]
    simp
  | x :: os, acc, i + 1, o, h => by
    have := bef_get os (acc ++ [x.after.toList.foldl (fun s e => if Region.binds .any e then s ||| 2 ^ e.on ||| acc.getD e.on 0 else s) 0]) i o (by simpa using h)
    rw [List.length_append, List.length_singleton, show acc.length + 1 + i = acc.length + (i + 1) by omega] at this
    exact this
theorem fold_bits (g : Nat → Nat) (k : Nat) : ∀ (es : List Edge) (m : Nat), (es.foldl (fun s e => if Region.binds .any e then s ||| 2 ^ e.on ||| g e.on else s) m).testBit k = true →
    m.testBit k = true ∨ ∃ e ∈ es, Region.binds .any e = true ∧ (k = e.on ∨ (g e.on).testBit k = true)
  | [], m, h => .inl h
  | e :: es, m, h => by
    rw [List.foldl_cons] at h
    rcases fold_bits g k es _ h with h | ⟨e', h1, h2⟩
    · split at h
      · rename_i hb
        rw [Nat.testBit_or, Nat.testBit_or, Nat.testBit_two_pow] at h
        simp only [Bool.or_eq_true, decide_eq_true_eq] at h
        rcases h with (h | h) | h
        · exact .inl h
        · exact .inr ⟨e, by simp, hb, .inl h.symm⟩
        · exact .inr ⟨e, by simp, hb, .inr h⟩
      · exact .inl h
    · exact .inr ⟨e', by simp [h1], h2⟩
/-- What stands before an operation whose edges lead into S is in S, if S is closed. -/
theorem bef_in {os : List Oper} {S : Nat → Prop} (hS : ∀ i o, S i → os[i]? = some o → ∀ e ∈ o.after.toList, Region.binds .any e = true → S e.on) :
    ∀ (i : Nat) (o : Oper), os[i]? = some o → (∀ e ∈ o.after.toList, Region.binds .any e = true → S e.on) → ∀ (b k : Nat), (bef os [])[i]? = some b → b.testBit k = true → S k := by
  intro i
  induction i using Nat.strongRecOn with
  | ind i ih =>
    intro o ho hin b k hb hk
    have hg := bef_get os [] i o ho
    simp only [List.length_nil, Nat.zero_add] at hg
    rw [hb] at hg
    obtain rfl := Option.some.inj hg
    rcases fold_bits (fun j => ((bef os []).take i).getD j 0) k _ 0 hk with h | ⟨e, he, hbd, h⟩
    · simp at h
    · have hSe := hin e he hbd
      rcases h with rfl | h
      · exact hSe
      · rw [List.getD_eq_getElem?_getD, List.getElem?_take] at h
        split at h
        · rename_i hlt
          cases hx : (bef os [])[e.on]? with
          | none => rw [hx] at h; simp at h
          | some b' =>
            rw [hx] at h
            have hlt2 : e.on < os.length := by have := (List.getElem?_eq_some_iff.1 ho).1; omega
            have ho' : os[e.on]? = some os[e.on] := List.getElem?_eq_getElem hlt2
            exact ih e.on hlt os[e.on] ho' (hS e.on _ hSe ho') b' k hx (by simpa using h)
        · simp at h
theorem wfE_spec : ∀ {os : List Oper} {i : Nat}, wfE os i = true → ∀ {j : Nat} {o : Oper}, os[j]? = some o → ∀ e ∈ o.after.toList, Region.binds .any e = true → e.on < i + j
  | [], i, _, j, o, ho => by simp at ho
  | x :: os, i, h, j, o, ho => by
    simp only [wfE, Bool.and_eq_true] at h
    cases j with
    | zero =>
      simp at ho
      subst ho
      intro e he hb
      have := List.all_eq_true.1 h.1 e he
      simpa [hb] using this
    | succ j =>
      intro e he hb
      have := wfE_spec h.2 (j := j) (by simpa using ho) e he hb
      omega

/-! ### Runs -/
section
variable {E : Env} {C : FuncId → List Arg → Res → Prop}
theorem wpOps_runs {ops : Array Oper} : ∀ (os : List Oper) {s : List Ent} {l : List (List Nat × List Nat)} {K : List Ent → List (List Nat × List Nat) → Prop}, Den.wpOps E C ops os s l K →
    ∃ (σ : Nat → List Ent) (R T : Nat → List Nat), σ 0 = s ∧ (∀ i o, os[i]? = some o → Run C (opAM E ops o) (σ i) (R i) (T i) () (σ (i + 1))) ∧ K (σ os.length) (l ++ (List.range os.length).map fun i => ((R i).reverse, (T i).reverse))
  | [], s, l, K, h => ⟨fun _ => s, fun _ => [], fun _ => [], rfl, by simp, by simpa [Den.wpOps] using h⟩
  | o :: os, s, l, K, h => by
    simp only [Den.wpOps] at h
    obtain ⟨r, t, x, s1, hrun, ⟨_, rfl, h⟩⟩ := wp_run C _ _ _ _ _ h
    obtain ⟨σ, R, T, h1, h2, h3⟩ := wpOps_runs os h
    refine ⟨fun i => match i with | 0 => s | i + 1 => σ i, fun i => match i with | 0 => r | i + 1 => R i, fun i => match i with | 0 => t | i + 1 => T i, rfl, fun i o' ho => ?_, ?_⟩
    · cases i with
      | zero =>
        simp at ho
        subst ho
        simp only [h1]
        exact hrun
      | succ i => exact h2 i o' (by simpa using ho)
    · have h3' : K (σ os.length) (l ++ (r.reverse, t.reverse) :: List.map (fun i => ((R i).reverse, (T i).reverse)) (List.range os.length)) := by simpa [List.append_assoc] using h3
      rw [List.length_cons, List.range_succ_eq_map, List.map_cons, List.map_map]
      exact h3'

variable {ops : Array Oper} {σ : Nat → List Ent} {R T : Nat → List Nat} {n : Nat}
theorem last_writer (hrun : ∀ i, i < n → ∃ m : AM Unit, Run C m (σ i) (R i) (T i) () (σ (i + 1))) (e : Nat) : ∀ i, i ≤ n →
    ((∀ j, j < i → e ∉ T j) ∧ vw (σ i) e = vw (σ 0) e) ∨ ∃ j, j < i ∧ e ∈ T j ∧ (∀ j', j < j' → j' < i → e ∉ T j') ∧ vw (σ i) e = vw (σ (j + 1)) e
  | 0, _ => .inl ⟨by simp, rfl⟩
  | i + 1, hi => by
    obtain ⟨m, hm⟩ := hrun i (by omega)
    by_cases he : e ∈ T i
    · exact .inr ⟨i, by omega, he, fun j' h1 h2 => by omega, rfl⟩
    · have hf := run_frame C hm e he
      rcases last_writer hrun e i (by omega) with ⟨h1, h2⟩ | ⟨j, h1, h2, h3, h4⟩
      · refine .inl ⟨fun j hj => ?_, hf.trans h2⟩
        by_cases hji : j = i
        · subst hji; exact he
        · exact h1 j (by omega)
      · refine .inr ⟨j, by omega, h2, fun j' hj1 hj2 => ?_, hf.trans h4⟩
        by_cases hji : j' = i
        · subst hji; exact he
        · exact h3 j' hj1 (by omega)
theorem runs_length (hrun : ∀ i, i < n → ∃ m : AM Unit, Run C m (σ i) (R i) (T i) () (σ (i + 1))) : ∀ i, i ≤ n → (σ i).length = (σ 0).length
  | 0, _ => rfl
  | i + 1, hi => by
    obtain ⟨m, hm⟩ := hrun i (by omega)
    rw [run_length C hm, runs_length hrun i (by omega)]

/-- The state when the operations in S have been done. -/
structure Canon (σ : Nat → List Ent) (T : Nat → List Nat) (S : Nat → Prop) (u : List Ent) : Prop where
  len : u.length = (σ 0).length
  old : ∀ e, (∀ j, S j → e ∉ T j) → vw u e = vw (σ 0) e
  new : ∀ e j, S j → e ∈ T j → (∀ j', j < j' → S j' → e ∉ T j') → vw u e = vw (σ (j + 1)) e
theorem Canon.step (hrun : ∀ i, i < n → ∃ m : AM Unit, Run C m (σ i) (R i) (T i) () (σ (i + 1))) {S : Nat → Prop} {u : List Ent} (hu : Canon σ T S u) {i : Nat} (hi : i < n) (hn : ¬ S i)
    (late : ∀ j, S j → i < j → ∀ e, (e ∈ R i ∨ e ∈ T i) → e ∉ T j) (early : ∀ j, j < i → ∀ e, e ∈ R i → e ∈ T j → S j) {m : AM Unit} (hm : Run C m (σ i) (R i) (T i) () (σ (i + 1))) :
    ∃ u', Run C m u (R i) (T i) () u' ∧ Canon σ T (fun j => S j ∨ j = i) u' := by
  have hlen : u.length = (σ i).length := by rw [hu.len, runs_length hrun i (by omega)]
  obtain ⟨u', h1, h2⟩ := run_local C hm u hlen fun e he => by
    rcases last_writer hrun e i (by omega) with ⟨h3, h4⟩ | ⟨j, h3, h4, h5, h6⟩
    · rw [h4]
      refine hu.old e fun j hj => ?_
      by_cases hji : j < i
      · exact h3 j hji
      · by_cases e1 : j = i
        · subst e1; exact absurd hj hn
        · exact late j hj (by omega) e (.inl he)
    · rw [h6]
      refine hu.new e j (early j h3 e he h4) h4 fun j' hj1 hj2 => ?_
      by_cases hji : j' < i
      · exact h5 j' hj1 hji
      · by_cases e1 : j' = i
        · subst e1; exact absurd hj2 hn
        · exact late j' hj2 (by omega) e (.inl he)
  refine ⟨u', h1, by rw [run_length C h1, hu.len], fun e he => ?_, fun e j hj hej hlast => ?_⟩
  · rw [run_frame C h1 e (he i (.inr rfl))]
    exact hu.old e fun j hj => he j (.inl hj)
  · by_cases e1 : j = i
    · subst e1; exact h2 e hej
    · have hj := hj.resolve_right e1
      have hnt : e ∉ T i := fun ht => by
        by_cases hlt : i < j
        · exact late j hj hlt e (.inr ht) hej
        · exact hlast i (by omega) (.inr rfl) ht
      rw [run_frame C h1 e hnt]
      exact hu.new e j hj hej fun j' h3 h4 => hlast j' h3 (.inl h4)
theorem Canon.full (hrun : ∀ i, i < n → ∃ m : AM Unit, Run C m (σ i) (R i) (T i) () (σ (i + 1))) {S : Nat → Prop} {u : List Ent} (hu : Canon σ T S u) (hS : ∀ j, S j ↔ j < n) : u = σ n := by
  refine List.ext_getElem? fun e => ?_
  rw [← vw_even, ← vw_even]
  generalize 3 * e = e
  rcases last_writer hrun e n (Nat.le_refl _) with ⟨h1, h2⟩ | ⟨j, h1, h2, h3, h4⟩
  · rw [h2]; exact hu.old e fun j hj => h1 j ((hS j).1 hj)
  · rw [h4]; exact hu.new e j ((hS j).2 h1) h2 fun j' h5 h6 => h3 j' h5 ((hS j').1 h6)
end
end Go.Den

/- Regions in any order; code. -/
namespace Go.Den

section
variable {P : Program} {E : Env} {w0 : World} {B Z0 : Nat → Prop} {gv : List Value}
/-- What has been listed. -/
def Sof (listed : Array Bool) (i : Nat) : Prop := listed.getD i false = true
theorem sof_set {listed : Array Bool} {i : Nat} (hi : i < listed.size) (j : Nat) : Sof (listed.setIfInBounds i true) j ↔ (Sof listed j ∨ j = i) := by
  unfold Sof
  by_cases h : j = i
  · subst h; simp [hi]
  · have : ¬ i = j := fun e => h e.symm
    simp [h, Array.getElem?_setIfInBounds_ne this]
theorem any_sound (hT : TabOK P E.T) {ops : Array Oper} {σ : Nat → List Ent} {R T : Nat → List Nat} (hrun : ∀ i o, ops.toList[i]? = some o → Run (Ret P E.G) (opAM E ops o) (σ i) (R i) (T i) () (σ (i + 1)))
    (hind : indep ops ((List.range ops.toList.length).map fun i => ((R i).reverse, (T i).reverse)) = true) {Q : Exit → Act → World → Prop}
    (hq : ∀ a w Z RV L, At E w0 B Z0 gv (σ ops.size) a w Z RV L → Q .normal a w) :
    ∀ (fuel : Nat) (listed : Array Bool) (u : List Ent) (a : Act) (w : World) (Z : Nat → Prop) (RV : Nat → Nat → Value) (L : Nat → Nat → List Nat), listed.size = ops.size →
      ((List.range ops.size).filter fun i => !listed.getD i true).length ≤ fuel →
      (∀ i o, Sof listed i → ops.toList[i]? = some o → ∀ e ∈ o.after.toList, Region.binds .any e = true → Sof listed e.on) → Canon σ T (Sof listed) u → At E w0 B Z0 gv u a w Z RV L →
      wpAny P .any ops Q fuel listed a w := by
  simp only [indep, Bool.and_eq_true] at hind
  obtain ⟨hwf, hap⟩ := hind
  have hrun' : ∀ i, i < ops.size → ∃ m : AM Unit, Run (Ret P E.G) m (σ i) (R i) (T i) () (σ (i + 1)) := fun i hi => ⟨_, hrun i _ (by rw [Array.getElem?_toList]; exact Array.getElem?_eq_getElem hi)⟩
  have hmeet : ∀ j i, j < i → i < ops.size → ∀ e, Meet (R j, T j) (R i, T i) e → ∃ b, (bef ops.toList [])[i]? = some b ∧ b.testBit j = true := fun j i hji hi e he => by
    have hx : ∀ k, k < ops.size → (((List.range ops.toList.length).map fun i => ((R i).reverse, (T i).reverse)).map (fun l => (mask l.1, mask l.2)))[k]? = some (mask (R k).reverse, mask (T k).reverse) := fun k hk => by
      simp [hk]
    obtain ⟨b, h1, h2⟩ := apart_spec hap (hx i hi)
    refine ⟨b, h1, h2 (y := (mask (R j).reverse, mask (T j).reverse)) (by simpa using hx j (by omega)) (by simpa using hji) ?_⟩
    refine meets_of (a := ((R j).reverse, (T j).reverse)) (b := ((R i).reverse, (T i).reverse)) (e := e) ?_
    simpa [Meet] using he
  intro fuel
  induction fuel with
  | zero =>
    intro listed u a w Z RV L hsz hcount hcl hcan hat
    have hall : ∀ i, i < ops.size → Sof listed i := fun i hi => by
      have h0 : (List.range ops.size).filter (fun i => !listed.getD i true) = [] := List.length_eq_zero_iff.1 (by omega)
      have := List.filter_eq_nil_iff.1 h0 i (List.mem_range.2 hi)
      have hi' : i < listed.size := by omega
      simp [hi'] at this
      simp [Sof, hi', this]
    have hu : u = σ ops.size := hcan.full hrun' fun j => ⟨fun hj => by
      by_cases h : j < listed.size
      · omega
      · simp [Sof, h] at hj, hall j⟩
    subst hu
    refine ⟨?_, hq a w Z RV L hat⟩
    refine List.eq_nil_iff_forall_not_mem.2 fun j hj => ?_
    obtain ⟨h1, o, ho, -⟩ := mem_ready.1 hj
    have hlt := (Array.getElem?_eq_some_iff.1 ho).1
    have := hall j hlt
    have hi' : j < listed.size := by omega
    simp [Sof, hi'] at this h1
    rw [this] at h1
    cases h1
  | succ fuel ih =>
    intro listed u a w Z RV L hsz hcount hcl hcan hat
    refine ⟨fun hnil => ?_, fun i hi => ?_⟩
    · have hall : ∀ i, i < ops.size → Sof listed i := by
        intro i
        induction i using Nat.strongRecOn with
        | ind i ihi =>
          intro hi
          by_cases hs : Sof listed i
          · exact hs
          · exfalso
            have ho : ops[i]? = some ops[i] := Array.getElem?_eq_getElem hi
            have hi' : i < listed.size := by omega
            have : i ∈ Region.ready .any ops listed := mem_ready.2 ⟨by simp [Sof, hi'] at hs; simp [hi', hs], ops[i], ho, fun e he hb => by
              have hlt : e.on < i := by
                have := wfE_spec hwf (j := i) (o := ops[i]) (by rw [Array.getElem?_toList]; exact ho) e (by simpa using he) hb
                omega
              exact ihi e.on hlt (by omega)⟩
            rw [hnil] at this
            cases this
      have hu : u = σ ops.size := hcan.full hrun' fun j => ⟨fun hj => by
        by_cases h : j < listed.size
        · omega
        · simp [Sof, h] at hj, hall j⟩
      subst hu
      exact hq a w Z RV L hat
    · obtain ⟨h1, o, ho, hedges⟩ := mem_ready.1 hi
      have hlt := (Array.getElem?_eq_some_iff.1 ho).1
      have hi' : i < listed.size := by omega
      have hns : ¬ Sof listed i := by
        simp [hi'] at h1
        simp [Sof, hi', h1]
      have hol : ops.toList[i]? = some o := by rw [Array.getElem?_toList]; exact ho
      have hedges' : ∀ e ∈ o.after.toList, Region.binds .any e = true → Sof listed e.on := fun e he hb => hedges e (by simpa using he) hb
      have hslt : ∀ j, Sof listed j → j < ops.size := fun j hj => by
        by_cases h : j < listed.size
        · omega
        · simp [Sof, h] at hj
      have late : ∀ j, Sof listed j → i < j → ∀ e, (e ∈ R i ∨ e ∈ T i) → e ∉ T j := fun j hj hij e he het => by
        obtain ⟨b, hb1, hb2⟩ := hmeet i j hij (hslt j hj) e (by
          rcases he with he | he
          · exact .inr ⟨he, het⟩
          · exact .inl ⟨he, .inr het⟩)
        have hjl := hslt j hj
        have hoj : ops.toList[j]? = some ops[j] := by rw [Array.getElem?_toList]; exact Array.getElem?_eq_getElem hjl
        exact hns (bef_in hcl j _ hoj (hcl j _ hj hoj) b i hb1 hb2)
      have early : ∀ j, j < i → ∀ e, e ∈ R i → e ∈ T j → Sof listed j := fun j hji e he het => by
        obtain ⟨b, hb1, hb2⟩ := hmeet j i hji hlt e (.inl ⟨het, .inl he⟩)
        exact bef_in hcl i o hol hedges' b j hb1 hb2
      obtain ⟨u', hr, hcan'⟩ := hcan.step hrun' hlt hns late early (hrun i o hol)
      refine wpOp_mono (fun a' w' hk => ?_) (opAM_sound hT ho hat (run_wp hr [] [] (fun _ s' _ _ => s' = u') fun _ _ => rfl))
      obtain ⟨s', r', t', Z', RV', L', rfl, h'⟩ := hk
      refine ih _ _ a' w' Z' RV' L' (by simpa using hsz) ?_ ?_ ?_ h'
      · have hmem : i ∈ (List.range ops.size).filter fun i => !listed.getD i true := List.mem_filter.2 ⟨List.mem_range.2 hlt, by rw [h1]; rfl⟩
        have hsub : ((List.range ops.size).filter fun j => !(listed.setIfInBounds i true).getD j true) = ((List.range ops.size).filter fun i => !listed.getD i true).filter fun j => decide (j ≠ i) := by
          rw [List.filter_filter]
          refine List.filter_congr fun j _ => ?_
          by_cases h : j = i
          · subst h; simp [hi']
          · have : ¬ i = j := fun e => h e.symm
            simp [h, Array.getElem?_setIfInBounds_ne this]
        rw [hsub]
        have hlt2 : (((List.range ops.size).filter fun i => !listed.getD i true).filter fun j => decide (j ≠ i)).length < ((List.range ops.size).filter fun i => !listed.getD i true).length :=
          List.length_filter_lt_length_iff_exists.2 ⟨i, hmem, by simp⟩
        omega
      · intro j o' hj ho' e he hb
        rw [sof_set hi'] at hj ⊢
        rcases hj with hj | rfl
        · exact .inl (hcl j o' hj ho' e he hb)
        · rw [hol] at ho'
          obtain rfl := Option.some.inj ho'
          exact .inl (hedges' e he hb)
      · have : Sof (listed.setIfInBounds i true) = fun j => Sof listed j ∨ j = i := by
          funext j
          exact propext (sof_set hi' j)
        rw [this]
        exact hcan'

/-- A region. -/
theorem region_sound (hT : TabOK P E.T) (hm : P.follows .mixedOrders = true) {id : Nat} {ops : Array Oper} {draw : Bool} {s : List Ent} {a : Act} {w : World} {Z : Nat → Prop} {RV : Nat → Nat → Value} {L : Nat → Nat → List Nat}
    {K : List Ent → Prop} (h : At E w0 B Z0 gv s a w Z RV L) (hw : Den.wpOps E (Ret P E.G) ops ops.toList s [] fun s' l => match draw with | true => indep ops l = true ∧ K s' | false => K s') {Q : Exit → Act → World → Prop}
    (hq : ∀ s' a' w' Z' RV' L', K s' → At E w0 B Z0 gv s' a' w' Z' RV' L' → Q .normal a' w') : (Code.region id ops draw).wp P Q a w := by
  cases draw with
  | false =>
    refine wp_region ?_
    have := wpOps_sound hT ops.toList 0 (Q := Q) rfl h hw fun s' _ a' w' Z' RV' L' hk h' => hq s' a' w' Z' RV' L' hk h'
    rw [Array.length_toList, ← List.range_eq_range'] at this
    exact this
  | true =>
    refine wp_region_any hm ?_
    obtain ⟨σ, R, T, h0, hrun, hind, hK⟩ := wpOps_runs ops.toList hw
    refine any_sound hT hrun (by simpa using hind) (fun a w Z RV L hat => hq _ a w Z RV L (by rw [Array.length_toList] at hK; exact hK) hat) ops.size _ s a _ Z RV L (by simp) ?_ ?_ ?_ h.drew
    · exact Nat.le_trans (List.length_filter_le _ _) (by simp)
    · intro i o hi
      exfalso
      unfold Sof at hi
      by_cases hlt : i < ops.size
      · simp [hlt] at hi
      · simp [hlt] at hi
    · have hno : ∀ j, ¬ Sof (Array.replicate ops.size false) j := fun j hj => by
        unfold Sof at hj
        by_cases hlt : j < ops.size
        · simp [hlt] at hj
        · simp [hlt] at hj
      exact ⟨by rw [h0], fun e _ => by rw [h0], fun e j hj => absurd hj (hno j)⟩
end
end Go.Den

/- Loops' heads: what is live is taken apart and named anew. Code. -/
namespace Go.Den

section
variable {P : Program} {E : Env} {w0 : World} {B Z0 : Nat → Prop} {gv : List Value} {s : List Ent} {a : Act} {w : World} {Z : Nat → Prop} {RV : Nat → Nat → Value} {L : Nat → Nat → List Nat}
  {C : FuncId → List Arg → Res → Prop} {α : Type} {K : α → List Ent → List Nat → List Nat → Prop}

/-- What has been taken at a loop's head. -/
def LiveRel (w : World) (Zf : Nat → Prop) (tv : Nat → Value) : List (Nat × Nat) → List SV → List Nat → Prop
  | [], vs, l => vs = [] ∧ l = []
  | (x, k) :: xs, v :: vs, l => match k with
    | 0 => ∃ l1 l2, OwSV w Zf v (tv x) l1 ∧ LiveRel w Zf tv xs vs l2 ∧ l = l1 ++ l2
    | 1 => OwSV w Zf v (tv x) [] ∧ LiveRel w Zf tv xs vs l
    | k + 2 => tv x = tv k ∧ LiveRel w Zf tv xs vs l
  | _ :: _, [], _ => False
theorem LiveRel.mono {Z Z' : Nat → Prop} {tv : Nat → Value} (hz : ∀ b, Z b → Z' b) : ∀ {xs : List (Nat × Nat)} {vs : List SV} {l : List Nat}, LiveRel w Z tv xs vs l → LiveRel w Z' tv xs vs l
  | [], _, _, h => h
  | (x, 0) :: xs, v :: vs, l, ⟨l1, l2, h1, h2, h3⟩ => ⟨l1, l2, h1.frame hz (fun _ _ => rfl) fun _ _ => rfl, h2.mono hz, h3⟩
  | (x, 1) :: xs, v :: vs, l, ⟨h1, h2⟩ => ⟨h1.frame hz (fun _ _ => rfl) fun _ _ => rfl, h2.mono hz⟩
  | (x, k + 2) :: xs, v :: vs, l, ⟨h1, h2⟩ => ⟨h1, h2.mono hz⟩

theorem ows_shd {Zf : Nat → Prop} : ∀ {ys : List Cell} {vs : List Value}, Shs w Zf ys vs → Ows w Zf (ys.map .shd) vs []
  | _, _, .nil => .nil _
  | _, _, .cons h t => by simpa using Ows.cons (.shd h) (ows_shd t)

theorem live_rest (h : At E w0 B Z0 gv s a w Z RV L) : ∀ {xs : List (Nat × Nat)} {k : List SV → AM (List SV)} {r t : List Nat} {K : List SV → List Ent → List Nat → List Nat → Prop}, (xs.all fun p => p.2 != 0) = true → wp C (liveAM xs k) s r t K →
    ∃ vs r', LiveRel w (ZA Z L) (tvOf a gv) xs vs [] ∧ wp C (k vs) s r' t K
  | [], k, r, t, K, _, hw => ⟨[], r, ⟨rfl, rfl⟩, hw⟩
  | (x, 0) :: xs, k, r, t, K, ha, hw => by simp at ha
  | (x, 1) :: xs, k, r, t, K, ha, hw => by
    simp only [liveAM, wp_get] at hw
    obtain ⟨e, he, hw⟩ := hw
    have hsl := h.inv.slot x
    simp only [sOf, he, Option.getD_some] at hsl
    have hall : (xs.all fun p => p.2 != 0) = true := by simpa using ha
    have go : svOk e.s = true → wp C (rdL 12 (svCells e.s) fun ys => liveAM xs fun vs => k (svLike e.s (ys.map .shd) :: vs)) s (3 * x :: r) t K → ∃ vs r', LiveRel w (ZA Z L) (tvOf a gv) ((x, 1) :: xs) vs [] ∧ wp C (k vs) s r' t K := fun hk hw => by
      obtain ⟨ys, r1, hys, hw⟩ := (rd_sound h 12).2 (slot_valsOf hsl hk) hw
      obtain ⟨vs, r2, hvs, hw⟩ := live_rest h hall hw
      exact ⟨_ :: vs, r2, ⟨ow_like hsl hk (ows_shd hys), hvs⟩, hw⟩
    cases hes : e.s with
    | dead => rw [hes] at hw; exact hw.elim
    | tup ts => rw [hes] at hw; exact hw.elim
    | one c => rw [hes] at hw go; exact go rfl hw
    | agg cs => rw [hes] at hw go; exact go rfl hw
  | (x, j + 2) :: xs, k, r, t, K, ha, hw => by
    simp only [liveAM, wp_get] at hw
    obtain ⟨e, he, e', he', hw⟩ := hw
    have hall : (xs.all fun p => p.2 != 0) = true := by simpa using ha
    have h1 := h.inv.slot x
    have h2 := h.inv.slot j
    simp only [sOf, he, he', Option.getD_some] at h1 h2
    split at hw
    · rename_i r1 i1 r2 i2 e1 e2
      rw [e1] at h1
      rw [e2] at h2
      split at hw
      · rename_i heq
        obtain ⟨rfl, rfl⟩ := heq
        obtain ⟨vs, r3, hvs, hw⟩ := live_rest h hall hw
        have val : ∀ {V : Value}, SCell w Z (rOf s) RV (.hd r1 i1 none) V → V = RV r1 i1 := fun hc => by
          cases hc with
          | sh hx => cases hx
          | hd hlt => rfl
        exact ⟨_ :: vs, r3, ⟨(val h1).trans (val h2).symm, hvs⟩, hw⟩
      · exact hw.elim
    · exact hw.elim

theorem live_sound : ∀ {xs : List (Nat × Nat)} {s : List Ent} {L : Nat → Nat → List Nat} {k : List SV → AM (List SV)} {r t : List Nat} {K : List SV → List Ent → List Nat → List Nat → Prop}, At E w0 B Z0 gv s a w Z RV L → liveOk.ord xs = true → wp C (liveAM xs k) s r t K →
    ∃ vs l s' L' r' t', At E w0 B Z0 gv s' a w Z RV L' ∧ Taken L L' l ∧ LiveRel w (ZA Z L') (tvOf a gv) xs vs l ∧ wp C (k vs) s' r' t' K
  | [], s, L, k, r, t, K, h, _, hw => ⟨[], [], s, L, r, t, h, Taken.nil L, ⟨rfl, rfl⟩, hw⟩
  | (x, 0) :: xs, s, L, k, r, t, K, h, ho, hw => by
    simp only [liveAM, wp_get] at hw
    obtain ⟨e, he, hw⟩ := hw
    have hsl := h.inv.slot x
    simp only [sOf, he, Option.getD_some] at hsl
    have go : svOk e.s = true → wp C (pkL 12 (svCells e.s) fun ys => liveAM xs fun vs => k (svLike e.s ys :: vs)) s (3 * x :: r) t K → ∃ vs l s' L' r' t', At E w0 B Z0 gv s' a w Z RV L' ∧ Taken L L' l ∧ LiveRel w (ZA Z L') (tvOf a gv) ((x, 0) :: xs) vs l ∧ wp C (k vs) s' r' t' K := fun hk hw => by
      obtain ⟨ys, l1, s1, L1, r1, t1, g1, g2, g3, g4, g5, hw⟩ := (pk_sound 12).2 h (slot_valsOf hsl hk) hw
      obtain ⟨vs, l, s', L', r', t', k1, k2, k3, k4⟩ := live_sound g1 (by simpa [liveOk.ord] using ho) hw
      exact ⟨_ :: vs, l1 ++ l, s', L', r', t', k1, g4.append k2, ⟨l1, l, (ow_like hsl hk g5).frame (fun _ h => .inl h) (fun _ _ => rfl) fun _ _ => rfl, k3, rfl⟩, k4⟩
    cases hes : e.s with
    | dead => rw [hes] at hw; exact hw.elim
    | tup ts => rw [hes] at hw; exact hw.elim
    | one c => rw [hes] at hw go; exact go rfl hw
    | agg cs => rw [hes] at hw go; exact go rfl hw
  | (x, j + 1) :: xs, s, L, k, r, t, K, h, ho, hw => by
    obtain ⟨vs, r', h1, h2⟩ := live_rest h (xs := (x, j + 1) :: xs) (by simpa [liveOk.ord] using ho) hw
    exact ⟨vs, [], s, L, r', t, h, Taken.nil L, h1, h2⟩

/-- All is forgotten; what was one's own is shared. -/
theorem At.forget (h : At E w0 B Z0 gv s a w Z RV L) : At E w0 B Z0 gv (List.replicate s.length default) a w (ZA Z L) RV (fun _ _ => []) := by
  have hs : sOf (List.replicate s.length default) = fun _ => SV.dead := by
    funext j
    unfold sOf
    rw [List.getElem?_replicate]
    split <;> rfl
  have hr : rOf (List.replicate s.length default) = fun _ => [] := by
    funext j
    unfold rOf
    rw [List.getElem?_replicate]
    split <;> rfl
  refine ⟨h.n, by simp [h.len], h.dfr, ?_⟩
  rw [hs, hr]
  exact ⟨h.inv.ext, fun g vs hg => ⟨.inl (h.inv.glob g vs hg).1, (h.inv.glob g vs hg).2⟩, fun b hb => hb.elim (h.inv.zlt b) fun ⟨r, i, hb⟩ => (h.inv.own r i b hb).2.1,
    fun b hb => hb.elim (h.inv.zin b) fun ⟨r, i, hb⟩ => .inr (h.inv.own r i b hb).2.2, fun b hb => .inl (h.inv.zsub b hb), fun r i x hx => by simp at hx, fun _ _ => .nil, fun _ _ _ _ _ b hb => by simp at hb,
    fun r i b hb => by simp at hb, fun _ _ _ => rfl, fun r i hi => by simp at hi, fun i => trivial⟩
/-- A slot is told anew. -/
theorem At.setS (h : At E w0 B Z0 gv s a w Z RV L) {d : Nat} {e : Ent} (he : s[d]? = some e) {v : SV} (hv : Slot w Z (rOf s) RV v (tvOf a gv d)) : At E w0 B Z0 gv (s.set d ⟨v, e.r⟩) a w Z RV L := by
  have hl : d < s.length := (List.getElem?_eq_some_iff.1 he).1
  have hR : rOf (s.set d ⟨v, e.r⟩) = rOf s := by
    funext j
    rw [rOf_set hl]
    split
    · rename_i hj; subst hj; simp [rOf, he]
    · rfl
  refine ⟨h.n, by simp [h.len], h.dfr, ?_⟩
  rw [hR]
  refine h.inv.put fun i => ?_
  rw [sOf_set hl]
  by_cases hi : i = d
  · rw [if_pos hi, hi]; exact .inr hv
  · rw [if_neg hi]; exact .inl ⟨rfl, rfl⟩
/-- A slot's trees are named anew. -/
theorem At.name (h : At E w0 B Z0 gv s a w Z RV L) {d : Nat} {e : Ent} (he : s[d]? = some e) (hr : e.r = []) {v : SV} {l : List Nat} (hv : OwSV w Z v (tvOf a gv d) l) (hn : l.Nodup) (hl : Free w0 B w Z L l) :
    ∃ RV' L', At E w0 B Z0 gv (s.set d ⟨(openSV d 0 v).1, (openSV d 0 v).2⟩) a w Z RV' L' ∧ ∀ r i b, b ∈ L' r i → b ∈ L r i ∨ b ∈ l := by
  have hlt : d < s.length := (List.getElem?_eq_some_iff.1 he).1
  obtain ⟨vs, ls, ho, hs⟩ := openSV_sound hv d 0
  obtain ⟨RV', L', g1, g2, g3, g4⟩ := h.openG he hr (v := (openSV d 0 v).1) (V := tvOf a gv d) ho.ll ho.fl ho.one (fun R RV' hf _ => ho.rc R RV' hf) (fun R RV' hf _ => hs R RV' hf) hn hl
  have hset : (s.set d ⟨sOf s d, (openSV d 0 v).2⟩)[d]? = some ⟨sOf s d, (openSV d 0 v).2⟩ := by simp [hlt]
  have := g1.setS hset g2
  exact ⟨RV', L', by simpa using this, g4⟩
end
end Go.Den

/- Code. -/
namespace Go.Den

section
variable {P : Program} {E : Env} {w0 : World} {B Z0 : Nat → Prop} {gv : List Value} {s : List Ent} {a : Act} {w : World} {Z : Nat → Prop} {RV : Nat → Nat → Value} {L : Nat → Nat → List Nat}

theorem restoreG_sound : ∀ {live : List (Nat × Nat)} {vs : List SV} {l : List Nat} {u : List Ent} {Z : Nat → Prop} {RV : Nat → Nat → Value} {L : Nat → Nat → List Nat}, At E w0 B Z0 gv u a w Z RV L → LiveRel w Z (tvOf a gv) live vs l →
    liveOk.once (live.map (·.1)) = true → (∀ x, x ∈ live.map (·.1) → ∀ e, u[x]? = some e → e.r = []) → Free w0 B w Z L l → l.Nodup → ∃ RV' L', At E w0 B Z0 gv (restoreG live vs u) a w Z RV' L'
  | [], vs, l, u, Z, RV, L, h, hl, _, _, _, _ => ⟨RV, L, by simpa [restoreG] using h⟩
  | (x, k) :: live, [], l, u, Z, RV, L, h, hl, _, _, _, _ => hl.elim
  | (x, k) :: live, v :: vs, l, u, Z, RV, L, h, hl, ho, hr, hf, hn => by
    simp only [List.map_cons, liveOk.once, Bool.and_eq_true, Bool.not_eq_true', List.contains_eq_mem, decide_eq_false_iff_not] at ho
    have hr' : ∀ (e' : Ent), ∀ y, y ∈ live.map (·.1) → ∀ e, (u.set x e')[y]? = some e → e.r = [] := fun e' y hy e he => by
      have : x ≠ y := fun e => ho.1 (e ▸ hy)
      rw [List.getElem?_set_ne this] at he
      exact hr y (by simp [hy]) e he
    cases hx : u[x]? with
    | none =>
      have hno : ∀ e', u.set x e' = u := fun e' => List.set_eq_of_length_le (List.getElem?_eq_none_iff.1 hx)
      have hr2 : ∀ y, y ∈ live.map (·.1) → ∀ e, u[y]? = some e → e.r = [] := fun y hy => hr y (by simp [hy])
      match k, hl with
      | 0, hl =>
        obtain ⟨l1, l2, h1, h2, rfl⟩ := hl
        simp only [restoreG, hno]
        exact restoreG_sound h h2 ho.2 hr2 (fun b hb => hf b (by simp [hb])) (List.nodup_append.1 hn).2.1
      | 1, hl =>
        simp only [restoreG, hno]
        exact restoreG_sound h hl.2 ho.2 hr2 hf hn
      | j + 2, hl =>
        simp only [restoreG, hno]
        exact restoreG_sound h hl.2 ho.2 hr2 hf hn
    | some e =>
      have her := hr x (by simp) e hx
      match k, hl with
      | 0, hl =>
        obtain ⟨l1, l2, h1, h2, rfl⟩ := hl
        have hnd := List.nodup_append.1 hn
        obtain ⟨RV', L', g1, g2⟩ := h.name hx her h1 hnd.1 fun b hb => hf b (by simp [hb])
        simp only [restoreG]
        refine restoreG_sound g1 h2 ho.2 (hr' _) (fun b hb => ?_) hnd.2.1
        have := hf b (by simp [hb])
        exact ⟨this.1, this.2.1, this.2.2.1, fun r i hb' => (g2 r i b hb').elim (this.2.2.2 r i) fun hb' => hnd.2.2 b hb' b hb rfl⟩
      | 1, hl =>
        obtain ⟨RV', L', g1, g2⟩ := h.name hx her hl.1 .nil fun b hb => by simp at hb
        simp only [restoreG]
        refine restoreG_sound g1 hl.2 ho.2 (hr' _) (fun b hb => ?_) hn
        have := hf b hb
        exact ⟨this.1, this.2.1, this.2.2.1, fun r i hb' => (g2 r i b hb').elim (this.2.2.2 r i) fun hb' => by simp at hb'⟩
      | j + 2, hl =>
        simp only [restoreG]
        have hsl := h.inv.slot j
        rw [← hl.1] at hsl
        have g1 := h.setS hx (v := sOf u j) hsl
        rw [her] at g1
        exact restoreG_sound g1 hl.2 ho.2 (hr' _) hf hn

theorem sh_nil1 {Z : Nat → Prop} (sz : Nat) {x : Cell} {v : Value} (h : Sh w Z x v) : Sh w Z (nil1 sz x) v := by
  unfold nil1
  split
  · cases h; exact .nil _ _
  · exact h
theorem ow_nil1 {Z : Nat → Prop} (sz : Nat) {x : Cell} {v : Value} {l : List Nat} (h : Ow w Z x v l) : Ow w Z (nil1 sz x) v l := by
  unfold nil1
  split
  · cases h; exact .nil _ _ _
  · exact h
theorem ows_nil1 {Z : Nat → Prop} (sz : Nat) : ∀ {xs : List Cell} {vs : List Value} {l : List Nat}, Ows w Z xs vs l → Ows w Z (xs.map (nil1 sz)) vs l
  | _, _, _, .nil _ => .nil _
  | _, _, _, .cons h t => .cons (ow_nil1 sz h) (ows_nil1 sz t)
theorem ow_nilC {Z : Nat → Prop} (sz : Nat) {x : Cell} {v : Value} {l : List Nat} (h : Ow w Z x v l) : Ow w Z (nilC sz x) v l := by
  unfold nilC
  split
  · cases h; exact .nil _ _ _
  · cases h with
    | ptr hh hc => exact .ptr hh (ows_nil1 sz hc)
  · cases h with
    | shd h => exact .shd (sh_nil1 sz h)
  · exact h
theorem ows_nilC {Z : Nat → Prop} (sz : Nat) : ∀ {xs : List Cell} {vs : List Value} {l : List Nat}, Ows w Z xs vs l → Ows w Z (xs.map (nilC sz)) vs l
  | _, _, _, .nil _ => .nil _
  | _, _, _, .cons h t => .cons (ow_nilC sz h) (ows_nilC sz t)
theorem ow_nilSV {Z : Nat → Prop} (sz : Nat) {x : SV} {v : Value} {l : List Nat} (h : OwSV w Z x v l) : OwSV w Z (nilSV sz x) v l := by
  cases x with
  | one x => exact ow_nilC sz h
  | agg xs => obtain ⟨us, e, h⟩ := h; exact ⟨us, e, ows_nilC sz h⟩
  | _ => exact h
theorem cvtL_live {Z : Nat → Prop} {tv : Nat → Value} (ns : List (Nat × Nat)) : ∀ {live : List (Nat × Nat)} {vs : List SV} {l : List Nat}, LiveRel w Z tv live vs l → LiveRel w Z tv live (cvtL ns live vs) l
  | [], vs, l, h => by unfold cvtL; exact h
  | (x, k) :: live, [], l, h => h.elim
  | (x, 0) :: live, v :: vs, l, ⟨l1, l2, h1, h2, h3⟩ => by
    refine ⟨l1, l2, ?_, cvtL_live ns h2, h3⟩
    split
    · exact ow_nilSV _ h1
    · exact ow_nilSV _ h1
    · exact h1
  | (x, 1) :: live, v :: vs, l, ⟨h1, h2⟩ => by
    refine ⟨?_, cvtL_live ns h2⟩
    split
    · exact ow_nilSV _ h1
    · exact ow_nilSV _ h1
    · exact h1
  | (x, k + 2) :: live, v :: vs, l, ⟨h1, h2⟩ => ⟨h1, cvtL_live ns h2⟩
theorem cvt_live {Z : Nat → Prop} {tv : Nat → Value} (ns : List (Nat × Nat)) {live : List (Nat × Nat)} {vs : List SV} {l : List Nat} (h : LiveRel w Z tv live vs l) : LiveRel w Z tv live (cvt ns live vs) l := by
  unfold cvt
  split
  · exact h
  · exact cvtL_live _ h
/-- What is live at a loop's head makes its state. -/
theorem head_sound {C : FuncId → List Arg → Res → Prop} {live : List (Nat × Nat)} (hlive : liveOk live = true) (ns : List (Nat × Nat)) {I : List SV → Prop} (h : At E w0 B Z0 gv s a w Z RV L) (hw : wp C (liveAM live .ret) s [] [] fun vs _ _ _ => I (cvt ns live vs)) :
    ∃ vs Z' RV' L', I vs ∧ At E w0 B Z0 gv (restore s.length live vs) a w Z' RV' L' := by
  simp only [liveOk, Bool.and_eq_true] at hlive
  obtain ⟨vs, l, s', L', r', t', h1, h2, h3, h4⟩ := live_sound h hlive.1 hw
  have hlen : s'.length = s.length := by rw [h1.len, h.len]
  have hfg := h1.forget
  rw [hlen] at hfg
  obtain ⟨RV', L'', g⟩ := restoreG_sound hfg (cvt_live ns h3) hlive.2 (fun x _ e he => by
    rw [List.getElem?_replicate] at he
    split at he
    · obtain rfl := Option.some.inj he; rfl
    · cases he) (fun b hb => by
      have := h2.free h b hb
      exact ⟨fun hz => hz.elim this.1 fun ⟨r, i, hb'⟩ => h2.gone b hb r i hb', this.2.1, this.2.2.1, fun r i hb' => by simp at hb'⟩) h2.nodup
  exact ⟨_, _, RV', L'', h4, g⟩

theorem least {p : Nat → Prop} : ∀ n, p n → ∃ m, p m ∧ ∀ k, k < m → ¬ p k := by
  intro n
  induction n using Nat.strongRecOn with
  | ind n ih =>
    intro hn
    by_cases h : ∃ k, k < n ∧ p k
    · obtain ⟨k, h1, h2⟩ := h
      exact ih k h1 h2
    · exact ⟨n, hn, fun k hk hp => h ⟨k, hk, hp⟩⟩
theorem wp_loop_rel {Q : Exit → Act → World → Prop} {c : Code} (I : Nat → Act → World → Prop) {n : Nat} (h0 : I n a w) (round : ∀ n a w, I n a w → c.wp P (Exit.then (fun a' w' => ∃ n', n' < n ∧ I n' a' w') Q) a w) : (Code.loop c).wp P Q a w := by
  classical
  have hex : ∀ a w, (∃ n, I n a w) → ∃ m, I m a w ∧ ∀ k, k < m → ¬ I k a w := fun a w ⟨n, hn⟩ => least n hn
  let μ : Act → World → Nat := fun a w => if h : ∃ n, I n a w then Classical.choose (hex a w h) else 0
  have hμ : ∀ a w, (h : ∃ n, I n a w) → I (μ a w) a w ∧ ∀ k, k < μ a w → ¬ I k a w := fun a w h => by
    simp only [μ, dif_pos h]
    exact Classical.choose_spec (hex a w h)
  refine wp_loop (fun a w => ∃ n, I n a w) μ ⟨n, h0⟩ fun a w h => ?_
  refine wp_mono (round _ a w (hμ a w h).1) fun e a' w' hq => ?_
  cases e with
  | normal =>
    obtain ⟨n', h1, h2⟩ := hq
    refine ⟨⟨n', h2⟩, ?_⟩
    rcases Nat.lt_or_ge n' (μ a' w') with h3 | h3
    · exact absurd h2 ((hμ a' w' ⟨n', h2⟩).2 n' h3)
    · exact Nat.lt_of_le_of_lt h3 h1
  | _ => exact hq

def toExit : DExit → Exit
  | .normal => .normal
  | .exit id => .exit id
  | .ret => .ret
theorem den_sound (hT : TabOK P E.T) (hm : P.follows .mixedOrders = true) : ∀ (c : Code) {s : List Ent} {K : DExit → List Ent → Prop} {a : Act} {w : World} {Z : Nat → Prop} {RV : Nat → Nat → Value} {L : Nat → Nat → List Nat}, den E (Ret P E.G) c s K →
    At E w0 B Z0 gv s a w Z RV L → ∀ (Q : Exit → Act → World → Prop), (∀ d s' a' w' Z' RV' L', K d s' → At E w0 B Z0 gv s' a' w' Z' RV' L' → Q (toExit d) a' w') → c.wp P Q a w := by
  intro c
  induction c with
  | skip => intro s K a w Z RV L hd h Q hq; exact wp_skip (hq .normal _ _ _ _ _ _ hd h)
  | region id ops draw => 
    intro s K a w Z RV L hd h Q hq
    exact region_sound hT hm h (K := K .normal) hd fun s' a' w' Z' RV' L' hk h' => hq .normal s' a' w' Z' RV' L' hk h'
  | seq x y ih1 ih2 =>
    intro s K a w Z RV L hd h Q hq
    refine wp_seq (ih1 hd h _ fun d s' a' w' Z' RV' L' hk h' => ?_)
    cases d with
    | normal => exact ih2 hk h' Q hq
    | exit id => exact hq (.exit id) s' a' w' Z' RV' L' hk h'
    | ret => exact hq .ret s' a' w' Z' RV' L' hk h'
  | cond c x y ih1 ih2 =>
    intro s K a w Z RV L hd h Q hq
    cases c with
    | tmp t =>
      simp only [den] at hd
      split at hd
      · rename_i ht
        split at hd
        · rename_i b r he
          have hsl := h.inv.slot t
          simp only [sOf, he, Option.getD_some, tvOf, h.n, ht, if_true] at hsl
          have hv := scell_c hsl
          have hev : a.eval (.tmp t) = .bool b := hv
          refine wp_cond hev ?_
          cases b with
          | true => exact ih1 hd.of_t h Q hq
          | false => exact ih2 hd.of_f h Q hq
        · exact hd.elim
      · exact hd.elim
    | const v => cases v with
      | bool b =>
        refine wp_cond (show a.eval (.const (.bool b)) = .bool b from rfl) ?_
        cases b with
        | true => exact ih1 (show iteP true _ _ from hd).of_t h Q hq
        | false => exact ih2 (show iteP false _ _ from hd).of_f h Q hq
      | _ => exact hd.elim
    | _ => exact hd.elim
  | block id b ih =>
    intro s K a w Z RV L hd h Q hq
    refine wp_block (ih hd h _ fun d s' a' w' Z' RV' L' hk h' => ?_)
    cases d with
    | normal => exact hq .normal s' a' w' Z' RV' L' hk h'
    | exit id' =>
      simp only at hk
      simp only [toExit, Exit.inBlock]
      by_cases e : id' = id
      · rw [if_pos e] at hk ⊢
        exact hq .normal s' a' w' Z' RV' L' hk h'
      · rw [if_neg e] at hk ⊢
        exact hq (.exit id') s' a' w' Z' RV' L' hk h'
    | ret => exact hq .ret s' a' w' Z' RV' L' hk h'
  | loop b ih =>
    intro s K a w Z RV L hd h Q hq
    obtain ⟨J, hlive, hw, hround⟩ := hd
    obtain ⟨vs, Z', RV', L', ⟨n0, hI⟩, hat⟩ := head_sound (I := fun vs => ∃ n, J n vs) hlive _ h hw
    refine wp_loop_rel (fun n a w => ∃ vs Z' RV' L', J n vs ∧ At E w0 B Z0 gv (restore s.length (E.live (firstId b)) vs) a w Z' RV' L') ⟨vs, Z', RV', L', hI, hat⟩ fun n a w hh => ?_
    obtain ⟨vs, Z', RV', L', hI, hat⟩ := hh
    obtain ⟨_, rfl, hround⟩ := hround n vs hI
    refine ih hround hat _ fun d s' a' w' Z2 RV2 L2 hk h' => ?_
    cases d with
    | normal =>
      obtain ⟨vs', Z3, RV3, L3, ⟨n', hlt, hI'⟩, hat'⟩ := head_sound (I := fun vs' => ∃ n', n' < n ∧ J n' vs') hlive _ h' hk
      refine ⟨n', hlt, vs', Z3, RV3, L3, hI', ?_⟩
      rw [h'.len, ← h.len] at hat'
      exact hat'
    | exit id => exact hq (.exit id) s' a' w' Z2 RV2 L2 hk h'
    | ret => exact hq .ret s' a' w' Z2 RV2 L2 hk h'
  | exit id => intro s K a w Z RV L hd h Q hq; exact wp_exit (hq (.exit id) _ _ _ _ _ _ hd h)
  | ret => intro s K a w Z RV L hd h Q hq; exact wp_ret (hq .ret _ _ _ _ _ _ hd h)
  | _ => intro s K a w Z RV L hd h Q hq; exact hd.elim
end
end Go.Den

/- Functions: how they begin, what they give back. -/
namespace Go.Den

def nmu (as : List Arg) : Nat := (as.filter fun a => a.m == .mu).length
def muVals : List Arg → List Value → List Value
  | a :: as, v :: vs => match a.m with
    | .mu => v :: muVals as vs
    | _ => muVals as vs
  | _, _ => []
def entryG : Nat → Nat → List Arg → List Ent → List Ent
  | _, _, [], s => s
  | i, j, a :: as, s => match a.m with
    | .ro => entryG (i + 1) j as (s.set i ⟨a.v, []⟩)
    | .mu => entryG (i + 1) (j + 1) as ((s.set i ⟨(openSV i 0 a.v).1, (openSV i 0 a.v).2⟩).set j ⟨(openSV i 0 a.v).1, []⟩)
    | _ => entryG (i + 1) j as (s.set i ⟨(openSV i 0 a.v).1, (openSV i 0 a.v).2⟩)
/-- The state at a function's begin. Behind the slots: other names for what is lent. -/
def entry (n : Nat) (as : List Arg) : List Ent := entryG 0 n as (List.replicate (n + nmu as) default)

section
variable (E : Env) {α : Type}
def resAM : List ResultVar → (List SV → AM α) → AM α
  | [], K => K []
  | .tmp t :: rs, K => if t < E.n then .get t fun e => resAM rs fun vs => K (e.s :: vs) else .fail
  | .cell a t :: rs, K => match E.T t with
    | some ty => if (isAggD ty.desc || ty.size == 1) && decide (a < E.n) then .get a fun e => (match e.s with
      | .one c => loadAM ty c fun v => resAM rs fun vs => K (v :: vs)
      | _ => .fail) else .fail
    | none => .fail
def isAggS : SV → Bool
  | .agg _ => true
  | _ => false
def packAM : List SV → (List (Bool × List Cell) → AM α) → AM α
  | [], K => K []
  | v :: vs, K => if svOk v then pkL 12 (svCells v) fun ys => packAM vs fun ts => K ((isAggS v, ys) :: ts) else .fail
def ghostAM : List Nat → (List SV → AM α) → AM α
  | [], K => K []
  | j :: js, K => .get j fun e => if svOk e.s then pkL 12 (svCells e.s) fun ys => ghostAM js fun os => K (svLike e.s ys :: os) else .fail
def resSV : List (Bool × List Cell) → SV
  | [(false, [x])] => .one x
  | [(true, xs)] => .agg xs
  | ts => .tup ts
def retAM (rs : List ResultVar) (js : List Nat) : AM Res := resAM E rs fun vs => packAM vs fun ts => ghostAM js fun os => .ret ⟨resSV ts, os⟩
/-- The computed precondition of a function. -/
def fnDen (C : FuncId → List Arg → Res → Prop) (c : Code) (rs : List ResultVar) (as : List Arg) (res : Res) : Prop :=
  as.length ≤ E.n ∧ ∃ s0, entry E.n as = s0 ∧ den E C c s0 fun d s => match d with
    | .exit _ => False
    | _ => wp C (retAM E rs (List.range' E.n (nmu as))) s [] [] fun r _ _ _ => r = res
end

section
variable {P : Program} {E : Env} {w0 : World} {B Z0 : Nat → Prop} {gv : List Value} {s : List Ent} {a : Act} {w : World} {Z : Nat → Prop} {RV : Nat → Nat → Value} {L : Nat → Nat → List Nat}
  {C : FuncId → List Arg → Res → Prop} {α : Type} {K : α → List Ent → List Nat → List Nat → Prop}

theorem slot_of_sh {R : Nat → List Cell} {v : SV} {V : Value} (h : ShSV w Z v V) : Slot w Z R RV v V := by
  cases v with
  | one x => exact .sh h
  | agg xs => obtain ⟨us, e, h⟩ := h; exact ⟨us, e, .of_shs h⟩
  | _ => exact h.elim
theorem muVals_length : ∀ {as : List Arg} {Vs : List Value} {l : List Nat}, ArgsRel w Z as Vs l → (muVals as Vs).length = nmu as
  | [], [], _, _ => rfl
  | a :: as, V :: Vs, l, ⟨_, _, _, h, _⟩ => by
    have := muVals_length h
    unfold muVals nmu
    rw [List.filter_cons]
    cases hm : a.m <;> simp [this, nmu]
  | [], _ :: _, _, h => h.elim
  | _ :: _, [], _, h => h.elim
theorem entryG_sound : ∀ {as : List Arg} {Vs : List Value} {l : List Nat} {i j : Nat} {u : List Ent} {RV : Nat → Nat → Value} {L : Nat → Nat → List Nat}, At E w0 B Z0 gv u a w Z RV L → ArgsRel w Z as Vs l →
    (∀ k, i ≤ k → ∀ e, u[k]? = some e → k < E.n ∨ j ≤ k → e.r = []) → i + as.length ≤ E.n → E.n ≤ j → j + nmu as ≤ u.length → (∀ k, k < Vs.length → tvOf a gv (i + k) = Vs.getD k undef) →
    (∀ k, k < (muVals as Vs).length → tvOf a gv (j + k) = (muVals as Vs).getD k undef) → Free w0 B w Z L l → l.Nodup → ∃ RV' L', At E w0 B Z0 gv (entryG i j as u) a w Z RV' L'
  | [], [], l, i, j, u, RV, L, h, _, _, _, _, _, _, _, _, _ => ⟨RV, L, h⟩
  | a' :: as, V :: Vs, l, i, j, u, RV, L, h, ⟨l1, l2, h1, h2, h3⟩, hr, hi, hj, hju, hv, hm, hf, hn => by
    subst h3
    have hnd := List.nodup_append.1 hn
    simp only [List.length_cons] at hi
    have hlt : i < u.length := by rw [h.len]; omega
    have hget : u[i]? = some u[i] := List.getElem?_eq_getElem hlt
    have her := hr i (Nat.le_refl _) _ hget (.inl (by omega))
    have hVi : tvOf a gv i = V := by simpa using hv 0 (by simp)
    have hv' : ∀ k, k < Vs.length → tvOf a gv (i + 1 + k) = Vs.getD k undef := fun k hk => by
      have := hv (k + 1) (by simpa using hk)
      rw [show i + 1 + k = i + (k + 1) by omega]
      simpa using this
    have hr1 : ∀ (e' : Ent) k, i + 1 ≤ k → ∀ e, (u.set i e')[k]? = some e → k < E.n ∨ j ≤ k → e.r = [] := fun e' k hk e he => by
      rw [List.getElem?_set_ne (by omega)] at he
      exact hr k (by omega) e he
    unfold ArgRel at h1
    unfold entryG
    unfold nmu at hju
    unfold muVals at hm
    rw [List.filter_cons] at hju
    cases hmode : a'.m with
    | ro =>
      rw [hmode] at h1 hju hm
      obtain ⟨h1, rfl⟩ := h1
      have g := h.setS hget (v := a'.v) (by rw [hVi]; exact slot_of_sh h1)
      rw [her] at g
      exact entryG_sound g h2 (hr1 _) (by omega) hj (by simpa [nmu] using hju) hv' hm (fun b hb => hf b (by simp [hb])) hnd.2.1
    | sh =>
      rw [hmode] at h1 hju hm
      obtain ⟨RV', L', g1, g2⟩ := h.name hget her (by rw [hVi]; exact h1) hnd.1 fun b hb => hf b (by simp [hb])
      refine entryG_sound g1 h2 (hr1 _) (by omega) hj (by simpa [nmu] using hju) hv' hm (fun b hb => ?_) hnd.2.1
      have := hf b (by simp [hb])
      exact ⟨this.1, this.2.1, this.2.2.1, fun r i hb' => (g2 r i b hb').elim (this.2.2.2 r i) fun hb' => hnd.2.2 b hb' b hb rfl⟩
    | mv =>
      rw [hmode] at h1 hju hm
      obtain ⟨RV', L', g1, g2⟩ := h.name hget her (by rw [hVi]; exact h1) hnd.1 fun b hb => hf b (by simp [hb])
      refine entryG_sound g1 h2 (hr1 _) (by omega) hj (by simpa [nmu] using hju) hv' hm (fun b hb => ?_) hnd.2.1
      have := hf b (by simp [hb])
      exact ⟨this.1, this.2.1, this.2.2.1, fun r i hb' => (g2 r i b hb').elim (this.2.2.2 r i) fun hb' => hnd.2.2 b hb' b hb rfl⟩
    | mu =>
      rw [hmode] at h1 hju hm
      obtain ⟨RV', L', g1, g2⟩ := h.name hget her (by rw [hVi]; exact h1) hnd.1 fun b hb => hf b (by simp [hb])
      have hju' : j + ((as.filter fun a => a.m == .mu).length + 1) ≤ u.length := by simpa using hju
      have hjl : j < (u.set i ⟨(openSV i 0 a'.v).1, (openSV i 0 a'.v).2⟩).length := by simp; omega
      have hij : i ≠ j := by omega
      have hgj : (u.set i ⟨(openSV i 0 a'.v).1, (openSV i 0 a'.v).2⟩)[j]? = some u[j] := by
        rw [List.getElem?_set_ne hij]; exact List.getElem?_eq_getElem (by omega)
      have herj := hr j (by omega) u[j] (List.getElem?_eq_getElem (by omega)) (.inr (Nat.le_refl _))
      have hVj : tvOf a gv j = V := by simpa using hm 0 (by simp)
      have hsl := g1.inv.slot i
      rw [sOf_set hlt, if_pos rfl, hVi, ← hVj] at hsl
      have g3 := g1.setS hgj hsl
      rw [herj] at g3
      refine entryG_sound g3 h2 (fun k hk e he hkk => ?_) (by omega) (by omega) (by simp [nmu]; omega) hv' (fun k hk => ?_) (fun b hb => ?_) hnd.2.1
      · by_cases e1 : k = j
        · subst e1; simp at hjl; simp [hjl] at he; rw [← he]
        · rw [List.getElem?_set_ne (fun e => e1 e.symm), List.getElem?_set_ne (by omega)] at he
          exact hr k (by omega) e he (hkk.imp id fun h => by omega)
      · have := hm (k + 1) (by simpa using hk)
        rw [show j + 1 + k = j + (k + 1) by omega]
        simpa using this
      · have := hf b (by simp [hb])
        exact ⟨this.1, this.2.1, this.2.2.1, fun r i hb' => (g2 r i b hb').elim (this.2.2.2 r i) fun hb' => hnd.2.2 b hb' b hb rfl⟩
  | [], _ :: _, _, _, _, _, _, _, _, h, _, _, _, _, _, _, _, _ => h.elim
  | _ :: _, [], _, _, _, _, _, _, _, h, _, _, _, _, _, _, _, _ => h.elim
end
end Go.Den

/- A function's contract from its computed precondition. -/
namespace Go.Den

section
variable {P : Program} {E : Env} {w0 : World} {B Z0 : Nat → Prop} {gv : List Value} {s : List Ent} {a : Act} {w : World} {Z : Nat → Prop} {RV : Nat → Nat → Value} {L : Nat → Nat → List Nat}
  {C : FuncId → List Arg → Res → Prop} {α : Type} {K : α → List Ent → List Nat → List Nat → Prop}

/-- A result's value. -/
def resVal (P : Program) (tmps : Array Value) (w : World) (r : ResultVar) (v : Value) : Prop :=
  (match r with
    | .tmp t => (pure (tmps.getD t undef) : Sem Value)
    | .cell a t => (do loadVar t (← asAddr (tmps.getD a undef)))).run P w = .ok v w
def ResVals (P : Program) (tmps : Array Value) (w : World) : List ResultVar → List Value → Prop
  | [], [] => True
  | r :: rs, v :: vs => resVal P tmps w r v ∧ ResVals P tmps w rs vs
  | _, _ => False
theorem res_sound (hT : TabOK P E.T) (h : At E w0 B Z0 gv s a w Z RV L) : ∀ {rs : List ResultVar} {k : List SV → AM α} {r t : List Nat}, wp C (resAM E rs k) s r t K →
    ∃ vs Vs r', Slots w Z (rOf s) RV vs Vs ∧ ResVals P a.tmps w rs Vs ∧ wp C (k vs) s r' t K
  | [], k, r, t, hw => ⟨[], [], r, trivial, trivial, hw⟩
  | .tmp x :: rs, k, r, t, hw => by
    unfold resAM at hw
    split at hw
    · rename_i hx
      rw [wp_get] at hw
      obtain ⟨e, he, hw⟩ := hw
      have hsl := h.inv.slot x
      simp only [sOf, he, Option.getD_some, tvOf, h.n, hx, if_true] at hsl
      obtain ⟨vs, Vs, r', h1, h2, h3⟩ := res_sound hT h hw
      exact ⟨e.s :: vs, a.tmps.getD x undef :: Vs, r', ⟨hsl, h1⟩, ⟨rfl, h2⟩, h3⟩
    · exact hw.elim
  | .cell x ty :: rs, k, r, t, hw => by
    unfold resAM at hw
    split at hw
    · rename_i d ht
      split at hw
      · rename_i hc
        simp only [Bool.and_eq_true, decide_eq_true_eq] at hc
        rw [wp_get] at hw
        obtain ⟨e, he, hw⟩ := hw
        have hsl := h.inv.slot x
        simp only [sOf, he, Option.getD_some, tvOf, h.n, hc.2, if_true] at hsl
        cases hes : e.s with
        | one c =>
          rw [hes] at hw hsl
          obtain ⟨ys, us, A, r1, hw, hys, hl, hb⟩ := loadAM_sound h hsl hw
          have hl' : us.length = d.size := by rw [← hys.length]; exact hl
          obtain ⟨vs, Vs, r', h1, h2, h3⟩ := res_sound hT h hw
          refine ⟨_ :: vs, (if isAggD d.desc then .agg us.toArray else us.getD 0 undef) :: Vs, r', ⟨slot_mk hys, h1⟩, ⟨?_, h2⟩, h3⟩
          simp only [resVal, hb.v, asAddr]
          exact run_loadVar hT ht hc.1 hl' hb.c
        | _ => rw [hes] at hw; exact hw.elim
      · exact hw.elim
    · exact hw.elim

/-- The results' trees. -/
theorem pack_sound : ∀ {vs : List SV} {Vs : List Value} {s : List Ent} {L : Nat → Nat → List Nat} {k : List (Bool × List Cell) → AM α} {r t : List Nat}, At E w0 B Z0 gv s a w Z RV L → Slots w Z (rOf s) RV vs Vs → wp C (packAM vs k) s r t K →
    ∃ ts l s' L' r' t', At E w0 B Z0 gv s' a w Z RV L' ∧ Taken L L' l ∧ OwTup w Z ts Vs l ∧ wp C (k ts) s' r' t' K
  | [], [], s, L, k, r, t, h, _, hw => ⟨[], [], s, L, r, t, h, Taken.nil L, rfl, hw⟩
  | v :: vs, V :: Vs, s, L, k, r, t, h, ⟨hv, hvs⟩, hw => by
    unfold packAM at hw
    split at hw
    · rename_i hk
      obtain ⟨ys, l1, s1, L1, r1, t1, g1, g2, g3, g4, g5, hw⟩ := (pk_sound 12).2 h (slot_valsOf hv hk) hw
      obtain ⟨ts, l, s', L', r', t', k1, k2, k3, k4⟩ := pack_sound g1 (hvs.mono (fun _ h => h) (fun _ _ => rfl) g3) hw
      refine ⟨_ :: ts, l1 ++ l, s', L', r', t', k1, g4.append k2, ?_, k4⟩
      cases v with
      | one x =>
        simp only [valsOf] at g5
        cases g5 with
        | cons hy ht => cases ht; rw [List.append_nil]; exact ⟨_, _, _, rfl, hy, k3, rfl⟩
      | agg xs =>
        obtain ⟨us, rfl, hv⟩ := hv
        exact ⟨us, _, _, rfl, g5, k3, rfl⟩
      | _ => simp [svOk] at hk
    · exact hw.elim
theorem ghost_sound : ∀ {js : List Nat} {s : List Ent} {L : Nat → Nat → List Nat} {k : List SV → AM α} {r t : List Nat}, At E w0 B Z0 gv s a w Z RV L → wp C (ghostAM js k) s r t K →
    ∃ (os : List SV) (ls : List (List Nat)) (s' : List Ent) (L' : Nat → Nat → List Nat) (r' t' : List Nat), At E w0 B Z0 gv s' a w Z RV L' ∧ Taken L L' ls.flatten ∧ ls.length = js.length ∧ os.length = js.length ∧ (∀ (i j : Nat), js[i]? = some j → ∃ o l, os[i]? = some o ∧ ls[i]? = some l ∧ OwSV w Z o (tvOf a gv j) l) ∧ wp C (k os) s' r' t' K
  | [], s, L, k, r, t, h, hw => ⟨[], [], s, L, r, t, h, Taken.nil L, rfl, rfl, by simp, hw⟩
  | j :: js, s, L, k, r, t, h, hw => by
    simp only [ghostAM, wp_get] at hw
    obtain ⟨e, he, hw⟩ := hw
    have hsl := h.inv.slot j
    simp only [sOf, he, Option.getD_some] at hsl
    split at hw
    · rename_i hk
      obtain ⟨ys, l1, s1, L1, r1, t1, g1, g2, g3, g4, g5, hw⟩ := (pk_sound 12).2 h (slot_valsOf hsl hk) hw
      obtain ⟨os, ls, s', L', r', t', k1, k2, k3, k4, k5, k6⟩ := ghost_sound g1 hw
      refine ⟨_ :: os, l1 :: ls, s', L', r', t', k1, by simpa using g4.append k2, by simp [k3], by simp [k4], fun i j' hj => ?_, k6⟩
      cases i with
      | zero =>
        simp at hj
        subst hj
        exact ⟨_, _, rfl, rfl, ow_like hsl hk g5⟩
      | succ i => simpa using k5 i j' (by simpa using hj)
    · exact hw.elim

theorem outs_rel : ∀ {as : List Arg} {Vs : List Value} {os : List SV} {ls : List (List Nat)}, as.length = Vs.length → os.length = nmu as → ls.length = nmu as →
    (∀ i, i < nmu as → ∃ o l, os[i]? = some o ∧ ls[i]? = some l ∧ OwSV w Z o ((muVals as Vs).getD i undef) l) → OutsRel w Z as Vs os ls.flatten
  | [], Vs, os, ls, _, ho, hl, _ => by
    simp [nmu] at ho hl
    subst ho hl
    exact ⟨rfl, rfl⟩
  | a' :: as, [], _, _, h, _, _, _ => by simp at h
  | a' :: as, V :: Vs, os, ls, h, ho, hl, hr => by
    unfold OutsRel
    have hlen : as.length = Vs.length := by simpa using h
    unfold nmu at ho hl hr
    rw [List.filter_cons] at ho hl hr
    unfold muVals at hr
    split
    · rename_i hm
      rw [hm] at ho hl hr
      simp only [beq_self_eq_true, if_true, List.length_cons] at ho hl hr
      cases os with
      | nil => simp at ho
      | cons o os =>
        cases ls with
        | nil => simp at hl
        | cons l ls =>
          obtain ⟨o', l', h1, h2, h3⟩ := hr 0 (by omega)
          simp at h1 h2
          subst h1 h2
          refine ⟨o, os, l, ls.flatten, rfl, by simpa using h3, outs_rel hlen (by simpa [nmu] using ho) (by simpa [nmu] using hl) fun i hi => ?_, by simp⟩
          obtain ⟨o', l', h4, h5, h6⟩ := hr (i + 1) (by unfold nmu at hi; omega)
          exact ⟨o', l', by simpa using h4, by simpa using h5, by simpa using h6⟩
    · rename_i hm
      have hne : (a'.m == PM.mu) = false := by simpa using hm
      rw [hne] at ho hl hr
      simp only [Bool.false_eq_true, if_false] at ho hl hr
      exact outs_rel hlen ho hl fun i hi => by
        obtain ⟨o', l', h4, h5, h6⟩ := hr i hi
        exact ⟨o', l', h4, h5, h6⟩

theorem run_results {tmps : Array Value} : ∀ {rs : List ResultVar} {Vs : List Value}, ResVals P tmps w rs Vs →
    (rs.mapM fun (r : ResultVar) => match r with
      | .tmp t => (pure (tmps.getD t undef) : Sem Value)
      | .cell a t => do loadVar t (← asAddr (tmps.getD a undef))).run P w = .ok Vs w
  | [], [], _ => rfl
  | r :: rs, v :: Vs, ⟨h1, h2⟩ => by
    have ih := run_results h2
    rw [List.mapM_cons, Sem.run_bind]
    simp only [resVal] at h1
    rw [h1]
    simp only [Result.andThen_ok]
    rw [Sem.run_bind, ih]
    rfl

theorem resSV_ow {ts : List (Bool × List Cell)} {Vs : List Value} {l : List Nat} (h : OwTup w Z ts Vs l) : OwSV w Z (resSV ts) (if h : Vs.toArray.size = 1 then Vs.toArray[0] else .tuple Vs.toArray) l := by
  match ts, Vs, h with
  | [], [], h => exact ⟨#[], rfl, h⟩
  | [(true, xs)], [V], h =>
    obtain ⟨us, l1, l2, rfl, h2, h3, rfl⟩ := h
    cases h3
    exact ⟨us, rfl, by simpa using h2⟩
  | [(false, xs)], [V], h =>
    obtain ⟨x, l1, l2, rfl, h2, h3, rfl⟩ := h
    cases h3
    rw [List.append_nil]
    exact h2
  | (true, xs) :: t2 :: ts, V :: V2 :: Vs, h => exact ⟨_, rfl, h⟩
  | (false, xs) :: t2 :: ts, V :: V2 :: Vs, h =>
    have : resSV ((false, xs) :: t2 :: ts) = .tup ((false, xs) :: t2 :: ts) := by
      unfold resSV
      split
      · rename_i e; cases e
      · rename_i e; cases e
      · rfl
    rw [this]
    exact ⟨_, rfl, h⟩
  | (true, xs) :: t2 :: ts, [V], h => obtain ⟨_, _, _, _, _, h, _⟩ := h; cases t2 with | mk b _ => cases b <;> exact h.elim
  | (false, xs) :: t2 :: ts, [V], h => obtain ⟨_, _, _, _, _, h, _⟩ := h; cases t2 with | mk b _ => cases b <;> exact h.elim
  | [(true, xs)], V :: V2 :: Vs, h => obtain ⟨_, _, _, _, _, h, _⟩ := h; exact h.elim
  | [(false, xs)], V :: V2 :: Vs, h => obtain ⟨_, _, _, _, _, h, _⟩ := h; exact h.elim
end
end Go.Den

/- A function's contract from its computed precondition. -/
namespace Go.Den

section
variable {P : Program} {E : Env}
theorem run_enter {f : FuncId} {fn : Func} {c : Code} (hf : P.funcs[f]? = some fn) (hb : fn.body = some c) (hname : (fn.name == "runtime.NumGoroutine") = false) (vs : Array Value) (w : World) :
    (callFunc f vs).run P w = .ok (.enter f vs) w := by
  have hne : ¬ fn.name = "runtime.NumGoroutine" := by simpa using hname
  unfold callFunc
  simp [hf, hb, hne]

theorem ret_of_den (hT : TabOK P E.T) (hm : P.follows .mixedOrders = true) {f : FuncId} {fn : Func} {c : Code} (hf : P.funcs[f]? = some fn) (hb : fn.body = some c) (hname : (fn.name == "runtime.NumGoroutine") = false)
    (hn : E.n = fn.ntmps) {rs : List ResultVar} (hrs : fn.results.toList = rs) {args : List Arg} {res : Res} (hden : fnDen E (Ret P E.G) c rs args res) : Ret P E.G f args res := by
  intro w Z vs l hg hz hargs hnd hl
  unfold Goes
  rw [run_enter hf hb hname]
  simp only
  obtain ⟨hlen, _, rfl, hden⟩ := hden
  have hal := args_length hargs
  refine calls_of_wp hf hb ?_
  have hsz : ((vs.toArray ++ Array.replicate (fn.ntmps - vs.toArray.size) undef : Array Value)).size = E.n := by simp; omega
  have hmu := muVals_length hargs
  -- the begin
  have h0 : At E w (· ∈ l) Z (muVals args vs) (List.replicate (E.n + nmu args) default) { tmps := vs.toArray ++ Array.replicate (fn.ntmps - vs.toArray.size) undef, defers := [] } w Z (fun _ _ => undef) (fun _ _ => []) := by
    have hs : sOf (List.replicate (E.n + nmu args) default) = fun _ => SV.dead := by
      funext j
      unfold sOf
      rw [List.getElem?_replicate]
      split <;> rfl
    have hr : rOf (List.replicate (E.n + nmu args) default) = fun _ => [] := by
      funext j
      unfold rOf
      rw [List.getElem?_replicate]
      split <;> rfl
    refine ⟨hsz, by simp [hmu], rfl, ?_⟩
    rw [hs, hr]
    exact ⟨Ext.refl _ w, hg, hz, fun b hb => .inl hb, fun b hb => hb, fun r i x hx => by simp at hx, fun _ _ => .nil, fun _ _ _ _ _ b hb => by simp at hb,
      fun r i b hb => by simp at hb, fun _ _ _ => rfl, fun r i hi => by simp at hi, fun i => trivial⟩
  obtain ⟨RV, L, hat⟩ := entryG_sound h0 hargs (i := 0) (j := E.n) (fun k _ e he _ => by
    rw [List.getElem?_replicate] at he
    split at he
    · obtain rfl := Option.some.inj he; rfl
    · cases he) (by omega) (Nat.le_refl _) (by simp) (fun k hk => by
      have : k < ((vs.toArray ++ Array.replicate (fn.ntmps - vs.toArray.size) undef : Array Value)).size := by rw [hsz]; omega
      simp only [tvOf, Nat.zero_add, this, if_true]
      rw [Array.getD_eq_getD_getElem?, Array.getElem?_append_left (by simpa using hk)]
      simp [List.getD_eq_getElem?_getD]) (fun k hk => by
      simp only [tvOf, hsz]
      rw [if_neg (by omega)]
      congr 1
      omega) (fun b hb => ⟨(hl b hb).1, (hl b hb).2, .inl hb, fun r i hb' => by simp at hb'⟩) hnd
  refine den_sound hT hm c hden hat _ fun d s' a' w' Z' RV' L' hk h' => ?_
  have key : wp (Ret P E.G) (retAM E rs (List.range' E.n (nmu args))) s' [] [] (fun r _ _ _ => r = res) → a'.defers = [] ∧ ∃ v, (results fn a'.tmps).run P w' = .ok v w' ∧
      ∃ Z' lr lo, Ext (· ∈ l) w w' ∧ (∀ b, Z b → Z' b) ∧ (∀ b, Z' b → Z b ∨ (b < w'.heap.size ∧ (b ∈ l ∨ w.heap.size ≤ b))) ∧ OwSV w' Z' res.v v lr ∧ OutsRel w' Z' args vs res.outs lo ∧ (lr ++ lo).Nodup ∧
        ∀ b, b ∈ lr ++ lo → ¬ Z' b ∧ b < w'.heap.size ∧ (b ∈ l ∨ w.heap.size ≤ b) := by
    intro hw
    unfold retAM at hw
    obtain ⟨svs, Vs, r1, h1, h2, hw⟩ := res_sound hT h' hw
    obtain ⟨ts, lr, s2, L2, r2, t2, k1, k2, k3, hw⟩ := pack_sound h' h1 hw
    obtain ⟨os, ls, s3, L3, r3, t3, m1, m2, m3, m4, m5, hw⟩ := ghost_sound k1 hw
    have hres : (⟨resSV ts, os⟩ : Res) = res := hw
    subst hres
    refine ⟨h'.dfr, (if h : Vs.toArray.size = 1 then Vs.toArray[0] else .tuple Vs.toArray), ?_, Z', lr, ls.flatten, h'.inv.ext, h'.inv.zsub, fun b hb => ?_, resSV_ow k3, ?_, (k2.append m2).nodup, fun b hb => ?_⟩
    · have hrr := run_results h2
      rw [← hrs] at hrr
      unfold results
      rw [Array.mapM_eq_mapM_toList]
      rw [Sem.run_bind, Sem.run_map]
      refine (congrArg (fun r => Result.andThen (Result.andThen r _) _) hrr).trans ?_
      simp only [Result.andThen_ok, Sem.run_pure]
    · rcases h'.inv.zin b hb with h3 | h3
      · exact .inl h3
      · exact .inr ⟨h'.inv.zlt b hb, h3⟩
    · refine outs_rel hal (by simpa using m4) (by simpa using m3) fun i hi => ?_
      obtain ⟨o, l', e1, e2, e3⟩ := m5 i (E.n + i) (by simp [hi])
      refine ⟨o, l', e1, e2, ?_⟩
      have : tvOf a' (muVals args vs) (E.n + i) = (muVals args vs).getD i undef := by
        simp only [tvOf, h'.n]
        rw [if_neg (by omega)]
        congr 1
        omega
      rw [← this]
      exact e3
    · have := (k2.append m2).free h' b hb
      exact ⟨this.1, this.2.1, this.2.2.1⟩
  cases d with
  | normal => exact key hk
  | exit id => exact hk.elim
  | ret => exact key hk
end
end Go.Den

/- What is told of a program, out of the program itself. -/
namespace Go.Den

def tabOf (P : Program) (t : TypeId) : Option Ty := match P.info? t, P.underlying t with
  | some i, some d => match i.zero with
    | some z => if z.cells.size = i.size then some ⟨d, i.size, i.bytes, z⟩ else none
    | none => none
  | _, _ => none
theorem tabOf_ok (P : Program) : TabOK P (tabOf P) := fun t d h => by
  unfold tabOf at h
  split at h
  · rename_i i u hi hu
    split at h
    · rename_i z hz
      split at h
      · rename_i hs
        obtain rfl := Option.some.inj h
        exact ⟨hu, i, hi, rfl, rfl, hz, hs⟩
      · cases h
    · cases h
  · cases h
end Go.Den

/- For evaluations: ways on at the stops; the values of small operations. -/
namespace Go.Den

theorem iteP_intro {b : Bool} {p q : Prop} (h : b = true → p) (k : b = false → q) : iteP b p q := by
  cases b with
  | true => exact .t (h rfl)
  | false => exact .f (k rfl)
theorem iteP_true {b : Bool} {p q : Prop} (hb : b = true) (h : p) : iteP b p q := by subst hb; exact .t h
theorem iteP_false {b : Bool} {p q : Prop} (hb : b = false) (h : q) : iteP b p q := by subst hb; exact .f h
theorem ebro : (PM.ro == PM.mu) = false := rfl
theorem ebsh : (PM.sh == PM.mu) = false := rfl
theorem ebmv : (PM.mv == PM.mu) = false := rfl
theorem ebmu : (PM.mu == PM.mu) = true := rfl
theorem dfr : (default : Ent) = ⟨.dead, []⟩ := rfl
/-- An integer's cell. -/
abbrev i64 (n : Int) : Cell := .c (.int .i64 n)
abbrev ints (xs : List Int) : Cell := .sl false 1 xs.length (xs.map i64)
theorem wrap_i64 {a : Int} (h1 : -9223372036854775808 ≤ a) (h2 : a < 9223372036854775808) : IntKind.i64.wrap a = a := by
  have h : IntKind.i64.wrap a = if a % 18446744073709551616 ≥ 9223372036854775808 then a % 18446744073709551616 - 18446744073709551616 else a % 18446744073709551616 := by
    simp [IntKind.wrap, IntKind.bits, IntKind.signed]
  rw [h]
  split <;> omega
theorem wrap_nat {a : Nat} (h : a < 9223372036854775808) : IntKind.i64.wrap (a : Int) = a := wrap_i64 (by omega) (by omega)
theorem wrap_succ {a : Nat} (h : a + 1 < 9223372036854775808) : IntKind.i64.wrap ((a : Int) + 1) = ((a + 1 : Nat) : Int) := by
  rw [wrap_i64 (by omega) (by omega)]; omega
theorem pick_one {cs : List Cell} {i : Nat} {x : Cell} (h : cs[i]? = some x) : pickN 1 (cs.drop i) = some [x] := by
  have hi := (List.getElem?_eq_some_iff.1 h).1
  rw [List.drop_eq_getElem_cons hi]
  have := (List.getElem?_eq_some_iff.1 h).2
  simp [pickN, this]
/-- An element of a slice of cells of one value each. -/
theorem pick_at {α : Type} {f : α → Cell} {xs : List α} {n : Int} {i : Nat} (hn : n = i) (hi : i < xs.length) : pickN 1 ((xs.map f).drop (n.toNat * 1)) = some [f xs[i]] := by
  subst hn
  rw [Int.toNat_natCast, Nat.mul_one]
  exact pick_one (by simp [hi])
theorem pick_int {α : Type} {f : α → Cell} {xs : List α} {n : Int} (h0 : 0 ≤ n) (hi : n < xs.length) : pickN 1 ((xs.map f).drop (n.toNat * 1)) = some [f (xs[n.toNat]'(by omega))] := by
  rw [Nat.mul_one]
  exact pick_one (by simp [show n.toNat < xs.length by omega])
theorem wrap_u8 {a : Int} (h1 : 0 ≤ a) (h2 : a < 256) : IntKind.u8.wrap a = a := by
  have h : IntKind.u8.wrap a = a % 256 := by simp [IntKind.wrap, IntKind.bits, IntKind.signed]
  rw [h]
  omega
theorem ltT {i n : Nat} (h : decide ((i : Int) < n) = true) : i < n := by simpa using h
theorem ltF {i n : Nat} (h : decide ((i : Int) < n) = false) : n ≤ i := by simpa using h
theorem neT {a b : Int} (h : (a != b) = true) : a ≠ b := by simpa using h
theorem neF {a b : Int} (h : (a != b) = false) : a = b := by simpa using h
theorem eqT {a b : Int} (h : (a == b) = true) : a = b := by simpa using h
theorem eqF {a b : Int} (h : (a == b) = false) : a ≠ b := by simpa using h
theorem leT {p : Prop} [Decidable p] (h : decide p = true) : p := by simpa using h
theorem leF {p : Prop} [Decidable p] (h : decide p = false) : ¬ p := by simpa using h
theorem splice_one {α : Type} {f : α → Cell} {xs : List α} {i : Nat} {v : α} (hi : i < xs.length) : splice (xs.map f) i [f v] = (xs.set i v).map f := by
  rw [List.map_set]
  simp only [splice, List.length_cons, List.length_nil, Nat.zero_add]
  rw [List.set_eq_take_append_cons_drop, if_pos (by simpa using hi)]
  simp
theorem splice_at {α : Type} {f : α → Cell} {xs : List α} {n : Int} {i : Nat} {v : α} (hn : n = i) (hi : i < xs.length) : splice (xs.map f) (n.toNat * 1) [f v] = (xs.set i v).map f := by
  subst hn
  rw [Int.toNat_natCast, Nat.mul_one]
  exact splice_one hi
theorem spl_s (x : Cell) (xs ys : List Cell) (n : Nat) : splice (x :: xs) (n + 1) ys = x :: splice xs n ys := by simp [splice, Nat.add_right_comm]
theorem spl_c (x : Cell) (xs : List Cell) (y : Cell) (ys : List Cell) : splice (x :: xs) 0 (y :: ys) = y :: splice xs 0 ys := by simp [splice]
theorem spl_n (xs : List Cell) : splice xs 0 [] = xs := by simp [splice]
theorem cells_agg (cs : Array Value) : (Value.agg cs).cells = cs := rfl
theorem zeros_int (d : TypeDesc) (sz b : Nat) (k : IntKind) (v : Int) (m : Nat) : zeros ⟨d, sz, b, .int k v⟩ m = List.replicate m (.c (.int k v)) := rfl
theorem zeros_bool (d : TypeDesc) (sz b : Nat) (v : Bool) (m : Nat) : zeros ⟨d, sz, b, .bool v⟩ m = List.replicate m (.c (.bool v)) := rfl
theorem zeros_string (d : TypeDesc) (sz b : Nat) (v : ByteArray) (m : Nat) : zeros ⟨d, sz, b, .string v⟩ m = List.replicate m (.c (.string v)) := rfl
theorem zeros_slice (d : TypeDesc) (sz b : Nat) (m : Nat) : zeros ⟨d, sz, b, .slice none 0 0⟩ m = List.replicate m (.c (.slice none 0 0)) := rfl
theorem ints_snoc (xs : List Int) (v : Int) : ints (xs ++ [v]) = .sl false 1 (xs.length + 1) (xs.map i64 ++ [i64 v]) := by simp
theorem plain_ints (xs : List Int) : Plain (xs.map i64) := fun x hx => by
  obtain ⟨n, -, rfl⟩ := List.mem_map.1 hx
  rfl
theorem plain_nil : Plain [] := fun x hx => by cases hx
theorem all_ints (xs : List Int) : (xs.map i64).all okC = true := by
  rw [List.all_map]
  exact List.all_eq_true.2 fun _ _ => rfl
theorem plain_i64 (n : Int) : Plain [i64 n] := fun x hx => by simp at hx; subst hx; rfl
theorem endB {b b' : Bool} (h : b = b') : (⟨.one (.c (.bool b)), []⟩ : Res) = ⟨.one (.c (.bool b')), []⟩ := by rw [h]
theorem endI {n m : Int} (h : n = m) : (⟨.one (i64 n), []⟩ : Res) = ⟨.one (i64 m), []⟩ := by rw [h]
theorem opt_some {o : Option Cell} {x : Cell} {p : Cell → Prop} {q : Prop} (h : o = some x) (hp : p x) : ∃ o', o = o' ∧ optP o' p q := ⟨_, h, .s hp⟩
/-- An element that is a slice of its own. -/
theorem getC_rows {α : Type} {f : α → Cell} {sz n : Nat} {rs : List Cell} {xs : List α} {j i : Nat} {m : Int} (h0 : rs[j]? = some (.sl false sz n (xs.map f))) (hn : m = i) (hi : i < xs.length) : getC rs j (some (m.toNat * 1)) = some (f xs[i]) := by
  subst hn
  simp only [getC, h0, Int.toNat_natCast, Nat.mul_one]
  rw [List.getElem?_map, List.getElem?_eq_getElem hi]
  rfl
theorem setC_rows {α : Type} {f : α → Cell} {sz n : Nat} {rs : List Cell} {xs : List α} {j i : Nat} {m : Int} {v : α} {y : Cell} (h0 : rs[j]? = some (.sl false sz n (xs.map f))) (hn : m = i) (hy : y = f v) : setC rs j y (some (m.toNat * 1)) = rs.set j (.sl false sz n ((xs.set i v).map f)) := by
  subst hn
  subst hy
  simp only [setC, h0, Int.toNat_natCast, Nat.mul_one]
  rw [List.map_set]
theorem setC_some (cs : List Cell) (i : Nat) (y : Cell) (k : Nat) : setC cs i y (some k) = match cs[i]? with
    | some (.sl false sz n ds) => cs.set i (.sl false sz n (ds.set k y))
    | _ => cs := rfl
theorem getC_lent {α : Type} {f : α → Cell} {sz n : Nat} {rs : List Cell} {xs : List α} {j i : Nat} {m : Int} {y : Cell} (h0 : rs[j]? = some (.sl false sz n (xs.map f))) (hn : m = i) (hi : i < xs.length) : getC (setC rs j y (some (m.toNat * 1))) j (some (m.toNat * 1)) = some y := by
  subst hn
  have hj := (List.getElem?_eq_some_iff.1 h0).1
  simp only [setC, h0, Int.toNat_natCast, Nat.mul_one, getC, List.getElem?_set_self hj]
  rw [List.getElem?_set_self (by simpa using hi)]
theorem setC_setC (rs : List Cell) (j k : Nat) (y z : Cell) : setC (setC rs j y (some k)) j z (some k) = setC rs j z (some k) := by
  cases h0 : rs[j]? with
  | none => simp [setC, h0]
  | some x =>
    have hj := (List.getElem?_eq_some_iff.1 h0).1
    cases x with
    | sl es sz n ds =>
      cases es with
      | false =>
        have e : ∀ u, setC rs j u (some k) = rs.set j (.sl false sz n (ds.set k u)) := fun u => by simp only [setC, h0]
        rw [e, e]
        simp only [setC, List.getElem?_set_self hj, List.set_set]
      | true => simp [setC, h0]
    | _ => simp [setC, h0]
/-- How a state is written out. -/
theorem nf : (∀ n as, entry n as = entryG 0 n as (List.replicate (n + nmu as) default)) ∧ (∀ i j s, entryG i j [] s = s) ∧
    (∀ i j v as s, entryG i j (⟨.ro, v⟩ :: as) s = entryG (i + 1) j as (s.set i ⟨v, []⟩)) ∧
    (∀ i j v as s, entryG i j (⟨.mu, v⟩ :: as) s = entryG (i + 1) (j + 1) as ((s.set i ⟨(openSV i 0 v).1, (openSV i 0 v).2⟩).set j ⟨(openSV i 0 v).1, []⟩)) ∧
    (∀ i j v as s, entryG i j (⟨.mv, v⟩ :: as) s = entryG (i + 1) j as (s.set i ⟨(openSV i 0 v).1, (openSV i 0 v).2⟩)) ∧
    (∀ i j v as s, entryG i j (⟨.sh, v⟩ :: as) s = entryG (i + 1) j as (s.set i ⟨(openSV i 0 v).1, (openSV i 0 v).2⟩)) ∧
    nmu [] = 0 ∧ (∀ v as, nmu (⟨.ro, v⟩ :: as) = nmu as) ∧ (∀ v as, nmu (⟨.mu, v⟩ :: as) = nmu as + 1) ∧ (∀ v as, nmu (⟨.mv, v⟩ :: as) = nmu as) ∧ (∀ v as, nmu (⟨.sh, v⟩ :: as) = nmu as) ∧
    (∀ n l vs, restore n l vs = restoreG l vs (List.replicate n default)) ∧ (∀ vs s, restoreG [] vs s = s) ∧
    (∀ x xs v vs s, restoreG ((x, 0) :: xs) (v :: vs) s = restoreG xs vs (s.set x ⟨(openSV x 0 v).1, (openSV x 0 v).2⟩)) ∧
    (∀ x xs v vs s, restoreG ((x, 1) :: xs) (v :: vs) s = restoreG xs vs (s.set x ⟨(openSV x 0 v).1, (openSV x 0 v).2⟩)) ∧
    (∀ x k xs v vs s, restoreG ((x, k + 2) :: xs) (v :: vs) s = restoreG xs vs (s.set x ⟨(s[k]?.getD default).s, []⟩)) ∧
    (∀ id o d, firstId (.region id o d) = id) ∧ (∀ a b, firstId (.seq a b) = firstId a) ∧ (∀ i a, firstId (.block i a) = firstId a) ∧ (∀ a, firstId (.loop a) = firstId a) ∧
    (∀ r n, openSV r n .dead = (.dead, [])) ∧ (∀ r n x, openSV r n (.one x) = (.one (openC r n x).1, (openC r n x).2)) ∧ (∀ r n xs, openSV r n (.agg xs) = (.agg (openL r n xs).1, (openL r n xs).2)) ∧
    (∀ r n vs, openSV r n (.tup vs) = (.tup (openT r n vs).1, (openT r n vs).2)) ∧ (∀ r n, openT r n [] = ([], [])) ∧
    (∀ r n b xs vs, openT r n ((b, xs) :: vs) = ((b, (openL r n xs).1) :: (openT r (n + (openL r n xs).2.length) vs).1, (openL r n xs).2 ++ (openT r (n + (openL r n xs).2.length) vs).2)) ∧
    (∀ r n v, openC r n (.c v) = (.c v, [])) ∧ (∀ r n x, openC r n (.shd x) = (x, [])) ∧ (∀ r n es sz m cs, openC r n (.sl es sz m cs) = (.hd r n none, [.sl es sz m cs])) ∧
    (∀ r n es ks cs, openC r n (.mp es ks cs) = (.hd r n none, [.mp es ks cs])) ∧ (∀ r n cs, openC r n (.ptr cs) = (.hd r n none, .ptr (openL r (n + 1) cs).1 :: (openL r (n + 1) cs).2)) ∧
    (∀ r n f cs, openC r n (.fn f cs) = (.fn f (openL r n cs).1, (openL r n cs).2)) ∧ (∀ r n, openC r n .hole = (.hole, [])) ∧
    (∀ r n, openL r n [] = ([], [])) ∧ (∀ r n x xs, openL r n (x :: xs) = ((openC r n x).1 :: (openL r (n + (openC r n x).2.length) xs).1, (openC r n x).2 ++ (openL r (n + (openC r n x).2.length) xs).2)) ∧
    (∀ k n, svOf (.int k n) = .one (.c (.int k n))) ∧ (∀ b, svOf (.bool b) = .one (.c (.bool b))) ∧ (∀ b, svOf (.string b) = .one (.c (.string b))) ∧ (∀ a n k, svOf (.slice a n k) = .one (.c (.slice a n k))) ∧
    (∀ a, svOf (.map a) = .one (.c (.map a))) ∧ (∀ a, svOf (.pointer a) = .one (.c (.pointer a))) ∧ (∀ cs, svOf (.agg cs) = .agg (cs.toList.map .c)) ∧
    (∀ cs i y, setC cs i y none = cs.set i y) ∧ (∀ x, svCells (.one x) = [x]) ∧ (∀ xs, svCells (.agg xs) = xs) ∧ (default : Ent) = ⟨.dead, []⟩ :=
  ⟨fun _ _ => rfl, fun _ _ _ => rfl, fun _ _ _ _ _ => rfl, fun _ _ _ _ _ => rfl, fun _ _ _ _ _ => rfl, fun _ _ _ _ _ => rfl, rfl, fun _ _ => rfl, fun _ _ => rfl, fun _ _ => rfl, fun _ _ => rfl,
    fun _ _ _ => rfl, fun _ _ => by cases ‹List SV› <;> rfl, fun _ _ _ _ _ => rfl, fun _ _ _ _ _ => rfl, fun _ _ _ _ _ _ => rfl,
    fun _ _ _ => rfl, fun _ _ => rfl, fun _ _ => rfl, fun _ => rfl, fun _ _ => rfl, fun _ _ _ => rfl, fun _ _ _ => rfl, fun _ _ _ => rfl, fun _ _ => rfl, fun _ _ _ _ _ => rfl,
    fun _ _ _ => by simp only [openC], fun _ _ _ => by simp only [openC], fun _ _ _ _ _ _ => by simp only [openC], fun _ _ _ _ _ => by simp only [openC], fun _ _ _ => by simp only [openC], fun _ _ _ _ => by simp only [openC], fun _ _ => by simp only [openC],
    fun _ _ => by simp only [openL], fun _ _ _ _ => by simp only [openL], fun _ _ => rfl, fun _ => rfl, fun _ => rfl, fun _ _ _ => rfl, fun _ => rfl, fun _ => rfl, fun _ => rfl, fun _ _ _ => rfl, fun _ => rfl, fun _ => rfl, rfl⟩
/-- What is loaded. -/
theorem nm : (∀ x, svMk false [x] = .one x) ∧ (∀ xs, svMk true xs = .agg xs) ∧ (∀ k, isAggD (.int k) = false) ∧ isAggD .bool = false ∧ isAggD .string = false ∧ (∀ t, isAggD (.slice t) = false) ∧ (∀ t, isAggD (.pointer t) = false) ∧ (∀ k e, isAggD (.map k e) = false) ∧
    (∀ fs, isAggD (.struct fs) = true) ∧ (∀ n e, isAggD (.array n e) = true) ∧ (∀ x y, svLike (.one x) [y] = .one y) ∧ (∀ xs ys, svLike (.agg xs) ys = .agg ys) ∧ (∀ n : Nat, ([] : List Nat).contains n = false) ∧ (∀ n : Nat, [n].contains n = true) ∧
    (∀ r i j, viewL r i j [] = []) ∧ (∀ r i j x xs, viewL r i j (x :: xs) = viewC r i j x :: viewL r i (j + 1) xs) ∧ (∀ r i j v, viewC r i j (.c v) = .c v) ∧ (∀ r i j es sz n cs, viewC r i j (.sl es sz n cs) = .hd r i (some j)) :=
  ⟨fun _ => rfl, fun _ => rfl, fun _ => rfl, rfl, rfl, fun _ => rfl, fun _ => rfl, fun _ _ => rfl, fun _ => rfl, fun _ _ => rfl, fun _ _ => rfl, fun _ _ => rfl, fun _ => rfl, fun n => by simp, fun _ _ _ => rfl, fun _ _ _ _ _ => rfl, fun _ _ _ _ => rfl, fun _ _ _ _ _ _ _ => rfl⟩
/-- The same for lists. -/
theorem nl : (∀ (d : TypeDesc) (sz b : Nat) (k : IntKind) (v : Int) (m : Nat), zeros ⟨d, sz, b, .int k v⟩ m = List.replicate m (.c (.int k v))) ∧ (∀ (d : TypeDesc) (sz b : Nat) (v : Bool) (m : Nat), zeros ⟨d, sz, b, .bool v⟩ m = List.replicate m (.c (.bool v))) ∧
    (∀ (d : TypeDesc) (sz b : Nat) (v : ByteArray) (m : Nat), zeros ⟨d, sz, b, .string v⟩ m = List.replicate m (.c (.string v))) ∧ (∀ (d : TypeDesc) (sz b m : Nat), zeros ⟨d, sz, b, .slice none 0 0⟩ m = List.replicate m (.c (.slice none 0 0))) ∧
    (∀ (x : Cell) (xs ys : List Cell) (n : Nat), splice (x :: xs) (n + 1) ys = x :: splice xs n ys) ∧ (∀ (x : Cell) (xs : List Cell) (y : Cell) (ys : List Cell), splice (x :: xs) 0 (y :: ys) = y :: splice xs 0 ys) ∧ (∀ xs : List Cell, splice xs 0 [] = xs) ∧
    (∀ cs : Array Value, (Value.agg cs).cells = cs) ∧ (∀ xs : List Cell, [] ++ xs = xs) ∧ (∀ (x : Cell) (xs ys : List Cell), x :: xs ++ ys = x :: (xs ++ ys)) ∧ (∀ xs : List Cell, xs ++ [] = xs) ∧
    (∀ f : Value → Cell, [].map f = []) ∧ (∀ (f : Value → Cell) (x : Value) (xs : List Value), (x :: xs).map f = f x :: xs.map f) ∧ (∀ f : Int → Cell, [].map f = []) ∧ (∀ (f : Int → Cell) (x : Int) (xs : List Int), (x :: xs).map f = f x :: xs.map f) ∧
    (∀ (x : Nat) (d : Nat), (some x).getD d = x) ∧ (∀ (x d : Ent), (some x).getD d = x) ∧ ([] : List Cell).length = 0 ∧ (∀ (x : Cell) (xs : List Cell), (x :: xs).length = xs.length + 1) ∧ ([] : List Ent).length = 0 ∧ (∀ (x : Ent) (xs : List Ent), (x :: xs).length = xs.length + 1) ∧
    (∀ x : Ent, List.replicate 0 x = []) ∧ (∀ (n : Nat) (x : Ent), List.replicate (n + 1) x = x :: List.replicate n x) ∧ (∀ x : Cell, List.replicate 0 x = []) ∧ (∀ (n : Nat) (x : Cell), List.replicate (n + 1) x = x :: List.replicate n x) ∧
    (∀ (x y : Ent) (xs : List Ent), (x :: xs).set 0 y = y :: xs) ∧ (∀ (x y : Ent) (xs : List Ent) (n : Nat), (x :: xs).set (n + 1) y = x :: xs.set n y) ∧ (∀ (x y : Cell) (xs : List Cell), (x :: xs).set 0 y = y :: xs) ∧ (∀ (x y : Cell) (xs : List Cell) (n : Nat), (x :: xs).set (n + 1) y = x :: xs.set n y) ∧
    (∀ (x : Ent) (xs : List Ent), (x :: xs)[0]? = some x) ∧ (∀ (x : Ent) (xs : List Ent) (n : Nat), (x :: xs)[n + 1]? = xs[n]?) ∧ (∀ (x : Cell) (xs : List Cell), (x :: xs)[0]? = some x) ∧ (∀ (x : Cell) (xs : List Cell) (n : Nat), (x :: xs)[n + 1]? = xs[n]?) ∧ (∀ n : Nat, 0 * n = 0) :=
  ⟨zeros_int, zeros_bool, zeros_string, zeros_slice, spl_s, spl_c, spl_n, cells_agg, fun _ => rfl, fun _ _ _ => rfl, List.append_nil, fun _ => rfl, fun _ _ _ => rfl, fun _ => rfl, fun _ _ _ => rfl, fun _ _ => rfl, fun _ _ => rfl, rfl, fun _ _ => rfl, rfl, fun _ _ => rfl,
    fun _ => rfl, fun _ _ => rfl, fun _ => rfl, fun _ _ => rfl, fun _ _ _ => rfl, fun _ _ _ _ => rfl, fun _ _ _ => rfl, fun _ _ _ _ => rfl, fun _ _ => rfl, fun _ _ _ => rfl, fun _ _ => rfl, fun _ _ _ => rfl, Nat.zero_mul⟩
/-- What truth values say. -/
theorem htf : (∀ (p : Prop) [Decidable p], (decide p = true) = p) ∧ (∀ (p : Prop) [Decidable p], (decide p = false) = ¬ p) ∧ (∀ a b : Int, ((a != b) = true) = (a ≠ b)) ∧ (∀ a b : Int, ((a != b) = false) = (a = b)) ∧ (∀ a b : Int, ((a == b) = true) = (a = b)) ∧ (∀ a b : Int, ((a == b) = false) = (a ≠ b)) ∧
    (∀ b : Bool, ((!b) = true) = (b = false)) ∧ (∀ b : Bool, ((!b) = false) = (b = true)) :=
  ⟨fun _ _ => by simp, fun _ _ => by simp, fun _ _ => by simp, fun _ _ => by simp, fun _ _ => by simp, fun _ _ => by simp, fun b => by cases b <;> simp, fun b => by cases b <;> simp⟩
end Go.Den

/- Bits, as numbers. -/
namespace Go.Den

theorem and_i64 {a b : Nat} (ha : a < 2 ^ 63) : IntKind.i64.wrap ((BitVec.ofInt IntKind.i64.bits (a : Int) &&& BitVec.ofInt IntKind.i64.bits (b : Int)).toNat : Int) = ((a &&& b : Nat) : Int) := by
  have h1 : (BitVec.ofInt 64 (a : Int) &&& BitVec.ofInt 64 (b : Int)).toNat = a &&& (b % 2 ^ 64) := by
    rw [BitVec.toNat_and, BitVec.ofInt_natCast, BitVec.ofInt_natCast, BitVec.toNat_ofNat, BitVec.toNat_ofNat, Nat.mod_eq_of_lt (a := a) (by omega)]
  have h2 : a &&& (b % 2 ^ 64) = a &&& b := by
    refine Nat.eq_of_testBit_eq fun i => ?_
    rw [Nat.testBit_and, Nat.testBit_and, Nat.testBit_mod_two_pow]
    by_cases hi : i < 64
    · simp [hi]
    · have : a.testBit i = false := Nat.testBit_lt_two_pow (Nat.lt_of_lt_of_le ha (Nat.pow_le_pow_right (by decide) (by omega)))
      simp [this]
  have h3 : a &&& b ≤ a := Nat.and_le_left
  show IntKind.i64.wrap ((BitVec.ofInt 64 (a : Int) &&& BitVec.ofInt 64 (b : Int)).toNat : Int) = _
  rw [h1, h2]
  exact wrap_nat (by omega)
theorem or_i64 {a b : Nat} (ha : a < 2 ^ 63) (hb : b < 2 ^ 63) : IntKind.i64.wrap ((BitVec.ofInt IntKind.i64.bits (a : Int) ||| BitVec.ofInt IntKind.i64.bits (b : Int)).toNat : Int) = ((a ||| b : Nat) : Int) := by
  have h1 : (BitVec.ofInt 64 (a : Int) ||| BitVec.ofInt 64 (b : Int)).toNat = a ||| b := by
    rw [BitVec.toNat_or, BitVec.ofInt_natCast, BitVec.ofInt_natCast, BitVec.toNat_ofNat, BitVec.toNat_ofNat, Nat.mod_eq_of_lt (a := a) (by omega), Nat.mod_eq_of_lt (a := b) (by omega)]
  have h3 : a ||| b < 2 ^ 63 := Nat.or_lt_two_pow ha hb
  show IntKind.i64.wrap ((BitVec.ofInt 64 (a : Int) ||| BitVec.ofInt 64 (b : Int)).toNat : Int) = _
  rw [h1]
  exact wrap_nat (by omega)
theorem wrap_u64 {a : Int} (h1 : 0 ≤ a) (h2 : a < 18446744073709551616) : IntKind.u64.wrap a = a := by
  have h : IntKind.u64.wrap a = a % 18446744073709551616 := by simp [IntKind.wrap, IntKind.bits, IntKind.signed]
  rw [h]
  omega
theorem wrap_u64_mod (a : Int) : IntKind.u64.wrap a = a % 18446744073709551616 := by simp [IntKind.wrap, IntKind.bits, IntKind.signed]
theorem and_u64 {a b : Nat} (ha : a < 2 ^ 64) (hb : b < 2 ^ 64) : IntKind.u64.wrap ((BitVec.ofInt IntKind.u64.bits (a : Int) &&& BitVec.ofInt IntKind.u64.bits (b : Int)).toNat : Int) = ((a &&& b : Nat) : Int) := by
  have h1 : (BitVec.ofInt 64 (a : Int) &&& BitVec.ofInt 64 (b : Int)).toNat = a &&& b := by
    rw [BitVec.toNat_and, BitVec.ofInt_natCast, BitVec.ofInt_natCast, BitVec.toNat_ofNat, BitVec.toNat_ofNat, Nat.mod_eq_of_lt (a := a) (by omega), Nat.mod_eq_of_lt (a := b) (by omega)]
  have h3 : a &&& b ≤ a := Nat.and_le_left
  show IntKind.u64.wrap ((BitVec.ofInt 64 (a : Int) &&& BitVec.ofInt 64 (b : Int)).toNat : Int) = _
  rw [h1]
  exact wrap_u64 (by omega) (by omega)
theorem fdiv_pow (a n : Nat) : Int.fdiv (a : Int) (2 ^ n) = ((a / 2 ^ n : Nat) : Int) := by
  rw [Int.fdiv_eq_ediv_of_nonneg _ (Int.le_of_lt (Int.pow_pos (by decide)))]
  rw [show ((2 : Int) ^ n) = ((2 ^ n : Nat) : Int) by simp]
  exact (Int.natCast_ediv a (2 ^ n)).symm
/-- Is the bit set? -/
theorem bit_i64 {m i : Nat} (hm : m < 2 ^ 63) : (IntKind.i64.wrap ((BitVec.ofInt IntKind.i64.bits ((m / 2 ^ i : Nat) : Int) &&& BitVec.ofInt IntKind.i64.bits 1).toNat : Int) == 1) = m.testBit i := by
  have h := and_i64 (a := m / 2 ^ i) (b := 1) (Nat.lt_of_le_of_lt (Nat.div_le_self _ _) hm)
  rw [show (BitVec.ofInt IntKind.i64.bits 1) = BitVec.ofInt IntKind.i64.bits ((1 : Nat) : Int) from rfl, h, Nat.and_one_is_mod]
  have h2 : m.testBit i = decide (m / 2 ^ i % 2 = 1) := by rw [Nat.testBit_eq_decide_div_mod_eq]
  rw [h2]
  by_cases h3 : m / 2 ^ i % 2 = 1
  · rw [h3]; rfl
  · have : m / 2 ^ i % 2 = 0 := by omega
    rw [this]; rfl
theorem pow_i64 {i : Nat} (h : i < 63) : (2 : Nat) ^ i < 2 ^ 63 := Nat.pow_lt_pow_right (by decide) h

/-- A set of numbers below n as a mask. -/
def maskN (p : Nat → Bool) : Nat → Nat
  | 0 => 0
  | n + 1 => maskN p n + if p n then 2 ^ n else 0
theorem maskN_lt (p : Nat → Bool) : ∀ n, maskN p n < 2 ^ n
  | 0 => by simp [maskN]
  | n + 1 => by
    have := maskN_lt p n
    unfold maskN
    rw [Nat.pow_succ]
    split <;> omega
theorem maskN_or (p : Nat → Bool) (n : Nat) : maskN p (n + 1) = maskN p n ||| if p n then 2 ^ n else 0 := by
  show maskN p n + (if p n then 2 ^ n else 0) = _
  split
  · have := Nat.two_pow_add_eq_or_of_lt (maskN_lt p n) 1
    rw [Nat.mul_one] at this
    rw [Nat.or_comm, ← this, Nat.add_comm]
  · simp
theorem maskN_bit (p : Nat → Bool) : ∀ (n i : Nat), (maskN p n).testBit i = (decide (i < n) && p i)
  | 0, i => by simp [maskN]
  | n + 1, i => by
    rw [maskN_or, Nat.testBit_or, maskN_bit p n i]
    by_cases h : p n = true
    · rw [if_pos h, Nat.testBit_two_pow]
      by_cases e : n = i
      · subst e; simp [h]
      · have : decide (i < n + 1) = decide (i < n) := by
          rw [decide_eq_decide]; omega
        simp [e, this]
    · rw [if_neg h]
      by_cases e : n = i
      · subst e
        have : p n = false := by simpa using h
        simp [this]
      · have : decide (i < n + 1) = decide (i < n) := by
          rw [decide_eq_decide]; omega
        simp [this]
/-- A mask is told by its bits. -/
theorem maskN_self {m n : Nat} (h : m < 2 ^ n) : maskN m.testBit n = m := by
  refine Nat.eq_of_testBit_eq fun i => ?_
  rw [maskN_bit]
  by_cases hi : i < n
  · simp [hi]
  · have : m.testBit i = false := Nat.testBit_lt_two_pow (Nat.lt_of_lt_of_le h (Nat.pow_le_pow_right (by decide) (by omega)))
    simp [this]
theorem maskN_congr {p q : Nat → Bool} : ∀ {n : Nat}, (∀ i < n, p i = q i) → maskN p n = maskN q n
  | 0, _ => rfl
  | n + 1, h => by
    unfold maskN
    rw [maskN_congr (fun i hi => h i (by omega)), h n (by omega)]

/-- The members of a mask, in order. -/
def mems (m : Nat) : List Nat := (List.range 64).filter m.testBit
theorem mems_length (m : Nat) : (mems m).length ≤ 64 := by
  have := List.length_filter_le m.testBit (List.range 64)
  simpa [mems] using this
theorem ctz_spec {m : Nat} (h0 : m ≠ 0) (h : m < 2 ^ 64) : ∃ a, m = 2 ^ Lib.ctz 64 m * (2 * a + 1) ∧ Lib.ctz 64 m < 64 := by
  have := Lib.ctzFrom_spec 64 m (by omega) h
  simpa [Lib.ctz, h0] using this
theorem clear_bit {k a : Nat} (j : Nat) : ((2 ^ k * (2 * a + 1)) &&& (2 ^ k * (2 * a + 1) - 1)).testBit j = ((2 ^ k * (2 * a + 1)).testBit j && decide (j ≠ k)) := by
  have hp : 0 < 2 ^ k := Nat.two_pow_pos k
  have e1 : 2 ^ k * (2 * a + 1) = 2 ^ (k + 1) * a + 2 ^ k := by rw [Nat.pow_succ, Nat.mul_add, Nat.mul_one, Nat.mul_assoc]
  rw [Nat.testBit_and]
  rcases Nat.lt_trichotomy j k with h | h | h
  · have : (2 ^ k * (2 * a + 1)).testBit j = false := by
      rw [Nat.testBit_two_pow_mul]; simp; omega
    simp [this]
  · subst h
    have : (2 ^ j * (2 * a + 1) - 1).testBit j = false := by
      rw [Nat.testBit_eq_decide_div_mod_eq]
      have : (2 ^ j * (2 * a + 1) - 1) / 2 ^ j = 2 * a := by
        rw [Nat.div_eq_iff hp]
        rw [Nat.mul_add, Nat.mul_one, Nat.mul_comm (2 * a)]
        omega
      rw [this]
      simp
    simp [this]
  · have : ∀ x, 2 ^ (k + 1) * a ≤ x → x < 2 ^ (k + 1) * (a + 1) → x.testBit j = a.testBit (j - (k + 1)) := fun x h1 h2 => by
      have : x / 2 ^ (k + 1) = a := by
        rw [Nat.div_eq_iff (Nat.two_pow_pos _)]
        rw [Nat.mul_comm] at h1
        rw [Nat.mul_comm, Nat.add_mul, Nat.one_mul] at h2
        omega
      rw [← this, Nat.testBit_div_two_pow]
      congr 1
      omega
    have h2 : 2 ^ (k + 1) = 2 ^ k * 2 := Nat.pow_succ ..
    have h3 : 2 ^ (k + 1) * (a + 1) = 2 ^ (k + 1) * a + 2 ^ (k + 1) := by rw [Nat.mul_add, Nat.mul_one]
    rw [this _ (by omega) (by omega), this (2 ^ k * (2 * a + 1) - 1) (by omega) (by omega)]
    have : j ≠ k := by omega
    simp [this]
theorem mems_step {m : Nat} (h0 : m ≠ 0) (h : m < 2 ^ 64) : mems m = Lib.ctz 64 m :: mems (m &&& (m - 1)) := by
  obtain ⟨a, hm, hk⟩ := ctz_spec h0 h
  generalize Lib.ctz 64 m = k at *
  have hb : ∀ j, (m &&& (m - 1)).testBit j = (m.testBit j && decide (j ≠ k)) := fun j => by rw [hm]; exact clear_bit j
  have hk1 : m.testBit k = true := by
    rw [hm, Nat.testBit_two_pow_mul]; simp
  have hlow : ∀ j, j < k → m.testBit j = false := fun j hj => by
    rw [hm, Nat.testBit_two_pow_mul]; simp; omega
  unfold mems
  have hr : List.range 64 = List.range k ++ k :: (List.range' (k + 1) (64 - k - 1)) := by
    have h1 := List.range'_append_1 (s := 0) (m := k) (n := 64 - k)
    rw [Nat.zero_add, Nat.add_sub_cancel' (Nat.le_of_lt hk)] at h1
    rw [List.range_eq_range', List.range_eq_range', ← h1]
    congr 1
    rw [show 64 - k = (64 - k - 1) + 1 by omega, List.range'_succ]
    rfl
  rw [hr, List.filter_append, List.filter_append, List.filter_cons, List.filter_cons, if_pos hk1, if_neg (by rw [hb]; simp)]
  have e1 : (List.range k).filter m.testBit = [] := List.filter_eq_nil_iff.2 fun j hj => by simp [hlow j (List.mem_range.1 hj)]
  have e2 : (List.range k).filter (m &&& (m - 1)).testBit = [] := List.filter_eq_nil_iff.2 fun j hj => by rw [hb, hlow j (List.mem_range.1 hj)]; simp
  rw [e1, e2, List.nil_append, List.nil_append]
  congr 1
  refine List.filter_congr fun j hj => ?_
  rw [hb]
  have := (List.mem_range'_1.1 hj).1
  have : j ≠ k := by omega
  simp [this]
end Go.Den
