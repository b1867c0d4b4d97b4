import Derived.Test.YtpopepcmfanegaaDoorFzk
set_option autoImplicit false
set_option linter.unusedSimpArgs false
set_option linter.unusedVariables false
namespace Go.Proofs.YtpopepcmfanegaaDoor
open Go.Den
/-- The same without a limit. -/
def prP (ms ds : List Nat) (im : List (List Nat)) : Nat → List Nat → List Nat → List (List Nat)
  | 0, s, _ => [s]
  | k + 1, s, v => if v.length = 0 then [s] else
    (List.range ms.length).flatMap fun a => if shB ms a s then [] else match cut ds (im.getD a []) v with
      | none => []
      | some r => prP ms ds im k (s ++ [a]) r
def prQ (ms ds : List Nat) (im : List (List Nat)) (k : Nat) (s v : List Nat) (a : Nat) : List (List Nat) := if shB ms a s then [] else match cut ds (im.getD a []) v with
  | none => []
  | some r => prP ms ds im k (s ++ [a]) r
theorem prP_go {ms ds : List Nat} {im : List (List Nat)} {k : Nat} {s v : List Nat} (hv : v.length ≠ 0) : prP ms ds im (k + 1) s v = (List.range ms.length).flatMap (prQ ms ds im k s v) := by
  rw [prP, if_neg hv]
  rfl
theorem prP_end {ms ds : List Nat} {im : List (List Nat)} {s v : List Nat} (hv : v.length = 0) : ∀ k, prP ms ds im k s v = [s]
  | 0 => rfl
  | k + 1 => by rw [prP, if_pos hv]
theorem prG_pure {ms ds : List Nat} {im : List (List Nat)} : ∀ (k : Nat) (s v : List Nat) (out : List (List Nat)), (prG ms ds im k s v out).length ≤ 1000 → prG ms ds im k s v out = out ++ prP ms ds im k s v
  | 0, s, v, out, h => by
    rw [prG] at h ⊢
    split
    · rename_i h1
      rw [if_pos h1] at h
      omega
    · rfl
  | k + 1, s, v, out, h => by
    by_cases h1 : 1000 < out.length
    · rw [prG_full _ _ _ _ _ _ h1] at h
      omega
    · by_cases hv : v.length = 0
      · rw [prG_end (by omega) hv, prP_end hv]
      · rw [prG_go (by omega) hv] at h ⊢
        have key : ∀ i, (prL ms ds im k s v out i).length ≤ 1000 → prL ms ds im k s v out i = out ++ (List.range i).flatMap (prQ ms ds im k s v) := by
          intro i
          induction i with
          | zero => intro _; exact (List.append_nil _).symm
          | succ i ih =>
            intro h
            have hi : (prL ms ds im k s v out i).length ≤ 1000 := by
              by_cases hh : 1000 < (prL ms ds im k s v out i).length
              · rw [prL_full hh] at h; omega
              · omega
            rw [List.range_succ, List.flatMap_append, ← List.append_assoc, ← ih hi]
            simp only [List.flatMap_cons, List.flatMap_nil, List.append_nil]
            unfold prQ
            cases h1 : shB ms i s with
            | true => rw [prL_t h1]; simp
            | false =>
              cases h2 : cut ds (im.getD i []) v with
              | none => rw [prL_n h1 h2]; simp
              | some r =>
                rw [prL_s h1 h2] at h ⊢
                rw [prG_pure k _ _ _ h]
                simp
        rw [key _ h, prP_go hv]
theorem prQ_in {ms ds : List Nat} {im : List (List Nat)} {k : Nat} {s v e : List Nat} {a : Nat} (h : e ∈ prQ ms ds im k s v a) : ∃ r, cut ds (im.getD a []) v = some r ∧ e ∈ prP ms ds im k (s ++ [a]) r := by
  unfold prQ at h
  split at h
  · cases h
  · split at h
    · cases h
    · rename_i r hr
      exact ⟨r, hr, h⟩
theorem prP_pre {ms ds : List Nat} {im : List (List Nat)} : ∀ (k : Nat) (s v : List Nat), ∀ e ∈ prP ms ds im k s v, ∃ t, e = s ++ t
  | 0, s, v, e, h => ⟨[], by simpa [prP] using h⟩
  | k + 1, s, v, e, h => by
    by_cases hv : v.length = 0
    · rw [prP_end hv] at h
      exact ⟨[], by simpa using h⟩
    · rw [prP_go hv] at h
      obtain ⟨a, ha, h⟩ := List.mem_flatMap.1 h
      obtain ⟨r, hr, h⟩ := prQ_in h
      obtain ⟨t, rfl⟩ := prP_pre k _ _ e h
      exact ⟨a :: t, by simp⟩
/-- Before in ascending order, neither one a beginning of the other. -/
def LtL (u v : List Nat) : Prop := ∃ p a b x y, u = p ++ a :: x ∧ v = p ++ b :: y ∧ a < b
theorem prP_sorted {ms ds : List Nat} {im : List (List Nat)} : ∀ (k : Nat) (s v : List Nat), (prP ms ds im k s v).Pairwise LtL
  | 0, s, v => by simp [prP]
  | k + 1, s, v => by
    by_cases hv : v.length = 0
    · rw [prP_end hv]
      simp
    · rw [prP_go hv, List.pairwise_flatMap]
      refine ⟨fun a _ => ?_, List.pairwise_lt_range.imp fun {a b} hab x hx y hy => ?_⟩
      · unfold prQ
        split
        · exact .nil
        · split
          · exact .nil
          · exact prP_sorted k _ _
      · obtain ⟨r, hr, hx⟩ := prQ_in hx
        obtain ⟨q, hq, hy⟩ := prQ_in hy
        obtain ⟨t, rfl⟩ := prP_pre k _ _ x hx
        obtain ⟨t', rfl⟩ := prP_pre k _ _ y hy
        exact ⟨s, a, b, t, t', by simp, by simp, hab⟩
theorem prP_mem {ms ds : List Nat} {im : List (List Nat)} (hB : Alpha ds) (hne : ∀ v ∈ im, v.length ≠ 0) (hi : im.length = ms.length) : ∀ (k : Nat) (s v : List Nat), v.length ≤ k → ∀ e ∈ prP ms ds im k s v, ∃ t, e = s ++ t ∧ Wd ms t ∧ t.length ≤ k ∧ Eqv ds (imgN im t) v
  | 0, s, v, hv, e, h => by
    have h0 : v = [] := List.length_eq_zero_iff.1 (by omega)
    subst h0
    exact ⟨[], by simpa [prP] using h, .nil _, by simp, .refl _ _⟩
  | k + 1, s, v, hv, e, h => by
    by_cases hv0 : v.length = 0
    · rw [prP_end hv0] at h
      have h0 : v = [] := List.length_eq_zero_iff.1 hv0
      subst h0
      exact ⟨[], by simpa using h, .nil _, by simp, .refl _ _⟩
    · rw [prP_go hv0] at h
      obtain ⟨a, ha, h⟩ := List.mem_flatMap.1 h
      obtain ⟨r, hr, h⟩ := prQ_in h
      have ha' : a < ms.length := by simpa using ha
      have hl := cut_length hr
      have hn := im_getD_ne hne (a := a) (by omega)
      obtain ⟨t, rfl, ht, htl, hE⟩ := prP_mem hB hne hi k _ r (by omega) e h
      refine ⟨a :: t, by simp, .cons ha' ht, by simp; omega, ?_⟩
      rw [imgN_cons]
      exact ((Eqv.refl _ _).append hE).trans (cut_eqv hB hr).symm
theorem nrm_left {ms w : List Nat} : ∀ (n : Nat) (t : List Nat), t.length = n → nrm ms (w ++ t) = true → nrm ms w = true
  | 0, t, h, hn => by
    have := List.length_eq_zero_iff.1 h
    subst this
    simpa using hn
  | n + 1, t, h, hn => by
    rcases List.eq_nil_or_concat t with rfl | ⟨t', a, rfl⟩
    · simp at h
    · rw [List.concat_eq_append, ← List.append_assoc, nrm_snoc, Bool.and_eq_true] at hn
      exact nrm_left n t' (by simpa using h) hn.1
theorem prP_all {ms ds : List Nat} {im : List (List Nat)} (hB : Alpha ds) (hw : Wds ds im) (hne : ∀ v ∈ im, v.length ≠ 0) (hi : im.length = ms.length) : ∀ (k : Nat) (s t v : List Nat), Wd ms t → Wd ds v → v.length ≤ k → nrm ms (s ++ t) = true → Eqv ds (imgN im t) v → s ++ t ∈ prP ms ds im k s v
  | k, s, [], v, _, hv, _, _, hE => by
    have h0 : v = [] := eqv_nil hB hv hE.symm
    subst h0
    rw [prP_end rfl]
    simp
  | 0, s, a :: t, v, ht, hv, hk, _, hE => by
    have h0 : v = [] := List.length_eq_zero_iff.1 (by omega)
    subst h0
    have := eqv_nil hB (imgN_wd hw (a :: t)) hE
    rw [imgN_cons] at this
    have hn := im_getD_ne hne (a := a) (by have := ht.head; omega)
    exact absurd ((by have h := congrArg List.length this; rw [List.length_append, List.length_nil] at h; omega) : (im.getD a []).length = 0) hn
  | k + 1, s, a :: t, v, ht, hv, hk, hn, hE => by
    have hna := im_getD_ne hne (a := a) (by have := ht.head; omega)
    have hv0 : v.length ≠ 0 := fun h0 => by
      have h0 := List.length_eq_zero_iff.1 h0
      subst h0
      have := eqv_nil hB (imgN_wd hw (a :: t)) hE
      rw [imgN_cons] at this
      exact absurd ((by have h := congrArg List.length this; rw [List.length_append, List.length_nil] at h; omega) : (im.getD a []).length = 0) hna
    have hwa := wds_getD hw a
    rw [imgN_cons] at hE
    obtain ⟨r, hr, hr2⟩ := cut_of hB hwa hE.symm
    have hl := cut_length hr
    have hn1 : nrm ms (s ++ [a]) = true := nrm_left t.length t rfl (by simpa using hn)
    rw [nrm_snoc, Bool.and_eq_true] at hn1
    rw [prP_go hv0]
    refine List.mem_flatMap.2 ⟨a, List.mem_range.2 ht.head, ?_⟩
    unfold prQ
    rw [if_neg (by simpa using hn1.2), hr]
    have := prP_all hB hw hne hi k (s ++ [a]) t r ht.tail (cut_wd hv hr) (by omega) (by simpa using hn) hr2.symm
    simpa using this
/-- Ascending order of lists. -/
def lsL : List Int → List Int → Bool
  | [], [] => false
  | [], _ :: _ => true
  | _ :: _, [] => false
  | x :: u, y :: v => if x < y then true else if y < x then false else lsL u v
theorem lsL_of : ∀ {u v : List Nat}, LtL u v → lsL (natI u) (natI v) = true := by
  rintro u v ⟨p, a, b, x, y, rfl, rfl, hab⟩
  induction p with
  | nil =>
    show lsL ((a : Int) :: natI x) ((b : Int) :: natI y) = true
    rw [lsL, if_pos (by omega)]
  | cons c p ih =>
    show lsL ((c : Int) :: natI (p ++ a :: x)) ((c : Int) :: natI (p ++ b :: y)) = true
    rw [lsL, if_neg (by omega), if_neg (by omega)]
    exact ih
set_option maxHeartbeats 4000000 in
set_option maxRecDepth 100000 in
theorem less5_ret (u v : List Int) (hu : u.length < 2 ^ 62) (hv : v.length < 2 ^ 62) : Ret Tryd.prog G0 116 [⟨.ro, .one (ints u)⟩, ⟨.ro, .one (ints v)⟩] ⟨.one (.c (.bool (lsL u v))), []⟩ := by
  (refine ret_of_den (E := en 41 [] (fun _ => [(5, 0), (0, 1), (1, 1)]) (fun _ => [])) tt_ok mixed Tryd.func116 rfl rfl rfl rfl ?_; refine ⟨by simp, ?_⟩)
  repeat' (first | ((first | refine opt_some (getC_rows rfl rfl (by omega)) ?_ | refine opt_some (by dsimp only; exact getC_lent rfl rfl (by omega)) ?_ | refine opt_some rfl ?_ | refine ⟨_, (by simp only [nf, nl, nm, en, ints, setC_setC, Nat.reduceAdd, Nat.reduceMul]; exact rfl), ?_⟩ | refine ⟨_, pickT rfl, ?_⟩ | refine ⟨_, rfl, ?_⟩ | refine iteP_true rfl ?_ | refine iteP_false rfl ?_ | refine iteP_true ‹_› ?_ | refine iteP_false ‹_› ?_ | refine andK ?_ | refine andA ?_ | refine andT ?_); conv => whnf) | (refine iteP_intro (fun hb => ?_) (fun hb => ?_) <;> (conv => whnf)))
  refine ⟨fun k vs => ∃ i : Nat, i ≤ u.length ∧ i ≤ v.length ∧ lsL u v = lsL (u.drop i) (v.drop i) ∧ vs = [.one (i64 i), .one (.shd (ints u)), .one (.shd (ints v))] ∧ k = u.length - i, rfl, ⟨_, 0, by omega, by omega, rfl, rfl, rfl⟩, ?_⟩
  rintro k vs ⟨i, hi, hib, hc, rfl, rfl⟩
  repeat (first | ((first | refine opt_some (getC_rows rfl rfl (by omega)) ?_ | refine opt_some (by dsimp only; exact getC_lent rfl rfl (by omega)) ?_ | refine opt_some rfl ?_ | refine ⟨_, (by simp only [nf, nl, nm, en, ints, setC_setC, Nat.reduceAdd, Nat.reduceMul]; exact rfl), ?_⟩ | refine ⟨_, pickT rfl, ?_⟩ | refine ⟨_, rfl, ?_⟩ | refine iteP_true rfl ?_ | refine iteP_false rfl ?_ | refine iteP_true ‹_› ?_ | refine iteP_false ‹_› ?_ | refine andK ?_ | refine andA ?_ | refine andT ?_); conv => whnf))
  refine iteP_intro (fun hb => ?_) (fun hb => ?_) <;> (conv => whnf)
  · have hi' : i < u.length := by have := leT hb; omega
    rw [List.drop_eq_getElem_cons hi'] at hc
    repeat (first | ((first | refine opt_some (getC_rows rfl rfl (by omega)) ?_ | refine opt_some (by dsimp only; exact getC_lent rfl rfl (by omega)) ?_ | refine opt_some rfl ?_ | refine ⟨_, (by simp only [nf, nl, nm, en, ints, setC_setC, Nat.reduceAdd, Nat.reduceMul]; exact rfl), ?_⟩ | refine ⟨_, pickT rfl, ?_⟩ | refine ⟨_, rfl, ?_⟩ | refine iteP_true rfl ?_ | refine iteP_false rfl ?_ | refine iteP_true ‹_› ?_ | refine iteP_false ‹_› ?_ | refine andK ?_ | refine andA ?_ | refine andT ?_); conv => whnf))
    refine iteP_intro (fun hb => ?_) (fun hb => ?_) <;> (conv => whnf)
    · have hb2 : i < v.length := by have := leT hb; omega
      rw [List.drop_eq_getElem_cons hb2, lsL] at hc
      repeat' (first | ((first | refine opt_some (getC_rows rfl rfl (by omega)) ?_ | refine opt_some (by dsimp only; exact getC_lent rfl rfl (by omega)) ?_ | refine opt_some rfl ?_ | refine ⟨_, (by simp only [nf, nl, nm, en, ints, setC_setC, Nat.reduceAdd, Nat.reduceMul]; exact rfl), ?_⟩ | refine ⟨_, pickT rfl, ?_⟩ | refine ⟨_, rfl, ?_⟩ | refine iteP_true rfl ?_ | refine iteP_false rfl ?_ | refine iteP_true ‹_› ?_ | refine iteP_false ‹_› ?_ | refine andK ?_ | refine andA ?_ | refine andT ?_); conv => whnf) | (refine iteP_intro (fun hb => ?_) (fun hb => ?_) <;> (conv => whnf)))
      · have hne : u[i] ≠ v[i] := by simpa using hb
        refine endB ?_
        rw [hc]
        by_cases h1 : u[i] < v[i]
        · rw [if_pos h1, decide_eq_true h1]
        · rw [if_neg h1, if_pos (by omega), decide_eq_false h1]
      · have he : u[i] = v[i] := by simpa using hb
        rw [if_neg (by omega), if_neg (by omega)] at hc
        refine ⟨_, ?_, i + 1, hi', by omega, hc, by rw [wrap_succ (by omega)]; rfl, rfl⟩
        omega
    · have hb2 : v.length ≤ i := by have := leF hb; omega
      rw [List.drop_eq_nil_of_le hb2] at hc
      repeat' (first | ((first | refine opt_some (getC_rows rfl rfl (by omega)) ?_ | refine opt_some (by dsimp only; exact getC_lent rfl rfl (by omega)) ?_ | refine opt_some rfl ?_ | refine ⟨_, (by simp only [nf, nl, nm, en, ints, setC_setC, Nat.reduceAdd, Nat.reduceMul]; exact rfl), ?_⟩ | refine ⟨_, pickT rfl, ?_⟩ | refine ⟨_, rfl, ?_⟩ | refine iteP_true rfl ?_ | refine iteP_false rfl ?_ | refine iteP_true ‹_› ?_ | refine iteP_false ‹_› ?_ | refine andK ?_ | refine andA ?_ | refine andT ?_); conv => whnf) | (refine iteP_intro (fun hb => ?_) (fun hb => ?_) <;> (conv => whnf)))
      refine endB ?_
      rw [hc, show decide ((u.length : Int) < v.length) = false from decide_eq_false (by omega)]
      rfl
  · obtain rfl : i = u.length := by have := leF hb; omega
    rw [List.drop_eq_nil_of_le (Nat.le_refl _)] at hc
    repeat' (first | ((first | refine opt_some (getC_rows rfl rfl (by omega)) ?_ | refine opt_some (by dsimp only; exact getC_lent rfl rfl (by omega)) ?_ | refine opt_some rfl ?_ | refine ⟨_, (by simp only [nf, nl, nm, en, ints, setC_setC, Nat.reduceAdd, Nat.reduceMul]; exact rfl), ?_⟩ | refine ⟨_, pickT rfl, ?_⟩ | refine ⟨_, rfl, ?_⟩ | refine iteP_true rfl ?_ | refine iteP_false rfl ?_ | refine iteP_true ‹_› ?_ | refine iteP_false ‹_› ?_ | refine andK ?_ | refine andA ?_ | refine andT ?_); conv => whnf) | (refine iteP_intro (fun hb => ?_) (fun hb => ?_) <;> (conv => whnf)))
    refine endB ?_
    rw [hc]
    by_cases h2 : u.length < v.length
    · rw [List.drop_eq_getElem_cons h2, decide_eq_true (by omega)]
      rfl
    · rw [List.drop_eq_nil_of_le (by omega), decide_eq_false (by omega)]
      rfl
set_option maxHeartbeats 4000000 in
set_option maxRecDepth 100000 in
theorem rises5_ret (rs : List (List Int)) (hl : rs.length ≤ 2 ^ 40) (hx : ∀ r ∈ rs, r.length < 2 ^ 62) (hr : ∀ i (h : i + 1 < rs.length), lsL (rs[i]'(by omega)) rs[i + 1] = true) : Ret Tryd.prog G0 50 [⟨.ro, .one (rowsI rs)⟩] ⟨.one (.c (.bool true)), []⟩ := by
  unfold rowsI
  (refine ret_of_den (E := en 21 [] (fun _ => [(3, 0), (0, 1)]) (fun _ => [])) tt_ok mixed Tryd.func50 rfl rfl rfl rfl ?_; refine ⟨by simp, ?_⟩)
  repeat' (first | ((first | refine opt_some (getC_rows rfl rfl (by omega)) ?_ | refine opt_some (by dsimp only; exact getC_lent rfl rfl (by omega)) ?_ | refine opt_some rfl ?_ | refine ⟨_, (by simp only [nf, nl, nm, en, ints, setC_setC, Nat.reduceAdd, Nat.reduceMul]; exact rfl), ?_⟩ | refine ⟨_, pickT rfl, ?_⟩ | refine ⟨_, rfl, ?_⟩ | refine iteP_true rfl ?_ | refine iteP_false rfl ?_ | refine iteP_true ‹_› ?_ | refine iteP_false ‹_› ?_ | refine andK ?_ | refine andA ?_ | refine andT ?_); conv => whnf) | (refine iteP_intro (fun hb => ?_) (fun hb => ?_) <;> (conv => whnf)))
  refine ⟨fun k vs => ∃ i : Nat, i ≤ rs.length ∧ vs = [.one (i64 (i + 1 : Nat)), .one (.shd (.sl false 1 rs.length (rs.map ints)))] ∧ k = rs.length - i, rfl, ⟨_, 0, by omega, rfl, rfl⟩, ?_⟩
  rintro k vs ⟨i, hi, rfl, rfl⟩
  repeat (first | ((first | refine opt_some (getC_rows rfl rfl (by omega)) ?_ | refine opt_some (by dsimp only; exact getC_lent rfl rfl (by omega)) ?_ | refine opt_some rfl ?_ | refine ⟨_, (by simp only [nf, nl, nm, en, ints, setC_setC, Nat.reduceAdd, Nat.reduceMul]; exact rfl), ?_⟩ | refine ⟨_, pickT rfl, ?_⟩ | refine ⟨_, rfl, ?_⟩ | refine iteP_true rfl ?_ | refine iteP_false rfl ?_ | refine iteP_true ‹_› ?_ | refine iteP_false ‹_› ?_ | refine andK ?_ | refine andA ?_ | refine andT ?_); conv => whnf))
  refine iteP_intro (fun hb => ?_) (fun hb => ?_) <;> (conv => whnf)
  · have hi' : i + 1 < rs.length := by have := leT hb; omega
    have hw1 : IntKind.i64.wrap (((i + 1 : Nat) : Int) - 1) = (i : Int) := by rw [wrap_i64 (by omega) (by omega)]; omega
    have hL := less5_ret (rs[i]'(by omega)) rs[i + 1] (hx _ (List.getElem_mem _)) (hx _ (List.getElem_mem _))
    rw [hr i hi'] at hL
    repeat (first | ((first | refine opt_some (getC_rows rfl rfl (by omega)) ?_ | refine opt_some (by dsimp only; exact getC_lent rfl rfl (by omega)) ?_ | refine opt_some rfl ?_ | refine ⟨_, (by simp only [nf, nl, nm, en, ints, setC_setC, Nat.reduceAdd, Nat.reduceMul, hw1]; exact rfl), ?_⟩ | refine ⟨_, pickT rfl, ?_⟩ | refine ⟨_, rfl, ?_⟩ | refine iteP_true rfl ?_ | refine iteP_false rfl ?_ | refine iteP_true ‹_› ?_ | refine iteP_false ‹_› ?_ | refine andK ?_ | refine andA ?_ | refine andT ?_); conv => whnf))
    (refine ⟨_, hL, ?_⟩; conv => whnf)
    repeat' (first | ((first | refine opt_some (getC_rows rfl rfl (by omega)) ?_ | refine opt_some (by dsimp only; exact getC_lent rfl rfl (by omega)) ?_ | refine opt_some rfl ?_ | refine ⟨_, (by simp only [nf, nl, nm, en, ints, setC_setC, Nat.reduceAdd, Nat.reduceMul]; exact rfl), ?_⟩ | refine ⟨_, pickT rfl, ?_⟩ | refine ⟨_, rfl, ?_⟩ | refine iteP_true rfl ?_ | refine iteP_false rfl ?_ | refine iteP_true ‹_› ?_ | refine iteP_false ‹_› ?_ | refine andK ?_ | refine andA ?_ | refine andT ?_); conv => whnf) | (refine iteP_intro (fun hb => ?_) (fun hb => ?_) <;> (conv => whnf)))
    refine ⟨_, ?_, i + 1, by omega, by rw [wrap_succ (by omega)]; rfl, rfl⟩
    omega
  · repeat' (first | ((first | refine opt_some (getC_rows rfl rfl (by omega)) ?_ | refine opt_some (by dsimp only; exact getC_lent rfl rfl (by omega)) ?_ | refine opt_some rfl ?_ | refine ⟨_, (by simp only [nf, nl, nm, en, ints, setC_setC, Nat.reduceAdd, Nat.reduceMul]; exact rfl), ?_⟩ | refine ⟨_, pickT rfl, ?_⟩ | refine ⟨_, rfl, ?_⟩ | refine iteP_true rfl ?_ | refine iteP_false rfl ?_ | refine iteP_true ‹_› ?_ | refine iteP_false ‹_› ?_ | refine andK ?_ | refine andA ?_ | refine andT ?_); conv => whnf) | (refine iteP_intro (fun hb => ?_) (fun hb => ?_) <;> (conv => whnf)))
    rfl
set_option maxHeartbeats 4000000 in
set_option maxRecDepth 100000 in
theorem hasRow5_ret (rs : List (List Int)) (w : List Int) (hl : rs.length ≤ 2 ^ 40) (hx : ∀ r ∈ rs, r.length < 2 ^ 62) (hr : w ∈ rs) : Ret Tryd.prog G0 51 [⟨.ro, .one (rowsI rs)⟩, ⟨.ro, .one (ints w)⟩] ⟨.one (.c (.bool true)), []⟩ := by
  unfold rowsI
  (refine ret_of_den (E := en 18 [] (fun _ => [(5, 0), (0, 1), (1, 1)]) (fun _ => [])) tt_ok mixed Tryd.func51 rfl rfl rfl rfl ?_; refine ⟨by simp, ?_⟩)
  repeat' (first | ((first | refine opt_some (getC_rows rfl rfl (by omega)) ?_ | refine opt_some (by dsimp only; exact getC_lent rfl rfl (by omega)) ?_ | refine opt_some rfl ?_ | refine ⟨_, (by simp only [nf, nl, nm, en, ints, setC_setC, Nat.reduceAdd, Nat.reduceMul]; exact rfl), ?_⟩ | refine ⟨_, pickT rfl, ?_⟩ | refine ⟨_, rfl, ?_⟩ | refine iteP_true rfl ?_ | refine iteP_false rfl ?_ | refine iteP_true ‹_› ?_ | refine iteP_false ‹_› ?_ | refine andK ?_ | refine andA ?_ | refine andT ?_); conv => whnf) | (refine iteP_intro (fun hb => ?_) (fun hb => ?_) <;> (conv => whnf)))
  refine ⟨fun k vs => ∃ i : Nat, i ≤ rs.length ∧ w ∈ rs.drop i ∧ vs = [.one (i64 i), .one (.shd (.sl false 1 rs.length (rs.map ints))), .one (.shd (ints w))] ∧ k = rs.length - i, rfl, ⟨_, 0, by omega, hr, rfl, rfl⟩, ?_⟩
  rintro k vs ⟨i, hi, hm, rfl, rfl⟩
  repeat (first | ((first | refine opt_some (getC_rows rfl rfl (by omega)) ?_ | refine opt_some (by dsimp only; exact getC_lent rfl rfl (by omega)) ?_ | refine opt_some rfl ?_ | refine ⟨_, (by simp only [nf, nl, nm, en, ints, setC_setC, Nat.reduceAdd, Nat.reduceMul]; exact rfl), ?_⟩ | refine ⟨_, pickT rfl, ?_⟩ | refine ⟨_, rfl, ?_⟩ | refine iteP_true rfl ?_ | refine iteP_false rfl ?_ | refine iteP_true ‹_› ?_ | refine iteP_false ‹_› ?_ | refine andK ?_ | refine andA ?_ | refine andT ?_); conv => whnf))
  refine iteP_intro (fun hb => ?_) (fun hb => ?_) <;> (conv => whnf)
  · have hi' : i < rs.length := by have := leT hb; omega
    rw [List.drop_eq_getElem_cons hi'] at hm
    have hL := likeInts_ret rs[i] w (hx _ (List.getElem_mem _))
    repeat (first | ((first | refine opt_some (getC_rows rfl rfl (by omega)) ?_ | refine opt_some (by dsimp only; exact getC_lent rfl rfl (by omega)) ?_ | refine opt_some rfl ?_ | refine ⟨_, (by simp only [nf, nl, nm, en, ints, setC_setC, Nat.reduceAdd, Nat.reduceMul]; exact rfl), ?_⟩ | refine ⟨_, pickT rfl, ?_⟩ | refine ⟨_, rfl, ?_⟩ | refine iteP_true rfl ?_ | refine iteP_false rfl ?_ | refine iteP_true ‹_› ?_ | refine iteP_false ‹_› ?_ | refine andK ?_ | refine andA ?_ | refine andT ?_); conv => whnf))
    (refine ⟨_, hL, ?_⟩; conv => whnf)
    repeat' (first | ((first | refine opt_some (getC_rows rfl rfl (by omega)) ?_ | refine opt_some (by dsimp only; exact getC_lent rfl rfl (by omega)) ?_ | refine opt_some rfl ?_ | refine ⟨_, (by simp only [nf, nl, nm, en, ints, setC_setC, Nat.reduceAdd, Nat.reduceMul]; exact rfl), ?_⟩ | refine ⟨_, pickT rfl, ?_⟩ | refine ⟨_, rfl, ?_⟩ | refine iteP_true rfl ?_ | refine iteP_false rfl ?_ | refine iteP_true ‹_› ?_ | refine iteP_false ‹_› ?_ | refine andK ?_ | refine andA ?_ | refine andT ?_); conv => whnf) | (refine iteP_intro (fun hb => ?_) (fun hb => ?_) <;> (conv => whnf)))
    · rfl
    · have hne : rs[i] ≠ w := of_decide_eq_false hb
      refine ⟨_, ?_, i + 1, hi', ?_, by rw [wrap_succ (by omega)]; rfl, rfl⟩
      · omega
      · rcases List.mem_cons.1 hm with h | h
        · exact absurd h.symm hne
        · exact h
  · exfalso
    have : rs.length ≤ i := by have := leF hb; omega
    rw [List.drop_eq_nil_of_le this] at hm
    cases hm
end Go.Proofs.YtpopepcmfanegaaDoor
