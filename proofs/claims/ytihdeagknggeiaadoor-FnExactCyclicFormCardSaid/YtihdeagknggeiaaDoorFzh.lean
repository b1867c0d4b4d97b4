import Derived.Test.YtihdeagknggeiaaDoorFzg
set_option autoImplicit false
set_option linter.unusedSimpArgs false
set_option linter.unusedVariables false
namespace Go.Proofs.YtihdeagknggeiaaDoor
open Go.Den
theorem conR_all (n : Int) (ds xs : List Int) : (conR n ds xs).1.length ≤ 1000 ∧ (∀ r ∈ (conR n ds xs).1, r.length ≤ 24) ∧ ((conR n ds xs).2 = 0 → (conR n ds xs).1 ≠ []) := by
  cases h1 : alphaOk n ds with
  | false => rw [conR_bad h1]; exact ⟨by simp, by simp, fun h => by cases h⟩
  | true =>
  cases h2 : wordN n xs with
  | false => rw [conR_out h1 h2]; exact ⟨by simp, by simp, fun h => by cases h⟩
  | true =>
  obtain ⟨ms, e1, rfl, rfl, hl, hA⟩ := alpha_ok h1
  obtain ⟨w, e2, rfl, hwl, hwc⟩ := word_nat h2
  have hwd := word_wd hwc
  rw [conR_in h1 h2 e1 e2]
  have hG := cjW_all hA hwd
  by_cases hb : 1000 < (cjW ms w).length
  · rw [if_pos hb]; exact ⟨by simp, by simp, fun h => by cases h⟩
  · rw [if_neg hb]
    refine ⟨by rw [insL_len, List.length_map]; omega, fun r hr => ?_, fun _ => ?_⟩
    · have hr := (insL_perm _).mem_iff.1 hr
      obtain ⟨v, hv, rfl⟩ := List.mem_map.1 hr
      rw [natI_length, (hG.ok v hv).2]
      exact hwl
    · intro e
      have h3 := insL_len ((cjW ms w).map natI)
      rw [show insL ((cjW ms w).map natI) = [] from e, List.length_map] at h3
      have := List.length_pos_of_mem (cjW_head (ms := ms) (w := w))
      simp at h3
      omega
theorem conR_tot (n : Int) (ds xs : List Int) : tot (conR n ds xs).1 ≤ 24000 := by
  obtain ⟨h1, h2, -⟩ := conR_all n ds xs
  have := tot_le (c := 24) h2
  omega
/-- The first one of the conjugates. -/
def cycR (n : Int) (ds xs : List Int) : List Int := (conR n ds xs).1.headD []
theorem cycR_len (n : Int) (ds xs : List Int) : (cycR n ds xs).length ≤ 24 := by
  obtain ⟨-, h2, -⟩ := conR_all n ds xs
  unfold cycR
  cases h : (conR n ds xs).1 with
  | nil => simp
  | cons r rs => exact h2 r (by rw [h]; simp)
set_option maxHeartbeats 4000000 in
set_option maxRecDepth 100000 in
theorem shd_nil : OLe nilS (.shd (ints [])) := fun w Z v l h => by
  cases h
  exact .shd (.nil _ _)
set_option maxHeartbeats 4000000 in
set_option maxRecDepth 100000 in
theorem cycI_ret (n : Int) (ds xs : List Int) (hd : ds.length < 2 ^ 62) (hx : xs.length < 2 ^ 62) : Ret Tryd.prog G0 29 [⟨.ro, .agg [i64 n, ints ds]⟩, ⟨.ro, .one (ints xs)⟩] ⟨.tup [(false, [ints (cycR n ds xs)]), (false, [i64 (conR n ds xs).2])], []⟩ := by
  have hC := conI_ret n ds xs hd hx
  obtain ⟨-, -, hne⟩ := conR_all n ds xs
  by_cases h0 : (conR n ds xs).2 = 0
  rotate_left
  · have hz := conR_nz h0
    have hcy : cycR n ds xs = [] := by unfold cycR; rw [hz]; rfl
    rw [hcy]
    refine Ret.relax (?_ : Ret _ _ _ _ ⟨.tup [(false, [nilS]), (false, [i64 (conR n ds xs).2])], []⟩) (.tup1 (ints_nil_le (w := []) rfl) (.refl _)) (.refl _)
    have hE : ∃ c, (conR n ds xs).2 = c := ⟨_, rfl⟩
    obtain ⟨c, hc⟩ := hE
    rw [hc] at hC h0 ⊢
    have h2 : (c != 0) = true := by simpa using h0
    unfold rowsI at hC
    (refine ret_of_den (E := en 20 [] (fun _ => []) (fun _ => [])) tt_ok mixed Tryd.func29 rfl rfl rfl rfl ?_; refine ⟨by simp, ?_⟩)
    repeat' (first | ((first | refine opt_some (getC_rows rfl rfl (by omega)) ?_ | refine opt_some (by dsimp only; exact getC_lent rfl rfl (by omega)) ?_ | refine opt_some rfl ?_ | refine ⟨_, (by simp only [nf, nl, nm, en, ints, setC_setC, Nat.reduceAdd, Nat.reduceMul]; exact rfl), ?_⟩ | refine ⟨_, pickT rfl, ?_⟩ | refine ⟨_, rfl, ?_⟩ | refine iteP_true rfl ?_ | refine iteP_false rfl ?_ | refine iteP_true ‹_› ?_ | refine iteP_false ‹_› ?_ | refine andK ?_ | refine andA ?_ | refine andT ?_); conv => whnf) | (refine iteP_intro (fun hb => ?_) (fun hb => ?_) <;> (conv => whnf)))
    (refine ⟨_, hC, ?_⟩; conv => whnf)
    repeat' (first | ((first | refine opt_some (getC_rows rfl rfl (by omega)) ?_ | refine opt_some (by dsimp only; exact getC_lent rfl rfl (by omega)) ?_ | refine opt_some rfl ?_ | refine ⟨_, (by simp only [nf, nl, nm, en, ints, setC_setC, Nat.reduceAdd, Nat.reduceMul]; exact rfl), ?_⟩ | refine ⟨_, pickT rfl, ?_⟩ | refine ⟨_, rfl, ?_⟩ | refine iteP_true rfl ?_ | refine iteP_false rfl ?_ | refine iteP_true ‹_› ?_ | refine iteP_false ‹_› ?_ | refine andK ?_ | refine andA ?_ | refine andT ?_); conv => whnf) | (refine iteP_intro (fun hb => ?_) (fun hb => ?_) <;> (conv => whnf)))
    rfl
  have hne := hne h0
  have hcy : ∃ rs, (conR n ds xs).1 = cycR n ds xs :: rs := by
    unfold cycR
    cases h : (conR n ds xs).1 with
    | nil => exact absurd h hne
    | cons r rs => exact ⟨rs, rfl⟩
  obtain ⟨rs, hrs⟩ := hcy
  rw [h0] at hC ⊢
  rw [hrs] at hC
  have hy : ∃ y, cycR n ds xs = y := ⟨_, rfl⟩
  obtain ⟨y, hy⟩ := hy
  rw [hy] at hC ⊢
  unfold rowsI at hC
  have hg : getC [.sl false 1 (y :: rs).length ((y :: rs).map ints)] 0 (some 0) = some (ints y) := rfl
  (refine ret_of_den (E := en 20 [] (fun _ => []) (fun _ => [])) tt_ok mixed Tryd.func29 rfl rfl rfl rfl ?_; refine ⟨by simp, ?_⟩)
  repeat' (first | ((first | refine opt_some (getC_rows rfl rfl (by omega)) ?_ | refine opt_some (by dsimp only; exact getC_lent rfl rfl (by omega)) ?_ | refine opt_some rfl ?_ | refine ⟨_, (by simp only [nf, nl, nm, en, ints, setC_setC, Nat.reduceAdd, Nat.reduceMul]; exact rfl), ?_⟩ | refine ⟨_, pickT rfl, ?_⟩ | refine ⟨_, rfl, ?_⟩ | refine iteP_true rfl ?_ | refine iteP_false rfl ?_ | refine iteP_true ‹_› ?_ | refine iteP_false ‹_› ?_ | refine andK ?_ | refine andA ?_ | refine andT ?_); conv => whnf) | (refine iteP_intro (fun hb => ?_) (fun hb => ?_) <;> (conv => whnf)))
  (refine ⟨_, hC, ?_⟩; conv => whnf)
  repeat' (first | ((first | refine opt_some (getC_rows rfl rfl (by omega)) ?_ | refine opt_some (by dsimp only; exact getC_lent rfl rfl (by omega)) ?_ | refine opt_some rfl ?_ | refine ⟨_, (by simp only [nf, nl, nm, en, ints, setC_setC, Nat.reduceAdd, Nat.reduceMul]; exact rfl), ?_⟩ | refine ⟨_, pickT rfl, ?_⟩ | refine ⟨_, rfl, ?_⟩ | refine iteP_true rfl ?_ | refine iteP_false rfl ?_ | refine iteP_true ‹_› ?_ | refine iteP_false ‹_› ?_ | refine andK ?_ | refine andA ?_ | refine andT ?_); conv => whnf) | (refine iteP_intro (fun hb => ?_) (fun hb => ?_) <;> (conv => whnf)))
  rfl
set_option maxHeartbeats 4000000 in
set_option maxRecDepth 100000 in
theorem cycS_ret (n : Int) (ds xs : List Int) (hd : ds.length < 2 ^ 62) (hx : xs.length < 2 ^ 62) : Ret Tryd.prog G0 28 [⟨.ro, .agg [i64 n, ints ds]⟩, ⟨.ro, .one (ints xs)⟩] ⟨.tup [(false, [.shd (ints (cycR n ds xs))]), (false, [i64 (conR n ds xs).2])], []⟩ := by
  have hC := conS_ret n ds xs hd hx
  obtain ⟨-, -, hne⟩ := conR_all n ds xs
  by_cases h0 : (conR n ds xs).2 = 0
  rotate_left
  · have hz := conR_nz h0
    have hcy : cycR n ds xs = [] := by unfold cycR; rw [hz]; rfl
    rw [hcy]
    refine Ret.relax (?_ : Ret _ _ _ _ ⟨.tup [(false, [nilS]), (false, [i64 (conR n ds xs).2])], []⟩) (.tup1 shd_nil (.refl _)) (.refl _)
    have hE : ∃ c, (conR n ds xs).2 = c := ⟨_, rfl⟩
    obtain ⟨c, hc⟩ := hE
    rw [hc] at hC h0 ⊢
    have h2 : (c != 0) = true := by simpa using h0
    unfold rowsS at hC
    (refine ret_of_den (E := en 20 [] (fun _ => []) (fun _ => [])) tt_ok mixed Tryd.func28 rfl rfl rfl rfl ?_; refine ⟨by simp, ?_⟩)
    repeat' (first | ((first | refine opt_some (getC_rows rfl rfl (by omega)) ?_ | refine opt_some (by dsimp only; exact getC_lent rfl rfl (by omega)) ?_ | refine opt_some rfl ?_ | refine ⟨_, (by simp only [nf, nl, nm, en, ints, setC_setC, Nat.reduceAdd, Nat.reduceMul]; exact rfl), ?_⟩ | refine ⟨_, pickT rfl, ?_⟩ | refine ⟨_, rfl, ?_⟩ | refine iteP_true rfl ?_ | refine iteP_false rfl ?_ | refine iteP_true ‹_› ?_ | refine iteP_false ‹_› ?_ | refine andK ?_ | refine andA ?_ | refine andT ?_); conv => whnf) | (refine iteP_intro (fun hb => ?_) (fun hb => ?_) <;> (conv => whnf)))
    (refine ⟨_, hC, ?_⟩; conv => whnf)
    repeat' (first | ((first | refine opt_some (getC_rows rfl rfl (by omega)) ?_ | refine opt_some (by dsimp only; exact getC_lent rfl rfl (by omega)) ?_ | refine opt_some rfl ?_ | refine ⟨_, (by simp only [nf, nl, nm, en, ints, setC_setC, Nat.reduceAdd, Nat.reduceMul]; exact rfl), ?_⟩ | refine ⟨_, pickT rfl, ?_⟩ | refine ⟨_, rfl, ?_⟩ | refine iteP_true rfl ?_ | refine iteP_false rfl ?_ | refine iteP_true ‹_› ?_ | refine iteP_false ‹_› ?_ | refine andK ?_ | refine andA ?_ | refine andT ?_); conv => whnf) | (refine iteP_intro (fun hb => ?_) (fun hb => ?_) <;> (conv => whnf)))
    rfl
  have hne := hne h0
  have hcy : ∃ rs, (conR n ds xs).1 = cycR n ds xs :: rs := by
    unfold cycR
    cases h : (conR n ds xs).1 with
    | nil => exact absurd h hne
    | cons r rs => exact ⟨rs, rfl⟩
  obtain ⟨rs, hrs⟩ := hcy
  rw [h0] at hC ⊢
  rw [hrs] at hC
  have hy : ∃ y, cycR n ds xs = y := ⟨_, rfl⟩
  obtain ⟨y, hy⟩ := hy
  rw [hy] at hC ⊢
  unfold rowsS at hC
  (refine ret_of_den (E := en 20 [] (fun _ => []) (fun _ => [])) tt_ok mixed Tryd.func28 rfl rfl rfl rfl ?_; refine ⟨by simp, ?_⟩)
  repeat' (first | ((first | refine opt_some (getC_rows rfl rfl (by omega)) ?_ | refine opt_some (by dsimp only; exact getC_lent rfl rfl (by omega)) ?_ | refine opt_some rfl ?_ | refine ⟨_, (by simp only [nf, nl, nm, en, ints, setC_setC, Nat.reduceAdd, Nat.reduceMul]; exact rfl), ?_⟩ | refine ⟨_, pickT rfl, ?_⟩ | refine ⟨_, rfl, ?_⟩ | refine iteP_true rfl ?_ | refine iteP_false rfl ?_ | refine iteP_true ‹_› ?_ | refine iteP_false ‹_› ?_ | refine andK ?_ | refine andA ?_ | refine andT ?_); conv => whnf) | (refine iteP_intro (fun hb => ?_) (fun hb => ?_) <;> (conv => whnf)))
  (refine ⟨_, hC, ?_⟩; conv => whnf)
  repeat' (first | ((first | refine opt_some (getC_rows rfl rfl (by omega)) ?_ | refine opt_some (by dsimp only; exact getC_lent rfl rfl (by omega)) ?_ | refine opt_some rfl ?_ | refine ⟨_, (by simp only [nf, nl, nm, en, ints, setC_setC, Nat.reduceAdd, Nat.reduceMul]; exact rfl), ?_⟩ | refine ⟨_, pickT rfl, ?_⟩ | refine ⟨_, rfl, ?_⟩ | refine iteP_true rfl ?_ | refine iteP_false rfl ?_ | refine iteP_true ‹_› ?_ | refine iteP_false ‹_› ?_ | refine andK ?_ | refine andA ?_ | refine andT ?_); conv => whnf) | (refine iteP_intro (fun hb => ?_) (fun hb => ?_) <;> (conv => whnf)))
  rfl
end Go.Proofs.YtihdeagknggeiaaDoor
