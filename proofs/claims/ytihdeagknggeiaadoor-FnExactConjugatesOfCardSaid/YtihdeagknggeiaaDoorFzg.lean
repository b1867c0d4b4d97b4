import Derived.Test.YtihdeagknggeiaaDoorFzf
set_option autoImplicit false
set_option linter.unusedSimpArgs false
set_option linter.unusedVariables false
namespace Go.Proofs.YtihdeagknggeiaaDoor
open Go.Den
theorem conR_all (n : Int) (ds xs : List Int) : (conR n ds xs).1.length ≤ 1000 ∧ (∀ r ∈ (conR n ds xs).1, r.length ≤ 24) ∧ ((conR n ds xs).2 = 0 → (conR n ds xs).1 ≠ []) := by
  cases h1 : alphaOk n ds with
  | false => rw [conR_bad h1]; exact ⟨by simp, by simp, fun h => by cases h⟩
  | true =>
  cases h2 : wordN n xs with
  | false => rw [conR_out h1 h2]; exact ⟨by simp, by simp, fun h => by cases h⟩
  | true =>
  obtain ⟨ms, e1, rfl, rfl, hl, hA⟩ := alpha_ok h1
  obtain ⟨w, e2, rfl, hwl, hwc⟩ := word_nat h2
  have hwd := word_wd hwc
  rw [conR_in h1 h2 e1 e2]
  have hG := cjW_all hA hwd
  by_cases hb : 1000 < (cjW ms w).length
  · rw [if_pos hb]; exact ⟨by simp, by simp, fun h => by cases h⟩
  · rw [if_neg hb]
    refine ⟨by rw [insL_len, List.length_map]; omega, fun r hr => ?_, fun _ => ?_⟩
    · have hr := (insL_perm _).mem_iff.1 hr
      obtain ⟨v, hv, rfl⟩ := List.mem_map.1 hr
      rw [natI_length, (hG.ok v hv).2]
      exact hwl
    · intro e
      have h3 := insL_len ((cjW ms w).map natI)
      rw [show insL ((cjW ms w).map natI) = [] from e, List.length_map] at h3
      have := List.length_pos_of_mem (cjW_head (ms := ms) (w := w))
      simp at h3
      omega
theorem conR_tot (n : Int) (ds xs : List Int) : tot (conR n ds xs).1 ≤ 24000 := by
  obtain ⟨h1, h2, -⟩ := conR_all n ds xs
  have := tot_le (c := 24) h2
  omega
/-- The first one of the conjugates. -/
def cycR (n : Int) (ds xs : List Int) : List Int := (conR n ds xs).1.headD []
theorem cycR_len (n : Int) (ds xs : List Int) : (cycR n ds xs).length ≤ 24 := by
  obtain ⟨-, h2, -⟩ := conR_all n ds xs
  unfold cycR
  cases h : (conR n ds xs).1 with
  | nil => simp
  | cons r rs => exact h2 r (by rw [h]; simp)
set_option maxHeartbeats 4000000 in
set_option maxRecDepth 100000 in
theorem shd_nil : OLe nilS (.shd (ints [])) := fun w Z v l h => by
  cases h
  exact .shd (.nil _ _)
end Go.Proofs.YtihdeagknggeiaaDoor
