import Derived.Test.YtihdeagknggeiaaDoorFx
set_option autoImplicit false
set_option linter.unusedSimpArgs false
set_option linter.unusedVariables false
namespace Go.Proofs.YtihdeagknggeiaaDoor
open Go.Den
/-! ### The sorted list is the one that insertion gives -/
theorem insS_sorted {w : List Int} : ∀ {rs : List (List Int)}, rs.Pairwise (fun x y => ltR y x = false) → (insS w rs).Pairwise (fun x y => ltR y x = false)
  | [], _ => by simp [insS]
  | r :: rs, h => by
    obtain ⟨h1, h2⟩ := List.pairwise_cons.1 h
    rw [insS]
    by_cases hl : ltR r w = true
    · rw [if_pos hl]
      refine List.pairwise_cons.2 ⟨fun x hx => ?_, insS_sorted h2⟩
      rcases List.mem_cons.1 ((insS_perm w rs).mem_iff.1 hx) with rfl | hx
      · cases hx2 : ltR x r with
        | false => rfl
        | true => have := swoR.trans _ _ _ hl hx2; rw [swoR.irrefl] at this; cases this
      · exact h1 x hx
    · have hl : ltR r w = false := by simpa using hl
      rw [if_neg (by rw [hl]; simp)]
      refine List.pairwise_cons.2 ⟨fun x hx => ?_, h⟩
      rcases List.mem_cons.1 hx with rfl | hx
      · exact hl
      · exact swoR.ntrans _ _ _ (h1 x hx) hl
theorem insL_sorted (rs : List (List Int)) : (insL rs).Pairwise (fun x y => ltR y x = false) := by
  have : ∀ (l o : List (List Int)), o.Pairwise (fun x y => ltR y x = false) → (l.foldl (fun o w => insS w o) o).Pairwise (fun x y => ltR y x = false) := fun l => by
    induction l with
    | nil => exact fun o h => h
    | cons x l ih => exact fun o h => ih _ (insS_sorted h)
  exact this rs [] .nil
theorem ltR_eq (x y : List Int) (h1 : ltR x y = false) (h2 : ltR y x = false) : x = y := by
  have h1 := of_decide_eq_false h1
  have h2 := of_decide_eq_false h2
  rw [cmpL_neg] at h2
  exact cmpL_eq (by omega)
theorem insL_unique {rows zs : List (List Int)} (hp : zs.Perm rows) (hs : zs.Pairwise fun x y => ltR y x = false) : zs = insL rows :=
  srt_unique ltR_eq (hp.trans (insL_perm rows).symm) hs (insL_sorted rows)
end Go.Proofs.YtihdeagknggeiaaDoor
