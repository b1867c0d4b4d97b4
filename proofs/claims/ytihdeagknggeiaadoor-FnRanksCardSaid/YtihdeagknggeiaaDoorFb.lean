import Derived.Test.YtihdeagknggeiaaDoorFa
set_option autoImplicit false
set_option linter.unusedSimpArgs false
set_option linter.unusedVariables false
namespace Go.Proofs.YtihdeagknggeiaaDoor
open Go.Den
/-- Sorted lists with the same elements are one. -/
theorem srt_unique {α : Type} {lt : α → α → Bool} (hq : ∀ x y, lt x y = false → lt y x = false → x = y) : ∀ {xs ys : List α}, xs.Perm ys → xs.Pairwise (fun x y => lt y x = false) → ys.Pairwise (fun x y => lt y x = false) → xs = ys
  | [], ys, hp, _, _ => by
    have := hp.length_eq
    cases ys with
    | nil => rfl
    | cons => simp at this
  | x :: xs, ys, hp, hx, hy => by
    cases ys with
    | nil => have := hp.length_eq; simp at this
    | cons y ys =>
      obtain ⟨hx1, hx2⟩ := List.pairwise_cons.1 hx
      obtain ⟨hy1, hy2⟩ := List.pairwise_cons.1 hy
      have e : x = y := by
        have h1 : x ∈ y :: ys := hp.mem_iff.1 (by simp)
        have h2 : y ∈ x :: xs := hp.mem_iff.2 (by simp)
        rcases List.mem_cons.1 h1 with e | h1
        · exact e
        · rcases List.mem_cons.1 h2 with e | h2
          · exact e.symm
          · exact hq x y (hy1 x h1) (hx1 y h2)
      subst e
      rw [srt_unique hq (List.Perm.cons_inv hp) hx2 hy2]
end Go.Proofs.YtihdeagknggeiaaDoor
