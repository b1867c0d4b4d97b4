import Derived.Test.YtihdeagknggeiaaDoorFf
set_option autoImplicit false
set_option linter.unusedSimpArgs false
set_option linter.unusedVariables false
namespace Go.Proofs.YtihdeagknggeiaaDoor
open Go.Den
/-- The code for an alphabet and words. -/
def wcode (a ok : Bool) : Int := if a then (if ok then 0 else 2) else 1
abbrev wordsC (ws : List (List Int)) : Cell := .sl false 1 ws.length (ws.map ints)
theorem alphaOk_n {n : Int} {ds : List Int} (h : alphaOk n ds = true) : 0 ≤ n ∧ n ≤ 8 ∧ (ds.length : Int) = n := by
  unfold alphaOk at h
  simp only [Bool.and_eq_true, decide_eq_true_eq] at h
  exact ⟨h.1.1.1.1, h.1.1.1.2, h.1.1.2⟩
end Go.Proofs.YtihdeagknggeiaaDoor
