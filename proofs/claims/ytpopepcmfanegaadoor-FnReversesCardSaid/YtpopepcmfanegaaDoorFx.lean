import Derived.Test.YtpopepcmfanegaaDoorFw
set_option autoImplicit false
set_option linter.unusedSimpArgs false
set_option linter.unusedVariables false
namespace Go.Proofs.YtpopepcmfanegaaDoor
open Go.Den
theorem alpha4 : Alpha [11, 7, 14, 13] := by
  refine alpha_dep (by decide) (fun a b => ?_) (by decide)
  have key : ∀ a < 4, ∀ b < 4, dep [11, 7, 14, 13] a b = dep [11, 7, 14, 13] b a := by decide
  have hz : ∀ a b, ¬ (a < 4 ∧ b < 4) → dep [11, 7, 14, 13] a b = false := fun a b h => by
    unfold dep
    by_cases ha : a < 4
    · have hb : 4 ≤ b := Nat.le_of_not_lt fun hb => h ⟨ha, hb⟩
      have hv : [11, 7, 14, 13].getD a 0 < 2 ^ 4 := by
        have : ∀ a < 4, [11, 7, 14, 13].getD a 0 < 2 ^ 4 := by decide
        exact this a ha
      exact Nat.testBit_lt_two_pow (Nat.lt_of_lt_of_le hv (Nat.pow_le_pow_right (by decide) hb))
    · rw [List.getD_eq_getElem?_getD, List.getElem?_eq_none (by simp; omega), Option.getD_none, Nat.zero_testBit]
  by_cases h : a < 4 ∧ b < 4
  · exact key a h.1 b h.2
  · rw [hz a b h, hz b a fun h' => h ⟨h'.2, h'.1⟩]
end Go.Proofs.YtpopepcmfanegaaDoor
