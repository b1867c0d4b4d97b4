import Derived.Test.YtpopepcmfanegaaDoorFt
set_option autoImplicit false
set_option linter.unusedSimpArgs false
set_option linter.unusedVariables false
namespace Go.Proofs.YtpopepcmfanegaaDoor
open Go.Den
/-- The masks of the numbers below n. -/
def powsN (n : Nat) : List Nat := (List.range n).map fun j => 2 ^ j
theorem powsN_length (n : Nat) : (powsN n).length = n := by simp [powsN]
theorem powsN_succ (n : Nat) : powsN (n + 1) = powsN n ++ [2 ^ n] := by simp [powsN, List.range_succ]
def depN : Nat → Cell
  | 0 => nilS
  | i + 1 => .sl false 1 (i + 1) ((natI (powsN (i + 1))).map i64)
theorem depN_le : ∀ n, OLe (depN n) (ints (natI (powsN n)))
  | 0 => .nil _ _
  | n + 1 => by
    unfold ints
    rw [natI_length, powsN_length]
    exact .refl _
end Go.Proofs.YtpopepcmfanegaaDoor
