import Derived.Test.YtihdeagknggeiaaDoorFv
set_option autoImplicit false
set_option linter.unusedSimpArgs false
set_option linter.unusedVariables false
namespace Go.Proofs.YtihdeagknggeiaaDoor
open Go.Den
theorem smN_upto {f : Nat → Nat} {L b : Nat} (h : ∀ c < L, f c ≤ b) : ∀ i, i ≤ L → smN f i ≤ i * b
  | 0, _ => by simp [smN]
  | i + 1, hi => by
    have h1 := smN_upto h i (by omega)
    have h2 := h i (by omega)
    rw [smN, Nat.add_mul, Nat.one_mul]
    omega
end Go.Proofs.YtihdeagknggeiaaDoor
