import Derived.Test.YtljhmkkmcbfffaaDoorFu
set_option autoImplicit false
set_option linter.unusedSimpArgs false
set_option linter.unusedVariables false
namespace Go.Proofs.YtljhmkkmcbfffaaDoor
open Go.Den
theorem natI_eq (u v : List Nat) : decide (natI u = natI v) = decide (u = v) := by
  rw [decide_eq_decide]
  exact ⟨natI_inj, fun h => by rw [h]⟩
/-- Are they words of the same trace? -/
def sameN (ms u v : List Nat) : Bool := decide (nform ms u = nform ms v)
/-- Do their products in both orders agree? -/
def comN (ms u v : List Nat) : Bool := sameN ms (u ++ v) (v ++ u)
theorem comN_comm (ms u v : List Nat) : comN ms u v = comN ms v u := by
  unfold comN sameN
  rw [decide_eq_decide]
  exact ⟨Eq.symm, Eq.symm⟩
/-- How far v is cut: what is still to come, and what is left. -/
theorem cut_step_t {ms u v : List Nat} {a : Nat} (h : canF ms a v = true) : cut ms (a :: u) v = cut ms u (v.erase a) := by simp [cut, h]
theorem cut_step_f {ms u v : List Nat} {a : Nat} (h : canF ms a v = false) : cut ms (a :: u) v = none := by simp [cut, h]
theorem cut_len {ms : List Nat} : ∀ {u v r : List Nat}, cut ms u v = some r → r.length ≤ v.length
  | [], v, r, h => by simp only [cut, Option.some.injEq] at h; subst h; exact Nat.le_refl _
  | a :: u, v, r, h => by
    simp only [cut] at h
    split at h
    · have := cut_len h
      exact Nat.le_trans this (List.length_erase_le)
    · cases h
theorem drop_getD {u : List Nat} {i : Nat} (hi : i < u.length) : u.drop i = u.getD i 0 :: u.drop (i + 1) := by
  rw [List.drop_eq_getElem_cons hi, List.getD_eq_getElem?_getD, List.getElem?_eq_getElem hi, Option.getD_some]
theorem sameN_cut {ms u v : List Nat} (hA : Alpha ms) (hu : Wd ms u) (hv : Wd ms v) : sameN ms u v = decide (cut ms u v = some []) := by
  unfold sameN
  rw [decide_eq_decide]
  exact (cut_nil hA hu hv).symm
end Go.Proofs.YtljhmkkmcbfffaaDoor
