import Derived.Test.YtihdeagknggeiaaDoorFu
set_option autoImplicit false
set_option linter.unusedSimpArgs false
set_option linter.unusedVariables false
namespace Go.Proofs.YtihdeagknggeiaaDoor
open Go.Den
theorem wordN_of {ms w : List Nat} (hw : Wd ms w) (hl : w.length ≤ 24) : wordN ms.length (natI w) = true := by
  unfold wordN
  rw [natI_length, decide_eq_true hl, Bool.true_and, List.all_eq_true]
  intro x hx
  obtain ⟨c, hc, rfl⟩ := List.mem_map.1 hx
  have := hw c hc
  exact decide_eq_true ⟨by omega, by omega⟩
theorem map_toNat (w : List Nat) : (natI w).map Int.toNat = w := by
  rw [natI, List.map_map]
  exact (List.map_congr_left fun m _ => Int.toNat_natCast m).trans (List.map_id _)
end Go.Proofs.YtihdeagknggeiaaDoor
