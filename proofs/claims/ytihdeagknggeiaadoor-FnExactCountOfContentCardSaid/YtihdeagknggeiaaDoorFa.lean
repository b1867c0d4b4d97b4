import Derived.Test.YtihdeagknggeiaaDoorChecked
import Derived.Test.YtihdeagknggeiaaDoorDg
set_option autoImplicit false
set_option linter.unusedSimpArgs false
set_option linter.unusedVariables false
namespace Go.Proofs.YtihdeagknggeiaaDoor
open Go.Den
def tt : TypeId → Option Ty
  | 2 => some ⟨Go.TypeDesc.int Go.IntKind.i64, 1, 8, Go.Value.int Go.IntKind.i64 0⟩
  | 3 => some ⟨Go.TypeDesc.int Go.IntKind.i64, 1, 8, Go.Value.int Go.IntKind.i64 0⟩
  | 4 => some ⟨Go.TypeDesc.bool, 1, 1, Go.Value.bool Bool.false⟩
  | 5 => some ⟨Go.TypeDesc.int Go.IntKind.u8, 1, 1, Go.Value.int Go.IntKind.u8 0⟩
  | 22 => some ⟨Go.TypeDesc.slice 2, 1, 24, Go.Value.slice Option.none 0 0⟩
  | 24 => some ⟨Go.TypeDesc.struct
  #[{ name := "Letters", type := 2, offset := 0, embedded := Bool.false, tag := "", pkgPath := "", byteOffset := 0 },
    { name := "Depends", type := 22, offset := 1, embedded := Bool.false, tag := "", pkgPath := "",
      byteOffset := 8 }], 2, 32, Go.Value.agg #[Go.Value.int Go.IntKind.i64 0, Go.Value.slice Option.none 0 0]⟩
  | 28 => some ⟨Go.TypeDesc.struct
  #[{ name := "Letters", type := 2, offset := 0, embedded := Bool.false, tag := "", pkgPath := "", byteOffset := 0 },
    { name := "Depends", type := 22, offset := 1, embedded := Bool.false, tag := "", pkgPath := "",
      byteOffset := 8 }], 2, 32, Go.Value.agg #[Go.Value.int Go.IntKind.i64 0, Go.Value.slice Option.none 0 0]⟩
  | 61 => some ⟨Go.TypeDesc.pointer 64, 1, 8, Go.Value.pointer Option.none⟩
  | 62 => some ⟨Go.TypeDesc.map 2 2, 1, 8, Go.Value.map Option.none⟩
  | 64 => some ⟨Go.TypeDesc.struct
  #[{ name := "steps", type := 22, offset := 0, embedded := Bool.false, tag := "",
      pkgPath := "loop.example/g01094/impl", byteOffset := 0 },
    { name := "known", type := 62, offset := 1, embedded := Bool.false, tag := "",
      pkgPath := "loop.example/g01094/impl",
      byteOffset := 24 }], 2, 32, Go.Value.agg #[Go.Value.slice Option.none 0 0, Go.Value.map Option.none]⟩
  | 102 => some ⟨Go.TypeDesc.int Go.IntKind.u64, 1, 8, Go.Value.int Go.IntKind.u64 0⟩
  | 104 => some ⟨Go.TypeDesc.func #[2] #[4] Bool.false, 1, 8, Go.Value.nilFunc⟩
  | 129 => some ⟨Go.TypeDesc.int Go.IntKind.u64, 1, 8, Go.Value.int Go.IntKind.u64 0⟩
  | 132 => some ⟨Go.TypeDesc.pointer 134, 1, 8, Go.Value.pointer Option.none⟩
  | 134 => some ⟨Go.TypeDesc.struct
  #[{ name := "sets", type := 22, offset := 0, embedded := Bool.false, tag := "", pkgPath := "loop.example/g01094/impl",
      byteOffset := 0 },
    { name := "full", type := 4, offset := 1, embedded := Bool.false, tag := "", pkgPath := "loop.example/g01094/impl",
      byteOffset := 24 }], 2, 32, Go.Value.agg #[Go.Value.slice Option.none 0 0, Go.Value.bool Bool.false]⟩
  | 148 => some ⟨Go.TypeDesc.array 64
  5, 64, 64, Go.Value.agg
  #[Go.Value.int Go.IntKind.u8 0, Go.Value.int Go.IntKind.u8 0, Go.Value.int Go.IntKind.u8 0,
    Go.Value.int Go.IntKind.u8 0, Go.Value.int Go.IntKind.u8 0, Go.Value.int Go.IntKind.u8 0,
    Go.Value.int Go.IntKind.u8 0, Go.Value.int Go.IntKind.u8 0, Go.Value.int Go.IntKind.u8 0,
    Go.Value.int Go.IntKind.u8 0, Go.Value.int Go.IntKind.u8 0, Go.Value.int Go.IntKind.u8 0,
    Go.Value.int Go.IntKind.u8 0, Go.Value.int Go.IntKind.u8 0, Go.Value.int Go.IntKind.u8 0,
    Go.Value.int Go.IntKind.u8 0, Go.Value.int Go.IntKind.u8 0, Go.Value.int Go.IntKind.u8 0,
    Go.Value.int Go.IntKind.u8 0, Go.Value.int Go.IntKind.u8 0, Go.Value.int Go.IntKind.u8 0,
    Go.Value.int Go.IntKind.u8 0, Go.Value.int Go.IntKind.u8 0, Go.Value.int Go.IntKind.u8 0,
    Go.Value.int Go.IntKind.u8 0, Go.Value.int Go.IntKind.u8 0, Go.Value.int Go.IntKind.u8 0,
    Go.Value.int Go.IntKind.u8 0, Go.Value.int Go.IntKind.u8 0, Go.Value.int Go.IntKind.u8 0,
    Go.Value.int Go.IntKind.u8 0, Go.Value.int Go.IntKind.u8 0, Go.Value.int Go.IntKind.u8 0,
    Go.Value.int Go.IntKind.u8 0, Go.Value.int Go.IntKind.u8 0, Go.Value.int Go.IntKind.u8 0,
    Go.Value.int Go.IntKind.u8 0, Go.Value.int Go.IntKind.u8 0, Go.Value.int Go.IntKind.u8 0,
    Go.Value.int Go.IntKind.u8 0, Go.Value.int Go.IntKind.u8 0, Go.Value.int Go.IntKind.u8 0,
    Go.Value.int Go.IntKind.u8 0, Go.Value.int Go.IntKind.u8 0, Go.Value.int Go.IntKind.u8 0,
    Go.Value.int Go.IntKind.u8 0, Go.Value.int Go.IntKind.u8 0, Go.Value.int Go.IntKind.u8 0,
    Go.Value.int Go.IntKind.u8 0, Go.Value.int Go.IntKind.u8 0, Go.Value.int Go.IntKind.u8 0,
    Go.Value.int Go.IntKind.u8 0, Go.Value.int Go.IntKind.u8 0, Go.Value.int Go.IntKind.u8 0,
    Go.Value.int Go.IntKind.u8 0, Go.Value.int Go.IntKind.u8 0, Go.Value.int Go.IntKind.u8 0,
    Go.Value.int Go.IntKind.u8 0, Go.Value.int Go.IntKind.u8 0, Go.Value.int Go.IntKind.u8 0,
    Go.Value.int Go.IntKind.u8 0, Go.Value.int Go.IntKind.u8 0, Go.Value.int Go.IntKind.u8 0,
    Go.Value.int Go.IntKind.u8 0]⟩
  | _ => none
set_option maxRecDepth 100000 in
set_option maxHeartbeats 4000000 in
theorem tt_ok : TabOK Tryd.prog tt := fun t d h => by
  unfold tt at h
  split at h <;> first | (obtain rfl := Option.some.inj h; exact tabOf_ok Tryd.prog _ _ (by kernel_rfl)) | cases h
def G0 : Nat → Option (List Value) := fun g => match g with | 0 => some (Lib.deBruijn64tab.map fun n : Nat => .int .u8 (n : Int)) | _ => none
def sg : FuncId → List PM
  | 58 => [.mu, .sh]
  | 147 => [.mu, .ro]
  | 134 => [.mv]
  | 132 => [.ro, .ro, .ro, .mu]
  | 148 => [.mu]
  | _ => []
abbrev en (n : Nat) (force : List Nat) (live nils : Nat → List (Nat × Nat)) : Env := ⟨n, tt, G0, sg, force, live, nils⟩
theorem mixed : Tryd.prog.follows .mixedOrders = true := by kernel_rfl
abbrev nilS : Cell := .c (.slice none 0 0)
/-- What is left of k places behind n. -/
def szI (k : Int) (n : Nat) : Int := if k - n < 0 then -1 else k - n
theorem szI_nn {k : Int} {n : Nat} (h : ¬ szI k n < 0) : (n : Int) ≤ k ∧ szI k n = k - n := by
  unfold szI at *
  split at h <;> omega
/-- The first i are copied. -/
def copied (xs : List Int) (i : Nat) : List Int := xs.take i ++ List.replicate (xs.length - i) 0
theorem copied_length {xs : List Int} {i : Nat} (h : i ≤ xs.length) : (copied xs i).length = xs.length := by simp [copied]; omega
theorem copied_get {xs : List Int} {i j : Nat} (h : i ≤ xs.length) : (copied xs i)[j]? = if j < i then xs[j]? else if j < xs.length then some 0 else none := by
  unfold copied
  rw [List.getElem?_append, List.length_take, Nat.min_eq_left h, List.getElem?_take, List.getElem?_replicate]
  split
  · rename_i h1; simp [h1]
  · split
    · rw [if_pos (by omega)]
    · rw [if_neg (by omega)]
theorem copied_set {xs : List Int} {i : Nat} (h : i < xs.length) : (copied xs i).set i xs[i] = copied xs (i + 1) := by
  refine List.ext_getElem? fun j => ?_
  have hl := copied_length (Nat.le_of_lt h)
  by_cases e : i = j
  · subst e
    rw [List.getElem?_set_self (by omega), copied_get (by omega), if_pos (by omega), List.getElem?_eq_getElem h]
  · rw [List.getElem?_set_ne e, copied_get (by omega), copied_get (by omega)]
    by_cases h1 : j < i
    · rw [if_pos h1, if_pos (by omega)]
    · rw [if_neg h1, if_neg (show ¬ j < i + 1 by omega)]
theorem copied_all (xs : List Int) : copied xs xs.length = xs := by simp [copied]
theorem copied_none (xs : List Int) : copied xs 0 = List.replicate xs.length 0 := by simp [copied]
end Go.Proofs.YtihdeagknggeiaaDoor
