import Derived.Test.YtihdeagknggeiaaDoorChecked
import Derived.Test.YtihdeagknggeiaaDoorDg
set_option autoImplicit false
set_option linter.unusedSimpArgs false
set_option linter.unusedVariables false
namespace Go.Proofs.YtihdeagknggeiaaDoor
open Go.Den
def tt : TypeId → Option Ty
  | 2 => some ⟨Go.TypeDesc.int Go.IntKind.i64, 1, 8, Go.Value.int Go.IntKind.i64 0⟩
  | 3 => some ⟨Go.TypeDesc.int Go.IntKind.i64, 1, 8, Go.Value.int Go.IntKind.i64 0⟩
  | 4 => some ⟨Go.TypeDesc.bool, 1, 1, Go.Value.bool Bool.false⟩
  | 5 => some ⟨Go.TypeDesc.int Go.IntKind.u8, 1, 1, Go.Value.int Go.IntKind.u8 0⟩
  | 22 => some ⟨Go.TypeDesc.slice 2, 1, 24, Go.Value.slice Option.none 0 0⟩
  | 28 => some ⟨Go.TypeDesc.struct
  #[{ name := "Letters", type := 2, offset := 0, embedded := Bool.false, tag := "", pkgPath := "", byteOffset := 0 },
    { name := "Depends", type := 22, offset := 1, embedded := Bool.false, tag := "", pkgPath := "",
      byteOffset := 8 }], 2, 32, Go.Value.agg #[Go.Value.int Go.IntKind.i64 0, Go.Value.slice Option.none 0 0]⟩
  | 42 => some ⟨Go.TypeDesc.slice 22, 1, 24, Go.Value.slice Option.none 0 0⟩
  | 47 => some ⟨Go.TypeDesc.slice 5, 1, 24, Go.Value.slice Option.none 0 0⟩
  | 66 => some ⟨Go.TypeDesc.slice 2, 1, 24, Go.Value.slice Option.none 0 0⟩
  | 68 => some ⟨Go.TypeDesc.pointer 111, 1, 8, Go.Value.pointer Option.none⟩
  | 87 => some ⟨Go.TypeDesc.pointer 128, 1, 8, Go.Value.pointer Option.none⟩
  | 91 => some ⟨Go.TypeDesc.func #[22] #[4] Bool.false, 1, 8, Go.Value.nilFunc⟩
  | 102 => some ⟨Go.TypeDesc.int Go.IntKind.u64, 1, 8, Go.Value.int Go.IntKind.u64 0⟩
  | 104 => some ⟨Go.TypeDesc.func #[2] #[4] Bool.false, 1, 8, Go.Value.nilFunc⟩
  | 109 => some ⟨Go.TypeDesc.map 112 2, 1, 8, Go.Value.map Option.none⟩
  | 111 => some ⟨Go.TypeDesc.struct
  #[{ name := "t", type := 66, offset := 0, embedded := Bool.false, tag := "", pkgPath := "loop.example/g01094/impl",
      byteOffset := 0 },
    { name := "known", type := 109, offset := 1, embedded := Bool.false, tag := "",
      pkgPath := "loop.example/g01094/impl",
      byteOffset := 24 }], 2, 32, Go.Value.agg #[Go.Value.slice Option.none 0 0, Go.Value.map Option.none]⟩
  | 112 => some ⟨Go.TypeDesc.array 2
  2, 2, 16, Go.Value.agg #[Go.Value.int Go.IntKind.i64 0, Go.Value.int Go.IntKind.i64 0]⟩
  | 128 => some ⟨Go.TypeDesc.struct
  #[{ name := "code", type := 47, offset := 0, embedded := Bool.false, tag := "", pkgPath := "loop.example/g01094/spec",
      byteOffset := 0 },
    { name := "at", type := 3, offset := 1, embedded := Bool.false, tag := "", pkgPath := "loop.example/g01094/spec",
      byteOffset := 24 },
    { name := "hash", type := 102, offset := 2, embedded := Bool.false, tag := "",
      pkgPath := "loop.example/g01094/spec",
      byteOffset :=
        32 }], 3, 40, Go.Value.agg
  #[Go.Value.slice Option.none 0 0, Go.Value.int Go.IntKind.i64 0, Go.Value.int Go.IntKind.u64 0]⟩
  | 129 => some ⟨Go.TypeDesc.int Go.IntKind.u64, 1, 8, Go.Value.int Go.IntKind.u64 0⟩
  | 132 => some ⟨Go.TypeDesc.pointer 134, 1, 8, Go.Value.pointer Option.none⟩
  | 134 => some ⟨Go.TypeDesc.struct
  #[{ name := "sets", type := 22, offset := 0, embedded := Bool.false, tag := "", pkgPath := "loop.example/g01094/impl",
      byteOffset := 0 },
    { name := "full", type := 4, offset := 1, embedded := Bool.false, tag := "", pkgPath := "loop.example/g01094/impl",
      byteOffset := 24 }], 2, 32, Go.Value.agg #[Go.Value.slice Option.none 0 0, Go.Value.bool Bool.false]⟩
  | 148 => some ⟨Go.TypeDesc.array 64
  5, 64, 64, Go.Value.agg
  #[Go.Value.int Go.IntKind.u8 0, Go.Value.int Go.IntKind.u8 0, Go.Value.int Go.IntKind.u8 0,
    Go.Value.int Go.IntKind.u8 0, Go.Value.int Go.IntKind.u8 0, Go.Value.int Go.IntKind.u8 0,
    Go.Value.int Go.IntKind.u8 0, Go.Value.int Go.IntKind.u8 0, Go.Value.int Go.IntKind.u8 0,
    Go.Value.int Go.IntKind.u8 0, Go.Value.int Go.IntKind.u8 0, Go.Value.int Go.IntKind.u8 0,
    Go.Value.int Go.IntKind.u8 0, Go.Value.int Go.IntKind.u8 0, Go.Value.int Go.IntKind.u8 0,
    Go.Value.int Go.IntKind.u8 0, Go.Value.int Go.IntKind.u8 0, Go.Value.int Go.IntKind.u8 0,
    Go.Value.int Go.IntKind.u8 0, Go.Value.int Go.IntKind.u8 0, Go.Value.int Go.IntKind.u8 0,
    Go.Value.int Go.IntKind.u8 0, Go.Value.int Go.IntKind.u8 0, Go.Value.int Go.IntKind.u8 0,
    Go.Value.int Go.IntKind.u8 0, Go.Value.int Go.IntKind.u8 0, Go.Value.int Go.IntKind.u8 0,
    Go.Value.int Go.IntKind.u8 0, Go.Value.int Go.IntKind.u8 0, Go.Value.int Go.IntKind.u8 0,
    Go.Value.int Go.IntKind.u8 0, Go.Value.int Go.IntKind.u8 0, Go.Value.int Go.IntKind.u8 0,
    Go.Value.int Go.IntKind.u8 0, Go.Value.int Go.IntKind.u8 0, Go.Value.int Go.IntKind.u8 0,
    Go.Value.int Go.IntKind.u8 0, Go.Value.int Go.IntKind.u8 0, Go.Value.int Go.IntKind.u8 0,
    Go.Value.int Go.IntKind.u8 0, Go.Value.int Go.IntKind.u8 0, Go.Value.int Go.IntKind.u8 0,
    Go.Value.int Go.IntKind.u8 0, Go.Value.int Go.IntKind.u8 0, Go.Value.int Go.IntKind.u8 0,
    Go.Value.int Go.IntKind.u8 0, Go.Value.int Go.IntKind.u8 0, Go.Value.int Go.IntKind.u8 0,
    Go.Value.int Go.IntKind.u8 0, Go.Value.int Go.IntKind.u8 0, Go.Value.int Go.IntKind.u8 0,
    Go.Value.int Go.IntKind.u8 0, Go.Value.int Go.IntKind.u8 0, Go.Value.int Go.IntKind.u8 0,
    Go.Value.int Go.IntKind.u8 0, Go.Value.int Go.IntKind.u8 0, Go.Value.int Go.IntKind.u8 0,
    Go.Value.int Go.IntKind.u8 0, Go.Value.int Go.IntKind.u8 0, Go.Value.int Go.IntKind.u8 0,
    Go.Value.int Go.IntKind.u8 0, Go.Value.int Go.IntKind.u8 0, Go.Value.int Go.IntKind.u8 0,
    Go.Value.int Go.IntKind.u8 0]⟩
  | _ => none
set_option maxRecDepth 100000 in
set_option maxHeartbeats 4000000 in
theorem tt_ok : TabOK Tryd.prog tt := fun t d h => by
  unfold tt at h
  split at h <;> first | (obtain rfl := Option.some.inj h; exact tabOf_ok Tryd.prog _ _ (by kernel_rfl)) | cases h
def G0 : Nat → Option (List Value) := fun g => match g with | 0 => some (Lib.deBruijn64tab.map fun n : Nat => .int .u8 (n : Int)) | _ => none
def sg : FuncId → List PM
  | 147 => [.mu, .ro]
  | 134 => [.mv]
  | 66 => [.mu, .ro, .ro]
  | 132 => [.ro, .ro, .ro, .mu]
  | 148 => [.mu]
  | 91 => [.mu, .ro]
  | 92 => [.mu, .mv]
  | 145 => [.mu, .ro]
  | 162 => [.mu, .ro, .ro]
  | 127 => [.mu, .ro]
  | _ => []
abbrev en (n : Nat) (force : List Nat) (live nils : Nat → List (Nat × Nat)) : Env := ⟨n, tt, G0, sg, force, live, nils⟩
theorem mixed : Tryd.prog.follows .mixedOrders = true := by kernel_rfl
abbrev nilS : Cell := .c (.slice none 0 0)
/-- What comes with the code c: nil, unless c is 0. -/
def nz (c : Int) (x : Cell) : Cell := if c = 0 then x else nilS
theorem nz_le {c : Int} {x : Cell} (h : c ≠ 0 → OLe nilS x) : OLe (nz c x) x := by
  unfold nz
  split
  · exact .refl _
  · rename_i hc; exact h hc
theorem Ret.nz {P : Program} {G : Nat → Option (List Value)} {f : FuncId} {args : List Arg} {c : Int} {x : Cell} {ts : List (Bool × List Cell)} {os : List SV} (h : Ret P G f args ⟨.tup ((false, [nz c x]) :: ts), os⟩) (hx : c ≠ 0 → OLe nilS x) :
    Ret P G f args ⟨.tup ((false, [x]) :: ts), os⟩ := h.relax (.tup1 (nz_le hx) (.refl _)) (.refl _)
/-- A slice that may be nil. -/
def oints : Option (List Int) → Cell
  | none => .c (.slice none 0 0)
  | some xs => ints xs
end Go.Proofs.YtihdeagknggeiaaDoor
