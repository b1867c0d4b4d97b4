import Derived.Test.YtpopepcmfanegaaDoorChecked
import Derived.Test.YtpopepcmfanegaaDoorDf
set_option autoImplicit false
set_option linter.unusedSimpArgs false
set_option linter.unusedVariables false
namespace Go.Proofs.YtpopepcmfanegaaDoor
open Go.Den
def tt : TypeId → Option Ty
  | 2 => some ⟨Go.TypeDesc.int Go.IntKind.i64, 1, 8, Go.Value.int Go.IntKind.i64 0⟩
  | 3 => some ⟨Go.TypeDesc.int Go.IntKind.i64, 1, 8, Go.Value.int Go.IntKind.i64 0⟩
  | 4 => some ⟨Go.TypeDesc.bool, 1, 1, Go.Value.bool Bool.false⟩
  | 5 => some ⟨Go.TypeDesc.int Go.IntKind.u8, 1, 1, Go.Value.int Go.IntKind.u8 0⟩
  | 9 => some ⟨Go.TypeDesc.string, 1, 16, Go.Value.string { data := #[] }⟩
  | 22 => some ⟨Go.TypeDesc.slice 5, 1, 24, Go.Value.slice Option.none 0 0⟩
  | 24 => some ⟨Go.TypeDesc.slice 2, 1, 24, Go.Value.slice Option.none 0 0⟩
  | 26 => some ⟨Go.TypeDesc.struct
  #[{ name := "Letters", type := 2, offset := 0, embedded := Bool.false, tag := "", pkgPath := "", byteOffset := 0 },
    { name := "Depends", type := 24, offset := 1, embedded := Bool.false, tag := "", pkgPath := "",
      byteOffset := 8 }], 2, 32, Go.Value.agg #[Go.Value.int Go.IntKind.i64 0, Go.Value.slice Option.none 0 0]⟩
  | 36 => some ⟨Go.TypeDesc.int Go.IntKind.u64, 1, 8, Go.Value.int Go.IntKind.u64 0⟩
  | 39 => some ⟨Go.TypeDesc.slice 24, 1, 24, Go.Value.slice Option.none 0 0⟩
  | 63 => some ⟨Go.TypeDesc.pointer 118, 1, 8, Go.Value.pointer Option.none⟩
  | 71 => some ⟨Go.TypeDesc.slice 2, 1, 24, Go.Value.slice Option.none 0 0⟩
  | 81 => some ⟨Go.TypeDesc.int Go.IntKind.u64, 1, 8, Go.Value.int Go.IntKind.u64 0⟩
  | 104 => some ⟨Go.TypeDesc.slice 132, 1, 24, Go.Value.slice Option.none 0 0⟩
  | 113 => some ⟨Go.TypeDesc.func #[24] #[4] Bool.false, 1, 8, Go.Value.nilFunc⟩
  | 118 => some ⟨Go.TypeDesc.struct
  #[{ name := "code", type := 22, offset := 0, embedded := Bool.false, tag := "", pkgPath := "loop.example/g01094/spec",
      byteOffset := 0 },
    { name := "at", type := 3, offset := 1, embedded := Bool.false, tag := "", pkgPath := "loop.example/g01094/spec",
      byteOffset := 24 },
    { name := "hash", type := 36, offset := 2, embedded := Bool.false, tag := "", pkgPath := "loop.example/g01094/spec",
      byteOffset :=
        32 }], 3, 40, Go.Value.agg
  #[Go.Value.slice Option.none 0 0, Go.Value.int Go.IntKind.i64 0, Go.Value.int Go.IntKind.u64 0]⟩
  | 128 => some ⟨Go.TypeDesc.func #[2] #[4] Bool.false, 1, 8, Go.Value.nilFunc⟩
  | 132 => some ⟨Go.TypeDesc.struct
  #[{ name := "word", type := 24, offset := 0, embedded := Bool.false, tag := "", pkgPath := "loop.example/g01094/impl",
      byteOffset := 0 },
    { name := "by", type := 24, offset := 1, embedded := Bool.false, tag := "", pkgPath := "loop.example/g01094/impl",
      byteOffset := 24 }], 2, 48, Go.Value.agg #[Go.Value.slice Option.none 0 0, Go.Value.slice Option.none 0 0]⟩
  | 133 => some ⟨Go.TypeDesc.func #[132] #[4] Bool.false, 1, 8, Go.Value.nilFunc⟩
  | 153 => some ⟨Go.TypeDesc.map 9 4, 1, 8, Go.Value.map Option.none⟩
  | 154 => some ⟨Go.TypeDesc.array 64
  5, 64, 64, Go.Value.agg
  #[Go.Value.int Go.IntKind.u8 0, Go.Value.int Go.IntKind.u8 0, Go.Value.int Go.IntKind.u8 0,
    Go.Value.int Go.IntKind.u8 0, Go.Value.int Go.IntKind.u8 0, Go.Value.int Go.IntKind.u8 0,
    Go.Value.int Go.IntKind.u8 0, Go.Value.int Go.IntKind.u8 0, Go.Value.int Go.IntKind.u8 0,
    Go.Value.int Go.IntKind.u8 0, Go.Value.int Go.IntKind.u8 0, Go.Value.int Go.IntKind.u8 0,
    Go.Value.int Go.IntKind.u8 0, Go.Value.int Go.IntKind.u8 0, Go.Value.int Go.IntKind.u8 0,
    Go.Value.int Go.IntKind.u8 0, Go.Value.int Go.IntKind.u8 0, Go.Value.int Go.IntKind.u8 0,
    Go.Value.int Go.IntKind.u8 0, Go.Value.int Go.IntKind.u8 0, Go.Value.int Go.IntKind.u8 0,
    Go.Value.int Go.IntKind.u8 0, Go.Value.int Go.IntKind.u8 0, Go.Value.int Go.IntKind.u8 0,
    Go.Value.int Go.IntKind.u8 0, Go.Value.int Go.IntKind.u8 0, Go.Value.int Go.IntKind.u8 0,
    Go.Value.int Go.IntKind.u8 0, Go.Value.int Go.IntKind.u8 0, Go.Value.int Go.IntKind.u8 0,
    Go.Value.int Go.IntKind.u8 0, Go.Value.int Go.IntKind.u8 0, Go.Value.int Go.IntKind.u8 0,
    Go.Value.int Go.IntKind.u8 0, Go.Value.int Go.IntKind.u8 0, Go.Value.int Go.IntKind.u8 0,
    Go.Value.int Go.IntKind.u8 0, Go.Value.int Go.IntKind.u8 0, Go.Value.int Go.IntKind.u8 0,
    Go.Value.int Go.IntKind.u8 0, Go.Value.int Go.IntKind.u8 0, Go.Value.int Go.IntKind.u8 0,
    Go.Value.int Go.IntKind.u8 0, Go.Value.int Go.IntKind.u8 0, Go.Value.int Go.IntKind.u8 0,
    Go.Value.int Go.IntKind.u8 0, Go.Value.int Go.IntKind.u8 0, Go.Value.int Go.IntKind.u8 0,
    Go.Value.int Go.IntKind.u8 0, Go.Value.int Go.IntKind.u8 0, Go.Value.int Go.IntKind.u8 0,
    Go.Value.int Go.IntKind.u8 0, Go.Value.int Go.IntKind.u8 0, Go.Value.int Go.IntKind.u8 0,
    Go.Value.int Go.IntKind.u8 0, Go.Value.int Go.IntKind.u8 0, Go.Value.int Go.IntKind.u8 0,
    Go.Value.int Go.IntKind.u8 0, Go.Value.int Go.IntKind.u8 0, Go.Value.int Go.IntKind.u8 0,
    Go.Value.int Go.IntKind.u8 0, Go.Value.int Go.IntKind.u8 0, Go.Value.int Go.IntKind.u8 0,
    Go.Value.int Go.IntKind.u8 0]⟩
  | _ => none
set_option maxRecDepth 100000 in
set_option maxHeartbeats 4000000 in
theorem tt_ok : TabOK Tryd.prog tt := fun t d h => by
  unfold tt at h
  split at h <;> first | (obtain rfl := Option.some.inj h; exact tabOf_ok Tryd.prog _ _ (by kernel_rfl)) | cases h
def G0 : Nat → Option (List Value) := fun g => match g with | 0 => some (Lib.deBruijn64tab.map fun n : Nat => .int .u8 (n : Int)) | _ => none
def sg : FuncId → List PM
  | 102 => [.sh, .sh]
  | 53 => [.mu, .ro]
  | 70 => [.mu, .mv]
  | 67 => [.mu, .ro]
  | 55 => [.mu, .ro, .ro]
  | 118 => [.mu, .ro]
  | 92 => [.mu, .sh, .ro]
  | 93 => [.mu, .sh, .sh]
  | 80 => [.mu, .sh, .ro]
  | _ => []
abbrev en (n : Nat) (force : List Nat) (live nils : Nat → List (Nat × Nat)) : Env := ⟨n, tt, G0, sg, force, live, nils⟩
theorem mixed : Tryd.prog.follows .mixedOrders = true := by kernel_rfl
abbrev nilS : Cell := .c (.slice none 0 0)
/-- What comes with the code c: nil, unless c is 0. -/
def nz (c : Int) (x : Cell) : Cell := if c = 0 then x else nilS
theorem nz_le {c : Int} {x : Cell} (h : c ≠ 0 → OLe nilS x) : OLe (nz c x) x := by
  unfold nz
  split
  · exact .refl _
  · rename_i hc; exact h hc
theorem Ret.nz {P : Program} {G : Nat → Option (List Value)} {f : FuncId} {args : List Arg} {c : Int} {x : Cell} {ts : List (Bool × List Cell)} {os : List SV} (h : Ret P G f args ⟨.tup ((false, [nz c x]) :: ts), os⟩) (hx : c ≠ 0 → OLe nilS x) :
    Ret P G f args ⟨.tup ((false, [x]) :: ts), os⟩ := h.relax (.tup1 (nz_le hx) (.refl _)) (.refl _)
end Go.Proofs.YtpopepcmfanegaaDoor
