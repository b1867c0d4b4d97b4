import Derived.Test.YthlnahomjdcbeaaDoorChecked
import Derived.Test.YthlnahomjdcbeaaDoorDf
set_option autoImplicit false
set_option linter.unusedSimpArgs false
set_option linter.unusedVariables false
namespace Go.Proofs.YthlnahomjdcbeaaDoor
open Go.Den
def tt : TypeId → Option Ty
  | 0 => some ⟨Go.TypeDesc.tuple #[], 1, 0, Go.Value.tuple #[]⟩
  | 1 => some ⟨Go.TypeDesc.func #[] #[] Bool.false, 1, 8, Go.Value.nilFunc⟩
  | 2 => some ⟨Go.TypeDesc.int Go.IntKind.i64, 1, 8, Go.Value.int Go.IntKind.i64 0⟩
  | 3 => some ⟨Go.TypeDesc.int Go.IntKind.i64, 1, 8, Go.Value.int Go.IntKind.i64 0⟩
  | 4 => some ⟨Go.TypeDesc.bool, 1, 1, Go.Value.bool Bool.false⟩
  | 5 => some ⟨Go.TypeDesc.int Go.IntKind.u8, 1, 1, Go.Value.int Go.IntKind.u8 0⟩
  | 6 => some ⟨Go.TypeDesc.int Go.IntKind.u8, 1, 1, Go.Value.int Go.IntKind.u8 0⟩
  | 7 => some ⟨Go.TypeDesc.struct
  #[{ name := "x", type := 2, offset := 0, embedded := Bool.false, tag := "", pkgPath := "runtime", byteOffset := 0 },
    { name := "y", type := 3, offset := 1, embedded := Bool.false, tag := "", pkgPath := "runtime", byteOffset := 8 },
    { name := "signed", type := 4, offset := 2, embedded := Bool.false, tag := "", pkgPath := "runtime",
      byteOffset := 16 },
    { name := "code", type := 6, offset := 3, embedded := Bool.false, tag := "", pkgPath := "runtime",
      byteOffset :=
        17 }], 4, 24, Go.Value.agg
  #[Go.Value.int Go.IntKind.i64 0, Go.Value.int Go.IntKind.i64 0, Go.Value.bool Bool.false,
    Go.Value.int Go.IntKind.u8 0]⟩
  | 8 => some ⟨Go.TypeDesc.struct
  #[{ name := "x", type := 2, offset := 0, embedded := Bool.false, tag := "", pkgPath := "runtime", byteOffset := 0 },
    { name := "y", type := 3, offset := 1, embedded := Bool.false, tag := "", pkgPath := "runtime", byteOffset := 8 },
    { name := "signed", type := 4, offset := 2, embedded := Bool.false, tag := "", pkgPath := "runtime",
      byteOffset := 16 },
    { name := "code", type := 6, offset := 3, embedded := Bool.false, tag := "", pkgPath := "runtime",
      byteOffset :=
        17 }], 4, 24, Go.Value.agg
  #[Go.Value.int Go.IntKind.i64 0, Go.Value.int Go.IntKind.i64 0, Go.Value.bool Bool.false,
    Go.Value.int Go.IntKind.u8 0]⟩
  | 9 => some ⟨Go.TypeDesc.string, 1, 16, Go.Value.string { data := #[] }⟩
  | 10 => some ⟨Go.TypeDesc.string, 1, 16, Go.Value.string { data := #[] }⟩
  | 11 => some ⟨Go.TypeDesc.string, 1, 16, Go.Value.string { data := #[] }⟩
  | 12 => some ⟨Go.TypeDesc.int Go.IntKind.u64, 1, 8, Go.Value.int Go.IntKind.u64 0⟩
  | 13 => some ⟨Go.TypeDesc.struct
  #[{ name := "msg", type := 9, offset := 0, embedded := Bool.false, tag := "", pkgPath := "runtime", byteOffset := 0 },
    { name := "addr", type := 12, offset := 1, embedded := Bool.false, tag := "", pkgPath := "runtime",
      byteOffset := 16 }], 2, 24, Go.Value.agg #[Go.Value.string { data := #[] }, Go.Value.int Go.IntKind.u64 0]⟩
  | 14 => some ⟨Go.TypeDesc.struct
  #[{ name := "msg", type := 9, offset := 0, embedded := Bool.false, tag := "", pkgPath := "runtime", byteOffset := 0 },
    { name := "addr", type := 12, offset := 1, embedded := Bool.false, tag := "", pkgPath := "runtime",
      byteOffset := 16 }], 2, 24, Go.Value.agg #[Go.Value.string { data := #[] }, Go.Value.int Go.IntKind.u64 0]⟩
  | 15 => some ⟨Go.TypeDesc.pointer 102, 1, 8, Go.Value.pointer Option.none⟩
  | 16 => some ⟨Go.TypeDesc.pointer 105, 1, 8, Go.Value.pointer Option.none⟩
  | 17 => some ⟨Go.TypeDesc.pointer 115, 1, 8, Go.Value.pointer Option.none⟩
  | 18 => some ⟨Go.TypeDesc.struct
  #[{ name := "typ", type := 17, offset := 0, embedded := Bool.false, tag := "", pkgPath := "internal/runtime/maps",
      byteOffset := 0 }], 1, 8, Go.Value.agg #[Go.Value.pointer Option.none]⟩
  | 19 => some ⟨Go.TypeDesc.struct
  #[{ name := "typ", type := 17, offset := 0, embedded := Bool.false, tag := "", pkgPath := "internal/runtime/maps",
      byteOffset := 0 }], 1, 8, Go.Value.agg #[Go.Value.pointer Option.none]⟩
  | 20 => some ⟨Go.TypeDesc.interface #[], 1, 16, Go.Value.nilIface⟩
  | 21 => some ⟨Go.TypeDesc.int Go.IntKind.i32, 1, 4, Go.Value.int Go.IntKind.i32 0⟩
  | 22 => some ⟨Go.TypeDesc.slice 2, 1, 24, Go.Value.slice Option.none 0 0⟩
  | 23 => some ⟨Go.TypeDesc.struct
  #[{ name := "Letters", type := 2, offset := 0, embedded := Bool.false, tag := "", pkgPath := "", byteOffset := 0 },
    { name := "Depends", type := 22, offset := 1, embedded := Bool.false, tag := "", pkgPath := "",
      byteOffset := 8 }], 2, 32, Go.Value.agg #[Go.Value.int Go.IntKind.i64 0, Go.Value.slice Option.none 0 0]⟩
  | 24 => some ⟨Go.TypeDesc.struct
  #[{ name := "Letters", type := 2, offset := 0, embedded := Bool.false, tag := "", pkgPath := "", byteOffset := 0 },
    { name := "Depends", type := 22, offset := 1, embedded := Bool.false, tag := "", pkgPath := "",
      byteOffset := 8 }], 2, 32, Go.Value.agg #[Go.Value.int Go.IntKind.i64 0, Go.Value.slice Option.none 0 0]⟩
  | 25 => some ⟨Go.TypeDesc.func #[24, 3] #[3] Bool.false, 1, 8, Go.Value.nilFunc⟩
  | 26 => some ⟨Go.TypeDesc.func #[27, 22] #[4] Bool.false, 1, 8, Go.Value.nilFunc⟩
  | 27 => some ⟨Go.TypeDesc.struct
  #[{ name := "Letters", type := 2, offset := 0, embedded := Bool.false, tag := "", pkgPath := "", byteOffset := 0 },
    { name := "Depends", type := 22, offset := 1, embedded := Bool.false, tag := "", pkgPath := "",
      byteOffset := 8 }], 2, 32, Go.Value.agg #[Go.Value.int Go.IntKind.i64 0, Go.Value.slice Option.none 0 0]⟩
  | 28 => some ⟨Go.TypeDesc.func #[24] #[27] Bool.false, 1, 8, Go.Value.nilFunc⟩
  | 29 => some ⟨Go.TypeDesc.func #[22] #[22] Bool.false, 1, 8, Go.Value.nilFunc⟩
  | 30 => some ⟨Go.TypeDesc.func #[27, 27] #[4] Bool.false, 1, 8, Go.Value.nilFunc⟩
  | 31 => some ⟨Go.TypeDesc.func #[22, 22] #[4] Bool.false, 1, 8, Go.Value.nilFunc⟩
  | 32 => some ⟨Go.TypeDesc.func #[24, 22] #[4] Bool.false, 1, 8, Go.Value.nilFunc⟩
  | 33 => some ⟨Go.TypeDesc.slice 56, 1, 24, Go.Value.slice Option.none 0 0⟩
  | 34 => some ⟨Go.TypeDesc.func #[33, 3] #[3] Bool.false, 1, 8, Go.Value.nilFunc⟩
  | 35 => some ⟨Go.TypeDesc.func #[27, 36] #[4] Bool.false, 1, 8, Go.Value.nilFunc⟩
  | 36 => some ⟨Go.TypeDesc.slice 57, 1, 24, Go.Value.slice Option.none 0 0⟩
  | 37 => some ⟨Go.TypeDesc.func #[33] #[36] Bool.false, 1, 8, Go.Value.nilFunc⟩
  | 38 => some ⟨Go.TypeDesc.func #[36, 36] #[4] Bool.false, 1, 8, Go.Value.nilFunc⟩
  | 39 => some ⟨Go.TypeDesc.func #[24, 33] #[4] Bool.false, 1, 8, Go.Value.nilFunc⟩
  | 40 => some ⟨Go.TypeDesc.tuple
  #[22, 2], 1, 0, Go.Value.tuple #[Go.Value.slice Option.none 0 0, Go.Value.int Go.IntKind.i64 0]⟩
  | 41 => some ⟨Go.TypeDesc.func #[27, 22] #[22, 2] Bool.false, 1, 8, Go.Value.nilFunc⟩
  | 42 => some ⟨Go.TypeDesc.func #[27, 3] #[3] Bool.false, 1, 8, Go.Value.nilFunc⟩
  | 43 => some ⟨Go.TypeDesc.func #[22, 3] #[3] Bool.false, 1, 8, Go.Value.nilFunc⟩
  | 44 => some ⟨Go.TypeDesc.tuple
  #[2, 2], 1, 0, Go.Value.tuple #[Go.Value.int Go.IntKind.i64 0, Go.Value.int Go.IntKind.i64 0]⟩
  | 45 => some ⟨Go.TypeDesc.func #[27, 2] #[2, 2] Bool.false, 1, 8, Go.Value.nilFunc⟩
  | 46 => some ⟨Go.TypeDesc.func #[24, 2] #[4] Bool.false, 1, 8, Go.Value.nilFunc⟩
  | 47 => some ⟨Go.TypeDesc.slice 22, 1, 24, Go.Value.slice Option.none 0 0⟩
  | 48 => some ⟨Go.TypeDesc.tuple
  #[47, 2], 1, 0, Go.Value.tuple #[Go.Value.slice Option.none 0 0, Go.Value.int Go.IntKind.i64 0]⟩
  | 49 => some ⟨Go.TypeDesc.func #[27] #[47, 2] Bool.false, 1, 8, Go.Value.nilFunc⟩
  | 50 => some ⟨Go.TypeDesc.func #[47, 47] #[4] Bool.false, 1, 8, Go.Value.nilFunc⟩
  | 51 => some ⟨Go.TypeDesc.func #[47, 3] #[3] Bool.false, 1, 8, Go.Value.nilFunc⟩
  | 52 => some ⟨Go.TypeDesc.func #[24] #[4] Bool.false, 1, 8, Go.Value.nilFunc⟩
  | 53 => some ⟨Go.TypeDesc.func #[27] #[4] Bool.false, 1, 8, Go.Value.nilFunc⟩
  | 54 => some ⟨Go.TypeDesc.func #[56, 3] #[3] Bool.false, 1, 8, Go.Value.nilFunc⟩
  | 55 => some ⟨Go.TypeDesc.struct
  #[{ name := "Left", type := 22, offset := 0, embedded := Bool.false, tag := "", pkgPath := "", byteOffset := 0 },
    { name := "Right", type := 22, offset := 1, embedded := Bool.false, tag := "", pkgPath := "",
      byteOffset := 24 }], 2, 48, Go.Value.agg #[Go.Value.slice Option.none 0 0, Go.Value.slice Option.none 0 0]⟩
  | 56 => some ⟨Go.TypeDesc.struct
  #[{ name := "Left", type := 22, offset := 0, embedded := Bool.false, tag := "", pkgPath := "", byteOffset := 0 },
    { name := "Right", type := 22, offset := 1, embedded := Bool.false, tag := "", pkgPath := "",
      byteOffset := 24 }], 2, 48, Go.Value.agg #[Go.Value.slice Option.none 0 0, Go.Value.slice Option.none 0 0]⟩
  | 57 => some ⟨Go.TypeDesc.struct
  #[{ name := "Left", type := 22, offset := 0, embedded := Bool.false, tag := "", pkgPath := "", byteOffset := 0 },
    { name := "Right", type := 22, offset := 1, embedded := Bool.false, tag := "", pkgPath := "",
      byteOffset := 24 }], 2, 48, Go.Value.agg #[Go.Value.slice Option.none 0 0, Go.Value.slice Option.none 0 0]⟩
  | 58 => some ⟨Go.TypeDesc.func #[56] #[57] Bool.false, 1, 8, Go.Value.nilFunc⟩
  | 59 => some ⟨Go.TypeDesc.func #[36, 60] #[4] Bool.false, 1, 8, Go.Value.nilFunc⟩
  | 60 => some ⟨Go.TypeDesc.func #[57] #[4] Bool.false, 1, 8, Go.Value.nilFunc⟩
  | 61 => some ⟨Go.TypeDesc.func #[57, 57] #[4] Bool.false, 1, 8, Go.Value.nilFunc⟩
  | 62 => some ⟨Go.TypeDesc.func #[27, 22, 22] #[2] Bool.false, 1, 8, Go.Value.nilFunc⟩
  | 63 => some ⟨Go.TypeDesc.func #[27, 47] #[2] Bool.true, 1, 8, Go.Value.nilFunc⟩
  | 64 => some ⟨Go.TypeDesc.func #[27, 2] #[2] Bool.false, 1, 8, Go.Value.nilFunc⟩
  | 65 => some ⟨Go.TypeDesc.func #[27] #[27] Bool.false, 1, 8, Go.Value.nilFunc⟩
  | 66 => some ⟨Go.TypeDesc.func #[2] #[2] Bool.false, 1, 8, Go.Value.nilFunc⟩
  | 67 => some ⟨Go.TypeDesc.func #[27, 2, 2, 47] #[2] Bool.false, 1, 8, Go.Value.nilFunc⟩
  | 68 => some ⟨Go.TypeDesc.func #[2, 2, 2] #[4] Bool.false, 1, 8, Go.Value.nilFunc⟩
  | 69 => some ⟨Go.TypeDesc.pointer 74, 1, 8, Go.Value.pointer Option.none⟩
  | 70 => some ⟨Go.TypeDesc.slice 2, 1, 24, Go.Value.slice Option.none 0 0⟩
  | 71 => some ⟨Go.TypeDesc.func #[27] #[70] Bool.false, 1, 8, Go.Value.nilFunc⟩
  | 72 => some ⟨Go.TypeDesc.map 89 2, 1, 8, Go.Value.map Option.none⟩
  | 73 => some ⟨Go.TypeDesc.struct
  #[{ name := "t", type := 70, offset := 0, embedded := Bool.false, tag := "", pkgPath := "loop.example/g01094/impl",
      byteOffset := 0 },
    { name := "known", type := 72, offset := 1, embedded := Bool.false, tag := "",
      pkgPath := "loop.example/g01094/impl",
      byteOffset := 24 }], 2, 32, Go.Value.agg #[Go.Value.slice Option.none 0 0, Go.Value.map Option.none]⟩
  | 74 => some ⟨Go.TypeDesc.struct
  #[{ name := "t", type := 70, offset := 0, embedded := Bool.false, tag := "", pkgPath := "loop.example/g01094/impl",
      byteOffset := 0 },
    { name := "known", type := 72, offset := 1, embedded := Bool.false, tag := "",
      pkgPath := "loop.example/g01094/impl",
      byteOffset := 24 }], 2, 32, Go.Value.agg #[Go.Value.slice Option.none 0 0, Go.Value.map Option.none]⟩
  | 75 => some ⟨Go.TypeDesc.func #[2, 2] #[2] Bool.false, 1, 8, Go.Value.nilFunc⟩
  | 76 => some ⟨Go.TypeDesc.func #[27, 22, 47] #[47] Bool.false, 1, 8, Go.Value.nilFunc⟩
  | 77 => some ⟨Go.TypeDesc.func #[2, 22] #[4] Bool.false, 1, 8, Go.Value.nilFunc⟩
  | 78 => some ⟨Go.TypeDesc.func #[22] #[2] Bool.false, 1, 8, Go.Value.nilFunc⟩
  | 79 => some ⟨Go.TypeDesc.func #[22] #[4] Bool.false, 1, 8, Go.Value.nilFunc⟩
  | 80 => some ⟨Go.TypeDesc.func #[2, 2] #[4] Bool.false, 1, 8, Go.Value.nilFunc⟩
  | 81 => some ⟨Go.TypeDesc.func #[22, 2, 2] #[4] Bool.false, 1, 8, Go.Value.nilFunc⟩
  | 82 => some ⟨Go.TypeDesc.func #[22, 2] #[4] Bool.false, 1, 8, Go.Value.nilFunc⟩
  | 83 => some ⟨Go.TypeDesc.func #[36, 60] #[3] Bool.false, 1, 8, Go.Value.nilFunc⟩
  | 84 => some ⟨Go.TypeDesc.func #[47, 79] #[4] Bool.false, 1, 8, Go.Value.nilFunc⟩
  | 85 => some ⟨Go.TypeDesc.func #[27, 2, 2] #[4] Bool.false, 1, 8, Go.Value.nilFunc⟩
  | 86 => some ⟨Go.TypeDesc.int Go.IntKind.u64, 1, 8, Go.Value.int Go.IntKind.u64 0⟩
  | 87 => some ⟨Go.TypeDesc.func #[27, 2, 2] #[2] Bool.false, 1, 8, Go.Value.nilFunc⟩
  | 88 => some ⟨Go.TypeDesc.func #[2] #[22] Bool.false, 1, 8, Go.Value.nilFunc⟩
  | 89 => some ⟨Go.TypeDesc.array 2
  2, 2, 16, Go.Value.agg #[Go.Value.int Go.IntKind.i64 0, Go.Value.int Go.IntKind.i64 0]⟩
  | 90 => some ⟨Go.TypeDesc.tuple
  #[2, 4], 1, 0, Go.Value.tuple #[Go.Value.int Go.IntKind.i64 0, Go.Value.bool Bool.false]⟩
  | 91 => some ⟨Go.TypeDesc.func #[22, 92] #[4] Bool.false, 1, 8, Go.Value.nilFunc⟩
  | 92 => some ⟨Go.TypeDesc.func #[2] #[4] Bool.false, 1, 8, Go.Value.nilFunc⟩
  | 93 => some ⟨Go.TypeDesc.func #[22, 2] #[3] Bool.false, 1, 8, Go.Value.nilFunc⟩
  | 94 => some ⟨Go.TypeDesc.func #[47, 79] #[3] Bool.false, 1, 8, Go.Value.nilFunc⟩
  | 95 => some ⟨Go.TypeDesc.func #[22, 2] #[2] Bool.false, 1, 8, Go.Value.nilFunc⟩
  | 96 => some ⟨Go.TypeDesc.func #[22, 92] #[3] Bool.false, 1, 8, Go.Value.nilFunc⟩
  | 97 => some ⟨Go.TypeDesc.func #[86] #[3] Bool.false, 1, 8, Go.Value.nilFunc⟩
  | 98 => some ⟨Go.TypeDesc.array 64
  5, 64, 64, Go.Value.agg
  #[Go.Value.int Go.IntKind.u8 0, Go.Value.int Go.IntKind.u8 0, Go.Value.int Go.IntKind.u8 0,
    Go.Value.int Go.IntKind.u8 0, Go.Value.int Go.IntKind.u8 0, Go.Value.int Go.IntKind.u8 0,
    Go.Value.int Go.IntKind.u8 0, Go.Value.int Go.IntKind.u8 0, Go.Value.int Go.IntKind.u8 0,
    Go.Value.int Go.IntKind.u8 0, Go.Value.int Go.IntKind.u8 0, Go.Value.int Go.IntKind.u8 0,
    Go.Value.int Go.IntKind.u8 0, Go.Value.int Go.IntKind.u8 0, Go.Value.int Go.IntKind.u8 0,
    Go.Value.int Go.IntKind.u8 0, Go.Value.int Go.IntKind.u8 0, Go.Value.int Go.IntKind.u8 0,
    Go.Value.int Go.IntKind.u8 0, Go.Value.int Go.IntKind.u8 0, Go.Value.int Go.IntKind.u8 0,
    Go.Value.int Go.IntKind.u8 0, Go.Value.int Go.IntKind.u8 0, Go.Value.int Go.IntKind.u8 0,
    Go.Value.int Go.IntKind.u8 0, Go.Value.int Go.IntKind.u8 0, Go.Value.int Go.IntKind.u8 0,
    Go.Value.int Go.IntKind.u8 0, Go.Value.int Go.IntKind.u8 0, Go.Value.int Go.IntKind.u8 0,
    Go.Value.int Go.IntKind.u8 0, Go.Value.int Go.IntKind.u8 0, Go.Value.int Go.IntKind.u8 0,
    Go.Value.int Go.IntKind.u8 0, Go.Value.int Go.IntKind.u8 0, Go.Value.int Go.IntKind.u8 0,
    Go.Value.int Go.IntKind.u8 0, Go.Value.int Go.IntKind.u8 0, Go.Value.int Go.IntKind.u8 0,
    Go.Value.int Go.IntKind.u8 0, Go.Value.int Go.IntKind.u8 0, Go.Value.int Go.IntKind.u8 0,
    Go.Value.int Go.IntKind.u8 0, Go.Value.int Go.IntKind.u8 0, Go.Value.int Go.IntKind.u8 0,
    Go.Value.int Go.IntKind.u8 0, Go.Value.int Go.IntKind.u8 0, Go.Value.int Go.IntKind.u8 0,
    Go.Value.int Go.IntKind.u8 0, Go.Value.int Go.IntKind.u8 0, Go.Value.int Go.IntKind.u8 0,
    Go.Value.int Go.IntKind.u8 0, Go.Value.int Go.IntKind.u8 0, Go.Value.int Go.IntKind.u8 0,
    Go.Value.int Go.IntKind.u8 0, Go.Value.int Go.IntKind.u8 0, Go.Value.int Go.IntKind.u8 0,
    Go.Value.int Go.IntKind.u8 0, Go.Value.int Go.IntKind.u8 0, Go.Value.int Go.IntKind.u8 0,
    Go.Value.int Go.IntKind.u8 0, Go.Value.int Go.IntKind.u8 0, Go.Value.int Go.IntKind.u8 0,
    Go.Value.int Go.IntKind.u8 0]⟩
  | 99 => some ⟨Go.TypeDesc.int Go.IntKind.u64, 1, 8, Go.Value.int Go.IntKind.u64 0⟩
  | 100 => some ⟨Go.TypeDesc.func #[] #[9] Bool.false, 1, 8, Go.Value.nilFunc⟩
  | 101 => some ⟨Go.TypeDesc.struct
  #[{ name := "_interface", type := 17, offset := 0, embedded := Bool.false, tag := "", pkgPath := "runtime",
      byteOffset := 0 },
    { name := "concrete", type := 17, offset := 1, embedded := Bool.false, tag := "", pkgPath := "runtime",
      byteOffset := 8 },
    { name := "asserted", type := 17, offset := 2, embedded := Bool.false, tag := "", pkgPath := "runtime",
      byteOffset := 16 },
    { name := "missingMethod", type := 9, offset := 3, embedded := Bool.false, tag := "", pkgPath := "runtime",
      byteOffset :=
        24 }], 4, 40, Go.Value.agg
  #[Go.Value.pointer Option.none, Go.Value.pointer Option.none, Go.Value.pointer Option.none,
    Go.Value.string { data := #[] }]⟩
  | 102 => some ⟨Go.TypeDesc.struct
  #[{ name := "_interface", type := 17, offset := 0, embedded := Bool.false, tag := "", pkgPath := "runtime",
      byteOffset := 0 },
    { name := "concrete", type := 17, offset := 1, embedded := Bool.false, tag := "", pkgPath := "runtime",
      byteOffset := 8 },
    { name := "asserted", type := 17, offset := 2, embedded := Bool.false, tag := "", pkgPath := "runtime",
      byteOffset := 16 },
    { name := "missingMethod", type := 9, offset := 3, embedded := Bool.false, tag := "", pkgPath := "runtime",
      byteOffset :=
        24 }], 4, 40, Go.Value.agg
  #[Go.Value.pointer Option.none, Go.Value.pointer Option.none, Go.Value.pointer Option.none,
    Go.Value.string { data := #[] }]⟩
  | 103 => some ⟨Go.TypeDesc.array 0 16, 0, 0, Go.Value.agg #[]⟩
  | 104 => some ⟨Go.TypeDesc.struct
  #[{ name := "_", type := 103, offset := 0, embedded := Bool.false, tag := "", pkgPath := "runtime",
      byteOffset := 0 }], 0, 0, Go.Value.agg #[]⟩
  | 105 => some ⟨Go.TypeDesc.struct
  #[{ name := "_", type := 103, offset := 0, embedded := Bool.false, tag := "", pkgPath := "runtime",
      byteOffset := 0 }], 0, 0, Go.Value.agg #[]⟩
  | 106 => some ⟨Go.TypeDesc.func #[] #[3] Bool.false, 1, 8, Go.Value.nilFunc⟩
  | 107 => some ⟨Go.TypeDesc.int Go.IntKind.u32, 1, 4, Go.Value.int Go.IntKind.u32 0⟩
  | 108 => some ⟨Go.TypeDesc.int Go.IntKind.u8, 1, 1, Go.Value.int Go.IntKind.u8 0⟩
  | 109 => some ⟨Go.TypeDesc.int Go.IntKind.u8, 1, 1, Go.Value.int Go.IntKind.u8 0⟩
  | 110 => some ⟨Go.TypeDesc.func #[117, 117] #[4] Bool.false, 1, 8, Go.Value.nilFunc⟩
  | 111 => some ⟨Go.TypeDesc.pointer 5, 1, 8, Go.Value.pointer Option.none⟩
  | _ => none
theorem tt_ok : TabOK Tryd.prog tt := fun t d h => by
  unfold tt at h
  split at h <;> first | (obtain rfl := Option.some.inj h; exact tabOf_ok Tryd.prog _ _ (by kernel_rfl)) | cases h
def G0 : Nat → Option (List Value) := fun g => match g with | 0 => some (Lib.deBruijn64tab.map fun n : Nat => .int .u8 (n : Int)) | _ => none
def sg : FuncId → List PM
  | 51 => [.mu, .ro, .ro]
  | 48 => [.ro, .ro, .ro, .mu]
  | _ => []
abbrev en (n : Nat) (force : List Nat) (live : Nat → List (Nat × Nat)) : Env := ⟨n, tt, G0, sg, force, live⟩
theorem mixed : Tryd.prog.follows .mixedOrders = true := by kernel_rfl
abbrev nilS : Cell := .c (.slice none 0 0)
/-- What is left of k places behind n. -/
def szI (k : Int) (n : Nat) : Int := if k - n < 0 then -1 else k - n
theorem szI_nn {k : Int} {n : Nat} (h : ¬ szI k n < 0) : (n : Int) ≤ k ∧ szI k n = k - n := by
  unfold szI at *
  split at h <;> omega
/-- The first i are copied. -/
def copied (xs : List Int) (i : Nat) : List Int := xs.take i ++ List.replicate (xs.length - i) 0
theorem copied_length {xs : List Int} {i : Nat} (h : i ≤ xs.length) : (copied xs i).length = xs.length := by simp [copied]; omega
theorem copied_get {xs : List Int} {i j : Nat} (h : i ≤ xs.length) : (copied xs i)[j]? = if j < i then xs[j]? else if j < xs.length then some 0 else none := by
  unfold copied
  rw [List.getElem?_append, List.length_take, Nat.min_eq_left h, List.getElem?_take, List.getElem?_replicate]
  split
  · rename_i h1; simp [h1]
  · split
    · rw [if_pos (by omega)]
    · rw [if_neg (by omega)]
theorem copied_set {xs : List Int} {i : Nat} (h : i < xs.length) : (copied xs i).set i xs[i] = copied xs (i + 1) := by
  refine List.ext_getElem? fun j => ?_
  have hl := copied_length (Nat.le_of_lt h)
  by_cases e : i = j
  · subst e
    rw [List.getElem?_set_self (by omega), copied_get (by omega), if_pos (by omega), List.getElem?_eq_getElem h]
  · rw [List.getElem?_set_ne e, copied_get (by omega), copied_get (by omega)]
    by_cases h1 : j < i
    · rw [if_pos h1, if_pos (by omega)]
    · rw [if_neg h1, if_neg (show ¬ j < i + 1 by omega)]
theorem copied_all (xs : List Int) : copied xs xs.length = xs := by simp [copied]
theorem copied_none (xs : List Int) : copied xs 0 = List.replicate xs.length 0 := by simp [copied]
set_option maxHeartbeats 4000000 in
set_option maxRecDepth 100000 in
theorem l01In_ret (n a b : Int) : Ret Tryd.prog G0 66 [⟨.ro, .one (i64 n)⟩, ⟨.ro, .one (i64 a)⟩, ⟨.ro, .one (i64 b)⟩] ⟨.one (.c (.bool (decide (a ≤ n ∧ n ≤ b)))), []⟩ := by
  (refine ret_of_den (E := en 15 [] (fun _ => [])) tt_ok mixed Tryd.func66 rfl rfl rfl rfl ?_; refine ⟨by simp, ?_⟩)
  repeat' (first | (refine opt_some (getC_rows rfl rfl (by omega)) ?_; conv => whnf) | (refine opt_some rfl ?_; conv => whnf) | (refine ⟨_, (by simp only [nf, nl, nm, en, ints, Nat.reduceAdd, Nat.reduceMul]; exact rfl), ?_⟩; conv => whnf) | (refine ⟨_, pick_at rfl (by first | exact Nat.le_of_ble_eq_true rfl | rfl | exact plain_i64 _ | exact plain_ints _ | exact all_ints _ | omega | (dsimp only; omega) | (simp; done) | (simp only [htf] at *; first | omega | (simp; omega))), ?_⟩; conv => whnf) | (refine ⟨_, rfl, ?_⟩; conv => whnf) | (first | refine iteP_true rfl ?_ | refine iteP_false rfl ?_ | refine iteP_true ‹_› ?_ | refine iteP_false ‹_› ?_; conv => whnf) | (refine And.intro (by kernel_rfl : indep _ _ = true) ?_; conv => whnf) | (refine And.intro (by rfl : List.all _ _ = true) ?_; conv => whnf) | (refine And.intro (by first | exact Nat.le_of_ble_eq_true rfl | rfl | exact plain_i64 _ | exact plain_ints _ | exact all_ints _ | omega | (dsimp only; omega) | (simp; done) | (simp only [htf] at *; first | omega | (simp; omega))) ?_; conv => whnf) | (refine iteP_intro (fun hb => ?_) (fun hb => ?_) <;> (conv => whnf)))
  all_goals (refine endB ?_; simp_all <;> omega)
set_option maxHeartbeats 4000000 in
set_option maxRecDepth 100000 in
theorem inRange_ret (n a b : Int) : Ret Tryd.prog G0 49 [⟨.ro, .one (i64 n)⟩, ⟨.ro, .one (i64 a)⟩, ⟨.ro, .one (i64 b)⟩] ⟨.one (.c (.bool (decide (a ≤ n ∧ n ≤ b)))), []⟩ := by
  (refine ret_of_den (E := en 15 [] (fun _ => [])) tt_ok mixed Tryd.func49 rfl rfl rfl rfl ?_; refine ⟨by simp, ?_⟩)
  repeat' (first | (refine opt_some (getC_rows rfl rfl (by omega)) ?_; conv => whnf) | (refine opt_some rfl ?_; conv => whnf) | (refine ⟨_, (by simp only [nf, nl, nm, en, ints, Nat.reduceAdd, Nat.reduceMul]; exact rfl), ?_⟩; conv => whnf) | (refine ⟨_, pick_at rfl (by first | exact Nat.le_of_ble_eq_true rfl | rfl | exact plain_i64 _ | exact plain_ints _ | exact all_ints _ | omega | (dsimp only; omega) | (simp; done) | (simp only [htf] at *; first | omega | (simp; omega))), ?_⟩; conv => whnf) | (refine ⟨_, rfl, ?_⟩; conv => whnf) | (first | refine iteP_true rfl ?_ | refine iteP_false rfl ?_ | refine iteP_true ‹_› ?_ | refine iteP_false ‹_› ?_; conv => whnf) | (refine And.intro (by kernel_rfl : indep _ _ = true) ?_; conv => whnf) | (refine And.intro (by rfl : List.all _ _ = true) ?_; conv => whnf) | (refine And.intro (by first | exact Nat.le_of_ble_eq_true rfl | rfl | exact plain_i64 _ | exact plain_ints _ | exact all_ints _ | omega | (dsimp only; omega) | (simp; done) | (simp only [htf] at *; first | omega | (simp; omega))) ?_; conv => whnf) | (refine iteP_intro (fun hb => ?_) (fun hb => ?_) <;> (conv => whnf)))
  all_goals (refine endB ?_; simp_all <;> omega)
set_option maxHeartbeats 4000000 in
set_option maxRecDepth 100000 in
theorem one_ret (n : Int) (h0 : 0 ≤ n) (h1 : n < 63) : Ret Tryd.prog G0 72 [⟨.ro, .one (i64 n)⟩] ⟨.one (i64 (2 ^ n.toNat)), []⟩ := by
  (refine ret_of_den (E := en 5 [] (fun _ => [])) tt_ok mixed Tryd.func72 rfl rfl rfl rfl ?_; refine ⟨by simp, ?_⟩)
  repeat' (first | (refine opt_some (getC_rows rfl rfl (by omega)) ?_; conv => whnf) | (refine opt_some rfl ?_; conv => whnf) | (refine ⟨_, (by simp only [nf, nl, nm, en, ints, Nat.reduceAdd, Nat.reduceMul]; exact rfl), ?_⟩; conv => whnf) | (refine ⟨_, pick_at rfl (by first | exact Nat.le_of_ble_eq_true rfl | rfl | exact plain_i64 _ | exact plain_ints _ | exact all_ints _ | omega | (dsimp only; omega) | (simp; done) | (simp only [htf] at *; first | omega | (simp; omega))), ?_⟩; conv => whnf) | (refine ⟨_, rfl, ?_⟩; conv => whnf) | (first | refine iteP_true rfl ?_ | refine iteP_false rfl ?_ | refine iteP_true ‹_› ?_ | refine iteP_false ‹_› ?_; conv => whnf) | (refine And.intro (by kernel_rfl : indep _ _ = true) ?_; conv => whnf) | (refine And.intro (by rfl : List.all _ _ = true) ?_; conv => whnf) | (refine And.intro (by first | exact Nat.le_of_ble_eq_true rfl | rfl | exact plain_i64 _ | exact plain_ints _ | exact all_ints _ | omega | (dsimp only; omega) | (simp; done) | (simp only [htf] at *; first | omega | (simp; omega))) ?_; conv => whnf) | (refine iteP_intro (fun hb => ?_) (fun hb => ?_) <;> (conv => whnf)))
  refine endI ?_
  rw [Nat.min_eq_left (by simp [IntKind.bits]; omega), Int.one_mul, wrap_i64]
  · have : (0 : Int) < 2 ^ n.toNat := Int.pow_pos (by decide)
    omega
  · calc (2 : Int) ^ n.toNat < 2 ^ 63 := by exact_mod_cast Nat.pow_lt_pow_right (by decide) (by omega)
      _ = _ := by decide
set_option maxHeartbeats 4000000 in
set_option maxRecDepth 100000 in
theorem one_retN (i : Nat) (hi : i < 63) : Ret Tryd.prog G0 72 [⟨.ro, .one (i64 i)⟩] ⟨.one (i64 ((2 ^ i : Nat) : Int)), []⟩ := by
  have := one_ret i (by omega) (by omega)
  rw [Int.toNat_natCast] at this
  rwa [show (((2 ^ i : Nat) : Nat) : Int) = (2 : Int) ^ i by simp]
set_option maxHeartbeats 4000000 in
set_option maxRecDepth 100000 in
theorem allIn1_ret (n a b : Int) : Ret Tryd.prog G0 79 [⟨.ro, .one (i64 n)⟩, ⟨.ro, .one (.ptr [i64 a])⟩, ⟨.ro, .one (.ptr [i64 b])⟩] ⟨.one (.c (.bool (!decide (a ≤ n ∧ n ≤ b)))), []⟩ := by
  (refine ret_of_den (E := en 10 [] (fun _ => [])) tt_ok mixed Tryd.func79 rfl rfl rfl rfl ?_; refine ⟨by simp, ?_⟩)
  repeat' (first | (refine opt_some (getC_rows rfl rfl (by omega)) ?_; conv => whnf) | (refine opt_some rfl ?_; conv => whnf) | (refine ⟨_, (by simp only [nf, nl, nm, en, ints, Nat.reduceAdd, Nat.reduceMul]; exact rfl), ?_⟩; conv => whnf) | (refine ⟨_, pick_at rfl (by first | exact Nat.le_of_ble_eq_true rfl | rfl | exact plain_i64 _ | exact plain_ints _ | exact all_ints _ | omega | (dsimp only; omega) | (simp; done) | (simp only [htf] at *; first | omega | (simp; omega))), ?_⟩; conv => whnf) | (refine ⟨_, rfl, ?_⟩; conv => whnf) | (first | refine iteP_true rfl ?_ | refine iteP_false rfl ?_ | refine iteP_true ‹_› ?_ | refine iteP_false ‹_› ?_; conv => whnf) | (refine And.intro (by kernel_rfl : indep _ _ = true) ?_; conv => whnf) | (refine And.intro (by rfl : List.all _ _ = true) ?_; conv => whnf) | (refine And.intro (by first | exact Nat.le_of_ble_eq_true rfl | rfl | exact plain_i64 _ | exact plain_ints _ | exact all_ints _ | omega | (dsimp only; omega) | (simp; done) | (simp only [htf] at *; first | omega | (simp; omega))) ?_; conv => whnf) | (refine iteP_intro (fun hb => ?_) (fun hb => ?_) <;> (conv => whnf)))
  refine ⟨_, inRange_ret n a b, ?_⟩
  conv => whnf
  repeat' (first | (refine opt_some (getC_rows rfl rfl (by omega)) ?_; conv => whnf) | (refine opt_some rfl ?_; conv => whnf) | (refine ⟨_, (by simp only [nf, nl, nm, en, ints, Nat.reduceAdd, Nat.reduceMul]; exact rfl), ?_⟩; conv => whnf) | (refine ⟨_, pick_at rfl (by first | exact Nat.le_of_ble_eq_true rfl | rfl | exact plain_i64 _ | exact plain_ints _ | exact all_ints _ | omega | (dsimp only; omega) | (simp; done) | (simp only [htf] at *; first | omega | (simp; omega))), ?_⟩; conv => whnf) | (refine ⟨_, rfl, ?_⟩; conv => whnf) | (first | refine iteP_true rfl ?_ | refine iteP_false rfl ?_ | refine iteP_true ‹_› ?_ | refine iteP_false ‹_› ?_; conv => whnf) | (refine And.intro (by kernel_rfl : indep _ _ = true) ?_; conv => whnf) | (refine And.intro (by rfl : List.all _ _ = true) ?_; conv => whnf) | (refine And.intro (by first | exact Nat.le_of_ble_eq_true rfl | rfl | exact plain_i64 _ | exact plain_ints _ | exact all_ints _ | omega | (dsimp only; omega) | (simp; done) | (simp only [htf] at *; first | omega | (simp; omega))) ?_; conv => whnf) | (refine iteP_intro (fun hb => ?_) (fun hb => ?_) <;> (conv => whnf)))
  rfl
theorem take_full {xs ys : List Int} (hl : xs.length = ys.length) (h : ∀ j < xs.length, xs[j]? = ys[j]?) : xs = ys := by
  refine List.ext_getElem? fun j => ?_
  by_cases hj : j < xs.length
  · exact h j hj
  · rw [List.getElem?_eq_none (by omega), List.getElem?_eq_none (by omega)]
set_option maxHeartbeats 4000000 in
set_option maxRecDepth 100000 in
theorem eq_ret (xs ys : List Int) (hx : xs.length < 2 ^ 62) : Ret Tryd.prog G0 14 [⟨.ro, .one (ints xs)⟩, ⟨.ro, .one (ints ys)⟩] ⟨.one (.c (.bool (decide (xs = ys)))), []⟩ := by
  (refine ret_of_den (E := en 26 [] (fun _ => [(5, 0), (0, 1), (1, 1)])) tt_ok mixed Tryd.func14 rfl rfl rfl rfl ?_; refine ⟨by simp, ?_⟩)
  repeat' (first | (refine opt_some (getC_rows rfl rfl (by omega)) ?_; conv => whnf) | (refine opt_some rfl ?_; conv => whnf) | (refine ⟨_, (by simp only [nf, nl, nm, en, ints, Nat.reduceAdd, Nat.reduceMul]; exact rfl), ?_⟩; conv => whnf) | (refine ⟨_, pick_at rfl (by first | exact Nat.le_of_ble_eq_true rfl | rfl | exact plain_i64 _ | exact plain_ints _ | exact all_ints _ | omega | (dsimp only; omega) | (simp; done) | (simp only [htf] at *; first | omega | (simp; omega))), ?_⟩; conv => whnf) | (refine ⟨_, rfl, ?_⟩; conv => whnf) | (first | refine iteP_true rfl ?_ | refine iteP_false rfl ?_ | refine iteP_true ‹_› ?_ | refine iteP_false ‹_› ?_; conv => whnf) | (refine And.intro (by kernel_rfl : indep _ _ = true) ?_; conv => whnf) | (refine And.intro (by rfl : List.all _ _ = true) ?_; conv => whnf) | (refine And.intro (by first | exact Nat.le_of_ble_eq_true rfl | rfl | exact plain_i64 _ | exact plain_ints _ | exact all_ints _ | omega | (dsimp only; omega) | (simp; done) | (simp only [htf] at *; first | omega | (simp; omega))) ?_; conv => whnf) | (refine iteP_intro (fun hb => ?_) (fun hb => ?_) <;> (conv => whnf)))
  · have : xs ≠ ys := fun e => by simp [e] at hb
    exact endB (by simp [this])
  refine ⟨fun k vs => ∃ i : Nat, i ≤ xs.length ∧ (∀ j < i, xs[j]? = ys[j]?) ∧ vs = [.one (i64 i), .one (.shd (ints xs)), .one (.shd (ints ys))] ∧ k = xs.length - i, rfl, ?_, ?_⟩
  · exact ⟨_, 0, by omega, by simp, rfl, rfl⟩
  · have hl : xs.length = ys.length := Int.natCast_inj.1 (neF hb)
    rintro k vs ⟨i, hi, hx, rfl, rfl⟩
    repeat' (first | (refine opt_some (getC_rows rfl rfl (by omega)) ?_; conv => whnf) | (refine opt_some rfl ?_; conv => whnf) | (refine ⟨_, (by simp only [nf, nl, nm, en, ints, Nat.reduceAdd, Nat.reduceMul]; exact rfl), ?_⟩; conv => whnf) | (refine ⟨_, pick_at rfl (by first | exact Nat.le_of_ble_eq_true rfl | rfl | exact plain_i64 _ | exact plain_ints _ | exact all_ints _ | omega | (dsimp only; omega) | (simp; done) | (simp only [htf] at *; first | omega | (simp; omega))), ?_⟩; conv => whnf) | (refine ⟨_, rfl, ?_⟩; conv => whnf) | (first | refine iteP_true rfl ?_ | refine iteP_false rfl ?_ | refine iteP_true ‹_› ?_ | refine iteP_false ‹_› ?_; conv => whnf) | (refine And.intro (by kernel_rfl : indep _ _ = true) ?_; conv => whnf) | (refine And.intro (by rfl : List.all _ _ = true) ?_; conv => whnf) | (refine And.intro (by first | exact Nat.le_of_ble_eq_true rfl | rfl | exact plain_i64 _ | exact plain_ints _ | exact all_ints _ | omega | (dsimp only; omega) | (simp; done) | (simp only [htf] at *; first | omega | (simp; omega))) ?_; conv => whnf) | (refine iteP_intro (fun hb => ?_) (fun hb => ?_) <;> (conv => whnf)))
    · have hi' := ltT ‹decide ((i : Int) < xs.length) = true›
      refine endB ?_
      have : xs ≠ ys := fun e => by subst e; simp at hb
      simp [this]
    · have hi' := ltT ‹decide ((i : Int) < xs.length) = true›
      refine ⟨_, ?_, i + 1, hi', fun j hj => ?_, by rw [wrap_succ (by omega)]; rfl, rfl⟩
      · omega
      · rcases Nat.lt_succ_iff_lt_or_eq.1 hj with h | rfl
        · exact hx j h
        · rw [List.getElem?_eq_getElem hi', List.getElem?_eq_getElem (by omega)]
          simpa using hb
    · obtain rfl : i = xs.length := Nat.le_antisymm hi (ltF hb)
      exact endB (by rw [take_full hl hx]; simp)
/-- The first place that holds, or -1. -/
def findI {α : Type} (p : α → Bool) : List α → Int → Int
  | [], _ => -1
  | x :: xs, i => if p x then i else findI p xs (i + 1)
theorem findI_step {α : Type} {p : α → Bool} {xs : List α} {i : Nat} (hi : i < xs.length) : findI p (xs.drop i) i = if p xs[i] then (i : Int) else findI p (xs.drop (i + 1)) ((i + 1 : Nat) : Int) := by
  rw [List.drop_eq_getElem_cons hi]
  rfl
theorem findI_T {α : Type} {p : α → Bool} {xs : List α} {i : Nat} (hi : i < xs.length) (h : p xs[i] = true) : findI p (xs.drop i) i = i := by
  rw [findI_step hi, if_pos h]
theorem findI_F {α : Type} {p : α → Bool} {xs : List α} {i : Nat} (hi : i < xs.length) (h : p xs[i] = false) : findI p (xs.drop i) i = findI p (xs.drop (i + 1)) ((i + 1 : Nat) : Int) := by
  rw [findI_step hi, if_neg (by rw [h]; simp)]
theorem findI_nonneg {α : Type} (p : α → Bool) : ∀ (xs : List α) (i : Int), 0 ≤ i → decide (findI p xs i ≥ 0) = xs.any p
  | [], i, h => by simp [findI]
  | x :: xs, i, h => by
    unfold findI
    split
    · rename_i hp; simp [hp, h]
    · rename_i hp; rw [findI_nonneg p xs (i + 1) (by omega)]; simp [hp]
set_option maxHeartbeats 4000000 in
set_option maxRecDepth 100000 in
theorem indexF_ret (xs : List Int) (a b : Int) (hx : xs.length < 2 ^ 62) : Ret Tryd.prog G0 86 [⟨.ro, .one (ints xs)⟩, ⟨.ro, .one (.fn (.func 79) [.ptr [i64 a], .ptr [i64 b]])⟩] ⟨.one (i64 (findI (fun n => !decide (a ≤ n ∧ n ≤ b)) xs 0)), []⟩ := by
  (refine ret_of_den (E := en 19 [] (fun _ => [(7, 0), (8, 0), (0, 1), (1, 1)])) tt_ok mixed Tryd.func86 rfl rfl rfl rfl ?_; refine ⟨by simp, ?_⟩)
  repeat' (first | (refine opt_some (getC_rows rfl rfl (by omega)) ?_; conv => whnf) | (refine opt_some rfl ?_; conv => whnf) | (refine ⟨_, (by simp only [nf, nl, nm, en, ints, Nat.reduceAdd, Nat.reduceMul]; exact rfl), ?_⟩; conv => whnf) | (refine ⟨_, pick_at rfl (by first | exact Nat.le_of_ble_eq_true rfl | rfl | exact plain_i64 _ | exact plain_ints _ | exact all_ints _ | omega | (dsimp only; omega) | (simp; done) | (simp only [htf] at *; first | omega | (simp; omega))), ?_⟩; conv => whnf) | (refine ⟨_, rfl, ?_⟩; conv => whnf) | (first | refine iteP_true rfl ?_ | refine iteP_false rfl ?_ | refine iteP_true ‹_› ?_ | refine iteP_false ‹_› ?_; conv => whnf) | (refine And.intro (by kernel_rfl : indep _ _ = true) ?_; conv => whnf) | (refine And.intro (by rfl : List.all _ _ = true) ?_; conv => whnf) | (refine And.intro (by first | exact Nat.le_of_ble_eq_true rfl | rfl | exact plain_i64 _ | exact plain_ints _ | exact all_ints _ | omega | (dsimp only; omega) | (simp; done) | (simp only [htf] at *; first | omega | (simp; omega))) ?_; conv => whnf) | (refine iteP_intro (fun hb => ?_) (fun hb => ?_) <;> (conv => whnf)))
  refine ⟨fun k vs => ∃ i : Nat, i ≤ xs.length ∧ findI (fun n => !decide (a ≤ n ∧ n ≤ b)) xs 0 = findI (fun n => !decide (a ≤ n ∧ n ≤ b)) (xs.drop i) i ∧ vs = [.one (i64 xs.length), .one (i64 i), .one (.shd (ints xs)), .one (.shd (.fn (.func 79) [.ptr [i64 a], .ptr [i64 b]]))] ∧ k = xs.length - i, rfl, ?_, ?_⟩
  · exact ⟨_, 0, by omega, by simp, rfl, rfl⟩
  · rintro k vs ⟨i, hi, hx, rfl, rfl⟩
    repeat' (first | (refine opt_some (getC_rows rfl rfl (by omega)) ?_; conv => whnf) | (refine opt_some rfl ?_; conv => whnf) | (refine ⟨_, (by simp only [nf, nl, nm, en, ints, Nat.reduceAdd, Nat.reduceMul]; exact rfl), ?_⟩; conv => whnf) | (refine ⟨_, pick_at rfl (by first | exact Nat.le_of_ble_eq_true rfl | rfl | exact plain_i64 _ | exact plain_ints _ | exact all_ints _ | omega | (dsimp only; omega) | (simp; done) | (simp only [htf] at *; first | omega | (simp; omega))), ?_⟩; conv => whnf) | (refine ⟨_, rfl, ?_⟩; conv => whnf) | (first | refine iteP_true rfl ?_ | refine iteP_false rfl ?_ | refine iteP_true ‹_› ?_ | refine iteP_false ‹_› ?_; conv => whnf) | (refine And.intro (by kernel_rfl : indep _ _ = true) ?_; conv => whnf) | (refine And.intro (by rfl : List.all _ _ = true) ?_; conv => whnf) | (refine And.intro (by first | exact Nat.le_of_ble_eq_true rfl | rfl | exact plain_i64 _ | exact plain_ints _ | exact all_ints _ | omega | (dsimp only; omega) | (simp; done) | (simp only [htf] at *; first | omega | (simp; omega))) ?_; conv => whnf) | (refine iteP_intro (fun hb => ?_) (fun hb => ?_) <;> (conv => whnf)))
    · refine ⟨_, allIn1_ret _ a b, ?_⟩
      conv => whnf
      repeat' (first | (refine opt_some (getC_rows rfl rfl (by omega)) ?_; conv => whnf) | (refine opt_some rfl ?_; conv => whnf) | (refine ⟨_, (by simp only [nf, nl, nm, en, ints, Nat.reduceAdd, Nat.reduceMul]; exact rfl), ?_⟩; conv => whnf) | (refine ⟨_, pick_at rfl (by first | exact Nat.le_of_ble_eq_true rfl | rfl | exact plain_i64 _ | exact plain_ints _ | exact all_ints _ | omega | (dsimp only; omega) | (simp; done) | (simp only [htf] at *; first | omega | (simp; omega))), ?_⟩; conv => whnf) | (refine ⟨_, rfl, ?_⟩; conv => whnf) | (first | refine iteP_true rfl ?_ | refine iteP_false rfl ?_ | refine iteP_true ‹_› ?_ | refine iteP_false ‹_› ?_; conv => whnf) | (refine And.intro (by kernel_rfl : indep _ _ = true) ?_; conv => whnf) | (refine And.intro (by rfl : List.all _ _ = true) ?_; conv => whnf) | (refine And.intro (by first | exact Nat.le_of_ble_eq_true rfl | rfl | exact plain_i64 _ | exact plain_ints _ | exact all_ints _ | omega | (dsimp only; omega) | (simp; done) | (simp only [htf] at *; first | omega | (simp; omega))) ?_; conv => whnf) | (refine iteP_intro (fun hb => ?_) (fun hb => ?_) <;> (conv => whnf)))
      · have hi' := ltT ‹decide ((i : Int) < xs.length) = true›
        refine endI ?_
        rw [hx, findI_T hi' hb]
      · have hi' := ltT ‹decide ((i : Int) < xs.length) = true›
        refine ⟨_, ?_, i + 1, hi', ?_, by rw [wrap_succ (by omega)]; rfl, rfl⟩
        · omega
        · rw [hx, findI_F hi' hb]
    · obtain rfl : i = xs.length := Nat.le_antisymm hi (ltF hb)
      refine endI ?_
      rw [hx]; simp [findI]
set_option maxHeartbeats 4000000 in
set_option maxRecDepth 100000 in
theorem containsF_ret (xs : List Int) (a b : Int) (hx : xs.length < 2 ^ 62) : Ret Tryd.prog G0 78 [⟨.ro, .one (ints xs)⟩, ⟨.ro, .one (.fn (.func 79) [.ptr [i64 a], .ptr [i64 b]])⟩] ⟨.one (.c (.bool (xs.any fun n => !decide (a ≤ n ∧ n ≤ b)))), []⟩ := by
  (refine ret_of_den (E := en 9 [] (fun _ => [])) tt_ok mixed Tryd.func78 rfl rfl rfl rfl ?_; refine ⟨by simp, ?_⟩)
  repeat' (first | (refine opt_some (getC_rows rfl rfl (by omega)) ?_; conv => whnf) | (refine opt_some rfl ?_; conv => whnf) | (refine ⟨_, (by simp only [nf, nl, nm, en, ints, Nat.reduceAdd, Nat.reduceMul]; exact rfl), ?_⟩; conv => whnf) | (refine ⟨_, pick_at rfl (by first | exact Nat.le_of_ble_eq_true rfl | rfl | exact plain_i64 _ | exact plain_ints _ | exact all_ints _ | omega | (dsimp only; omega) | (simp; done) | (simp only [htf] at *; first | omega | (simp; omega))), ?_⟩; conv => whnf) | (refine ⟨_, rfl, ?_⟩; conv => whnf) | (first | refine iteP_true rfl ?_ | refine iteP_false rfl ?_ | refine iteP_true ‹_› ?_ | refine iteP_false ‹_› ?_; conv => whnf) | (refine And.intro (by kernel_rfl : indep _ _ = true) ?_; conv => whnf) | (refine And.intro (by rfl : List.all _ _ = true) ?_; conv => whnf) | (refine And.intro (by first | exact Nat.le_of_ble_eq_true rfl | rfl | exact plain_i64 _ | exact plain_ints _ | exact all_ints _ | omega | (dsimp only; omega) | (simp; done) | (simp only [htf] at *; first | omega | (simp; omega))) ?_; conv => whnf) | (refine iteP_intro (fun hb => ?_) (fun hb => ?_) <;> (conv => whnf)))
  refine ⟨_, indexF_ret xs a b hx, ?_⟩
  conv => whnf
  repeat' (first | (refine opt_some (getC_rows rfl rfl (by omega)) ?_; conv => whnf) | (refine opt_some rfl ?_; conv => whnf) | (refine ⟨_, (by simp only [nf, nl, nm, en, ints, Nat.reduceAdd, Nat.reduceMul]; exact rfl), ?_⟩; conv => whnf) | (refine ⟨_, pick_at rfl (by first | exact Nat.le_of_ble_eq_true rfl | rfl | exact plain_i64 _ | exact plain_ints _ | exact all_ints _ | omega | (dsimp only; omega) | (simp; done) | (simp only [htf] at *; first | omega | (simp; omega))), ?_⟩; conv => whnf) | (refine ⟨_, rfl, ?_⟩; conv => whnf) | (first | refine iteP_true rfl ?_ | refine iteP_false rfl ?_ | refine iteP_true ‹_› ?_ | refine iteP_false ‹_› ?_; conv => whnf) | (refine And.intro (by kernel_rfl : indep _ _ = true) ?_; conv => whnf) | (refine And.intro (by rfl : List.all _ _ = true) ?_; conv => whnf) | (refine And.intro (by first | exact Nat.le_of_ble_eq_true rfl | rfl | exact plain_i64 _ | exact plain_ints _ | exact all_ints _ | omega | (dsimp only; omega) | (simp; done) | (simp only [htf] at *; first | omega | (simp; omega))) ?_; conv => whnf) | (refine iteP_intro (fun hb => ?_) (fun hb => ?_) <;> (conv => whnf)))
  exact endB (findI_nonneg _ _ _ (Int.le_refl _))
set_option maxHeartbeats 4000000 in
set_option maxRecDepth 100000 in
theorem allIn_ret (xs : List Int) (a b : Int) (hx : xs.length < 2 ^ 62) : Ret Tryd.prog G0 60 [⟨.ro, .one (ints xs)⟩, ⟨.ro, .one (i64 a)⟩, ⟨.ro, .one (i64 b)⟩] ⟨.one (.c (.bool (xs.all fun n => decide (a ≤ n ∧ n ≤ b)))), []⟩ := by
  (refine ret_of_den (E := en 11 [] (fun _ => [])) tt_ok mixed Tryd.func60 rfl rfl rfl rfl ?_; refine ⟨by simp, ?_⟩)
  repeat' (first | (refine opt_some (getC_rows rfl rfl (by omega)) ?_; conv => whnf) | (refine opt_some rfl ?_; conv => whnf) | (refine ⟨_, (by simp only [nf, nl, nm, en, ints, Nat.reduceAdd, Nat.reduceMul]; exact rfl), ?_⟩; conv => whnf) | (refine ⟨_, pick_at rfl (by first | exact Nat.le_of_ble_eq_true rfl | rfl | exact plain_i64 _ | exact plain_ints _ | exact all_ints _ | omega | (dsimp only; omega) | (simp; done) | (simp only [htf] at *; first | omega | (simp; omega))), ?_⟩; conv => whnf) | (refine ⟨_, rfl, ?_⟩; conv => whnf) | (first | refine iteP_true rfl ?_ | refine iteP_false rfl ?_ | refine iteP_true ‹_› ?_ | refine iteP_false ‹_› ?_; conv => whnf) | (refine And.intro (by kernel_rfl : indep _ _ = true) ?_; conv => whnf) | (refine And.intro (by rfl : List.all _ _ = true) ?_; conv => whnf) | (refine And.intro (by first | exact Nat.le_of_ble_eq_true rfl | rfl | exact plain_i64 _ | exact plain_ints _ | exact all_ints _ | omega | (dsimp only; omega) | (simp; done) | (simp only [htf] at *; first | omega | (simp; omega))) ?_; conv => whnf) | (refine iteP_intro (fun hb => ?_) (fun hb => ?_) <;> (conv => whnf)))
  refine ⟨_, containsF_ret xs a b hx, ?_⟩
  conv => whnf
  repeat' (first | (refine opt_some (getC_rows rfl rfl (by omega)) ?_; conv => whnf) | (refine opt_some rfl ?_; conv => whnf) | (refine ⟨_, (by simp only [nf, nl, nm, en, ints, Nat.reduceAdd, Nat.reduceMul]; exact rfl), ?_⟩; conv => whnf) | (refine ⟨_, pick_at rfl (by first | exact Nat.le_of_ble_eq_true rfl | rfl | exact plain_i64 _ | exact plain_ints _ | exact all_ints _ | omega | (dsimp only; omega) | (simp; done) | (simp only [htf] at *; first | omega | (simp; omega))), ?_⟩; conv => whnf) | (refine ⟨_, rfl, ?_⟩; conv => whnf) | (first | refine iteP_true rfl ?_ | refine iteP_false rfl ?_ | refine iteP_true ‹_› ?_ | refine iteP_false ‹_› ?_; conv => whnf) | (refine And.intro (by kernel_rfl : indep _ _ = true) ?_; conv => whnf) | (refine And.intro (by rfl : List.all _ _ = true) ?_; conv => whnf) | (refine And.intro (by first | exact Nat.le_of_ble_eq_true rfl | rfl | exact plain_i64 _ | exact plain_ints _ | exact all_ints _ | omega | (dsimp only; omega) | (simp; done) | (simp only [htf] at *; first | omega | (simp; omega))) ?_; conv => whnf) | (refine iteP_intro (fun hb => ?_) (fun hb => ?_) <;> (conv => whnf)))
  exact endB List.all_eq_not_any_not.symm
set_option maxHeartbeats 4000000 in
set_option maxRecDepth 100000 in
theorem eq_nil : Ret Tryd.prog G0 14 [⟨.ro, .one nilS⟩, ⟨.ro, .one nilS⟩] ⟨.one (.c (.bool true)), []⟩ := by
  (refine ret_of_den (E := en 26 [] (fun _ => [(5, 0), (0, 1), (1, 1)])) tt_ok mixed Tryd.func14 rfl rfl rfl rfl ?_; refine ⟨by simp, ?_⟩)
  repeat' (first | (refine opt_some (getC_rows rfl rfl (by omega)) ?_; conv => whnf) | (refine opt_some rfl ?_; conv => whnf) | (refine ⟨_, (by simp only [nf, nl, nm, en, ints, Nat.reduceAdd, Nat.reduceMul]; exact rfl), ?_⟩; conv => whnf) | (refine ⟨_, pick_at rfl (by first | exact Nat.le_of_ble_eq_true rfl | rfl | exact plain_i64 _ | exact plain_ints _ | exact all_ints _ | omega | (dsimp only; omega) | (simp; done) | (simp only [htf] at *; first | omega | (simp; omega))), ?_⟩; conv => whnf) | (refine ⟨_, rfl, ?_⟩; conv => whnf) | (first | refine iteP_true rfl ?_ | refine iteP_false rfl ?_ | refine iteP_true ‹_› ?_ | refine iteP_false ‹_› ?_; conv => whnf) | (refine And.intro (by kernel_rfl : indep _ _ = true) ?_; conv => whnf) | (refine And.intro (by rfl : List.all _ _ = true) ?_; conv => whnf) | (refine And.intro (by first | exact Nat.le_of_ble_eq_true rfl | rfl | exact plain_i64 _ | exact plain_ints _ | exact all_ints _ | omega | (dsimp only; omega) | (simp; done) | (simp only [htf] at *; first | omega | (simp; omega))) ?_; conv => whnf) | (refine iteP_intro (fun hb => ?_) (fun hb => ?_) <;> (conv => whnf)))
  refine ⟨fun k vs => vs = [.one (i64 0), .one (.shd nilS), .one (.shd nilS)], rfl, ⟨0, rfl⟩, ?_⟩
  rintro k vs rfl
  repeat' (first | (refine opt_some (getC_rows rfl rfl (by omega)) ?_; conv => whnf) | (refine opt_some rfl ?_; conv => whnf) | (refine ⟨_, (by simp only [nf, nl, nm, en, ints, Nat.reduceAdd, Nat.reduceMul]; exact rfl), ?_⟩; conv => whnf) | (refine ⟨_, pick_at rfl (by first | exact Nat.le_of_ble_eq_true rfl | rfl | exact plain_i64 _ | exact plain_ints _ | exact all_ints _ | omega | (dsimp only; omega) | (simp; done) | (simp only [htf] at *; first | omega | (simp; omega))), ?_⟩; conv => whnf) | (refine ⟨_, rfl, ?_⟩; conv => whnf) | (first | refine iteP_true rfl ?_ | refine iteP_false rfl ?_ | refine iteP_true ‹_› ?_ | refine iteP_false ‹_› ?_; conv => whnf) | (refine And.intro (by kernel_rfl : indep _ _ = true) ?_; conv => whnf) | (refine And.intro (by rfl : List.all _ _ = true) ?_; conv => whnf) | (refine And.intro (by first | exact Nat.le_of_ble_eq_true rfl | rfl | exact plain_i64 _ | exact plain_ints _ | exact all_ints _ | omega | (dsimp only; omega) | (simp; done) | (simp only [htf] at *; first | omega | (simp; omega))) ?_; conv => whnf) | (refine iteP_intro (fun hb => ?_) (fun hb => ?_) <;> (conv => whnf)))
  rfl
/-- May the numbers be a word over n letters and their inverses? -/
def signedN (n : Int) (xs : List Int) : Bool := decide (xs.length ≤ 24) && xs.all (fun x => decide (-n ≤ x ∧ x ≤ n)) && !xs.any (0 == ·)
/-- A text's letters, one by one. -/
def scan (f : Int → Option Int) : List UInt8 → Option (List Int)
  | [] => some []
  | b :: bs => (f (b.toNat : Int)).bind fun x => (scan f bs).map (x :: ·)
theorem scan_append (f : Int → Option Int) : ∀ (cs bs : List UInt8), scan f (cs ++ bs) = (scan f cs).bind fun xs => (scan f bs).map (xs ++ ·)
  | [], bs => by cases h : scan f bs <;> simp [scan, h]
  | c :: cs, bs => by
    simp only [List.cons_append, scan, scan_append f cs bs]
    cases f (c.toNat : Int) <;> simp
    cases scan f cs <;> simp
    cases scan f bs <;> simp
theorem scan_step {f : Int → Option Int} {bs : List UInt8} {i : Nat} {xs : List Int} {v : Int} (hi : i < bs.length) (hx : scan f (bs.take i) = some xs) (hv : f ((bs.getD i 0).toNat : Int) = some v) : scan f (bs.take (i + 1)) = some (xs ++ [v]) := by
  rw [List.take_succ_eq_append_getElem hi, scan_append, hx]
  rw [List.getD_eq_getElem?_getD, List.getElem?_eq_getElem hi, Option.getD_some] at hv
  simp [scan, hv]
theorem scan_stop {f : Int → Option Int} {bs : List UInt8} {i : Nat} {xs : List Int} (hi : i < bs.length) (hx : scan f (bs.take i) = some xs) (hv : f ((bs.getD i 0).toNat : Int) = none) : scan f bs = none := by
  rw [← List.take_append_drop i bs, scan_append, hx, List.drop_eq_getElem_cons hi]
  rw [List.getD_eq_getElem?_getD, List.getElem?_eq_getElem hi, Option.getD_some] at hv
  simp [scan, hv]
theorem scan_length {f : Int → Option Int} : ∀ {bs : List UInt8} {xs : List Int}, scan f bs = some xs → xs.length = bs.length
  | [], _, h => by cases h; rfl
  | b :: bs, xs, h => by
    simp only [scan, Option.bind_eq_some_iff, Option.map_eq_some_iff] at h
    obtain ⟨x, -, ys, hy, rfl⟩ := h
    simp [scan_length hy]
def chS (c : Int) : Option Int := if 97 ≤ c ∧ c ≤ 104 then some (c - 96) else if 65 ≤ c ∧ c ≤ 72 then some (64 - c) else none
def chI (c : Int) : Option Int := if 97 ≤ c then some (c - 96) else if 65 ≤ c ∧ c ≤ 90 then some (64 - c) else none
def code : Option (List Int) → Int
  | none => 6
  | some _ => 0
def parseS (s : ByteArray) : Option (List Int) := if s.data.toList = [45] then some [] else (scan chS s.data.toList).bind fun xs => if xs.length = 0 ∨ 24 < xs.length then none else some xs
def parseI (s : ByteArray) : Option (List Int) := if s.data.toList = [45] then some [] else (scan chI s.data.toList).bind fun xs => if xs.length = 0 ∨ signedN 8 xs = false then none else some xs
theorem u8_range (bs : List UInt8) (i : Nat) : 0 ≤ ((bs.getD i 0).toNat : Int) ∧ ((bs.getD i 0).toNat : Int) < 256 := by
  have := (bs.getD i 0).toNat_lt
  omega
set_option maxHeartbeats 4000000 in
set_option maxRecDepth 100000 in
theorem szInt_ret (xs : List Int) (k : Int) (h0 : 0 ≤ k) (hk : k ≤ 2 ^ 20) (hx : xs.length < 2 ^ 62) : Ret Tryd.prog G0 32 [⟨.ro, .one (ints xs)⟩, ⟨.ro, .one (i64 k)⟩] ⟨.one (i64 (szI k xs.length)), []⟩ := by
  (refine ret_of_den (E := en 12 [] (fun _ => [])) tt_ok mixed Tryd.func32 rfl rfl rfl rfl ?_; refine ⟨by simp, ?_⟩)
  have hw : IntKind.i64.wrap (k - (xs.length : Int)) = k - xs.length := wrap_i64 (by omega) (by omega)
  repeat' (first | (refine opt_some (getC_rows rfl rfl (by omega)) ?_; conv => whnf) | (refine opt_some rfl ?_; conv => whnf) | (refine ⟨_, (by simp only [nf, nl, nm, en, ints, Nat.reduceAdd, Nat.reduceMul, hw]; exact rfl), ?_⟩; conv => whnf) | (refine ⟨_, pick_at rfl (by first | exact Nat.le_of_ble_eq_true rfl | rfl | exact plain_i64 _ | exact plain_ints _ | exact all_ints _ | omega | (dsimp only; omega) | (simp; done) | (simp only [htf] at *; first | omega | (simp; omega))), ?_⟩; conv => whnf) | (refine ⟨_, rfl, ?_⟩; conv => whnf) | (first | refine iteP_true rfl ?_ | refine iteP_false rfl ?_ | refine iteP_true ‹_› ?_ | refine iteP_false ‹_› ?_; conv => whnf) | (refine And.intro (by kernel_rfl : indep _ _ = true) ?_; conv => whnf) | (refine And.intro (by rfl : List.all _ _ = true) ?_; conv => whnf) | (refine And.intro (by first | exact Nat.le_of_ble_eq_true rfl | rfl | exact plain_i64 _ | exact plain_ints _ | exact all_ints _ | omega | (dsimp only; omega) | (simp; done) | (simp only [htf] at *; first | omega | (simp; omega))) ?_; conv => whnf) | (refine iteP_intro (fun hb => ?_) (fun hb => ?_) <;> (conv => whnf)))
  · exact endI (by unfold szI; rw [if_pos (leT hb)])
  · exact endI (by unfold szI; rw [if_neg (leF hb)])
set_option maxHeartbeats 4000000 in
set_option maxRecDepth 100000 in
theorem szAlpha_ret (ds : List Int) (n k : Int) (h0 : 0 ≤ k) (hk : k ≤ 2 ^ 20) (hx : ds.length < 2 ^ 62) : Ret Tryd.prog G0 8 [⟨.ro, .agg [i64 n, ints ds]⟩, ⟨.ro, .one (i64 k)⟩] ⟨.one (i64 (szI k ds.length)), []⟩ := by
  (refine ret_of_den (E := en 12 [] (fun _ => [])) tt_ok mixed Tryd.func8 rfl rfl rfl rfl ?_; refine ⟨by simp, ?_⟩)
  repeat' (first | (refine opt_some (getC_rows rfl rfl (by omega)) ?_; conv => whnf) | (refine opt_some rfl ?_; conv => whnf) | (refine ⟨_, (by simp only [nf, nl, nm, en, ints, Nat.reduceAdd, Nat.reduceMul]; exact rfl), ?_⟩; conv => whnf) | (refine ⟨_, pick_at rfl (by first | exact Nat.le_of_ble_eq_true rfl | rfl | exact plain_i64 _ | exact plain_ints _ | exact all_ints _ | omega | (dsimp only; omega) | (simp; done) | (simp only [htf] at *; first | omega | (simp; omega))), ?_⟩; conv => whnf) | (refine ⟨_, rfl, ?_⟩; conv => whnf) | (first | refine iteP_true rfl ?_ | refine iteP_false rfl ?_ | refine iteP_true ‹_› ?_ | refine iteP_false ‹_› ?_; conv => whnf) | (refine And.intro (by kernel_rfl : indep _ _ = true) ?_; conv => whnf) | (refine And.intro (by rfl : List.all _ _ = true) ?_; conv => whnf) | (refine And.intro (by first | exact Nat.le_of_ble_eq_true rfl | rfl | exact plain_i64 _ | exact plain_ints _ | exact all_ints _ | omega | (dsimp only; omega) | (simp; done) | (simp only [htf] at *; first | omega | (simp; omega))) ?_; conv => whnf) | (refine iteP_intro (fun hb => ?_) (fun hb => ?_) <;> (conv => whnf)))
  (refine ⟨_, szInt_ret ds k h0 hk hx, ?_⟩; conv => whnf)
  repeat' (first | (refine opt_some (getC_rows rfl rfl (by omega)) ?_; conv => whnf) | (refine opt_some rfl ?_; conv => whnf) | (refine ⟨_, (by simp only [nf, nl, nm, en, ints, Nat.reduceAdd, Nat.reduceMul]; exact rfl), ?_⟩; conv => whnf) | (refine ⟨_, pick_at rfl (by first | exact Nat.le_of_ble_eq_true rfl | rfl | exact plain_i64 _ | exact plain_ints _ | exact all_ints _ | omega | (dsimp only; omega) | (simp; done) | (simp only [htf] at *; first | omega | (simp; omega))), ?_⟩; conv => whnf) | (refine ⟨_, rfl, ?_⟩; conv => whnf) | (first | refine iteP_true rfl ?_ | refine iteP_false rfl ?_ | refine iteP_true ‹_› ?_ | refine iteP_false ‹_› ?_; conv => whnf) | (refine And.intro (by kernel_rfl : indep _ _ = true) ?_; conv => whnf) | (refine And.intro (by rfl : List.all _ _ = true) ?_; conv => whnf) | (refine And.intro (by first | exact Nat.le_of_ble_eq_true rfl | rfl | exact plain_i64 _ | exact plain_ints _ | exact all_ints _ | omega | (dsimp only; omega) | (simp; done) | (simp only [htf] at *; first | omega | (simp; omega))) ?_; conv => whnf) | (refine iteP_intro (fun hb => ?_) (fun hb => ?_) <;> (conv => whnf)))
  · refine endI ?_
    have := leT hb
    unfold szI at this ⊢
    split at this
    · rename_i h; rw [if_pos h]
    · rename_i h; exact absurd this h
  · rfl
set_option maxHeartbeats 4000000 in
set_option maxRecDepth 100000 in
theorem toInt_ret (xs : List Int) (hx : xs.length ≤ 2 ^ 20) : Ret Tryd.prog G0 11 [⟨.ro, .one (ints xs)⟩] ⟨.one (ints xs), []⟩ := by
  (refine ret_of_den (E := en 22 [] (fun _ => [(3, 0), (4, 0), (0, 1)])) tt_ok mixed Tryd.func11 rfl rfl rfl rfl ?_; refine ⟨by simp, ?_⟩)
  repeat' (first | (refine opt_some (getC_rows rfl rfl (by omega)) ?_; conv => whnf) | (refine opt_some rfl ?_; conv => whnf) | (refine ⟨_, (by simp only [nf, nl, nm, en, ints, Nat.reduceAdd, Nat.reduceMul, Int.toNat_natCast]; exact rfl), ?_⟩; conv => whnf) | (refine ⟨_, pick_at rfl (by first | exact Nat.le_of_ble_eq_true rfl | rfl | exact plain_i64 _ | exact plain_ints _ | exact all_ints _ | omega | (dsimp only; omega) | (simp; done) | (simp only [htf] at *; first | omega | (simp; omega))), ?_⟩; conv => whnf) | (refine ⟨_, rfl, ?_⟩; conv => whnf) | (first | refine iteP_true rfl ?_ | refine iteP_false rfl ?_ | refine iteP_true ‹_› ?_ | refine iteP_false ‹_› ?_; conv => whnf) | (refine And.intro (by kernel_rfl : indep _ _ = true) ?_; conv => whnf) | (refine And.intro (by rfl : List.all _ _ = true) ?_; conv => whnf) | (refine And.intro (by first | exact Nat.le_of_ble_eq_true rfl | rfl | exact plain_i64 _ | exact plain_ints _ | exact all_ints _ | omega | (dsimp only; omega) | (simp; done) | (simp only [htf] at *; first | omega | (simp; omega))) ?_; conv => whnf) | (refine iteP_intro (fun hb => ?_) (fun hb => ?_) <;> (conv => whnf)))
  refine ⟨fun k vs => ∃ i : Nat, i ≤ xs.length ∧ vs = [.one (.sl false 1 xs.length ((copied xs i).map i64)), .one (i64 i), .one (.shd (ints xs))] ∧ k = xs.length - i, rfl, ⟨_, 0, by omega, by rw [copied_none]; simp only [List.map_replicate]; rfl, rfl⟩, ?_⟩
  rintro k vs ⟨i, hi, rfl, rfl⟩
  repeat' (first | (refine opt_some (getC_rows rfl rfl (by omega)) ?_; conv => whnf) | (refine opt_some rfl ?_; conv => whnf) | (refine ⟨_, (by simp only [nf, nl, nm, en, ints, Nat.reduceAdd, Nat.reduceMul]; exact rfl), ?_⟩; conv => whnf) | (refine ⟨_, pick_at rfl (by first | exact Nat.le_of_ble_eq_true rfl | rfl | exact plain_i64 _ | exact plain_ints _ | exact all_ints _ | omega | (dsimp only; omega) | (simp; done) | (simp only [htf] at *; first | omega | (simp; omega))), ?_⟩; conv => whnf) | (refine ⟨_, rfl, ?_⟩; conv => whnf) | (first | refine iteP_true rfl ?_ | refine iteP_false rfl ?_ | refine iteP_true ‹_› ?_ | refine iteP_false ‹_› ?_; conv => whnf) | (refine And.intro (by kernel_rfl : indep _ _ = true) ?_; conv => whnf) | (refine And.intro (by rfl : List.all _ _ = true) ?_; conv => whnf) | (refine And.intro (by first | exact Nat.le_of_ble_eq_true rfl | rfl | exact plain_i64 _ | exact plain_ints _ | exact all_ints _ | omega | (dsimp only; omega) | (simp; done) | (simp only [htf] at *; first | omega | (simp; omega))) ?_; conv => whnf) | (refine iteP_intro (fun hb => ?_) (fun hb => ?_) <;> (conv => whnf)))
  · have hi' := ltT hb
    refine ⟨⟨by simp [copied_length hi]; omega, plain_i64 _⟩, ?_⟩
    conv => whnf
    refine ⟨_, by simp only [nf, nl, nm, en, ints, Nat.reduceAdd, Nat.reduceMul]; rw [splice_at rfl (by rw [copied_length hi]; exact hi'), copied_set hi'], ?_⟩
    conv => whnf
    repeat' (first | (refine opt_some (getC_rows rfl rfl (by omega)) ?_; conv => whnf) | (refine opt_some rfl ?_; conv => whnf) | (refine ⟨_, (by simp only [nf, nl, nm, en, ints, Nat.reduceAdd, Nat.reduceMul]; exact rfl), ?_⟩; conv => whnf) | (refine ⟨_, pick_at rfl (by first | exact Nat.le_of_ble_eq_true rfl | rfl | exact plain_i64 _ | exact plain_ints _ | exact all_ints _ | omega | (dsimp only; omega) | (simp; done) | (simp only [htf] at *; first | omega | (simp; omega))), ?_⟩; conv => whnf) | (refine ⟨_, rfl, ?_⟩; conv => whnf) | (first | refine iteP_true rfl ?_ | refine iteP_false rfl ?_ | refine iteP_true ‹_› ?_ | refine iteP_false ‹_› ?_; conv => whnf) | (refine And.intro (by kernel_rfl : indep _ _ = true) ?_; conv => whnf) | (refine And.intro (by rfl : List.all _ _ = true) ?_; conv => whnf) | (refine And.intro (by first | exact Nat.le_of_ble_eq_true rfl | rfl | exact plain_i64 _ | exact plain_ints _ | exact all_ints _ | omega | (dsimp only; omega) | (simp; done) | (simp only [htf] at *; first | omega | (simp; omega))) ?_; conv => whnf) | (refine iteP_intro (fun hb => ?_) (fun hb => ?_) <;> (conv => whnf)))
    refine ⟨_, ?_, i + 1, hi', by rw [wrap_succ (by omega)]; rfl, rfl⟩
    omega
  · obtain rfl : i = xs.length := Nat.le_antisymm hi (ltF hb)
    rw [copied_all]
    rfl
end Go.Proofs.YthlnahomjdcbeaaDoor
