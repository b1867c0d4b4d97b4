import Derived.Test.YthlnahomjdcbeaaDoorChecked
import Derived.Test.YthlnahomjdcbeaaDoorDf
set_option autoImplicit false
set_option linter.unusedSimpArgs false
set_option linter.unusedVariables false
namespace Go.Proofs.YthlnahomjdcbeaaDoor
open Go.Den
def tt : TypeId → Option Ty
  | 0 => some ⟨Go.TypeDesc.tuple #[], 1, 0, Go.Value.tuple #[]⟩
  | 1 => some ⟨Go.TypeDesc.func #[] #[] Bool.false, 1, 8, Go.Value.nilFunc⟩
  | 2 => some ⟨Go.TypeDesc.int Go.IntKind.i64, 1, 8, Go.Value.int Go.IntKind.i64 0⟩
  | 3 => some ⟨Go.TypeDesc.int Go.IntKind.i64, 1, 8, Go.Value.int Go.IntKind.i64 0⟩
  | 4 => some ⟨Go.TypeDesc.bool, 1, 1, Go.Value.bool Bool.false⟩
  | 5 => some ⟨Go.TypeDesc.int Go.IntKind.u8, 1, 1, Go.Value.int Go.IntKind.u8 0⟩
  | 6 => some ⟨Go.TypeDesc.int Go.IntKind.u8, 1, 1, Go.Value.int Go.IntKind.u8 0⟩
  | 7 => some ⟨Go.TypeDesc.struct
  #[{ name := "x", type := 2, offset := 0, embedded := Bool.false, tag := "", pkgPath := "runtime", byteOffset := 0 },
    { name := "y", type := 3, offset := 1, embedded := Bool.false, tag := "", pkgPath := "runtime", byteOffset := 8 },
    { name := "signed", type := 4, offset := 2, embedded := Bool.false, tag := "", pkgPath := "runtime",
      byteOffset := 16 },
    { name := "code", type := 6, offset := 3, embedded := Bool.false, tag := "", pkgPath := "runtime",
      byteOffset :=
        17 }], 4, 24, Go.Value.agg
  #[Go.Value.int Go.IntKind.i64 0, Go.Value.int Go.IntKind.i64 0, Go.Value.bool Bool.false,
    Go.Value.int Go.IntKind.u8 0]⟩
  | 8 => some ⟨Go.TypeDesc.struct
  #[{ name := "x", type := 2, offset := 0, embedded := Bool.false, tag := "", pkgPath := "runtime", byteOffset := 0 },
    { name := "y", type := 3, offset := 1, embedded := Bool.false, tag := "", pkgPath := "runtime", byteOffset := 8 },
    { name := "signed", type := 4, offset := 2, embedded := Bool.false, tag := "", pkgPath := "runtime",
      byteOffset := 16 },
    { name := "code", type := 6, offset := 3, embedded := Bool.false, tag := "", pkgPath := "runtime",
      byteOffset :=
        17 }], 4, 24, Go.Value.agg
  #[Go.Value.int Go.IntKind.i64 0, Go.Value.int Go.IntKind.i64 0, Go.Value.bool Bool.false,
    Go.Value.int Go.IntKind.u8 0]⟩
  | 9 => some ⟨Go.TypeDesc.string, 1, 16, Go.Value.string { data := #[] }⟩
  | 10 => some ⟨Go.TypeDesc.string, 1, 16, Go.Value.string { data := #[] }⟩
  | 11 => some ⟨Go.TypeDesc.string, 1, 16, Go.Value.string { data := #[] }⟩
  | 12 => some ⟨Go.TypeDesc.int Go.IntKind.u64, 1, 8, Go.Value.int Go.IntKind.u64 0⟩
  | 13 => some ⟨Go.TypeDesc.struct
  #[{ name := "msg", type := 9, offset := 0, embedded := Bool.false, tag := "", pkgPath := "runtime", byteOffset := 0 },
    { name := "addr", type := 12, offset := 1, embedded := Bool.false, tag := "", pkgPath := "runtime",
      byteOffset := 16 }], 2, 24, Go.Value.agg #[Go.Value.string { data := #[] }, Go.Value.int Go.IntKind.u64 0]⟩
  | 14 => some ⟨Go.TypeDesc.struct
  #[{ name := "msg", type := 9, offset := 0, embedded := Bool.false, tag := "", pkgPath := "runtime", byteOffset := 0 },
    { name := "addr", type := 12, offset := 1, embedded := Bool.false, tag := "", pkgPath := "runtime",
      byteOffset := 16 }], 2, 24, Go.Value.agg #[Go.Value.string { data := #[] }, Go.Value.int Go.IntKind.u64 0]⟩
  | 15 => some ⟨Go.TypeDesc.pointer 102, 1, 8, Go.Value.pointer Option.none⟩
  | 16 => some ⟨Go.TypeDesc.pointer 105, 1, 8, Go.Value.pointer Option.none⟩
  | 17 => some ⟨Go.TypeDesc.pointer 115, 1, 8, Go.Value.pointer Option.none⟩
  | 18 => some ⟨Go.TypeDesc.struct
  #[{ name := "typ", type := 17, offset := 0, embedded := Bool.false, tag := "", pkgPath := "internal/runtime/maps",
      byteOffset := 0 }], 1, 8, Go.Value.agg #[Go.Value.pointer Option.none]⟩
  | 19 => some ⟨Go.TypeDesc.struct
  #[{ name := "typ", type := 17, offset := 0, embedded := Bool.false, tag := "", pkgPath := "internal/runtime/maps",
      byteOffset := 0 }], 1, 8, Go.Value.agg #[Go.Value.pointer Option.none]⟩
  | 20 => some ⟨Go.TypeDesc.interface #[], 1, 16, Go.Value.nilIface⟩
  | 21 => some ⟨Go.TypeDesc.int Go.IntKind.i32, 1, 4, Go.Value.int Go.IntKind.i32 0⟩
  | 22 => some ⟨Go.TypeDesc.slice 2, 1, 24, Go.Value.slice Option.none 0 0⟩
  | 23 => some ⟨Go.TypeDesc.struct
  #[{ name := "Letters", type := 2, offset := 0, embedded := Bool.false, tag := "", pkgPath := "", byteOffset := 0 },
    { name := "Depends", type := 22, offset := 1, embedded := Bool.false, tag := "", pkgPath := "",
      byteOffset := 8 }], 2, 32, Go.Value.agg #[Go.Value.int Go.IntKind.i64 0, Go.Value.slice Option.none 0 0]⟩
  | 24 => some ⟨Go.TypeDesc.struct
  #[{ name := "Letters", type := 2, offset := 0, embedded := Bool.false, tag := "", pkgPath := "", byteOffset := 0 },
    { name := "Depends", type := 22, offset := 1, embedded := Bool.false, tag := "", pkgPath := "",
      byteOffset := 8 }], 2, 32, Go.Value.agg #[Go.Value.int Go.IntKind.i64 0, Go.Value.slice Option.none 0 0]⟩
  | 25 => some ⟨Go.TypeDesc.func #[24, 3] #[3] Bool.false, 1, 8, Go.Value.nilFunc⟩
  | 26 => some ⟨Go.TypeDesc.func #[27, 22] #[4] Bool.false, 1, 8, Go.Value.nilFunc⟩
  | 27 => some ⟨Go.TypeDesc.struct
  #[{ name := "Letters", type := 2, offset := 0, embedded := Bool.false, tag := "", pkgPath := "", byteOffset := 0 },
    { name := "Depends", type := 22, offset := 1, embedded := Bool.false, tag := "", pkgPath := "",
      byteOffset := 8 }], 2, 32, Go.Value.agg #[Go.Value.int Go.IntKind.i64 0, Go.Value.slice Option.none 0 0]⟩
  | 28 => some ⟨Go.TypeDesc.func #[24] #[27] Bool.false, 1, 8, Go.Value.nilFunc⟩
  | 29 => some ⟨Go.TypeDesc.func #[22] #[22] Bool.false, 1, 8, Go.Value.nilFunc⟩
  | 30 => some ⟨Go.TypeDesc.func #[27, 27] #[4] Bool.false, 1, 8, Go.Value.nilFunc⟩
  | 31 => some ⟨Go.TypeDesc.func #[22, 22] #[4] Bool.false, 1, 8, Go.Value.nilFunc⟩
  | 32 => some ⟨Go.TypeDesc.func #[24, 22] #[4] Bool.false, 1, 8, Go.Value.nilFunc⟩
  | 33 => some ⟨Go.TypeDesc.slice 56, 1, 24, Go.Value.slice Option.none 0 0⟩
  | 34 => some ⟨Go.TypeDesc.func #[33, 3] #[3] Bool.false, 1, 8, Go.Value.nilFunc⟩
  | 35 => some ⟨Go.TypeDesc.func #[27, 36] #[4] Bool.false, 1, 8, Go.Value.nilFunc⟩
  | 36 => some ⟨Go.TypeDesc.slice 57, 1, 24, Go.Value.slice Option.none 0 0⟩
  | 37 => some ⟨Go.TypeDesc.func #[33] #[36] Bool.false, 1, 8, Go.Value.nilFunc⟩
  | 38 => some ⟨Go.TypeDesc.func #[36, 36] #[4] Bool.false, 1, 8, Go.Value.nilFunc⟩
  | 39 => some ⟨Go.TypeDesc.func #[24, 33] #[4] Bool.false, 1, 8, Go.Value.nilFunc⟩
  | 40 => some ⟨Go.TypeDesc.tuple
  #[22, 2], 1, 0, Go.Value.tuple #[Go.Value.slice Option.none 0 0, Go.Value.int Go.IntKind.i64 0]⟩
  | 41 => some ⟨Go.TypeDesc.func #[27, 22] #[22, 2] Bool.false, 1, 8, Go.Value.nilFunc⟩
  | 42 => some ⟨Go.TypeDesc.func #[27, 3] #[3] Bool.false, 1, 8, Go.Value.nilFunc⟩
  | 43 => some ⟨Go.TypeDesc.func #[22, 3] #[3] Bool.false, 1, 8, Go.Value.nilFunc⟩
  | 44 => some ⟨Go.TypeDesc.tuple
  #[2, 2], 1, 0, Go.Value.tuple #[Go.Value.int Go.IntKind.i64 0, Go.Value.int Go.IntKind.i64 0]⟩
  | 45 => some ⟨Go.TypeDesc.func #[27, 2] #[2, 2] Bool.false, 1, 8, Go.Value.nilFunc⟩
  | 46 => some ⟨Go.TypeDesc.func #[24, 2] #[4] Bool.false, 1, 8, Go.Value.nilFunc⟩
  | 47 => some ⟨Go.TypeDesc.slice 22, 1, 24, Go.Value.slice Option.none 0 0⟩
  | 48 => some ⟨Go.TypeDesc.tuple
  #[47, 2], 1, 0, Go.Value.tuple #[Go.Value.slice Option.none 0 0, Go.Value.int Go.IntKind.i64 0]⟩
  | 49 => some ⟨Go.TypeDesc.func #[27] #[47, 2] Bool.false, 1, 8, Go.Value.nilFunc⟩
  | 50 => some ⟨Go.TypeDesc.func #[47, 47] #[4] Bool.false, 1, 8, Go.Value.nilFunc⟩
  | 51 => some ⟨Go.TypeDesc.func #[47, 3] #[3] Bool.false, 1, 8, Go.Value.nilFunc⟩
  | 52 => some ⟨Go.TypeDesc.func #[24] #[4] Bool.false, 1, 8, Go.Value.nilFunc⟩
  | 53 => some ⟨Go.TypeDesc.func #[27] #[4] Bool.false, 1, 8, Go.Value.nilFunc⟩
  | 54 => some ⟨Go.TypeDesc.func #[56, 3] #[3] Bool.false, 1, 8, Go.Value.nilFunc⟩
  | 55 => some ⟨Go.TypeDesc.struct
  #[{ name := "Left", type := 22, offset := 0, embedded := Bool.false, tag := "", pkgPath := "", byteOffset := 0 },
    { name := "Right", type := 22, offset := 1, embedded := Bool.false, tag := "", pkgPath := "",
      byteOffset := 24 }], 2, 48, Go.Value.agg #[Go.Value.slice Option.none 0 0, Go.Value.slice Option.none 0 0]⟩
  | 56 => some ⟨Go.TypeDesc.struct
  #[{ name := "Left", type := 22, offset := 0, embedded := Bool.false, tag := "", pkgPath := "", byteOffset := 0 },
    { name := "Right", type := 22, offset := 1, embedded := Bool.false, tag := "", pkgPath := "",
      byteOffset := 24 }], 2, 48, Go.Value.agg #[Go.Value.slice Option.none 0 0, Go.Value.slice Option.none 0 0]⟩
  | 57 => some ⟨Go.TypeDesc.struct
  #[{ name := "Left", type := 22, offset := 0, embedded := Bool.false, tag := "", pkgPath := "", byteOffset := 0 },
    { name := "Right", type := 22, offset := 1, embedded := Bool.false, tag := "", pkgPath := "",
      byteOffset := 24 }], 2, 48, Go.Value.agg #[Go.Value.slice Option.none 0 0, Go.Value.slice Option.none 0 0]⟩
  | 58 => some ⟨Go.TypeDesc.func #[56] #[57] Bool.false, 1, 8, Go.Value.nilFunc⟩
  | 59 => some ⟨Go.TypeDesc.func #[36, 60] #[4] Bool.false, 1, 8, Go.Value.nilFunc⟩
  | 60 => some ⟨Go.TypeDesc.func #[57] #[4] Bool.false, 1, 8, Go.Value.nilFunc⟩
  | 61 => some ⟨Go.TypeDesc.func #[57, 57] #[4] Bool.false, 1, 8, Go.Value.nilFunc⟩
  | 62 => some ⟨Go.TypeDesc.func #[27, 22, 22] #[2] Bool.false, 1, 8, Go.Value.nilFunc⟩
  | 63 => some ⟨Go.TypeDesc.func #[27, 47] #[2] Bool.true, 1, 8, Go.Value.nilFunc⟩
  | 64 => some ⟨Go.TypeDesc.func #[27, 2] #[2] Bool.false, 1, 8, Go.Value.nilFunc⟩
  | 65 => some ⟨Go.TypeDesc.func #[27] #[27] Bool.false, 1, 8, Go.Value.nilFunc⟩
  | 66 => some ⟨Go.TypeDesc.func #[2] #[2] Bool.false, 1, 8, Go.Value.nilFunc⟩
  | 67 => some ⟨Go.TypeDesc.func #[27, 2, 2, 47] #[2] Bool.false, 1, 8, Go.Value.nilFunc⟩
  | 68 => some ⟨Go.TypeDesc.func #[2, 2, 2] #[4] Bool.false, 1, 8, Go.Value.nilFunc⟩
  | 69 => some ⟨Go.TypeDesc.pointer 74, 1, 8, Go.Value.pointer Option.none⟩
  | 70 => some ⟨Go.TypeDesc.slice 2, 1, 24, Go.Value.slice Option.none 0 0⟩
  | 71 => some ⟨Go.TypeDesc.func #[27] #[70] Bool.false, 1, 8, Go.Value.nilFunc⟩
  | 72 => some ⟨Go.TypeDesc.map 89 2, 1, 8, Go.Value.map Option.none⟩
  | 73 => some ⟨Go.TypeDesc.struct
  #[{ name := "t", type := 70, offset := 0, embedded := Bool.false, tag := "", pkgPath := "loop.example/g01094/impl",
      byteOffset := 0 },
    { name := "known", type := 72, offset := 1, embedded := Bool.false, tag := "",
      pkgPath := "loop.example/g01094/impl",
      byteOffset := 24 }], 2, 32, Go.Value.agg #[Go.Value.slice Option.none 0 0, Go.Value.map Option.none]⟩
  | 74 => some ⟨Go.TypeDesc.struct
  #[{ name := "t", type := 70, offset := 0, embedded := Bool.false, tag := "", pkgPath := "loop.example/g01094/impl",
      byteOffset := 0 },
    { name := "known", type := 72, offset := 1, embedded := Bool.false, tag := "",
      pkgPath := "loop.example/g01094/impl",
      byteOffset := 24 }], 2, 32, Go.Value.agg #[Go.Value.slice Option.none 0 0, Go.Value.map Option.none]⟩
  | 75 => some ⟨Go.TypeDesc.func #[2, 2] #[2] Bool.false, 1, 8, Go.Value.nilFunc⟩
  | 76 => some ⟨Go.TypeDesc.func #[27, 22, 47] #[47] Bool.false, 1, 8, Go.Value.nilFunc⟩
  | 77 => some ⟨Go.TypeDesc.func #[2, 22] #[4] Bool.false, 1, 8, Go.Value.nilFunc⟩
  | 78 => some ⟨Go.TypeDesc.func #[22] #[2] Bool.false, 1, 8, Go.Value.nilFunc⟩
  | 79 => some ⟨Go.TypeDesc.func #[22] #[4] Bool.false, 1, 8, Go.Value.nilFunc⟩
  | 80 => some ⟨Go.TypeDesc.func #[2, 2] #[4] Bool.false, 1, 8, Go.Value.nilFunc⟩
  | 81 => some ⟨Go.TypeDesc.func #[22, 2, 2] #[4] Bool.false, 1, 8, Go.Value.nilFunc⟩
  | 82 => some ⟨Go.TypeDesc.func #[22, 2] #[4] Bool.false, 1, 8, Go.Value.nilFunc⟩
  | 83 => some ⟨Go.TypeDesc.func #[36, 60] #[3] Bool.false, 1, 8, Go.Value.nilFunc⟩
  | 84 => some ⟨Go.TypeDesc.func #[47, 79] #[4] Bool.false, 1, 8, Go.Value.nilFunc⟩
  | 85 => some ⟨Go.TypeDesc.func #[27, 2, 2] #[4] Bool.false, 1, 8, Go.Value.nilFunc⟩
  | 86 => some ⟨Go.TypeDesc.int Go.IntKind.u64, 1, 8, Go.Value.int Go.IntKind.u64 0⟩
  | 87 => some ⟨Go.TypeDesc.func #[27, 2, 2] #[2] Bool.false, 1, 8, Go.Value.nilFunc⟩
  | 88 => some ⟨Go.TypeDesc.func #[2] #[22] Bool.false, 1, 8, Go.Value.nilFunc⟩
  | 89 => some ⟨Go.TypeDesc.array 2
  2, 2, 16, Go.Value.agg #[Go.Value.int Go.IntKind.i64 0, Go.Value.int Go.IntKind.i64 0]⟩
  | 90 => some ⟨Go.TypeDesc.tuple
  #[2, 4], 1, 0, Go.Value.tuple #[Go.Value.int Go.IntKind.i64 0, Go.Value.bool Bool.false]⟩
  | 91 => some ⟨Go.TypeDesc.func #[22, 92] #[4] Bool.false, 1, 8, Go.Value.nilFunc⟩
  | 92 => some ⟨Go.TypeDesc.func #[2] #[4] Bool.false, 1, 8, Go.Value.nilFunc⟩
  | 93 => some ⟨Go.TypeDesc.func #[22, 2] #[3] Bool.false, 1, 8, Go.Value.nilFunc⟩
  | 94 => some ⟨Go.TypeDesc.func #[47, 79] #[3] Bool.false, 1, 8, Go.Value.nilFunc⟩
  | 95 => some ⟨Go.TypeDesc.func #[22, 2] #[2] Bool.false, 1, 8, Go.Value.nilFunc⟩
  | 96 => some ⟨Go.TypeDesc.func #[22, 92] #[3] Bool.false, 1, 8, Go.Value.nilFunc⟩
  | 97 => some ⟨Go.TypeDesc.func #[86] #[3] Bool.false, 1, 8, Go.Value.nilFunc⟩
  | 98 => some ⟨Go.TypeDesc.array 64
  5, 64, 64, Go.Value.agg
  #[Go.Value.int Go.IntKind.u8 0, Go.Value.int Go.IntKind.u8 0, Go.Value.int Go.IntKind.u8 0,
    Go.Value.int Go.IntKind.u8 0, Go.Value.int Go.IntKind.u8 0, Go.Value.int Go.IntKind.u8 0,
    Go.Value.int Go.IntKind.u8 0, Go.Value.int Go.IntKind.u8 0, Go.Value.int Go.IntKind.u8 0,
    Go.Value.int Go.IntKind.u8 0, Go.Value.int Go.IntKind.u8 0, Go.Value.int Go.IntKind.u8 0,
    Go.Value.int Go.IntKind.u8 0, Go.Value.int Go.IntKind.u8 0, Go.Value.int Go.IntKind.u8 0,
    Go.Value.int Go.IntKind.u8 0, Go.Value.int Go.IntKind.u8 0, Go.Value.int Go.IntKind.u8 0,
    Go.Value.int Go.IntKind.u8 0, Go.Value.int Go.IntKind.u8 0, Go.Value.int Go.IntKind.u8 0,
    Go.Value.int Go.IntKind.u8 0, Go.Value.int Go.IntKind.u8 0, Go.Value.int Go.IntKind.u8 0,
    Go.Value.int Go.IntKind.u8 0, Go.Value.int Go.IntKind.u8 0, Go.Value.int Go.IntKind.u8 0,
    Go.Value.int Go.IntKind.u8 0, Go.Value.int Go.IntKind.u8 0, Go.Value.int Go.IntKind.u8 0,
    Go.Value.int Go.IntKind.u8 0, Go.Value.int Go.IntKind.u8 0, Go.Value.int Go.IntKind.u8 0,
    Go.Value.int Go.IntKind.u8 0, Go.Value.int Go.IntKind.u8 0, Go.Value.int Go.IntKind.u8 0,
    Go.Value.int Go.IntKind.u8 0, Go.Value.int Go.IntKind.u8 0, Go.Value.int Go.IntKind.u8 0,
    Go.Value.int Go.IntKind.u8 0, Go.Value.int Go.IntKind.u8 0, Go.Value.int Go.IntKind.u8 0,
    Go.Value.int Go.IntKind.u8 0, Go.Value.int Go.IntKind.u8 0, Go.Value.int Go.IntKind.u8 0,
    Go.Value.int Go.IntKind.u8 0, Go.Value.int Go.IntKind.u8 0, Go.Value.int Go.IntKind.u8 0,
    Go.Value.int Go.IntKind.u8 0, Go.Value.int Go.IntKind.u8 0, Go.Value.int Go.IntKind.u8 0,
    Go.Value.int Go.IntKind.u8 0, Go.Value.int Go.IntKind.u8 0, Go.Value.int Go.IntKind.u8 0,
    Go.Value.int Go.IntKind.u8 0, Go.Value.int Go.IntKind.u8 0, Go.Value.int Go.IntKind.u8 0,
    Go.Value.int Go.IntKind.u8 0, Go.Value.int Go.IntKind.u8 0, Go.Value.int Go.IntKind.u8 0,
    Go.Value.int Go.IntKind.u8 0, Go.Value.int Go.IntKind.u8 0, Go.Value.int Go.IntKind.u8 0,
    Go.Value.int Go.IntKind.u8 0]⟩
  | 99 => some ⟨Go.TypeDesc.int Go.IntKind.u64, 1, 8, Go.Value.int Go.IntKind.u64 0⟩
  | 100 => some ⟨Go.TypeDesc.func #[] #[9] Bool.false, 1, 8, Go.Value.nilFunc⟩
  | 101 => some ⟨Go.TypeDesc.struct
  #[{ name := "_interface", type := 17, offset := 0, embedded := Bool.false, tag := "", pkgPath := "runtime",
      byteOffset := 0 },
    { name := "concrete", type := 17, offset := 1, embedded := Bool.false, tag := "", pkgPath := "runtime",
      byteOffset := 8 },
    { name := "asserted", type := 17, offset := 2, embedded := Bool.false, tag := "", pkgPath := "runtime",
      byteOffset := 16 },
    { name := "missingMethod", type := 9, offset := 3, embedded := Bool.false, tag := "", pkgPath := "runtime",
      byteOffset :=
        24 }], 4, 40, Go.Value.agg
  #[Go.Value.pointer Option.none, Go.Value.pointer Option.none, Go.Value.pointer Option.none,
    Go.Value.string { data := #[] }]⟩
  | 102 => some ⟨Go.TypeDesc.struct
  #[{ name := "_interface", type := 17, offset := 0, embedded := Bool.false, tag := "", pkgPath := "runtime",
      byteOffset := 0 },
    { name := "concrete", type := 17, offset := 1, embedded := Bool.false, tag := "", pkgPath := "runtime",
      byteOffset := 8 },
    { name := "asserted", type := 17, offset := 2, embedded := Bool.false, tag := "", pkgPath := "runtime",
      byteOffset := 16 },
    { name := "missingMethod", type := 9, offset := 3, embedded := Bool.false, tag := "", pkgPath := "runtime",
      byteOffset :=
        24 }], 4, 40, Go.Value.agg
  #[Go.Value.pointer Option.none, Go.Value.pointer Option.none, Go.Value.pointer Option.none,
    Go.Value.string { data := #[] }]⟩
  | 103 => some ⟨Go.TypeDesc.array 0 16, 0, 0, Go.Value.agg #[]⟩
  | 104 => some ⟨Go.TypeDesc.struct
  #[{ name := "_", type := 103, offset := 0, embedded := Bool.false, tag := "", pkgPath := "runtime",
      byteOffset := 0 }], 0, 0, Go.Value.agg #[]⟩
  | 105 => some ⟨Go.TypeDesc.struct
  #[{ name := "_", type := 103, offset := 0, embedded := Bool.false, tag := "", pkgPath := "runtime",
      byteOffset := 0 }], 0, 0, Go.Value.agg #[]⟩
  | 106 => some ⟨Go.TypeDesc.func #[] #[3] Bool.false, 1, 8, Go.Value.nilFunc⟩
  | 107 => some ⟨Go.TypeDesc.int Go.IntKind.u32, 1, 4, Go.Value.int Go.IntKind.u32 0⟩
  | 108 => some ⟨Go.TypeDesc.int Go.IntKind.u8, 1, 1, Go.Value.int Go.IntKind.u8 0⟩
  | 109 => some ⟨Go.TypeDesc.int Go.IntKind.u8, 1, 1, Go.Value.int Go.IntKind.u8 0⟩
  | 110 => some ⟨Go.TypeDesc.func #[117, 117] #[4] Bool.false, 1, 8, Go.Value.nilFunc⟩
  | 111 => some ⟨Go.TypeDesc.pointer 5, 1, 8, Go.Value.pointer Option.none⟩
  | 112 => some ⟨Go.TypeDesc.int Go.IntKind.i32, 1, 4, Go.Value.int Go.IntKind.i32 0⟩
  | 113 => some ⟨Go.TypeDesc.int Go.IntKind.i32, 1, 4, Go.Value.int Go.IntKind.i32 0⟩
  | 114 => some ⟨Go.TypeDesc.struct
  #[{ name := "Size_", type := 12, offset := 0, embedded := Bool.false, tag := "", pkgPath := "", byteOffset := 0 },
    { name := "PtrBytes", type := 12, offset := 1, embedded := Bool.false, tag := "", pkgPath := "", byteOffset := 8 },
    { name := "Hash", type := 107, offset := 2, embedded := Bool.false, tag := "", pkgPath := "", byteOffset := 16 },
    { name := "TFlag", type := 108, offset := 3, embedded := Bool.false, tag := "", pkgPath := "", byteOffset := 20 },
    { name := "Align_", type := 5, offset := 4, embedded := Bool.false, tag := "", pkgPath := "", byteOffset := 21 },
    { name := "FieldAlign_", type := 5, offset := 5, embedded := Bool.false, tag := "", pkgPath := "",
      byteOffset := 22 },
    { name := "Kind_", type := 109, offset := 6, embedded := Bool.false, tag := "", pkgPath := "", byteOffset := 23 },
    { name := "Equal", type := 110, offset := 7, embedded := Bool.false, tag := "", pkgPath := "", byteOffset := 24 },
    { name := "GCData", type := 111, offset := 8, embedded := Bool.false, tag := "", pkgPath := "", byteOffset := 32 },
    { name := "Str", type := 112, offset := 9, embedded := Bool.false, tag := "", pkgPath := "", byteOffset := 40 },
    { name := "PtrToThis", type := 113, offset := 10, embedded := Bool.false, tag := "", pkgPath := "",
      byteOffset :=
        44 }], 11, 48, Go.Value.agg
  #[Go.Value.int Go.IntKind.u64 0, Go.Value.int Go.IntKind.u64 0, Go.Value.int Go.IntKind.u32 0,
    Go.Value.int Go.IntKind.u8 0, Go.Value.int Go.IntKind.u8 0, Go.Value.int Go.IntKind.u8 0,
    Go.Value.int Go.IntKind.u8 0, Go.Value.nilFunc, Go.Value.pointer Option.none, Go.Value.int Go.IntKind.i32 0,
    Go.Value.int Go.IntKind.i32 0]⟩
  | 115 => some ⟨Go.TypeDesc.struct
  #[{ name := "Size_", type := 12, offset := 0, embedded := Bool.false, tag := "", pkgPath := "", byteOffset := 0 },
    { name := "PtrBytes", type := 12, offset := 1, embedded := Bool.false, tag := "", pkgPath := "", byteOffset := 8 },
    { name := "Hash", type := 107, offset := 2, embedded := Bool.false, tag := "", pkgPath := "", byteOffset := 16 },
    { name := "TFlag", type := 108, offset := 3, embedded := Bool.false, tag := "", pkgPath := "", byteOffset := 20 },
    { name := "Align_", type := 5, offset := 4, embedded := Bool.false, tag := "", pkgPath := "", byteOffset := 21 },
    { name := "FieldAlign_", type := 5, offset := 5, embedded := Bool.false, tag := "", pkgPath := "",
      byteOffset := 22 },
    { name := "Kind_", type := 109, offset := 6, embedded := Bool.false, tag := "", pkgPath := "", byteOffset := 23 },
    { name := "Equal", type := 110, offset := 7, embedded := Bool.false, tag := "", pkgPath := "", byteOffset := 24 },
    { name := "GCData", type := 111, offset := 8, embedded := Bool.false, tag := "", pkgPath := "", byteOffset := 32 },
    { name := "Str", type := 112, offset := 9, embedded := Bool.false, tag := "", pkgPath := "", byteOffset := 40 },
    { name := "PtrToThis", type := 113, offset := 10, embedded := Bool.false, tag := "", pkgPath := "",
      byteOffset :=
        44 }], 11, 48, Go.Value.agg
  #[Go.Value.int Go.IntKind.u64 0, Go.Value.int Go.IntKind.u64 0, Go.Value.int Go.IntKind.u32 0,
    Go.Value.int Go.IntKind.u8 0, Go.Value.int Go.IntKind.u8 0, Go.Value.int Go.IntKind.u8 0,
    Go.Value.int Go.IntKind.u8 0, Go.Value.nilFunc, Go.Value.pointer Option.none, Go.Value.int Go.IntKind.i32 0,
    Go.Value.int Go.IntKind.i32 0]⟩
  | 116 => some ⟨Go.TypeDesc.func #[2, 2] #[] Bool.false, 1, 8, Go.Value.nilFunc⟩
  | 117 => some ⟨Go.TypeDesc.unsafePointer, 1, 8, Go.Value.pointer Option.none⟩
  | _ => none
theorem tt_ok : TabOK Tryd.prog tt := fun t d h => by
  unfold tt at h
  split at h <;> first | (obtain rfl := Option.some.inj h; exact tabOf_ok Tryd.prog _ _ (by kernel_rfl)) | cases h
def G0 : Nat → Option (List Value) := fun g => match g with | 0 => some (Lib.deBruijn64tab.map fun n : Nat => .int .u8 (n : Int)) | _ => none
def sg : FuncId → List PM
  | 54 => [.ro, .ro, .mv]
  | 22 => [.mu, .ro]
  | 23 => [.mu, .ro]
  | 30 => [.mu, .ro]
  | 53 => [.ro, .mv, .mv]
  | _ => []
abbrev en (n : Nat) (force : List Nat) (live nils : Nat → List (Nat × Nat)) : Env := ⟨n, tt, G0, sg, force, live, nils⟩
theorem mixed : Tryd.prog.follows .mixedOrders = true := by kernel_rfl
abbrev nilS : Cell := .c (.slice none 0 0)
/-- What comes with the code c: nil, unless c is 0. -/
def nz (c : Int) (x : Cell) : Cell := if c = 0 then x else nilS
theorem nz_le {c : Int} {x : Cell} (h : c ≠ 0 → OLe nilS x) : OLe (nz c x) x := by
  unfold nz
  split
  · exact .refl _
  · rename_i hc; exact h hc
theorem Ret.nz {P : Program} {G : Nat → Option (List Value)} {f : FuncId} {args : List Arg} {c : Int} {x : Cell} {ts : List (Bool × List Cell)} {os : List SV} (h : Ret P G f args ⟨.tup ((false, [nz c x]) :: ts), os⟩) (hx : c ≠ 0 → OLe nilS x) :
    Ret P G f args ⟨.tup ((false, [x]) :: ts), os⟩ := h.relax (.tup1 (nz_le hx) (.refl _)) (.refl _)
/-- What is left of k places behind n. -/
def szI (k : Int) (n : Nat) : Int := if k - n < 0 then -1 else k - n
theorem szI_nn {k : Int} {n : Nat} (h : ¬ szI k n < 0) : (n : Int) ≤ k ∧ szI k n = k - n := by
  unfold szI at *
  split at h <;> omega
/-- The first i are copied. -/
def copied (xs : List Int) (i : Nat) : List Int := xs.take i ++ List.replicate (xs.length - i) 0
theorem copied_length {xs : List Int} {i : Nat} (h : i ≤ xs.length) : (copied xs i).length = xs.length := by simp [copied]; omega
theorem copied_get {xs : List Int} {i j : Nat} (h : i ≤ xs.length) : (copied xs i)[j]? = if j < i then xs[j]? else if j < xs.length then some 0 else none := by
  unfold copied
  rw [List.getElem?_append, List.length_take, Nat.min_eq_left h, List.getElem?_take, List.getElem?_replicate]
  split
  · rename_i h1; simp [h1]
  · split
    · rw [if_pos (by omega)]
    · rw [if_neg (by omega)]
theorem copied_set {xs : List Int} {i : Nat} (h : i < xs.length) : (copied xs i).set i xs[i] = copied xs (i + 1) := by
  refine List.ext_getElem? fun j => ?_
  have hl := copied_length (Nat.le_of_lt h)
  by_cases e : i = j
  · subst e
    rw [List.getElem?_set_self (by omega), copied_get (by omega), if_pos (by omega), List.getElem?_eq_getElem h]
  · rw [List.getElem?_set_ne e, copied_get (by omega), copied_get (by omega)]
    by_cases h1 : j < i
    · rw [if_pos h1, if_pos (by omega)]
    · rw [if_neg h1, if_neg (show ¬ j < i + 1 by omega)]
theorem copied_all (xs : List Int) : copied xs xs.length = xs := by simp [copied]
theorem copied_none (xs : List Int) : copied xs 0 = List.replicate xs.length 0 := by simp [copied]
end Go.Proofs.YthlnahomjdcbeaaDoor
