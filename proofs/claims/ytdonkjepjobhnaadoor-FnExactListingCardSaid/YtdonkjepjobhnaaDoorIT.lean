/- The types of the program, as the abstract machine wants them told. -/
import Derived.Test.YtdonkjepjobhnaaDoorProg
import Derived.Test.YtdonkjepjobhnaaDoorIN
import Derived.KernelRfl
namespace Go.Proofs.YtdonkjepjobhnaaDoor.IM
open Go Go.Proofs.IM
set_option linter.unusedVariables false
def Tt : TypeId → Option TI
  | 2 => some ⟨.int .i64, 1, 8, [.int .i64 0]⟩   -- int64
  | 3 => some ⟨.int .i64, 1, 8, [.int .i64 0]⟩   -- int
  | 4 => some ⟨.bo, 1, 1, [.bool false]⟩   -- bool
  | 5 => some ⟨.int .u8, 1, 1, [.int .u8 0]⟩   -- uint8
  | 6 => some ⟨.int .u8, 1, 1, [.int .u8 0]⟩   -- abi.BoundsErrorCode
  | 7 => some ⟨.st [(0, 2), (1, 3), (2, 4), (3, 6)], 4, 24, [.int .i64 0, .int .i64 0, .bool false, .int .u8 0]⟩   -- struct { x int64; y int; signed bool; code abi.BoundsErrorCode }
  | 8 => some ⟨.st [(0, 2), (1, 3), (2, 4), (3, 6)], 4, 24, [.int .i64 0, .int .i64 0, .bool false, .int .u8 0]⟩   -- runtime.boundsError
  | 9 => some ⟨.str, 1, 16, [.str ByteArray.empty]⟩   -- string
  | 10 => some ⟨.str, 1, 16, [.str ByteArray.empty]⟩   -- runtime.errorString
  | 11 => some ⟨.str, 1, 16, [.str ByteArray.empty]⟩   -- runtime.plainError
  | 12 => some ⟨.int .u64, 1, 8, [.int .u64 0]⟩   -- uintptr
  | 13 => some ⟨.st [(0, 9), (1, 12)], 2, 24, [.str ByteArray.empty, .int .u64 0]⟩   -- struct { msg string; addr uintptr }
  | 14 => some ⟨.st [(0, 9), (1, 12)], 2, 24, [.str ByteArray.empty, .int .u64 0]⟩   -- runtime.errorAddressString
  | 15 => some ⟨.ptr, 1, 8, [.nilp]⟩   -- *runtime.TypeAssertionError
  | 16 => some ⟨.ptr, 1, 8, [.nilp]⟩   -- *runtime.PanicNilError
  | 17 => some ⟨.ptr, 1, 8, [.nilp]⟩   -- *abi.Type
  | 18 => some ⟨.st [(0, 17)], 1, 8, [.nilp]⟩   -- struct { typ *abi.Type }
  | 19 => some ⟨.st [(0, 17)], 1, 8, [.nilp]⟩   -- maps.unhashableTypeError
  | 21 => some ⟨.int .i32, 1, 4, [.int .i32 0]⟩   -- int32
  | 22 => some ⟨.sl 5, 1, 24, [.nils]⟩   -- []uint8
  | 23 => some ⟨.sl 67, 1, 24, [.nils]⟩   -- []impl.Proto
  | 24 => some ⟨.st [(0, 23)], 1, 24, [.nils]⟩   -- struct { Protos []impl.Proto }
  | 25 => some ⟨.st [(0, 23)], 1, 24, [.nils]⟩   -- impl.Code
  | 33 => some ⟨.flt, 1, 8, [.flt 0]⟩   -- float64
  | 34 => some ⟨.st [(0, 3), (1, 2), (2, 33), (3, 9), (4, 3)], 5, 48, [.int .i64 0, .int .i64 0, .flt 0, .str ByteArray.empty, .int .i64 0]⟩   -- struct { Kind int; Num int64; Flt float64; Str string; Ref int }
  | 35 => some ⟨.st [(0, 3), (1, 2), (2, 33), (3, 9), (4, 3)], 5, 48, [.int .i64 0, .int .i64 0, .flt 0, .str ByteArray.empty, .int .i64 0]⟩   -- laws.Value
  | 38 => some ⟨.st [(0, 3), (1, 2), (2, 33), (3, 9), (4, 3)], 5, 48, [.int .i64 0, .int .i64 0, .flt 0, .str ByteArray.empty, .int .i64 0]⟩   -- impl.Value
  | 41 => some ⟨.sl 153, 1, 24, [.nils]⟩   -- []laws.Proto
  | 42 => some ⟨.st [(0, 41)], 1, 24, [.nils]⟩   -- struct { Protos []laws.Proto }
  | 43 => some ⟨.st [(0, 41)], 1, 24, [.nils]⟩   -- laws.Code
  | 45 => some ⟨.st [(0, 3), (1, 3), (2, 3)], 3, 24, [.int .i64 0, .int .i64 0, .int .i64 0]⟩   -- struct { Code int; Proto int; At int }
  | 46 => some ⟨.st [(0, 3), (1, 3), (2, 3)], 3, 24, [.int .i64 0, .int .i64 0, .int .i64 0]⟩   -- impl.Fault
  | 51 => some ⟨.st [(0, 3), (1, 38)], 6, 56, [.int .i64 0, .int .i64 0, .int .i64 0, .flt 0, .str ByteArray.empty, .int .i64 0]⟩   -- struct { Code int; Value impl.Value }
  | 52 => some ⟨.st [(0, 3), (1, 38)], 6, 56, [.int .i64 0, .int .i64 0, .int .i64 0, .flt 0, .str ByteArray.empty, .int .i64 0]⟩   -- impl.Valued
  | 58 => some ⟨.ptr, 1, 8, [.nilp]⟩   -- *spec.l4reader
  | 59 => some ⟨.st [(0, 22), (1, 3), (2, 4)], 3, 40, [.nils, .int .i64 0, .bool false]⟩   -- struct { b []uint8; at int; bad bool }
  | 60 => some ⟨.st [(0, 22), (1, 3), (2, 4)], 3, 40, [.nils, .int .i64 0, .bool false]⟩   -- spec.l4reader
  | 62 => some ⟨.sl 96, 1, 24, [.nils]⟩   -- []impl.Up
  | 63 => some ⟨.sl 38, 1, 24, [.nils]⟩   -- []impl.Value
  | 64 => some ⟨.sl 85, 1, 24, [.nils]⟩   -- []impl.Ins
  | 65 => some ⟨.sl 91, 1, 24, [.nils]⟩   -- []impl.Named
  | 66 => some ⟨.st [(0, 9), (1, 3), (2, 3), (3, 4), (4, 3), (5, 62), (6, 63), (7, 64), (8, 65)], 9, 144, [.str ByteArray.empty, .int .i64 0, .int .i64 0, .bool false, .int .i64 0, .nils, .nils, .nils, .nils]⟩   -- struct { Name string; Line int; Params int; Rest bool; Regs int; Ups []impl.Up; Consts []impl.Value; Ins []impl.Ins; Named []impl.Named }
  | 67 => some ⟨.st [(0, 9), (1, 3), (2, 3), (3, 4), (4, 3), (5, 62), (6, 63), (7, 64), (8, 65)], 9, 144, [.str ByteArray.empty, .int .i64 0, .int .i64 0, .bool false, .int .i64 0, .nils, .nils, .nils, .nils]⟩   -- impl.Proto
  | 69 => some ⟨.st [], 0, 0, []⟩   -- struct {}
  | 70 => some ⟨.st [], 0, 0, []⟩   -- impl.short
  | 72 => some ⟨.ptr, 1, 8, [.nilp]⟩   -- *impl.reader
  | 73 => some ⟨.st [(0, 22), (1, 3)], 2, 32, [.nils, .int .i64 0]⟩   -- struct { b []uint8; at int }
  | 74 => some ⟨.st [(0, 22), (1, 3)], 2, 32, [.nils, .int .i64 0]⟩   -- impl.reader
  | 83 => some ⟨.sl 4, 1, 24, [.nils]⟩   -- []bool
  | 84 => some ⟨.st [(0, 3), (1, 3), (2, 3), (3, 3), (4, 3)], 5, 40, [.int .i64 0, .int .i64 0, .int .i64 0, .int .i64 0, .int .i64 0]⟩   -- struct { Op int; A int; B int; C int; D int }
  | 85 => some ⟨.st [(0, 3), (1, 3), (2, 3), (3, 3), (4, 3)], 5, 40, [.int .i64 0, .int .i64 0, .int .i64 0, .int .i64 0, .int .i64 0]⟩   -- impl.Ins
  | 90 => some ⟨.st [(0, 9), (1, 3), (2, 3), (3, 3)], 4, 40, [.str ByteArray.empty, .int .i64 0, .int .i64 0, .int .i64 0]⟩   -- struct { Name string; Reg int; From int; To int }
  | 91 => some ⟨.st [(0, 9), (1, 3), (2, 3), (3, 3)], 4, 40, [.str ByteArray.empty, .int .i64 0, .int .i64 0, .int .i64 0]⟩   -- impl.Named
  | 95 => some ⟨.st [(0, 4), (1, 3)], 2, 16, [.bool false, .int .i64 0]⟩   -- struct { Local bool; Index int }
  | 96 => some ⟨.st [(0, 4), (1, 3)], 2, 16, [.bool false, .int .i64 0]⟩   -- impl.Up
  | 111 => some ⟨.ptr, 1, 8, [.nilp]⟩   -- *impl.writer
  | 112 => some ⟨.st [(0, 22)], 1, 24, [.nils]⟩   -- struct { out []uint8 }
  | 113 => some ⟨.st [(0, 22)], 1, 24, [.nils]⟩   -- impl.writer
  | 117 => some ⟨.sl 3, 1, 24, [.nils]⟩   -- []int
  | 119 => some ⟨.sl 9, 1, 24, [.nils]⟩   -- []string
  | 121 => some ⟨.ptr, 1, 8, [.nilp]⟩   -- *strings.Builder
  | 122 => some ⟨.st [(0, 121), (1, 22)], 2, 32, [.nilp, .nils]⟩   -- struct { addr *strings.Builder; buf []uint8 }
  | 128 => some ⟨.arr 4 3, 4, 32, [.int .i64 0, .int .i64 0, .int .i64 0, .int .i64 0]⟩   -- [4]int
  | 143 => some ⟨.int .u64, 1, 8, [.int .u64 0]⟩   -- uint64
  | 145 => some ⟨.int .u64, 1, 8, [.int .u64 0]⟩   -- uint
  | 148 => some ⟨.sl 217, 1, 24, [.nils]⟩   -- []laws.Up
  | 149 => some ⟨.sl 35, 1, 24, [.nils]⟩   -- []laws.Value
  | 150 => some ⟨.sl 219, 1, 24, [.nils]⟩   -- []laws.Ins
  | 151 => some ⟨.sl 215, 1, 24, [.nils]⟩   -- []laws.Named
  | 152 => some ⟨.st [(0, 9), (1, 3), (2, 3), (3, 4), (4, 3), (5, 148), (6, 149), (7, 150), (8, 151)], 9, 144, [.str ByteArray.empty, .int .i64 0, .int .i64 0, .bool false, .int .i64 0, .nils, .nils, .nils, .nils]⟩   -- struct { Name string; Line int; Params int; Rest bool; Regs int; Ups []laws.Up; Consts []laws.Value; Ins []laws.Ins; Named []laws.Named }
  | 153 => some ⟨.st [(0, 9), (1, 3), (2, 3), (3, 4), (4, 3), (5, 148), (6, 149), (7, 150), (8, 151)], 9, 144, [.str ByteArray.empty, .int .i64 0, .int .i64 0, .bool false, .int .i64 0, .nils, .nils, .nils, .nils]⟩   -- laws.Proto
  | 158 => some ⟨.int .i64, 1, 8, [.int .i64 0]⟩   -- impl.role
  | 159 => some ⟨.arr 4 158, 4, 32, [.int .i64 0, .int .i64 0, .int .i64 0, .int .i64 0]⟩   -- [4]impl.role
  | 160 => some ⟨.arr 4 158, 4, 32, [.int .i64 0, .int .i64 0, .int .i64 0, .int .i64 0]⟩   -- impl.form
  | 161 => some ⟨.sl 160, 1, 24, [.nils]⟩   -- []impl.form
  | 177 => some ⟨.ptr, 1, 8, [.nilp]⟩   -- *uint8
  | 183 => some ⟨.arr 24 5, 24, 24, [.int .u8 0, .int .u8 0, .int .u8 0, .int .u8 0, .int .u8 0, .int .u8 0, .int .u8 0, .int .u8 0, .int .u8 0, .int .u8 0, .int .u8 0, .int .u8 0, .int .u8 0, .int .u8 0, .int .u8 0, .int .u8 0, .int .u8 0, .int .u8 0, .int .u8 0, .int .u8 0, .int .u8 0, .int .u8 0, .int .u8 0, .int .u8 0]⟩   -- [24]uint8
  | 198 => some ⟨.sl 200, 1, 24, [.nils]⟩   -- []strings.span
  | 199 => some ⟨.st [(0, 3), (1, 3)], 2, 16, [.int .i64 0, .int .i64 0]⟩   -- struct { start int; end int }
  | 200 => some ⟨.st [(0, 3), (1, 3)], 2, 16, [.int .i64 0, .int .i64 0]⟩   -- strings.span
  | 201 => some ⟨.int .u32, 1, 4, [.int .u32 0]⟩   -- uint32
  | 203 => some ⟨.ptr, 1, 8, [.nilp]⟩   -- *unicode.RangeTable
  | 211 => some ⟨.arr 20 143, 20, 160, [.int .u64 0, .int .u64 0, .int .u64 0, .int .u64 0, .int .u64 0, .int .u64 0, .int .u64 0, .int .u64 0, .int .u64 0, .int .u64 0, .int .u64 0, .int .u64 0, .int .u64 0, .int .u64 0, .int .u64 0, .int .u64 0, .int .u64 0, .int .u64 0, .int .u64 0, .int .u64 0]⟩   -- [20]uint64
  | 215 => some ⟨.st [(0, 9), (1, 3), (2, 3), (3, 3)], 4, 40, [.str ByteArray.empty, .int .i64 0, .int .i64 0, .int .i64 0]⟩   -- laws.Named
  | 217 => some ⟨.st [(0, 4), (1, 3)], 2, 16, [.bool false, .int .i64 0]⟩   -- laws.Up
  | 219 => some ⟨.st [(0, 3), (1, 3), (2, 3), (3, 3), (4, 3)], 5, 40, [.int .i64 0, .int .i64 0, .int .i64 0, .int .i64 0, .int .i64 0]⟩   -- laws.Ins
  | 221 => some ⟨.sl 227, 1, 24, [.nils]⟩   -- []unicode.Range16
  | 222 => some ⟨.sl 230, 1, 24, [.nils]⟩   -- []unicode.Range32
  | 223 => some ⟨.st [(0, 221), (1, 222), (2, 3)], 3, 56, [.nils, .nils, .int .i64 0]⟩   -- struct { R16 []unicode.Range16; R32 []unicode.Range32; LatinOffset int }
  | 224 => some ⟨.st [(0, 221), (1, 222), (2, 3)], 3, 56, [.nils, .nils, .int .i64 0]⟩   -- unicode.RangeTable
  | 225 => some ⟨.int .u16, 1, 2, [.int .u16 0]⟩   -- uint16
  | 226 => some ⟨.st [(0, 225), (1, 225), (2, 225)], 3, 6, [.int .u16 0, .int .u16 0, .int .u16 0]⟩   -- struct { Lo uint16; Hi uint16; Stride uint16 }
  | 227 => some ⟨.st [(0, 225), (1, 225), (2, 225)], 3, 6, [.int .u16 0, .int .u16 0, .int .u16 0]⟩   -- unicode.Range16
  | 229 => some ⟨.st [(0, 201), (1, 201), (2, 201)], 3, 12, [.int .u32 0, .int .u32 0, .int .u32 0]⟩   -- struct { Lo uint32; Hi uint32; Stride uint32 }
  | 230 => some ⟨.st [(0, 201), (1, 201), (2, 201)], 3, 12, [.int .u32 0, .int .u32 0, .int .u32 0]⟩   -- unicode.Range32
  | 236 => some ⟨.ptr, 1, 8, [.nilp]⟩   -- *unicode.Range16
  | 237 => some ⟨.ptr, 1, 8, [.nilp]⟩   -- *unicode.Range32
  | 238 => some ⟨.arr 32 5, 32, 32, [.int .u8 0, .int .u8 0, .int .u8 0, .int .u8 0, .int .u8 0, .int .u8 0, .int .u8 0, .int .u8 0, .int .u8 0, .int .u8 0, .int .u8 0, .int .u8 0, .int .u8 0, .int .u8 0, .int .u8 0, .int .u8 0, .int .u8 0, .int .u8 0, .int .u8 0, .int .u8 0, .int .u8 0, .int .u8 0, .int .u8 0, .int .u8 0, .int .u8 0, .int .u8 0, .int .u8 0, .int .u8 0, .int .u8 0, .int .u8 0, .int .u8 0, .int .u8 0]⟩   -- [32]uint8
  | 239 => some ⟨.arr 64 5, 64, 64, [.int .u8 0, .int .u8 0, .int .u8 0, .int .u8 0, .int .u8 0, .int .u8 0, .int .u8 0, .int .u8 0, .int .u8 0, .int .u8 0, .int .u8 0, .int .u8 0, .int .u8 0, .int .u8 0, .int .u8 0, .int .u8 0, .int .u8 0, .int .u8 0, .int .u8 0, .int .u8 0, .int .u8 0, .int .u8 0, .int .u8 0, .int .u8 0, .int .u8 0, .int .u8 0, .int .u8 0, .int .u8 0, .int .u8 0, .int .u8 0, .int .u8 0, .int .u8 0, .int .u8 0, .int .u8 0, .int .u8 0, .int .u8 0, .int .u8 0, .int .u8 0, .int .u8 0, .int .u8 0, .int .u8 0, .int .u8 0, .int .u8 0, .int .u8 0, .int .u8 0, .int .u8 0, .int .u8 0, .int .u8 0, .int .u8 0, .int .u8 0, .int .u8 0, .int .u8 0, .int .u8 0, .int .u8 0, .int .u8 0, .int .u8 0, .int .u8 0, .int .u8 0, .int .u8 0, .int .u8 0, .int .u8 0, .int .u8 0, .int .u8 0, .int .u8 0]⟩   -- [64]uint8
  | 240 => some ⟨.st [(0, 17), (1, 17), (2, 17), (3, 9)], 4, 40, [.nilp, .nilp, .nilp, .str ByteArray.empty]⟩   -- struct { _interface *abi.Type; concrete *abi.Type; asserted *abi.Type; missingMethod string }
  | 241 => some ⟨.st [(0, 17), (1, 17), (2, 17), (3, 9)], 4, 40, [.nilp, .nilp, .nilp, .str ByteArray.empty]⟩   -- runtime.TypeAssertionError
  | 245 => some ⟨.int .u8, 1, 1, [.int .u8 0]⟩   -- abi.TFlag
  | 246 => some ⟨.int .u8, 1, 1, [.int .u8 0]⟩   -- abi.Kind
  | 248 => some ⟨.int .i32, 1, 4, [.int .i32 0]⟩   -- abi.NameOff
  | 249 => some ⟨.int .i32, 1, 4, [.int .i32 0]⟩   -- abi.TypeOff
  | _ => none
theorem ok2 : TOk Tryd.prog 2 ⟨.int .i64, 1, 8, [.int .i64 0]⟩ := ⟨by kernel_rfl, by kernel_rfl, rfl, rfl, by decide⟩
theorem ok3 : TOk Tryd.prog 3 ⟨.int .i64, 1, 8, [.int .i64 0]⟩ := ⟨by kernel_rfl, by kernel_rfl, rfl, rfl, by decide⟩
theorem ok4 : TOk Tryd.prog 4 ⟨.bo, 1, 1, [.bool false]⟩ := ⟨by kernel_rfl, by kernel_rfl, rfl, rfl, by decide⟩
theorem ok5 : TOk Tryd.prog 5 ⟨.int .u8, 1, 1, [.int .u8 0]⟩ := ⟨by kernel_rfl, by kernel_rfl, rfl, rfl, by decide⟩
theorem ok6 : TOk Tryd.prog 6 ⟨.int .u8, 1, 1, [.int .u8 0]⟩ := ⟨by kernel_rfl, by kernel_rfl, rfl, rfl, by decide⟩
theorem ok7 : TOk Tryd.prog 7 ⟨.st [(0, 2), (1, 3), (2, 4), (3, 6)], 4, 24, [.int .i64 0, .int .i64 0, .bool false, .int .u8 0]⟩ := ⟨by kernel_rfl, by kernel_rfl, rfl, rfl, by decide⟩
theorem ok8 : TOk Tryd.prog 8 ⟨.st [(0, 2), (1, 3), (2, 4), (3, 6)], 4, 24, [.int .i64 0, .int .i64 0, .bool false, .int .u8 0]⟩ := ⟨by kernel_rfl, by kernel_rfl, rfl, rfl, by decide⟩
theorem ok9 : TOk Tryd.prog 9 ⟨.str, 1, 16, [.str ByteArray.empty]⟩ := ⟨by kernel_rfl, by kernel_rfl, rfl, rfl, by decide⟩
theorem ok10 : TOk Tryd.prog 10 ⟨.str, 1, 16, [.str ByteArray.empty]⟩ := ⟨by kernel_rfl, by kernel_rfl, rfl, rfl, by decide⟩
theorem ok11 : TOk Tryd.prog 11 ⟨.str, 1, 16, [.str ByteArray.empty]⟩ := ⟨by kernel_rfl, by kernel_rfl, rfl, rfl, by decide⟩
theorem ok12 : TOk Tryd.prog 12 ⟨.int .u64, 1, 8, [.int .u64 0]⟩ := ⟨by kernel_rfl, by kernel_rfl, rfl, rfl, by decide⟩
theorem ok13 : TOk Tryd.prog 13 ⟨.st [(0, 9), (1, 12)], 2, 24, [.str ByteArray.empty, .int .u64 0]⟩ := ⟨by kernel_rfl, by kernel_rfl, rfl, rfl, by decide⟩
theorem ok14 : TOk Tryd.prog 14 ⟨.st [(0, 9), (1, 12)], 2, 24, [.str ByteArray.empty, .int .u64 0]⟩ := ⟨by kernel_rfl, by kernel_rfl, rfl, rfl, by decide⟩
theorem ok15 : TOk Tryd.prog 15 ⟨.ptr, 1, 8, [.nilp]⟩ := ⟨by kernel_rfl, by kernel_rfl, rfl, rfl, by decide⟩
theorem ok16 : TOk Tryd.prog 16 ⟨.ptr, 1, 8, [.nilp]⟩ := ⟨by kernel_rfl, by kernel_rfl, rfl, rfl, by decide⟩
theorem ok17 : TOk Tryd.prog 17 ⟨.ptr, 1, 8, [.nilp]⟩ := ⟨by kernel_rfl, by kernel_rfl, rfl, rfl, by decide⟩
theorem ok18 : TOk Tryd.prog 18 ⟨.st [(0, 17)], 1, 8, [.nilp]⟩ := ⟨by kernel_rfl, by kernel_rfl, rfl, rfl, by decide⟩
theorem ok19 : TOk Tryd.prog 19 ⟨.st [(0, 17)], 1, 8, [.nilp]⟩ := ⟨by kernel_rfl, by kernel_rfl, rfl, rfl, by decide⟩
theorem ok21 : TOk Tryd.prog 21 ⟨.int .i32, 1, 4, [.int .i32 0]⟩ := ⟨by kernel_rfl, by kernel_rfl, rfl, rfl, by decide⟩
theorem ok22 : TOk Tryd.prog 22 ⟨.sl 5, 1, 24, [.nils]⟩ := ⟨by kernel_rfl, by kernel_rfl, rfl, rfl, by decide⟩
theorem ok23 : TOk Tryd.prog 23 ⟨.sl 67, 1, 24, [.nils]⟩ := ⟨by kernel_rfl, by kernel_rfl, rfl, rfl, by decide⟩
theorem ok24 : TOk Tryd.prog 24 ⟨.st [(0, 23)], 1, 24, [.nils]⟩ := ⟨by kernel_rfl, by kernel_rfl, rfl, rfl, by decide⟩
theorem ok25 : TOk Tryd.prog 25 ⟨.st [(0, 23)], 1, 24, [.nils]⟩ := ⟨by kernel_rfl, by kernel_rfl, rfl, rfl, by decide⟩
theorem ok33 : TOk Tryd.prog 33 ⟨.flt, 1, 8, [.flt 0]⟩ := ⟨by kernel_rfl, by kernel_rfl, rfl, rfl, by decide⟩
theorem ok34 : TOk Tryd.prog 34 ⟨.st [(0, 3), (1, 2), (2, 33), (3, 9), (4, 3)], 5, 48, [.int .i64 0, .int .i64 0, .flt 0, .str ByteArray.empty, .int .i64 0]⟩ := ⟨by kernel_rfl, by kernel_rfl, rfl, rfl, by decide⟩
theorem ok35 : TOk Tryd.prog 35 ⟨.st [(0, 3), (1, 2), (2, 33), (3, 9), (4, 3)], 5, 48, [.int .i64 0, .int .i64 0, .flt 0, .str ByteArray.empty, .int .i64 0]⟩ := ⟨by kernel_rfl, by kernel_rfl, rfl, rfl, by decide⟩
theorem ok38 : TOk Tryd.prog 38 ⟨.st [(0, 3), (1, 2), (2, 33), (3, 9), (4, 3)], 5, 48, [.int .i64 0, .int .i64 0, .flt 0, .str ByteArray.empty, .int .i64 0]⟩ := ⟨by kernel_rfl, by kernel_rfl, rfl, rfl, by decide⟩
theorem ok41 : TOk Tryd.prog 41 ⟨.sl 153, 1, 24, [.nils]⟩ := ⟨by kernel_rfl, by kernel_rfl, rfl, rfl, by decide⟩
theorem ok42 : TOk Tryd.prog 42 ⟨.st [(0, 41)], 1, 24, [.nils]⟩ := ⟨by kernel_rfl, by kernel_rfl, rfl, rfl, by decide⟩
theorem ok43 : TOk Tryd.prog 43 ⟨.st [(0, 41)], 1, 24, [.nils]⟩ := ⟨by kernel_rfl, by kernel_rfl, rfl, rfl, by decide⟩
theorem ok45 : TOk Tryd.prog 45 ⟨.st [(0, 3), (1, 3), (2, 3)], 3, 24, [.int .i64 0, .int .i64 0, .int .i64 0]⟩ := ⟨by kernel_rfl, by kernel_rfl, rfl, rfl, by decide⟩
theorem ok46 : TOk Tryd.prog 46 ⟨.st [(0, 3), (1, 3), (2, 3)], 3, 24, [.int .i64 0, .int .i64 0, .int .i64 0]⟩ := ⟨by kernel_rfl, by kernel_rfl, rfl, rfl, by decide⟩
theorem ok51 : TOk Tryd.prog 51 ⟨.st [(0, 3), (1, 38)], 6, 56, [.int .i64 0, .int .i64 0, .int .i64 0, .flt 0, .str ByteArray.empty, .int .i64 0]⟩ := ⟨by kernel_rfl, by kernel_rfl, rfl, rfl, by decide⟩
theorem ok52 : TOk Tryd.prog 52 ⟨.st [(0, 3), (1, 38)], 6, 56, [.int .i64 0, .int .i64 0, .int .i64 0, .flt 0, .str ByteArray.empty, .int .i64 0]⟩ := ⟨by kernel_rfl, by kernel_rfl, rfl, rfl, by decide⟩
theorem ok58 : TOk Tryd.prog 58 ⟨.ptr, 1, 8, [.nilp]⟩ := ⟨by kernel_rfl, by kernel_rfl, rfl, rfl, by decide⟩
theorem ok59 : TOk Tryd.prog 59 ⟨.st [(0, 22), (1, 3), (2, 4)], 3, 40, [.nils, .int .i64 0, .bool false]⟩ := ⟨by kernel_rfl, by kernel_rfl, rfl, rfl, by decide⟩
theorem ok60 : TOk Tryd.prog 60 ⟨.st [(0, 22), (1, 3), (2, 4)], 3, 40, [.nils, .int .i64 0, .bool false]⟩ := ⟨by kernel_rfl, by kernel_rfl, rfl, rfl, by decide⟩
theorem ok62 : TOk Tryd.prog 62 ⟨.sl 96, 1, 24, [.nils]⟩ := ⟨by kernel_rfl, by kernel_rfl, rfl, rfl, by decide⟩
theorem ok63 : TOk Tryd.prog 63 ⟨.sl 38, 1, 24, [.nils]⟩ := ⟨by kernel_rfl, by kernel_rfl, rfl, rfl, by decide⟩
theorem ok64 : TOk Tryd.prog 64 ⟨.sl 85, 1, 24, [.nils]⟩ := ⟨by kernel_rfl, by kernel_rfl, rfl, rfl, by decide⟩
theorem ok65 : TOk Tryd.prog 65 ⟨.sl 91, 1, 24, [.nils]⟩ := ⟨by kernel_rfl, by kernel_rfl, rfl, rfl, by decide⟩
theorem ok66 : TOk Tryd.prog 66 ⟨.st [(0, 9), (1, 3), (2, 3), (3, 4), (4, 3), (5, 62), (6, 63), (7, 64), (8, 65)], 9, 144, [.str ByteArray.empty, .int .i64 0, .int .i64 0, .bool false, .int .i64 0, .nils, .nils, .nils, .nils]⟩ := ⟨by kernel_rfl, by kernel_rfl, rfl, rfl, by decide⟩
theorem ok67 : TOk Tryd.prog 67 ⟨.st [(0, 9), (1, 3), (2, 3), (3, 4), (4, 3), (5, 62), (6, 63), (7, 64), (8, 65)], 9, 144, [.str ByteArray.empty, .int .i64 0, .int .i64 0, .bool false, .int .i64 0, .nils, .nils, .nils, .nils]⟩ := ⟨by kernel_rfl, by kernel_rfl, rfl, rfl, by decide⟩
theorem ok69 : TOk Tryd.prog 69 ⟨.st [], 0, 0, []⟩ := ⟨by kernel_rfl, by kernel_rfl, rfl, rfl, by decide⟩
theorem ok70 : TOk Tryd.prog 70 ⟨.st [], 0, 0, []⟩ := ⟨by kernel_rfl, by kernel_rfl, rfl, rfl, by decide⟩
theorem ok72 : TOk Tryd.prog 72 ⟨.ptr, 1, 8, [.nilp]⟩ := ⟨by kernel_rfl, by kernel_rfl, rfl, rfl, by decide⟩
theorem ok73 : TOk Tryd.prog 73 ⟨.st [(0, 22), (1, 3)], 2, 32, [.nils, .int .i64 0]⟩ := ⟨by kernel_rfl, by kernel_rfl, rfl, rfl, by decide⟩
theorem ok74 : TOk Tryd.prog 74 ⟨.st [(0, 22), (1, 3)], 2, 32, [.nils, .int .i64 0]⟩ := ⟨by kernel_rfl, by kernel_rfl, rfl, rfl, by decide⟩
theorem ok83 : TOk Tryd.prog 83 ⟨.sl 4, 1, 24, [.nils]⟩ := ⟨by kernel_rfl, by kernel_rfl, rfl, rfl, by decide⟩
theorem ok84 : TOk Tryd.prog 84 ⟨.st [(0, 3), (1, 3), (2, 3), (3, 3), (4, 3)], 5, 40, [.int .i64 0, .int .i64 0, .int .i64 0, .int .i64 0, .int .i64 0]⟩ := ⟨by kernel_rfl, by kernel_rfl, rfl, rfl, by decide⟩
theorem ok85 : TOk Tryd.prog 85 ⟨.st [(0, 3), (1, 3), (2, 3), (3, 3), (4, 3)], 5, 40, [.int .i64 0, .int .i64 0, .int .i64 0, .int .i64 0, .int .i64 0]⟩ := ⟨by kernel_rfl, by kernel_rfl, rfl, rfl, by decide⟩
theorem ok90 : TOk Tryd.prog 90 ⟨.st [(0, 9), (1, 3), (2, 3), (3, 3)], 4, 40, [.str ByteArray.empty, .int .i64 0, .int .i64 0, .int .i64 0]⟩ := ⟨by kernel_rfl, by kernel_rfl, rfl, rfl, by decide⟩
theorem ok91 : TOk Tryd.prog 91 ⟨.st [(0, 9), (1, 3), (2, 3), (3, 3)], 4, 40, [.str ByteArray.empty, .int .i64 0, .int .i64 0, .int .i64 0]⟩ := ⟨by kernel_rfl, by kernel_rfl, rfl, rfl, by decide⟩
theorem ok95 : TOk Tryd.prog 95 ⟨.st [(0, 4), (1, 3)], 2, 16, [.bool false, .int .i64 0]⟩ := ⟨by kernel_rfl, by kernel_rfl, rfl, rfl, by decide⟩
theorem ok96 : TOk Tryd.prog 96 ⟨.st [(0, 4), (1, 3)], 2, 16, [.bool false, .int .i64 0]⟩ := ⟨by kernel_rfl, by kernel_rfl, rfl, rfl, by decide⟩
theorem ok111 : TOk Tryd.prog 111 ⟨.ptr, 1, 8, [.nilp]⟩ := ⟨by kernel_rfl, by kernel_rfl, rfl, rfl, by decide⟩
theorem ok112 : TOk Tryd.prog 112 ⟨.st [(0, 22)], 1, 24, [.nils]⟩ := ⟨by kernel_rfl, by kernel_rfl, rfl, rfl, by decide⟩
theorem ok113 : TOk Tryd.prog 113 ⟨.st [(0, 22)], 1, 24, [.nils]⟩ := ⟨by kernel_rfl, by kernel_rfl, rfl, rfl, by decide⟩
theorem ok117 : TOk Tryd.prog 117 ⟨.sl 3, 1, 24, [.nils]⟩ := ⟨by kernel_rfl, by kernel_rfl, rfl, rfl, by decide⟩
theorem ok119 : TOk Tryd.prog 119 ⟨.sl 9, 1, 24, [.nils]⟩ := ⟨by kernel_rfl, by kernel_rfl, rfl, rfl, by decide⟩
theorem ok121 : TOk Tryd.prog 121 ⟨.ptr, 1, 8, [.nilp]⟩ := ⟨by kernel_rfl, by kernel_rfl, rfl, rfl, by decide⟩
theorem ok122 : TOk Tryd.prog 122 ⟨.st [(0, 121), (1, 22)], 2, 32, [.nilp, .nils]⟩ := ⟨by kernel_rfl, by kernel_rfl, rfl, rfl, by decide⟩
theorem ok128 : TOk Tryd.prog 128 ⟨.arr 4 3, 4, 32, [.int .i64 0, .int .i64 0, .int .i64 0, .int .i64 0]⟩ := ⟨by kernel_rfl, by kernel_rfl, rfl, rfl, by decide⟩
theorem ok143 : TOk Tryd.prog 143 ⟨.int .u64, 1, 8, [.int .u64 0]⟩ := ⟨by kernel_rfl, by kernel_rfl, rfl, rfl, by decide⟩
theorem ok145 : TOk Tryd.prog 145 ⟨.int .u64, 1, 8, [.int .u64 0]⟩ := ⟨by kernel_rfl, by kernel_rfl, rfl, rfl, by decide⟩
theorem ok148 : TOk Tryd.prog 148 ⟨.sl 217, 1, 24, [.nils]⟩ := ⟨by kernel_rfl, by kernel_rfl, rfl, rfl, by decide⟩
theorem ok149 : TOk Tryd.prog 149 ⟨.sl 35, 1, 24, [.nils]⟩ := ⟨by kernel_rfl, by kernel_rfl, rfl, rfl, by decide⟩
theorem ok150 : TOk Tryd.prog 150 ⟨.sl 219, 1, 24, [.nils]⟩ := ⟨by kernel_rfl, by kernel_rfl, rfl, rfl, by decide⟩
theorem ok151 : TOk Tryd.prog 151 ⟨.sl 215, 1, 24, [.nils]⟩ := ⟨by kernel_rfl, by kernel_rfl, rfl, rfl, by decide⟩
theorem ok152 : TOk Tryd.prog 152 ⟨.st [(0, 9), (1, 3), (2, 3), (3, 4), (4, 3), (5, 148), (6, 149), (7, 150), (8, 151)], 9, 144, [.str ByteArray.empty, .int .i64 0, .int .i64 0, .bool false, .int .i64 0, .nils, .nils, .nils, .nils]⟩ := ⟨by kernel_rfl, by kernel_rfl, rfl, rfl, by decide⟩
theorem ok153 : TOk Tryd.prog 153 ⟨.st [(0, 9), (1, 3), (2, 3), (3, 4), (4, 3), (5, 148), (6, 149), (7, 150), (8, 151)], 9, 144, [.str ByteArray.empty, .int .i64 0, .int .i64 0, .bool false, .int .i64 0, .nils, .nils, .nils, .nils]⟩ := ⟨by kernel_rfl, by kernel_rfl, rfl, rfl, by decide⟩
theorem ok158 : TOk Tryd.prog 158 ⟨.int .i64, 1, 8, [.int .i64 0]⟩ := ⟨by kernel_rfl, by kernel_rfl, rfl, rfl, by decide⟩
theorem ok159 : TOk Tryd.prog 159 ⟨.arr 4 158, 4, 32, [.int .i64 0, .int .i64 0, .int .i64 0, .int .i64 0]⟩ := ⟨by kernel_rfl, by kernel_rfl, rfl, rfl, by decide⟩
theorem ok160 : TOk Tryd.prog 160 ⟨.arr 4 158, 4, 32, [.int .i64 0, .int .i64 0, .int .i64 0, .int .i64 0]⟩ := ⟨by kernel_rfl, by kernel_rfl, rfl, rfl, by decide⟩
theorem ok161 : TOk Tryd.prog 161 ⟨.sl 160, 1, 24, [.nils]⟩ := ⟨by kernel_rfl, by kernel_rfl, rfl, rfl, by decide⟩
theorem ok177 : TOk Tryd.prog 177 ⟨.ptr, 1, 8, [.nilp]⟩ := ⟨by kernel_rfl, by kernel_rfl, rfl, rfl, by decide⟩
theorem ok183 : TOk Tryd.prog 183 ⟨.arr 24 5, 24, 24, [.int .u8 0, .int .u8 0, .int .u8 0, .int .u8 0, .int .u8 0, .int .u8 0, .int .u8 0, .int .u8 0, .int .u8 0, .int .u8 0, .int .u8 0, .int .u8 0, .int .u8 0, .int .u8 0, .int .u8 0, .int .u8 0, .int .u8 0, .int .u8 0, .int .u8 0, .int .u8 0, .int .u8 0, .int .u8 0, .int .u8 0, .int .u8 0]⟩ := ⟨by kernel_rfl, by kernel_rfl, rfl, rfl, by decide⟩
theorem ok198 : TOk Tryd.prog 198 ⟨.sl 200, 1, 24, [.nils]⟩ := ⟨by kernel_rfl, by kernel_rfl, rfl, rfl, by decide⟩
theorem ok199 : TOk Tryd.prog 199 ⟨.st [(0, 3), (1, 3)], 2, 16, [.int .i64 0, .int .i64 0]⟩ := ⟨by kernel_rfl, by kernel_rfl, rfl, rfl, by decide⟩
theorem ok200 : TOk Tryd.prog 200 ⟨.st [(0, 3), (1, 3)], 2, 16, [.int .i64 0, .int .i64 0]⟩ := ⟨by kernel_rfl, by kernel_rfl, rfl, rfl, by decide⟩
theorem ok201 : TOk Tryd.prog 201 ⟨.int .u32, 1, 4, [.int .u32 0]⟩ := ⟨by kernel_rfl, by kernel_rfl, rfl, rfl, by decide⟩
theorem ok203 : TOk Tryd.prog 203 ⟨.ptr, 1, 8, [.nilp]⟩ := ⟨by kernel_rfl, by kernel_rfl, rfl, rfl, by decide⟩
theorem ok211 : TOk Tryd.prog 211 ⟨.arr 20 143, 20, 160, [.int .u64 0, .int .u64 0, .int .u64 0, .int .u64 0, .int .u64 0, .int .u64 0, .int .u64 0, .int .u64 0, .int .u64 0, .int .u64 0, .int .u64 0, .int .u64 0, .int .u64 0, .int .u64 0, .int .u64 0, .int .u64 0, .int .u64 0, .int .u64 0, .int .u64 0, .int .u64 0]⟩ := ⟨by kernel_rfl, by kernel_rfl, rfl, rfl, by decide⟩
theorem ok215 : TOk Tryd.prog 215 ⟨.st [(0, 9), (1, 3), (2, 3), (3, 3)], 4, 40, [.str ByteArray.empty, .int .i64 0, .int .i64 0, .int .i64 0]⟩ := ⟨by kernel_rfl, by kernel_rfl, rfl, rfl, by decide⟩
theorem ok217 : TOk Tryd.prog 217 ⟨.st [(0, 4), (1, 3)], 2, 16, [.bool false, .int .i64 0]⟩ := ⟨by kernel_rfl, by kernel_rfl, rfl, rfl, by decide⟩
theorem ok219 : TOk Tryd.prog 219 ⟨.st [(0, 3), (1, 3), (2, 3), (3, 3), (4, 3)], 5, 40, [.int .i64 0, .int .i64 0, .int .i64 0, .int .i64 0, .int .i64 0]⟩ := ⟨by kernel_rfl, by kernel_rfl, rfl, rfl, by decide⟩
theorem ok221 : TOk Tryd.prog 221 ⟨.sl 227, 1, 24, [.nils]⟩ := ⟨by kernel_rfl, by kernel_rfl, rfl, rfl, by decide⟩
theorem ok222 : TOk Tryd.prog 222 ⟨.sl 230, 1, 24, [.nils]⟩ := ⟨by kernel_rfl, by kernel_rfl, rfl, rfl, by decide⟩
theorem ok223 : TOk Tryd.prog 223 ⟨.st [(0, 221), (1, 222), (2, 3)], 3, 56, [.nils, .nils, .int .i64 0]⟩ := ⟨by kernel_rfl, by kernel_rfl, rfl, rfl, by decide⟩
theorem ok224 : TOk Tryd.prog 224 ⟨.st [(0, 221), (1, 222), (2, 3)], 3, 56, [.nils, .nils, .int .i64 0]⟩ := ⟨by kernel_rfl, by kernel_rfl, rfl, rfl, by decide⟩
theorem ok225 : TOk Tryd.prog 225 ⟨.int .u16, 1, 2, [.int .u16 0]⟩ := ⟨by kernel_rfl, by kernel_rfl, rfl, rfl, by decide⟩
theorem ok226 : TOk Tryd.prog 226 ⟨.st [(0, 225), (1, 225), (2, 225)], 3, 6, [.int .u16 0, .int .u16 0, .int .u16 0]⟩ := ⟨by kernel_rfl, by kernel_rfl, rfl, rfl, by decide⟩
theorem ok227 : TOk Tryd.prog 227 ⟨.st [(0, 225), (1, 225), (2, 225)], 3, 6, [.int .u16 0, .int .u16 0, .int .u16 0]⟩ := ⟨by kernel_rfl, by kernel_rfl, rfl, rfl, by decide⟩
theorem ok229 : TOk Tryd.prog 229 ⟨.st [(0, 201), (1, 201), (2, 201)], 3, 12, [.int .u32 0, .int .u32 0, .int .u32 0]⟩ := ⟨by kernel_rfl, by kernel_rfl, rfl, rfl, by decide⟩
theorem ok230 : TOk Tryd.prog 230 ⟨.st [(0, 201), (1, 201), (2, 201)], 3, 12, [.int .u32 0, .int .u32 0, .int .u32 0]⟩ := ⟨by kernel_rfl, by kernel_rfl, rfl, rfl, by decide⟩
theorem ok236 : TOk Tryd.prog 236 ⟨.ptr, 1, 8, [.nilp]⟩ := ⟨by kernel_rfl, by kernel_rfl, rfl, rfl, by decide⟩
theorem ok237 : TOk Tryd.prog 237 ⟨.ptr, 1, 8, [.nilp]⟩ := ⟨by kernel_rfl, by kernel_rfl, rfl, rfl, by decide⟩
theorem ok238 : TOk Tryd.prog 238 ⟨.arr 32 5, 32, 32, [.int .u8 0, .int .u8 0, .int .u8 0, .int .u8 0, .int .u8 0, .int .u8 0, .int .u8 0, .int .u8 0, .int .u8 0, .int .u8 0, .int .u8 0, .int .u8 0, .int .u8 0, .int .u8 0, .int .u8 0, .int .u8 0, .int .u8 0, .int .u8 0, .int .u8 0, .int .u8 0, .int .u8 0, .int .u8 0, .int .u8 0, .int .u8 0, .int .u8 0, .int .u8 0, .int .u8 0, .int .u8 0, .int .u8 0, .int .u8 0, .int .u8 0, .int .u8 0]⟩ := ⟨by kernel_rfl, by kernel_rfl, rfl, rfl, by decide⟩
theorem ok239 : TOk Tryd.prog 239 ⟨.arr 64 5, 64, 64, [.int .u8 0, .int .u8 0, .int .u8 0, .int .u8 0, .int .u8 0, .int .u8 0, .int .u8 0, .int .u8 0, .int .u8 0, .int .u8 0, .int .u8 0, .int .u8 0, .int .u8 0, .int .u8 0, .int .u8 0, .int .u8 0, .int .u8 0, .int .u8 0, .int .u8 0, .int .u8 0, .int .u8 0, .int .u8 0, .int .u8 0, .int .u8 0, .int .u8 0, .int .u8 0, .int .u8 0, .int .u8 0, .int .u8 0, .int .u8 0, .int .u8 0, .int .u8 0, .int .u8 0, .int .u8 0, .int .u8 0, .int .u8 0, .int .u8 0, .int .u8 0, .int .u8 0, .int .u8 0, .int .u8 0, .int .u8 0, .int .u8 0, .int .u8 0, .int .u8 0, .int .u8 0, .int .u8 0, .int .u8 0, .int .u8 0, .int .u8 0, .int .u8 0, .int .u8 0, .int .u8 0, .int .u8 0, .int .u8 0, .int .u8 0, .int .u8 0, .int .u8 0, .int .u8 0, .int .u8 0, .int .u8 0, .int .u8 0, .int .u8 0, .int .u8 0]⟩ := ⟨by kernel_rfl, by kernel_rfl, rfl, rfl, by decide⟩
theorem ok240 : TOk Tryd.prog 240 ⟨.st [(0, 17), (1, 17), (2, 17), (3, 9)], 4, 40, [.nilp, .nilp, .nilp, .str ByteArray.empty]⟩ := ⟨by kernel_rfl, by kernel_rfl, rfl, rfl, by decide⟩
theorem ok241 : TOk Tryd.prog 241 ⟨.st [(0, 17), (1, 17), (2, 17), (3, 9)], 4, 40, [.nilp, .nilp, .nilp, .str ByteArray.empty]⟩ := ⟨by kernel_rfl, by kernel_rfl, rfl, rfl, by decide⟩
theorem ok245 : TOk Tryd.prog 245 ⟨.int .u8, 1, 1, [.int .u8 0]⟩ := ⟨by kernel_rfl, by kernel_rfl, rfl, rfl, by decide⟩
theorem ok246 : TOk Tryd.prog 246 ⟨.int .u8, 1, 1, [.int .u8 0]⟩ := ⟨by kernel_rfl, by kernel_rfl, rfl, rfl, by decide⟩
theorem ok248 : TOk Tryd.prog 248 ⟨.int .i32, 1, 4, [.int .i32 0]⟩ := ⟨by kernel_rfl, by kernel_rfl, rfl, rfl, by decide⟩
theorem ok249 : TOk Tryd.prog 249 ⟨.int .i32, 1, 4, [.int .i32 0]⟩ := ⟨by kernel_rfl, by kernel_rfl, rfl, rfl, by decide⟩
noncomputable def cx (odd : List Nat) : Cx := ⟨Tryd.prog, Tt, odd⟩
theorem cxok (odd : List Nat) : CxOk (cx odd) where
  T t T h := by
    have h : Tt t = some T := h
    unfold Tt at h
    split at h
    · cases h; exact ok2
    · cases h; exact ok3
    · cases h; exact ok4
    · cases h; exact ok5
    · cases h; exact ok6
    · cases h; exact ok7
    · cases h; exact ok8
    · cases h; exact ok9
    · cases h; exact ok10
    · cases h; exact ok11
    · cases h; exact ok12
    · cases h; exact ok13
    · cases h; exact ok14
    · cases h; exact ok15
    · cases h; exact ok16
    · cases h; exact ok17
    · cases h; exact ok18
    · cases h; exact ok19
    · cases h; exact ok21
    · cases h; exact ok22
    · cases h; exact ok23
    · cases h; exact ok24
    · cases h; exact ok25
    · cases h; exact ok33
    · cases h; exact ok34
    · cases h; exact ok35
    · cases h; exact ok38
    · cases h; exact ok41
    · cases h; exact ok42
    · cases h; exact ok43
    · cases h; exact ok45
    · cases h; exact ok46
    · cases h; exact ok51
    · cases h; exact ok52
    · cases h; exact ok58
    · cases h; exact ok59
    · cases h; exact ok60
    · cases h; exact ok62
    · cases h; exact ok63
    · cases h; exact ok64
    · cases h; exact ok65
    · cases h; exact ok66
    · cases h; exact ok67
    · cases h; exact ok69
    · cases h; exact ok70
    · cases h; exact ok72
    · cases h; exact ok73
    · cases h; exact ok74
    · cases h; exact ok83
    · cases h; exact ok84
    · cases h; exact ok85
    · cases h; exact ok90
    · cases h; exact ok91
    · cases h; exact ok95
    · cases h; exact ok96
    · cases h; exact ok111
    · cases h; exact ok112
    · cases h; exact ok113
    · cases h; exact ok117
    · cases h; exact ok119
    · cases h; exact ok121
    · cases h; exact ok122
    · cases h; exact ok128
    · cases h; exact ok143
    · cases h; exact ok145
    · cases h; exact ok148
    · cases h; exact ok149
    · cases h; exact ok150
    · cases h; exact ok151
    · cases h; exact ok152
    · cases h; exact ok153
    · cases h; exact ok158
    · cases h; exact ok159
    · cases h; exact ok160
    · cases h; exact ok161
    · cases h; exact ok177
    · cases h; exact ok183
    · cases h; exact ok198
    · cases h; exact ok199
    · cases h; exact ok200
    · cases h; exact ok201
    · cases h; exact ok203
    · cases h; exact ok211
    · cases h; exact ok215
    · cases h; exact ok217
    · cases h; exact ok219
    · cases h; exact ok221
    · cases h; exact ok222
    · cases h; exact ok223
    · cases h; exact ok224
    · cases h; exact ok225
    · cases h; exact ok226
    · cases h; exact ok227
    · cases h; exact ok229
    · cases h; exact ok230
    · cases h; exact ok236
    · cases h; exact ok237
    · cases h; exact ok238
    · cases h; exact ok239
    · cases h; exact ok240
    · cases h; exact ok241
    · cases h; exact ok245
    · cases h; exact ok246
    · cases h; exact ok248
    · cases h; exact ok249
    · cases h
  known t T h := by
    have h : Tt t = some T := h
    unfold Tt at h
    split at h <;> first | (cases h; rfl) | cases h
  mixed := by show Tryd.prog.follows .mixedOrders = true; kernel_rfl
end Go.Proofs.YtdonkjepjobhnaaDoor.IM
