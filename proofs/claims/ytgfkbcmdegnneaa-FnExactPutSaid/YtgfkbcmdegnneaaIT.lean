/- The types of the program, as the abstract machine wants them told. -/
import Derived.Test.YtgfkbcmdegnneaaProg
import Derived.Test.YtgfkbcmdegnneaaIN
import Derived.KernelRfl
namespace Go.Proofs.Ytgfkbcmdegnneaa.IM
open Go Go.Proofs.IM
set_option linter.unusedVariables false
def Tt : TypeId → Option TI
  | 2 => some ⟨.int .i64, 1, 8, [.int .i64 0]⟩   -- int64
  | 3 => some ⟨.int .i64, 1, 8, [.int .i64 0]⟩   -- int
  | 4 => some ⟨.bo, 1, 1, [.bool false]⟩   -- bool
  | 5 => some ⟨.int .u8, 1, 1, [.int .u8 0]⟩   -- uint8
  | 6 => some ⟨.int .u8, 1, 1, [.int .u8 0]⟩   -- abi.BoundsErrorCode
  | 7 => some ⟨.st [(0, 2), (1, 3), (2, 4), (3, 6)], 4, 24, [.int .i64 0, .int .i64 0, .bool false, .int .u8 0]⟩   -- struct { x int64; y int; signed bool; code abi.BoundsErrorCode }
  | 8 => some ⟨.st [(0, 2), (1, 3), (2, 4), (3, 6)], 4, 24, [.int .i64 0, .int .i64 0, .bool false, .int .u8 0]⟩   -- runtime.boundsError
  | 9 => some ⟨.str, 1, 16, [.str ByteArray.empty]⟩   -- string
  | 10 => some ⟨.str, 1, 16, [.str ByteArray.empty]⟩   -- runtime.errorString
  | 11 => some ⟨.str, 1, 16, [.str ByteArray.empty]⟩   -- runtime.plainError
  | 12 => some ⟨.int .u64, 1, 8, [.int .u64 0]⟩   -- uintptr
  | 13 => some ⟨.st [(0, 9), (1, 12)], 2, 24, [.str ByteArray.empty, .int .u64 0]⟩   -- struct { msg string; addr uintptr }
  | 14 => some ⟨.st [(0, 9), (1, 12)], 2, 24, [.str ByteArray.empty, .int .u64 0]⟩   -- runtime.errorAddressString
  | 15 => some ⟨.ptr, 1, 8, [.nilp]⟩   -- *runtime.TypeAssertionError
  | 16 => some ⟨.ptr, 1, 8, [.nilp]⟩   -- *runtime.PanicNilError
  | 17 => some ⟨.ptr, 1, 8, [.nilp]⟩   -- *abi.Type
  | 18 => some ⟨.st [(0, 17)], 1, 8, [.nilp]⟩   -- struct { typ *abi.Type }
  | 19 => some ⟨.st [(0, 17)], 1, 8, [.nilp]⟩   -- maps.unhashableTypeError
  | 21 => some ⟨.int .i32, 1, 4, [.int .i32 0]⟩   -- int32
  | 22 => some ⟨.sl 51, 1, 24, [.nils]⟩   -- []laws.Pair
  | 23 => some ⟨.st [(0, 22), (1, 3)], 2, 32, [.nils, .int .i64 0]⟩   -- struct { Pairs []laws.Pair; Turns int }
  | 24 => some ⟨.st [(0, 22), (1, 3)], 2, 32, [.nils, .int .i64 0]⟩   -- laws.Table
  | 25 => some ⟨.flt, 1, 8, [.flt 0]⟩   -- float64
  | 26 => some ⟨.st [(0, 3), (1, 2), (2, 25), (3, 9), (4, 3)], 5, 48, [.int .i64 0, .int .i64 0, .flt 0, .str ByteArray.empty, .int .i64 0]⟩   -- struct { Kind int; Num int64; Flt float64; Str string; Ref int }
  | 27 => some ⟨.st [(0, 3), (1, 2), (2, 25), (3, 9), (4, 3)], 5, 48, [.int .i64 0, .int .i64 0, .flt 0, .str ByteArray.empty, .int .i64 0]⟩   -- laws.Value
  | 30 => some ⟨.sl 57, 1, 24, [.nils]⟩   -- []impl.Pair
  | 31 => some ⟨.st [(0, 30), (1, 3)], 2, 32, [.nils, .int .i64 0]⟩   -- struct { Pairs []impl.Pair; Turns int }
  | 32 => some ⟨.st [(0, 30), (1, 3)], 2, 32, [.nils, .int .i64 0]⟩   -- impl.Table
  | 35 => some ⟨.st [(0, 3), (1, 2), (2, 25), (3, 9), (4, 3)], 5, 48, [.int .i64 0, .int .i64 0, .flt 0, .str ByteArray.empty, .int .i64 0]⟩   -- impl.Value
  | 41 => some ⟨.st [(0, 3), (1, 35)], 6, 56, [.int .i64 0, .int .i64 0, .int .i64 0, .flt 0, .str ByteArray.empty, .int .i64 0]⟩   -- struct { Code int; Value impl.Value }
  | 42 => some ⟨.st [(0, 3), (1, 35)], 6, 56, [.int .i64 0, .int .i64 0, .int .i64 0, .flt 0, .str ByteArray.empty, .int .i64 0]⟩   -- impl.Valued
  | 50 => some ⟨.st [(0, 27), (5, 27), (10, 3)], 11, 104, [.int .i64 0, .int .i64 0, .flt 0, .str ByteArray.empty, .int .i64 0, .int .i64 0, .int .i64 0, .flt 0, .str ByteArray.empty, .int .i64 0, .int .i64 0]⟩   -- struct { Key laws.Value; Val laws.Value; Turn int }
  | 51 => some ⟨.st [(0, 27), (5, 27), (10, 3)], 11, 104, [.int .i64 0, .int .i64 0, .flt 0, .str ByteArray.empty, .int .i64 0, .int .i64 0, .int .i64 0, .flt 0, .str ByteArray.empty, .int .i64 0, .int .i64 0]⟩   -- laws.Pair
  | 56 => some ⟨.st [(0, 35), (5, 35), (10, 3)], 11, 104, [.int .i64 0, .int .i64 0, .flt 0, .str ByteArray.empty, .int .i64 0, .int .i64 0, .int .i64 0, .flt 0, .str ByteArray.empty, .int .i64 0, .int .i64 0]⟩   -- struct { Key impl.Value; Val impl.Value; Turn int }
  | 57 => some ⟨.st [(0, 35), (5, 35), (10, 3)], 11, 104, [.int .i64 0, .int .i64 0, .flt 0, .str ByteArray.empty, .int .i64 0, .int .i64 0, .int .i64 0, .flt 0, .str ByteArray.empty, .int .i64 0, .int .i64 0]⟩   -- impl.Pair
  | 65 => some ⟨.sl 5, 1, 24, [.nils]⟩   -- []uint8
  | 70 => some ⟨.int .u64, 1, 8, [.int .u64 0]⟩   -- uint64
  | 72 => some ⟨.int .u64, 1, 8, [.int .u64 0]⟩   -- uint
  | 76 => some ⟨.st [(0, 17), (1, 17), (2, 17), (3, 9)], 4, 40, [.nilp, .nilp, .nilp, .str ByteArray.empty]⟩   -- struct { _interface *abi.Type; concrete *abi.Type; asserted *abi.Type; missingMethod string }
  | 77 => some ⟨.st [(0, 17), (1, 17), (2, 17), (3, 9)], 4, 40, [.nilp, .nilp, .nilp, .str ByteArray.empty]⟩   -- runtime.TypeAssertionError
  | 82 => some ⟨.int .u32, 1, 4, [.int .u32 0]⟩   -- uint32
  | 83 => some ⟨.int .u8, 1, 1, [.int .u8 0]⟩   -- abi.TFlag
  | 84 => some ⟨.int .u8, 1, 1, [.int .u8 0]⟩   -- abi.Kind
  | 86 => some ⟨.ptr, 1, 8, [.nilp]⟩   -- *uint8
  | 87 => some ⟨.int .i32, 1, 4, [.int .i32 0]⟩   -- abi.NameOff
  | 88 => some ⟨.int .i32, 1, 4, [.int .i32 0]⟩   -- abi.TypeOff
  | _ => none
theorem ok2 : TOk Try.prog 2 ⟨.int .i64, 1, 8, [.int .i64 0]⟩ := ⟨by kernel_rfl, by kernel_rfl, rfl, rfl, by decide⟩
theorem ok3 : TOk Try.prog 3 ⟨.int .i64, 1, 8, [.int .i64 0]⟩ := ⟨by kernel_rfl, by kernel_rfl, rfl, rfl, by decide⟩
theorem ok4 : TOk Try.prog 4 ⟨.bo, 1, 1, [.bool false]⟩ := ⟨by kernel_rfl, by kernel_rfl, rfl, rfl, by decide⟩
theorem ok5 : TOk Try.prog 5 ⟨.int .u8, 1, 1, [.int .u8 0]⟩ := ⟨by kernel_rfl, by kernel_rfl, rfl, rfl, by decide⟩
theorem ok6 : TOk Try.prog 6 ⟨.int .u8, 1, 1, [.int .u8 0]⟩ := ⟨by kernel_rfl, by kernel_rfl, rfl, rfl, by decide⟩
theorem ok7 : TOk Try.prog 7 ⟨.st [(0, 2), (1, 3), (2, 4), (3, 6)], 4, 24, [.int .i64 0, .int .i64 0, .bool false, .int .u8 0]⟩ := ⟨by kernel_rfl, by kernel_rfl, rfl, rfl, by decide⟩
theorem ok8 : TOk Try.prog 8 ⟨.st [(0, 2), (1, 3), (2, 4), (3, 6)], 4, 24, [.int .i64 0, .int .i64 0, .bool false, .int .u8 0]⟩ := ⟨by kernel_rfl, by kernel_rfl, rfl, rfl, by decide⟩
theorem ok9 : TOk Try.prog 9 ⟨.str, 1, 16, [.str ByteArray.empty]⟩ := ⟨by kernel_rfl, by kernel_rfl, rfl, rfl, by decide⟩
theorem ok10 : TOk Try.prog 10 ⟨.str, 1, 16, [.str ByteArray.empty]⟩ := ⟨by kernel_rfl, by kernel_rfl, rfl, rfl, by decide⟩
theorem ok11 : TOk Try.prog 11 ⟨.str, 1, 16, [.str ByteArray.empty]⟩ := ⟨by kernel_rfl, by kernel_rfl, rfl, rfl, by decide⟩
theorem ok12 : TOk Try.prog 12 ⟨.int .u64, 1, 8, [.int .u64 0]⟩ := ⟨by kernel_rfl, by kernel_rfl, rfl, rfl, by decide⟩
theorem ok13 : TOk Try.prog 13 ⟨.st [(0, 9), (1, 12)], 2, 24, [.str ByteArray.empty, .int .u64 0]⟩ := ⟨by kernel_rfl, by kernel_rfl, rfl, rfl, by decide⟩
theorem ok14 : TOk Try.prog 14 ⟨.st [(0, 9), (1, 12)], 2, 24, [.str ByteArray.empty, .int .u64 0]⟩ := ⟨by kernel_rfl, by kernel_rfl, rfl, rfl, by decide⟩
theorem ok15 : TOk Try.prog 15 ⟨.ptr, 1, 8, [.nilp]⟩ := ⟨by kernel_rfl, by kernel_rfl, rfl, rfl, by decide⟩
theorem ok16 : TOk Try.prog 16 ⟨.ptr, 1, 8, [.nilp]⟩ := ⟨by kernel_rfl, by kernel_rfl, rfl, rfl, by decide⟩
theorem ok17 : TOk Try.prog 17 ⟨.ptr, 1, 8, [.nilp]⟩ := ⟨by kernel_rfl, by kernel_rfl, rfl, rfl, by decide⟩
theorem ok18 : TOk Try.prog 18 ⟨.st [(0, 17)], 1, 8, [.nilp]⟩ := ⟨by kernel_rfl, by kernel_rfl, rfl, rfl, by decide⟩
theorem ok19 : TOk Try.prog 19 ⟨.st [(0, 17)], 1, 8, [.nilp]⟩ := ⟨by kernel_rfl, by kernel_rfl, rfl, rfl, by decide⟩
theorem ok21 : TOk Try.prog 21 ⟨.int .i32, 1, 4, [.int .i32 0]⟩ := ⟨by kernel_rfl, by kernel_rfl, rfl, rfl, by decide⟩
theorem ok22 : TOk Try.prog 22 ⟨.sl 51, 1, 24, [.nils]⟩ := ⟨by kernel_rfl, by kernel_rfl, rfl, rfl, by decide⟩
theorem ok23 : TOk Try.prog 23 ⟨.st [(0, 22), (1, 3)], 2, 32, [.nils, .int .i64 0]⟩ := ⟨by kernel_rfl, by kernel_rfl, rfl, rfl, by decide⟩
theorem ok24 : TOk Try.prog 24 ⟨.st [(0, 22), (1, 3)], 2, 32, [.nils, .int .i64 0]⟩ := ⟨by kernel_rfl, by kernel_rfl, rfl, rfl, by decide⟩
theorem ok25 : TOk Try.prog 25 ⟨.flt, 1, 8, [.flt 0]⟩ := ⟨by kernel_rfl, by kernel_rfl, rfl, rfl, by decide⟩
theorem ok26 : TOk Try.prog 26 ⟨.st [(0, 3), (1, 2), (2, 25), (3, 9), (4, 3)], 5, 48, [.int .i64 0, .int .i64 0, .flt 0, .str ByteArray.empty, .int .i64 0]⟩ := ⟨by kernel_rfl, by kernel_rfl, rfl, rfl, by decide⟩
theorem ok27 : TOk Try.prog 27 ⟨.st [(0, 3), (1, 2), (2, 25), (3, 9), (4, 3)], 5, 48, [.int .i64 0, .int .i64 0, .flt 0, .str ByteArray.empty, .int .i64 0]⟩ := ⟨by kernel_rfl, by kernel_rfl, rfl, rfl, by decide⟩
theorem ok30 : TOk Try.prog 30 ⟨.sl 57, 1, 24, [.nils]⟩ := ⟨by kernel_rfl, by kernel_rfl, rfl, rfl, by decide⟩
theorem ok31 : TOk Try.prog 31 ⟨.st [(0, 30), (1, 3)], 2, 32, [.nils, .int .i64 0]⟩ := ⟨by kernel_rfl, by kernel_rfl, rfl, rfl, by decide⟩
theorem ok32 : TOk Try.prog 32 ⟨.st [(0, 30), (1, 3)], 2, 32, [.nils, .int .i64 0]⟩ := ⟨by kernel_rfl, by kernel_rfl, rfl, rfl, by decide⟩
theorem ok35 : TOk Try.prog 35 ⟨.st [(0, 3), (1, 2), (2, 25), (3, 9), (4, 3)], 5, 48, [.int .i64 0, .int .i64 0, .flt 0, .str ByteArray.empty, .int .i64 0]⟩ := ⟨by kernel_rfl, by kernel_rfl, rfl, rfl, by decide⟩
theorem ok41 : TOk Try.prog 41 ⟨.st [(0, 3), (1, 35)], 6, 56, [.int .i64 0, .int .i64 0, .int .i64 0, .flt 0, .str ByteArray.empty, .int .i64 0]⟩ := ⟨by kernel_rfl, by kernel_rfl, rfl, rfl, by decide⟩
theorem ok42 : TOk Try.prog 42 ⟨.st [(0, 3), (1, 35)], 6, 56, [.int .i64 0, .int .i64 0, .int .i64 0, .flt 0, .str ByteArray.empty, .int .i64 0]⟩ := ⟨by kernel_rfl, by kernel_rfl, rfl, rfl, by decide⟩
theorem ok50 : TOk Try.prog 50 ⟨.st [(0, 27), (5, 27), (10, 3)], 11, 104, [.int .i64 0, .int .i64 0, .flt 0, .str ByteArray.empty, .int .i64 0, .int .i64 0, .int .i64 0, .flt 0, .str ByteArray.empty, .int .i64 0, .int .i64 0]⟩ := ⟨by kernel_rfl, by kernel_rfl, rfl, rfl, by decide⟩
theorem ok51 : TOk Try.prog 51 ⟨.st [(0, 27), (5, 27), (10, 3)], 11, 104, [.int .i64 0, .int .i64 0, .flt 0, .str ByteArray.empty, .int .i64 0, .int .i64 0, .int .i64 0, .flt 0, .str ByteArray.empty, .int .i64 0, .int .i64 0]⟩ := ⟨by kernel_rfl, by kernel_rfl, rfl, rfl, by decide⟩
theorem ok56 : TOk Try.prog 56 ⟨.st [(0, 35), (5, 35), (10, 3)], 11, 104, [.int .i64 0, .int .i64 0, .flt 0, .str ByteArray.empty, .int .i64 0, .int .i64 0, .int .i64 0, .flt 0, .str ByteArray.empty, .int .i64 0, .int .i64 0]⟩ := ⟨by kernel_rfl, by kernel_rfl, rfl, rfl, by decide⟩
theorem ok57 : TOk Try.prog 57 ⟨.st [(0, 35), (5, 35), (10, 3)], 11, 104, [.int .i64 0, .int .i64 0, .flt 0, .str ByteArray.empty, .int .i64 0, .int .i64 0, .int .i64 0, .flt 0, .str ByteArray.empty, .int .i64 0, .int .i64 0]⟩ := ⟨by kernel_rfl, by kernel_rfl, rfl, rfl, by decide⟩
theorem ok65 : TOk Try.prog 65 ⟨.sl 5, 1, 24, [.nils]⟩ := ⟨by kernel_rfl, by kernel_rfl, rfl, rfl, by decide⟩
theorem ok70 : TOk Try.prog 70 ⟨.int .u64, 1, 8, [.int .u64 0]⟩ := ⟨by kernel_rfl, by kernel_rfl, rfl, rfl, by decide⟩
theorem ok72 : TOk Try.prog 72 ⟨.int .u64, 1, 8, [.int .u64 0]⟩ := ⟨by kernel_rfl, by kernel_rfl, rfl, rfl, by decide⟩
theorem ok76 : TOk Try.prog 76 ⟨.st [(0, 17), (1, 17), (2, 17), (3, 9)], 4, 40, [.nilp, .nilp, .nilp, .str ByteArray.empty]⟩ := ⟨by kernel_rfl, by kernel_rfl, rfl, rfl, by decide⟩
theorem ok77 : TOk Try.prog 77 ⟨.st [(0, 17), (1, 17), (2, 17), (3, 9)], 4, 40, [.nilp, .nilp, .nilp, .str ByteArray.empty]⟩ := ⟨by kernel_rfl, by kernel_rfl, rfl, rfl, by decide⟩
theorem ok82 : TOk Try.prog 82 ⟨.int .u32, 1, 4, [.int .u32 0]⟩ := ⟨by kernel_rfl, by kernel_rfl, rfl, rfl, by decide⟩
theorem ok83 : TOk Try.prog 83 ⟨.int .u8, 1, 1, [.int .u8 0]⟩ := ⟨by kernel_rfl, by kernel_rfl, rfl, rfl, by decide⟩
theorem ok84 : TOk Try.prog 84 ⟨.int .u8, 1, 1, [.int .u8 0]⟩ := ⟨by kernel_rfl, by kernel_rfl, rfl, rfl, by decide⟩
theorem ok86 : TOk Try.prog 86 ⟨.ptr, 1, 8, [.nilp]⟩ := ⟨by kernel_rfl, by kernel_rfl, rfl, rfl, by decide⟩
theorem ok87 : TOk Try.prog 87 ⟨.int .i32, 1, 4, [.int .i32 0]⟩ := ⟨by kernel_rfl, by kernel_rfl, rfl, rfl, by decide⟩
theorem ok88 : TOk Try.prog 88 ⟨.int .i32, 1, 4, [.int .i32 0]⟩ := ⟨by kernel_rfl, by kernel_rfl, rfl, rfl, by decide⟩
noncomputable def cx (odd : List Nat) : Cx := ⟨Try.prog, Tt, odd⟩
theorem cxok (odd : List Nat) : CxOk (cx odd) where
  T t T h := by
    have h : Tt t = some T := h
    unfold Tt at h
    split at h
    · cases h; exact ok2
    · cases h; exact ok3
    · cases h; exact ok4
    · cases h; exact ok5
    · cases h; exact ok6
    · cases h; exact ok7
    · cases h; exact ok8
    · cases h; exact ok9
    · cases h; exact ok10
    · cases h; exact ok11
    · cases h; exact ok12
    · cases h; exact ok13
    · cases h; exact ok14
    · cases h; exact ok15
    · cases h; exact ok16
    · cases h; exact ok17
    · cases h; exact ok18
    · cases h; exact ok19
    · cases h; exact ok21
    · cases h; exact ok22
    · cases h; exact ok23
    · cases h; exact ok24
    · cases h; exact ok25
    · cases h; exact ok26
    · cases h; exact ok27
    · cases h; exact ok30
    · cases h; exact ok31
    · cases h; exact ok32
    · cases h; exact ok35
    · cases h; exact ok41
    · cases h; exact ok42
    · cases h; exact ok50
    · cases h; exact ok51
    · cases h; exact ok56
    · cases h; exact ok57
    · cases h; exact ok65
    · cases h; exact ok70
    · cases h; exact ok72
    · cases h; exact ok76
    · cases h; exact ok77
    · cases h; exact ok82
    · cases h; exact ok83
    · cases h; exact ok84
    · cases h; exact ok86
    · cases h; exact ok87
    · cases h; exact ok88
    · cases h
  known t T h := by
    have h : Tt t = some T := h
    unfold Tt at h
    split at h <;> first | (cases h; rfl) | cases h
  mixed := by show Try.prog.follows .mixedOrders = true; kernel_rfl
end Go.Proofs.Ytgfkbcmdegnneaa.IM
