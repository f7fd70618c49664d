/- The types as rewriting rules, and the rewriting. -/
import Derived.Test.YtdonkjepjobhnaaDoorIT
import Derived.Test.YtdonkjepjobhnaaDoorIX
import Derived.Test.YtdonkjepjobhnaaDoorFI
namespace Go.Proofs.YtdonkjepjobhnaaDoor.IM
open Go Go.Proofs.IM
set_option linter.unusedVariables false
set_option linter.unusedSimpArgs false
theorem cxT {odd : List Nat} {n : Nat} : (cx odd).T n = Tt n := rfl
theorem cxP {odd : List Nat} : (cx odd).P = Tryd.prog := rfl
theorem cxO {odd : List Nat} : (cx odd).odd = odd := rfl
theorem T2 : Tt 2 = some ⟨.int .i64, 1, 8, [.int .i64 0]⟩ := rfl
theorem T3 : Tt 3 = some ⟨.int .i64, 1, 8, [.int .i64 0]⟩ := rfl
theorem T4 : Tt 4 = some ⟨.bo, 1, 1, [.bool false]⟩ := rfl
theorem T5 : Tt 5 = some ⟨.int .u8, 1, 1, [.int .u8 0]⟩ := rfl
theorem T6 : Tt 6 = some ⟨.int .u8, 1, 1, [.int .u8 0]⟩ := rfl
theorem T7 : Tt 7 = some ⟨.st [(0, 2), (1, 3), (2, 4), (3, 6)], 4, 24, [.int .i64 0, .int .i64 0, .bool false, .int .u8 0]⟩ := rfl
theorem T8 : Tt 8 = some ⟨.st [(0, 2), (1, 3), (2, 4), (3, 6)], 4, 24, [.int .i64 0, .int .i64 0, .bool false, .int .u8 0]⟩ := rfl
theorem T9 : Tt 9 = some ⟨.str, 1, 16, [.str ByteArray.empty]⟩ := rfl
theorem T10 : Tt 10 = some ⟨.str, 1, 16, [.str ByteArray.empty]⟩ := rfl
theorem T11 : Tt 11 = some ⟨.str, 1, 16, [.str ByteArray.empty]⟩ := rfl
theorem T12 : Tt 12 = some ⟨.int .u64, 1, 8, [.int .u64 0]⟩ := rfl
theorem T13 : Tt 13 = some ⟨.st [(0, 9), (1, 12)], 2, 24, [.str ByteArray.empty, .int .u64 0]⟩ := rfl
theorem T14 : Tt 14 = some ⟨.st [(0, 9), (1, 12)], 2, 24, [.str ByteArray.empty, .int .u64 0]⟩ := rfl
theorem T15 : Tt 15 = some ⟨.ptr, 1, 8, [.nilp]⟩ := rfl
theorem T16 : Tt 16 = some ⟨.ptr, 1, 8, [.nilp]⟩ := rfl
theorem T17 : Tt 17 = some ⟨.ptr, 1, 8, [.nilp]⟩ := rfl
theorem T18 : Tt 18 = some ⟨.st [(0, 17)], 1, 8, [.nilp]⟩ := rfl
theorem T19 : Tt 19 = some ⟨.st [(0, 17)], 1, 8, [.nilp]⟩ := rfl
theorem T21 : Tt 21 = some ⟨.int .i32, 1, 4, [.int .i32 0]⟩ := rfl
theorem T22 : Tt 22 = some ⟨.sl 5, 1, 24, [.nils]⟩ := rfl
theorem T23 : Tt 23 = some ⟨.sl 67, 1, 24, [.nils]⟩ := rfl
theorem T24 : Tt 24 = some ⟨.st [(0, 23)], 1, 24, [.nils]⟩ := rfl
theorem T25 : Tt 25 = some ⟨.st [(0, 23)], 1, 24, [.nils]⟩ := rfl
theorem T33 : Tt 33 = some ⟨.flt, 1, 8, [.flt 0]⟩ := rfl
theorem T34 : Tt 34 = some ⟨.st [(0, 3), (1, 2), (2, 33), (3, 9), (4, 3)], 5, 48, [.int .i64 0, .int .i64 0, .flt 0, .str ByteArray.empty, .int .i64 0]⟩ := rfl
theorem T35 : Tt 35 = some ⟨.st [(0, 3), (1, 2), (2, 33), (3, 9), (4, 3)], 5, 48, [.int .i64 0, .int .i64 0, .flt 0, .str ByteArray.empty, .int .i64 0]⟩ := rfl
theorem T38 : Tt 38 = some ⟨.st [(0, 3), (1, 2), (2, 33), (3, 9), (4, 3)], 5, 48, [.int .i64 0, .int .i64 0, .flt 0, .str ByteArray.empty, .int .i64 0]⟩ := rfl
theorem T41 : Tt 41 = some ⟨.sl 153, 1, 24, [.nils]⟩ := rfl
theorem T42 : Tt 42 = some ⟨.st [(0, 41)], 1, 24, [.nils]⟩ := rfl
theorem T43 : Tt 43 = some ⟨.st [(0, 41)], 1, 24, [.nils]⟩ := rfl
theorem T45 : Tt 45 = some ⟨.st [(0, 3), (1, 3), (2, 3)], 3, 24, [.int .i64 0, .int .i64 0, .int .i64 0]⟩ := rfl
theorem T46 : Tt 46 = some ⟨.st [(0, 3), (1, 3), (2, 3)], 3, 24, [.int .i64 0, .int .i64 0, .int .i64 0]⟩ := rfl
theorem T51 : Tt 51 = some ⟨.st [(0, 3), (1, 38)], 6, 56, [.int .i64 0, .int .i64 0, .int .i64 0, .flt 0, .str ByteArray.empty, .int .i64 0]⟩ := rfl
theorem T52 : Tt 52 = some ⟨.st [(0, 3), (1, 38)], 6, 56, [.int .i64 0, .int .i64 0, .int .i64 0, .flt 0, .str ByteArray.empty, .int .i64 0]⟩ := rfl
theorem T58 : Tt 58 = some ⟨.ptr, 1, 8, [.nilp]⟩ := rfl
theorem T59 : Tt 59 = some ⟨.st [(0, 22), (1, 3), (2, 4)], 3, 40, [.nils, .int .i64 0, .bool false]⟩ := rfl
theorem T60 : Tt 60 = some ⟨.st [(0, 22), (1, 3), (2, 4)], 3, 40, [.nils, .int .i64 0, .bool false]⟩ := rfl
theorem T62 : Tt 62 = some ⟨.sl 96, 1, 24, [.nils]⟩ := rfl
theorem T63 : Tt 63 = some ⟨.sl 38, 1, 24, [.nils]⟩ := rfl
theorem T64 : Tt 64 = some ⟨.sl 85, 1, 24, [.nils]⟩ := rfl
theorem T65 : Tt 65 = some ⟨.sl 91, 1, 24, [.nils]⟩ := rfl
theorem T66 : Tt 66 = some ⟨.st [(0, 9), (1, 3), (2, 3), (3, 4), (4, 3), (5, 62), (6, 63), (7, 64), (8, 65)], 9, 144, [.str ByteArray.empty, .int .i64 0, .int .i64 0, .bool false, .int .i64 0, .nils, .nils, .nils, .nils]⟩ := rfl
theorem T67 : Tt 67 = some ⟨.st [(0, 9), (1, 3), (2, 3), (3, 4), (4, 3), (5, 62), (6, 63), (7, 64), (8, 65)], 9, 144, [.str ByteArray.empty, .int .i64 0, .int .i64 0, .bool false, .int .i64 0, .nils, .nils, .nils, .nils]⟩ := rfl
theorem T69 : Tt 69 = some ⟨.st [], 0, 0, []⟩ := rfl
theorem T70 : Tt 70 = some ⟨.st [], 0, 0, []⟩ := rfl
theorem T72 : Tt 72 = some ⟨.ptr, 1, 8, [.nilp]⟩ := rfl
theorem T73 : Tt 73 = some ⟨.st [(0, 22), (1, 3)], 2, 32, [.nils, .int .i64 0]⟩ := rfl
theorem T74 : Tt 74 = some ⟨.st [(0, 22), (1, 3)], 2, 32, [.nils, .int .i64 0]⟩ := rfl
theorem T83 : Tt 83 = some ⟨.sl 4, 1, 24, [.nils]⟩ := rfl
theorem T84 : Tt 84 = some ⟨.st [(0, 3), (1, 3), (2, 3), (3, 3), (4, 3)], 5, 40, [.int .i64 0, .int .i64 0, .int .i64 0, .int .i64 0, .int .i64 0]⟩ := rfl
theorem T85 : Tt 85 = some ⟨.st [(0, 3), (1, 3), (2, 3), (3, 3), (4, 3)], 5, 40, [.int .i64 0, .int .i64 0, .int .i64 0, .int .i64 0, .int .i64 0]⟩ := rfl
theorem T90 : Tt 90 = some ⟨.st [(0, 9), (1, 3), (2, 3), (3, 3)], 4, 40, [.str ByteArray.empty, .int .i64 0, .int .i64 0, .int .i64 0]⟩ := rfl
theorem T91 : Tt 91 = some ⟨.st [(0, 9), (1, 3), (2, 3), (3, 3)], 4, 40, [.str ByteArray.empty, .int .i64 0, .int .i64 0, .int .i64 0]⟩ := rfl
theorem T95 : Tt 95 = some ⟨.st [(0, 4), (1, 3)], 2, 16, [.bool false, .int .i64 0]⟩ := rfl
theorem T96 : Tt 96 = some ⟨.st [(0, 4), (1, 3)], 2, 16, [.bool false, .int .i64 0]⟩ := rfl
theorem T111 : Tt 111 = some ⟨.ptr, 1, 8, [.nilp]⟩ := rfl
theorem T112 : Tt 112 = some ⟨.st [(0, 22)], 1, 24, [.nils]⟩ := rfl
theorem T113 : Tt 113 = some ⟨.st [(0, 22)], 1, 24, [.nils]⟩ := rfl
theorem T117 : Tt 117 = some ⟨.sl 3, 1, 24, [.nils]⟩ := rfl
theorem T119 : Tt 119 = some ⟨.sl 9, 1, 24, [.nils]⟩ := rfl
theorem T121 : Tt 121 = some ⟨.ptr, 1, 8, [.nilp]⟩ := rfl
theorem T122 : Tt 122 = some ⟨.st [(0, 121), (1, 22)], 2, 32, [.nilp, .nils]⟩ := rfl
theorem T123 : Tt 123 = some ⟨.st [(0, 121), (1, 22)], 2, 32, [.nilp, .nils]⟩ := rfl
theorem T128 : Tt 128 = some ⟨.arr 4 3, 4, 32, [.int .i64 0, .int .i64 0, .int .i64 0, .int .i64 0]⟩ := rfl
theorem T143 : Tt 143 = some ⟨.int .u64, 1, 8, [.int .u64 0]⟩ := rfl
theorem T145 : Tt 145 = some ⟨.int .u64, 1, 8, [.int .u64 0]⟩ := rfl
theorem T148 : Tt 148 = some ⟨.sl 217, 1, 24, [.nils]⟩ := rfl
theorem T149 : Tt 149 = some ⟨.sl 35, 1, 24, [.nils]⟩ := rfl
theorem T150 : Tt 150 = some ⟨.sl 219, 1, 24, [.nils]⟩ := rfl
theorem T151 : Tt 151 = some ⟨.sl 215, 1, 24, [.nils]⟩ := rfl
theorem T152 : Tt 152 = some ⟨.st [(0, 9), (1, 3), (2, 3), (3, 4), (4, 3), (5, 148), (6, 149), (7, 150), (8, 151)], 9, 144, [.str ByteArray.empty, .int .i64 0, .int .i64 0, .bool false, .int .i64 0, .nils, .nils, .nils, .nils]⟩ := rfl
theorem T153 : Tt 153 = some ⟨.st [(0, 9), (1, 3), (2, 3), (3, 4), (4, 3), (5, 148), (6, 149), (7, 150), (8, 151)], 9, 144, [.str ByteArray.empty, .int .i64 0, .int .i64 0, .bool false, .int .i64 0, .nils, .nils, .nils, .nils]⟩ := rfl
theorem T158 : Tt 158 = some ⟨.int .i64, 1, 8, [.int .i64 0]⟩ := rfl
theorem T159 : Tt 159 = some ⟨.arr 4 158, 4, 32, [.int .i64 0, .int .i64 0, .int .i64 0, .int .i64 0]⟩ := rfl
theorem T160 : Tt 160 = some ⟨.arr 4 158, 4, 32, [.int .i64 0, .int .i64 0, .int .i64 0, .int .i64 0]⟩ := rfl
theorem T161 : Tt 161 = some ⟨.sl 160, 1, 24, [.nils]⟩ := rfl
theorem T177 : Tt 177 = some ⟨.ptr, 1, 8, [.nilp]⟩ := rfl
theorem T183 : Tt 183 = some ⟨.arr 24 5, 24, 24, [.int .u8 0, .int .u8 0, .int .u8 0, .int .u8 0, .int .u8 0, .int .u8 0, .int .u8 0, .int .u8 0, .int .u8 0, .int .u8 0, .int .u8 0, .int .u8 0, .int .u8 0, .int .u8 0, .int .u8 0, .int .u8 0, .int .u8 0, .int .u8 0, .int .u8 0, .int .u8 0, .int .u8 0, .int .u8 0, .int .u8 0, .int .u8 0]⟩ := rfl
theorem T198 : Tt 198 = some ⟨.sl 200, 1, 24, [.nils]⟩ := rfl
theorem T199 : Tt 199 = some ⟨.st [(0, 3), (1, 3)], 2, 16, [.int .i64 0, .int .i64 0]⟩ := rfl
theorem T200 : Tt 200 = some ⟨.st [(0, 3), (1, 3)], 2, 16, [.int .i64 0, .int .i64 0]⟩ := rfl
theorem T201 : Tt 201 = some ⟨.int .u32, 1, 4, [.int .u32 0]⟩ := rfl
theorem T203 : Tt 203 = some ⟨.ptr, 1, 8, [.nilp]⟩ := rfl
theorem T211 : Tt 211 = some ⟨.arr 20 143, 20, 160, [.int .u64 0, .int .u64 0, .int .u64 0, .int .u64 0, .int .u64 0, .int .u64 0, .int .u64 0, .int .u64 0, .int .u64 0, .int .u64 0, .int .u64 0, .int .u64 0, .int .u64 0, .int .u64 0, .int .u64 0, .int .u64 0, .int .u64 0, .int .u64 0, .int .u64 0, .int .u64 0]⟩ := rfl
theorem T215 : Tt 215 = some ⟨.st [(0, 9), (1, 3), (2, 3), (3, 3)], 4, 40, [.str ByteArray.empty, .int .i64 0, .int .i64 0, .int .i64 0]⟩ := rfl
theorem T217 : Tt 217 = some ⟨.st [(0, 4), (1, 3)], 2, 16, [.bool false, .int .i64 0]⟩ := rfl
theorem T219 : Tt 219 = some ⟨.st [(0, 3), (1, 3), (2, 3), (3, 3), (4, 3)], 5, 40, [.int .i64 0, .int .i64 0, .int .i64 0, .int .i64 0, .int .i64 0]⟩ := rfl
theorem T221 : Tt 221 = some ⟨.sl 227, 1, 24, [.nils]⟩ := rfl
theorem T222 : Tt 222 = some ⟨.sl 230, 1, 24, [.nils]⟩ := rfl
theorem T223 : Tt 223 = some ⟨.st [(0, 221), (1, 222), (2, 3)], 3, 56, [.nils, .nils, .int .i64 0]⟩ := rfl
theorem T224 : Tt 224 = some ⟨.st [(0, 221), (1, 222), (2, 3)], 3, 56, [.nils, .nils, .int .i64 0]⟩ := rfl
theorem T225 : Tt 225 = some ⟨.int .u16, 1, 2, [.int .u16 0]⟩ := rfl
theorem T226 : Tt 226 = some ⟨.st [(0, 225), (1, 225), (2, 225)], 3, 6, [.int .u16 0, .int .u16 0, .int .u16 0]⟩ := rfl
theorem T227 : Tt 227 = some ⟨.st [(0, 225), (1, 225), (2, 225)], 3, 6, [.int .u16 0, .int .u16 0, .int .u16 0]⟩ := rfl
theorem T229 : Tt 229 = some ⟨.st [(0, 201), (1, 201), (2, 201)], 3, 12, [.int .u32 0, .int .u32 0, .int .u32 0]⟩ := rfl
theorem T230 : Tt 230 = some ⟨.st [(0, 201), (1, 201), (2, 201)], 3, 12, [.int .u32 0, .int .u32 0, .int .u32 0]⟩ := rfl
theorem T236 : Tt 236 = some ⟨.ptr, 1, 8, [.nilp]⟩ := rfl
theorem T237 : Tt 237 = some ⟨.ptr, 1, 8, [.nilp]⟩ := rfl
theorem T238 : Tt 238 = some ⟨.arr 32 5, 32, 32, [.int .u8 0, .int .u8 0, .int .u8 0, .int .u8 0, .int .u8 0, .int .u8 0, .int .u8 0, .int .u8 0, .int .u8 0, .int .u8 0, .int .u8 0, .int .u8 0, .int .u8 0, .int .u8 0, .int .u8 0, .int .u8 0, .int .u8 0, .int .u8 0, .int .u8 0, .int .u8 0, .int .u8 0, .int .u8 0, .int .u8 0, .int .u8 0, .int .u8 0, .int .u8 0, .int .u8 0, .int .u8 0, .int .u8 0, .int .u8 0, .int .u8 0, .int .u8 0]⟩ := rfl
theorem T240 : Tt 240 = some ⟨.st [(0, 17), (1, 17), (2, 17), (3, 9)], 4, 40, [.nilp, .nilp, .nilp, .str ByteArray.empty]⟩ := rfl
theorem T241 : Tt 241 = some ⟨.st [(0, 17), (1, 17), (2, 17), (3, 9)], 4, 40, [.nilp, .nilp, .nilp, .str ByteArray.empty]⟩ := rfl
theorem T245 : Tt 245 = some ⟨.int .u8, 1, 1, [.int .u8 0]⟩ := rfl
theorem T246 : Tt 246 = some ⟨.int .u8, 1, 1, [.int .u8 0]⟩ := rfl
theorem T248 : Tt 248 = some ⟨.int .i32, 1, 4, [.int .i32 0]⟩ := rfl
theorem T249 : Tt 249 = some ⟨.int .i32, 1, 4, [.int .i32 0]⟩ := rfl
theorem go_ {G G' : Prop} (k : G') (h : G' → G := by intro z_; simp -implicitDefEqProofs only [c_skip, c_seq, c_reg, c_cond, c_block, c_exit, c_ret, x_here, o_nil, o_any, p_nil, p_cons, p_pure, p_read, p_step, p_pureG, p_readG, p_stepG, pK_some, pK_none, keep_nil, keep_cons, rdK_some, okP, rdA, isFlt, isArith, isInt, List.getElem?_toArray, List.size_toArray, a_move, a_moveC, a_mkI, mkIK_nil, a_panic, panK_raw, aPan, a_assign, a_box, a_alloc, a_load, a_store, a_nilCheck, a_fieldAddr, a_bin, a_un, a_conv, a_call, a_len, a_app, a_pick, a_build, a_buildSlice, a_slice, a_field, a_indexAddr, a_index, a_extract, a_makeSlice, o_guard, gval_l, putT, pickK_bool, aggK_agg, tupK_tup, gK_tup, gK_bool, gK_noA, bytes_nil, lay, places, aBuildSlice, aSlice, aSliceS, aMake, Int.toNat_natCast, oK_some, oK_none, callK_ret, callK_pan, eA, someK_some, ptrK_ptr, upd_upd, upd_same, upd_far, Nat.reduceBEq, Nat.reduceBeqDiff, Nat.reduceEqDiff, Nat.reduceBNe, Nat.reduceAdd, Nat.reduceMul, Nat.reduceSub, Nat.reduceLT, Nat.reduceLeDiff, Nat.add_zero, Nat.zero_add, Nat.add_assoc, Int.reduceNeg, Int.reduceToNat, Int.reduceLT, Int.reduceLE, Int.reduceEq, Int.reduceBEq, Int.reduceBNe, List.getD_cons_zero, List.getD_cons_succ, List.getElem?_cons_zero, List.getElem?_cons_succ, List.length_cons, List.length_nil, List.map_cons, List.map_nil, List.all_cons, List.all_nil, List.drop_succ_cons, List.drop_zero, List.take_succ_cons, List.take_zero, List.drop_nil, List.take_nil, List.set_cons_zero, List.set_cons_succ, List.nil_append, List.cons_append, List.append_nil, List.contains_nil, List.contains_cons, List.getD_nil, Bool.and_self, Bool.and_true, Bool.true_and, Bool.and_false, Bool.false_and, Bool.not_false, Bool.not_true, Bool.or_true, Bool.or_false, Bool.true_or, Bool.false_or, true_and, and_true, and_self, false_and, and_false, if_true, if_false, ite_true, ite_false, ↓reduceIte, reduceCtorEq, ne_eq, not_false_eq_true, not_true_eq_false, Bool.false_eq_true, forall_const, false_implies, true_implies, imp_self, implies_true, newBlk_t, newBlk_f, isOdd, fld, kd, elm, Option.map_some, Option.bind_some, Option.map_none, Option.bind_none, Option.getD_some, Option.getD_none, Option.isSome_some, Option.bind_some, row_lc, row_hp, row_ro, part?, splice, TI.agg, ofV, of1, aBin, aNil, isSl, isPtr, aUn, len_sl, len_nils, len_str, condK_bool, ite_conj, Bool.not_eq_true, Bool.not_eq_false, condK_true, condK_false, aRetL, aResL, aRess, aRes1, Nat.add_one_ne_zero, pub_int, pub1_int, pub2_int, cells_int, pub_bool, pub1_bool, pub2_bool, cells_bool, pub_str, pub1_str, pub2_str, cells_str, pub_flt, pub1_flt, pub2_flt, cells_flt, pub_nilp, pub1_nilp, pub2_nilp, cells_nilp, pub_nils, pub1_nils, pub2_nils, cells_nils, pub_ptrR, pub1_ptrR, pub2_ptrR, cells_ptrR, pub_ptrH, pub1_ptrH, pub2_ptrH, cells_ptrH, pub_slR, pub1_slR, pub2_slR, cells_slR, pub_slH, pub1_slH, pub2_slH, cells_slH, cells_agg, pub_agg, pub2_agg, pub_tup, load_ptr, store_ptr, ix_sl, arrK_arr, ix_ptr, ix_str, ix_agg, blk_ro, blk_hp, blk_lc, set_hp, set_lc, bin_int, bin_str, bin_bool, nanK_some, bin_feq, bin_fne, bin_fl, bin_fle, bin_fg, bin_fge, bin_fadd, bin_fsub, bin_fmul, bin_fquo, cvtI_int, cvtI_flt, cvtF_int, cvtF_flt, conv_int, conv_flt, conv_str, isByteSl, conv_sl, conv_nils, bin_slN, bin_Nsl, bin_ptN, bin_Npt, bin_NN, bin_PP, isBo, Nat.le_refl, cxT, List.length_map, List.getElem_map, Int.natCast_nonneg, V.av, U.av, I.av, Nm.av, decide_eq_true_eq, decide_eq_false_iff_not, decide_true, decide_false, List.range, List.range.loop, Int.reduceNatCast', Int.reduceNatCast, Int.reduceAdd, Int.reduceSub, Int.reduceMul, beq_self_eq_true, bne_self_eq_false, push_at, push2_0, push2_1, push3_0, push3_1, push3_2, push4_0, push4_1, push4_2, push4_3, push_len, push_set, cxP, cxO, T2, T3, T4, T5, T6, T7, T8, T9, T10, T11, T12, T13, T14, T15, T16, T17, T18, T19, T21, T22, T23, T24, T25, T33, T34, T35, T38, T41, T42, T43, T45, T46, T51, T52, T58, T59, T60, T62, T63, T64, T65, T66, T67, T69, T70, T72, T73, T74, T83, T84, T85, T90, T91, T95, T96, T111, T112, T113, T117, T119, T121, T122, T123, T128, T143, T145, T148, T149, T150, T151, T152, T153, T158, T159, T160, T161, T177, T183, T198, T199, T200, T201, T203, T211, T215, T217, T219, T221, T222, T223, T224, T225, T226, T227, T229, T230, T236, T237, T238, T240, T241, T245, T246, T248, T249]; exact z_) : G := h k
theorem goh_ {G G' : Prop} (k : G') (h : G' → G := by intro z_; simp -implicitDefEqProofs only [c_skip, c_seq, c_reg, c_cond, c_block, c_exit, c_ret, x_here, o_nil, o_any, p_nil, p_cons, p_pure, p_read, p_step, p_pureG, p_readG, p_stepG, pK_some, pK_none, keep_nil, keep_cons, rdK_some, okP, rdA, isFlt, isArith, isInt, List.getElem?_toArray, List.size_toArray, a_move, a_moveC, a_mkI, mkIK_nil, a_panic, panK_raw, aPan, a_assign, a_box, a_alloc, a_load, a_store, a_nilCheck, a_fieldAddr, a_bin, a_un, a_conv, a_call, a_len, a_app, a_pick, a_build, a_buildSlice, a_slice, a_field, a_indexAddr, a_index, a_extract, a_makeSlice, o_guard, gval_l, putT, pickK_bool, aggK_agg, tupK_tup, gK_tup, gK_bool, gK_noA, bytes_nil, lay, places, aBuildSlice, aSlice, aSliceS, aMake, Int.toNat_natCast, oK_some, oK_none, callK_ret, callK_pan, eA, someK_some, ptrK_ptr, upd_upd, upd_same, upd_far, Nat.reduceBEq, Nat.reduceBeqDiff, Nat.reduceEqDiff, Nat.reduceBNe, Nat.reduceAdd, Nat.reduceMul, Nat.reduceSub, Nat.reduceLT, Nat.reduceLeDiff, Nat.add_zero, Nat.zero_add, Nat.add_assoc, Int.reduceNeg, Int.reduceToNat, Int.reduceLT, Int.reduceLE, Int.reduceEq, Int.reduceBEq, Int.reduceBNe, List.getD_cons_zero, List.getD_cons_succ, List.getElem?_cons_zero, List.getElem?_cons_succ, List.length_cons, List.length_nil, List.map_cons, List.map_nil, List.all_cons, List.all_nil, List.drop_succ_cons, List.drop_zero, List.take_succ_cons, List.take_zero, List.drop_nil, List.take_nil, List.set_cons_zero, List.set_cons_succ, List.nil_append, List.cons_append, List.append_nil, List.contains_nil, List.contains_cons, List.getD_nil, Bool.and_self, Bool.and_true, Bool.true_and, Bool.and_false, Bool.false_and, Bool.not_false, Bool.not_true, Bool.or_true, Bool.or_false, Bool.true_or, Bool.false_or, true_and, and_true, and_self, false_and, and_false, if_true, if_false, ite_true, ite_false, ↓reduceIte, reduceCtorEq, ne_eq, not_false_eq_true, not_true_eq_false, Bool.false_eq_true, forall_const, false_implies, true_implies, imp_self, implies_true, newBlk_t, newBlk_f, isOdd, fld, kd, elm, Option.map_some, Option.bind_some, Option.map_none, Option.bind_none, Option.getD_some, Option.getD_none, Option.isSome_some, Option.bind_some, row_lc, row_hp, row_ro, part?, splice, TI.agg, ofV, of1, aBin, aNil, isSl, isPtr, aUn, len_sl, len_nils, len_str, condK_bool, ite_conj, Bool.not_eq_true, Bool.not_eq_false, condK_true, condK_false, aRetL, aResL, aRess, aRes1, Nat.add_one_ne_zero, pub_int, pub1_int, pub2_int, cells_int, pub_bool, pub1_bool, pub2_bool, cells_bool, pub_str, pub1_str, pub2_str, cells_str, pub_flt, pub1_flt, pub2_flt, cells_flt, pub_nilp, pub1_nilp, pub2_nilp, cells_nilp, pub_nils, pub1_nils, pub2_nils, cells_nils, pub_ptrR, pub1_ptrR, pub2_ptrR, cells_ptrR, pub_ptrH, pub1_ptrH, pub2_ptrH, cells_ptrH, pub_slR, pub1_slR, pub2_slR, cells_slR, pub_slH, pub1_slH, pub2_slH, cells_slH, cells_agg, pub_agg, pub2_agg, pub_tup, load_ptr, store_ptr, ix_sl, arrK_arr, ix_ptr, ix_str, ix_agg, blk_ro, blk_hp, blk_lc, set_hp, set_lc, bin_int, bin_str, bin_bool, nanK_some, bin_feq, bin_fne, bin_fl, bin_fle, bin_fg, bin_fge, bin_fadd, bin_fsub, bin_fmul, bin_fquo, cvtI_int, cvtI_flt, cvtF_int, cvtF_flt, conv_int, conv_flt, conv_str, isByteSl, conv_sl, conv_nils, bin_slN, bin_Nsl, bin_ptN, bin_Npt, bin_NN, bin_PP, isBo, Nat.le_refl, cxT, List.length_map, List.getElem_map, Int.natCast_nonneg, V.av, U.av, I.av, Nm.av, decide_eq_true_eq, decide_eq_false_iff_not, decide_true, decide_false, List.range, List.range.loop, Int.reduceNatCast', Int.reduceNatCast, Int.reduceAdd, Int.reduceSub, Int.reduceMul, beq_self_eq_true, bne_self_eq_false, push_at, push2_0, push2_1, push3_0, push3_1, push3_2, push4_0, push4_1, push4_2, push4_3, push_len, push_set, cxP, cxO, T2, T3, T4, T5, T6, T7, T8, T9, T10, T11, T12, T13, T14, T15, T16, T17, T18, T19, T21, T22, T23, T24, T25, T33, T34, T35, T38, T41, T42, T43, T45, T46, T51, T52, T58, T59, T60, T62, T63, T64, T65, T66, T67, T69, T70, T72, T73, T74, T83, T84, T85, T90, T91, T95, T96, T111, T112, T113, T117, T119, T121, T122, T123, T128, T143, T145, T148, T149, T150, T151, T152, T153, T158, T159, T160, T161, T177, T183, T198, T199, T200, T201, T203, T211, T215, T217, T219, T221, T222, T223, T224, T225, T226, T227, T229, T230, T236, T237, T238, T240, T241, T245, T246, T248, T249, *]; exact z_) : G := h k
theorem gox_ {G : Prop} (h : G := by simp -implicitDefEqProofs only [c_skip, c_seq, c_reg, c_cond, c_block, c_exit, c_ret, x_here, o_nil, o_any, p_nil, p_cons, p_pure, p_read, p_step, p_pureG, p_readG, p_stepG, pK_some, pK_none, keep_nil, keep_cons, rdK_some, okP, rdA, isFlt, isArith, isInt, List.getElem?_toArray, List.size_toArray, a_move, a_moveC, a_mkI, mkIK_nil, a_panic, panK_raw, aPan, a_assign, a_box, a_alloc, a_load, a_store, a_nilCheck, a_fieldAddr, a_bin, a_un, a_conv, a_call, a_len, a_app, a_pick, a_build, a_buildSlice, a_slice, a_field, a_indexAddr, a_index, a_extract, a_makeSlice, o_guard, gval_l, putT, pickK_bool, aggK_agg, tupK_tup, gK_tup, gK_bool, gK_noA, bytes_nil, lay, places, aBuildSlice, aSlice, aSliceS, aMake, Int.toNat_natCast, oK_some, oK_none, callK_ret, callK_pan, eA, someK_some, ptrK_ptr, upd_upd, upd_same, upd_far, Nat.reduceBEq, Nat.reduceBeqDiff, Nat.reduceEqDiff, Nat.reduceBNe, Nat.reduceAdd, Nat.reduceMul, Nat.reduceSub, Nat.reduceLT, Nat.reduceLeDiff, Nat.add_zero, Nat.zero_add, Nat.add_assoc, Int.reduceNeg, Int.reduceToNat, Int.reduceLT, Int.reduceLE, Int.reduceEq, Int.reduceBEq, Int.reduceBNe, List.getD_cons_zero, List.getD_cons_succ, List.getElem?_cons_zero, List.getElem?_cons_succ, List.length_cons, List.length_nil, List.map_cons, List.map_nil, List.all_cons, List.all_nil, List.drop_succ_cons, List.drop_zero, List.take_succ_cons, List.take_zero, List.drop_nil, List.take_nil, List.set_cons_zero, List.set_cons_succ, List.nil_append, List.cons_append, List.append_nil, List.contains_nil, List.contains_cons, List.getD_nil, Bool.and_self, Bool.and_true, Bool.true_and, Bool.and_false, Bool.false_and, Bool.not_false, Bool.not_true, Bool.or_true, Bool.or_false, Bool.true_or, Bool.false_or, true_and, and_true, and_self, false_and, and_false, if_true, if_false, ite_true, ite_false, ↓reduceIte, reduceCtorEq, ne_eq, not_false_eq_true, not_true_eq_false, Bool.false_eq_true, forall_const, false_implies, true_implies, imp_self, implies_true, newBlk_t, newBlk_f, isOdd, fld, kd, elm, Option.map_some, Option.bind_some, Option.map_none, Option.bind_none, Option.getD_some, Option.getD_none, Option.isSome_some, Option.bind_some, row_lc, row_hp, row_ro, part?, splice, TI.agg, ofV, of1, aBin, aNil, isSl, isPtr, aUn, len_sl, len_nils, len_str, condK_bool, ite_conj, Bool.not_eq_true, Bool.not_eq_false, condK_true, condK_false, aRetL, aResL, aRess, aRes1, Nat.add_one_ne_zero, pub_int, pub1_int, pub2_int, cells_int, pub_bool, pub1_bool, pub2_bool, cells_bool, pub_str, pub1_str, pub2_str, cells_str, pub_flt, pub1_flt, pub2_flt, cells_flt, pub_nilp, pub1_nilp, pub2_nilp, cells_nilp, pub_nils, pub1_nils, pub2_nils, cells_nils, pub_ptrR, pub1_ptrR, pub2_ptrR, cells_ptrR, pub_ptrH, pub1_ptrH, pub2_ptrH, cells_ptrH, pub_slR, pub1_slR, pub2_slR, cells_slR, pub_slH, pub1_slH, pub2_slH, cells_slH, cells_agg, pub_agg, pub2_agg, pub_tup, load_ptr, store_ptr, ix_sl, arrK_arr, ix_ptr, ix_str, ix_agg, blk_ro, blk_hp, blk_lc, set_hp, set_lc, bin_int, bin_str, bin_bool, nanK_some, bin_feq, bin_fne, bin_fl, bin_fle, bin_fg, bin_fge, bin_fadd, bin_fsub, bin_fmul, bin_fquo, cvtI_int, cvtI_flt, cvtF_int, cvtF_flt, conv_int, conv_flt, conv_str, isByteSl, conv_sl, conv_nils, bin_slN, bin_Nsl, bin_ptN, bin_Npt, bin_NN, bin_PP, isBo, Nat.le_refl, cxT, List.length_map, List.getElem_map, Int.natCast_nonneg, V.av, U.av, I.av, Nm.av, decide_eq_true_eq, decide_eq_false_iff_not, decide_true, decide_false, List.range, List.range.loop, Int.reduceNatCast', Int.reduceNatCast, Int.reduceAdd, Int.reduceSub, Int.reduceMul, beq_self_eq_true, bne_self_eq_false, push_at, push2_0, push2_1, push3_0, push3_1, push3_2, push4_0, push4_1, push4_2, push4_3, push_len, push_set, cxP, cxO, T2, T3, T4, T5, T6, T7, T8, T9, T10, T11, T12, T13, T14, T15, T16, T17, T18, T19, T21, T22, T23, T24, T25, T33, T34, T35, T38, T41, T42, T43, T45, T46, T51, T52, T58, T59, T60, T62, T63, T64, T65, T66, T67, T69, T70, T72, T73, T74, T83, T84, T85, T90, T91, T95, T96, T111, T112, T113, T117, T119, T121, T122, T123, T128, T143, T145, T148, T149, T150, T151, T152, T153, T158, T159, T160, T161, T177, T183, T198, T199, T200, T201, T203, T211, T215, T217, T219, T221, T222, T223, T224, T225, T226, T227, T229, T230, T236, T237, T238, T240, T241, T245, T246, T248, T249, *]) : G := h
end Go.Proofs.YtdonkjepjobhnaaDoor.IM
