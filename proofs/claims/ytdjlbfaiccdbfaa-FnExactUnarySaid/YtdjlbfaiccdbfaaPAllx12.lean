/- Contracts of Go functions: each call comes to what a plain Lean function of the same name says; text written by a program of this workplace (wip/patch_print.py over the kit's print). -/
import Derived.Test.YtdjlbfaiccdbfaaPAllx0
import Derived.Test.YtdjlbfaiccdbfaaPAllx1
import Derived.Test.YtdjlbfaiccdbfaaPAllx2
import Derived.Test.YtdjlbfaiccdbfaaPAllx3
import Derived.Test.YtdjlbfaiccdbfaaPAllx4
import Derived.Test.YtdjlbfaiccdbfaaPAllx7
import Derived.Test.YtdjlbfaiccdbfaaPAllx8
import Derived.Test.YtdjlbfaiccdbfaaPAllx9
import Derived.Test.YtdjlbfaiccdbfaaPAllx11
namespace Go.Proofs.Ytdjlbfaiccdbfaa.PAll
open Go.RowKit Go.Proofs.YtdjlbfaiccdbfaaW.PrintWords Go.Proofs.YtdjlbfaiccdbfaaW.PrintLast Go.Proofs.YtdjlbfaiccdbfaaW.PrintMore
attribute [local go_sem] max2_int min2_int max_two min_two max_three min_three max_four min_four   -- for this text's walks alone
set_option linter.unusedVariables false
set_option linter.unusedSimpArgs false

/-! ### impl_vBool: function 69 -/
def impl_vBool.f (a0 : Bool) : Option (Int × Int × Nat × ByteArray × Int) := if a0 = true then (some (1, 1, 0, (⟨#[]⟩ : ByteArray), 0)) else (some (1, 0, 0, (⟨#[]⟩ : ByteArray), 0))
set_option maxHeartbeats 8000000 in
set_option maxRecDepth 100000 in
theorem impl_vBool.calls (a0 : Bool) (r1 : Int) (r2 : Int) (r3 : Nat) (r4 : ByteArray) (r5 : Int) (w : World) (h : impl_vBool.f a0 = some (r1, r2, r3, r4, r5)) :
    Calls Try.prog 69 #[.bool a0] w fun e w' => e = .returned (.agg #[.int .i64 r1, .int .i64 r2, .float .f64 r3, .string r4, .int .i64 r5]) ∧ Below w.heap.size w w' := by
  have hu28 := Try.underlying28
  have HB := Aside0.mk (Below.refl w.heap.size w)
  have H : (if a0 = true then (some (1, 1, 0, (⟨#[]⟩ : ByteArray), 0)) else (some (1, 0, 0, (⟨#[]⟩ : ByteArray), 0))) = some (r1, r2, r3, r4, r5) := h
  clear h
  by_cases c2 : a0 = true
  focus
   subst c2
   have H1 : (some (1, 1, 0, (⟨#[]⟩ : ByteArray), 0)) = some (r1, r2, r3, r4, r5) := by rw [if_pos rfl] at H; exact H
   clear H
   have H := H1
   clear H1
   simp only [Option.some.injEq, Prod.mk.injEq] at H
   obtain ⟨rfl, rfl, rfl, rfl, rfl⟩ := H
  rotate_left 1
  focus
   replace c2 := Bool.eq_false_iff.mpr c2
   subst c2
   have H1 : (some (1, 0, 0, (⟨#[]⟩ : ByteArray), 0)) = some (r1, r2, r3, r4, r5) := by rw [if_neg (show ¬ (false = true) by decide)] at H; exact H
   clear H
   have H := H1
   clear H1
   simp only [Option.some.injEq, Prod.mk.injEq] at H
   obtain ⟨rfl, rfl, rfl, rfl, rfl⟩ := H
  all_goals
   go_enter Try.func69, Try.ntmps69
   go_wp2_with (first | ((with_reducible refine gate_dst (N := 2) rfl ?_); refine box_event rfl (N := 2) rfl (cs := #[.int .i64 0, .int .i64 0, .float .f64 0, .string (⟨#[]⟩ : ByteArray), .int .i64 0]) (t := 28) (by first | (go_simp; done) | (go_simp; rfl)) ?_; intro gbz0_ hg wz1_ hbox hb; have nz2_ := hbs HB.out hb; have nz3_ := Aside0.mk (hbox); have nz4_ := (gws hg (hbe HB.out) : Aside0 (w.heap.size ≤ gbz0_)); have nz5_ := (gws hg (hbe HB.out) : Aside0 (w.heap.size ≤ gbz0_)); clear HB; have HB := nz2_; have BKz6_ := nz3_; have GWz7_ := nz4_; have GEz8_ := nz5_; clear nz2_ nz3_ nz4_ nz5_; clear hb hbox hg; have hczz9_ : wz1_.cell? ⟨gbz0_, 0, none⟩ = some (.int .i64 0) := (blk_cell BKz6_.out 0).trans rfl; have hczz10_ : wz1_.cell? ⟨gbz0_, 1, none⟩ = some (.int .i64 0) := (blk_cell BKz6_.out 1).trans rfl; have hczz11_ : wz1_.cell? ⟨gbz0_, 2, none⟩ = some (.float .f64 0) := (blk_cell BKz6_.out 2).trans rfl; have hczz12_ : wz1_.cell? ⟨gbz0_, 3, none⟩ = some (.string (⟨#[]⟩ : ByteArray)) := (blk_cell BKz6_.out 3).trans rfl; have hczz13_ : wz1_.cell? ⟨gbz0_, 4, none⟩ = some (.int .i64 0) := (blk_cell BKz6_.out 4).trans rfl; have hfzz14_ := blk_frozen BKz6_.out 0; have hfzz15_ := blk_frozen BKz6_.out 1; have hfzz16_ := blk_frozen BKz6_.out 2; have hfzz17_ := blk_frozen BKz6_.out 3; have hfzz18_ := blk_frozen BKz6_.out 4))
  · refine bodyPost_ret (results_cell_row rfl _ _ gbz0_ 28 #[.int .i64 1, .int .i64 0, .float .f64 0, .string (⟨#[]⟩ : ByteArray), .int .i64 0] (0, 0) _ rfl (by (with_reducible repeat (first | refine blk_drewN ?_ _ | refine blk_drew ?_ | refine blk_alloc ?_ _)); refine blk_put (cs := #[.int .i64 1, .int .i64 0, .float .f64 0, .string (⟨#[]⟩ : ByteArray), .int .i64 0]) ?_ 4 _ rfl; (with_reducible repeat (first | refine blk_drewN ?_ _ | refine blk_drew ?_ | refine blk_alloc ?_ _)); refine blk_put (cs := #[.int .i64 1, .int .i64 0, .float .f64 0, .string (⟨#[]⟩ : ByteArray), .int .i64 0]) ?_ 3 _ rfl; (with_reducible repeat (first | refine blk_drewN ?_ _ | refine blk_drew ?_ | refine blk_alloc ?_ _)); refine blk_put (cs := #[.int .i64 1, .int .i64 0, .float .f64 0, .string (⟨#[]⟩ : ByteArray), .int .i64 0]) ?_ 2 _ rfl; (with_reducible repeat (first | refine blk_drewN ?_ _ | refine blk_drew ?_ | refine blk_alloc ?_ _)); refine blk_put (cs := #[.int .i64 1, .int .i64 0, .float .f64 0, .string (⟨#[]⟩ : ByteArray), .int .i64 0]) ?_ 1 _ rfl; (with_reducible repeat (first | refine blk_drewN ?_ _ | refine blk_drew ?_ | refine blk_alloc ?_ _)); refine blk_put (cs := #[.int .i64 0, .int .i64 0, .float .f64 0, .string (⟨#[]⟩ : ByteArray), .int .i64 0]) ?_ 0 _ rfl; (with_reducible repeat (first | refine blk_drewN ?_ _ | refine blk_drew ?_ | refine blk_alloc ?_ _)); exact BKz6_.out) Try.underlying28 rfl (by kernel_rfl)) rfl ?_
    exact ⟨by first | rfl | (simp [errW_none, errW_some] <;> rfl) | (simp [*, errW_none, errW_some] <;> rfl), by repeat (first | (with_reducible first | exact HB.out | apply below_alloc | apply pw_below_drewN | apply below_drew1 | refine below_set ?_ GEz8_.out) | exact HB.out)⟩
  · refine bodyPost_ret (results_cell_row rfl _ _ gbz0_ 28 #[.int .i64 1, .int .i64 1, .float .f64 0, .string (⟨#[]⟩ : ByteArray), .int .i64 0] (0, 0) _ rfl (by (with_reducible repeat (first | refine blk_drewN ?_ _ | refine blk_drew ?_ | refine blk_alloc ?_ _)); refine blk_put (cs := #[.int .i64 1, .int .i64 1, .float .f64 0, .string (⟨#[]⟩ : ByteArray), .int .i64 0]) ?_ 4 _ rfl; (with_reducible repeat (first | refine blk_drewN ?_ _ | refine blk_drew ?_ | refine blk_alloc ?_ _)); refine blk_put (cs := #[.int .i64 1, .int .i64 1, .float .f64 0, .string (⟨#[]⟩ : ByteArray), .int .i64 0]) ?_ 3 _ rfl; (with_reducible repeat (first | refine blk_drewN ?_ _ | refine blk_drew ?_ | refine blk_alloc ?_ _)); refine blk_put (cs := #[.int .i64 1, .int .i64 1, .float .f64 0, .string (⟨#[]⟩ : ByteArray), .int .i64 0]) ?_ 2 _ rfl; (with_reducible repeat (first | refine blk_drewN ?_ _ | refine blk_drew ?_ | refine blk_alloc ?_ _)); refine blk_put (cs := #[.int .i64 1, .int .i64 0, .float .f64 0, .string (⟨#[]⟩ : ByteArray), .int .i64 0]) ?_ 1 _ rfl; (with_reducible repeat (first | refine blk_drewN ?_ _ | refine blk_drew ?_ | refine blk_alloc ?_ _)); refine blk_put (cs := #[.int .i64 0, .int .i64 0, .float .f64 0, .string (⟨#[]⟩ : ByteArray), .int .i64 0]) ?_ 0 _ rfl; (with_reducible repeat (first | refine blk_drewN ?_ _ | refine blk_drew ?_ | refine blk_alloc ?_ _)); exact BKz6_.out) Try.underlying28 rfl (by kernel_rfl)) rfl ?_
    exact ⟨by first | rfl | (simp [errW_none, errW_some] <;> rfl) | (simp [*, errW_none, errW_some] <;> rfl), by repeat (first | (with_reducible first | exact HB.out | apply below_alloc | apply pw_below_drewN | apply below_drew1 | refine below_set ?_ GEz8_.out) | exact HB.out)⟩

/-! ### impl_vFlt: function 70 -/
def impl_vFlt.f (a0 : Nat) : Option (Int × Int × Nat × ByteArray × Int) := some (3, 0, a0, (⟨#[]⟩ : ByteArray), 0)
set_option maxHeartbeats 8000000 in
set_option maxRecDepth 100000 in
theorem impl_vFlt.calls (a0 : Nat) (r1 : Int) (r2 : Int) (r3 : Nat) (r4 : ByteArray) (r5 : Int) (w : World) (h : impl_vFlt.f a0 = some (r1, r2, r3, r4, r5)) :
    Calls Try.prog 70 #[.float .f64 a0] w fun e w' => e = .returned (.agg #[.int .i64 r1, .int .i64 r2, .float .f64 r3, .string r4, .int .i64 r5]) ∧ Below w.heap.size w w' := by
  have hu28 := Try.underlying28
  have HB := Aside0.mk (Below.refl w.heap.size w)
  have H : (some (3, 0, a0, (⟨#[]⟩ : ByteArray), 0)) = some (r1, r2, r3, r4, r5) := h
  clear h
  simp only [Option.some.injEq, Prod.mk.injEq] at H
  obtain ⟨rfl, rfl, rfl, rfl, rfl⟩ := H
  go_enter Try.func70, Try.ntmps70
  go_wp2_with (first | ((with_reducible refine gate_dst (N := 2) rfl ?_); refine box_event rfl (N := 2) rfl (cs := #[.int .i64 0, .int .i64 0, .float .f64 0, .string (⟨#[]⟩ : ByteArray), .int .i64 0]) (t := 28) (by first | (go_simp; done) | (go_simp; rfl)) ?_; intro gb401 hg w2 hbox hb; have BK401 := Aside0.mk (hbox); have GW401 := (gws hg (hbe HB.out) : Aside0 (w.heap.size ≤ gb401)); have GE401 := (gws hg (hbe HB.out) : Aside0 (w.heap.size ≤ gb401)); replace HB := hbs HB.out hb; clear hb hbox hg; obtain ⟨hcz3_0, hcz3_1, hcz3_2, hcz3_3, hcz3_4, hfz3_0, hfz3_1, hfz3_2, hfz3_3, hfz3_4⟩ := cells5 BK401.out))
  refine bodyPost_ret (results_cell_row rfl _ _ gb401 28 #[.int .i64 3, .int .i64 0, .float .f64 a0, .string (⟨#[]⟩ : ByteArray), .int .i64 0] (0, 0) _ rfl (by (with_reducible repeat (first | refine blk_drewN ?_ _ | refine blk_drew ?_ | refine blk_alloc ?_ _)); refine blk_put (cs := #[.int .i64 3, .int .i64 0, .float .f64 a0, .string (⟨#[]⟩ : ByteArray), .int .i64 0]) ?_ 4 _ rfl; (with_reducible repeat (first | refine blk_drewN ?_ _ | refine blk_drew ?_ | refine blk_alloc ?_ _)); refine blk_put (cs := #[.int .i64 3, .int .i64 0, .float .f64 a0, .string (⟨#[]⟩ : ByteArray), .int .i64 0]) ?_ 3 _ rfl; (with_reducible repeat (first | refine blk_drewN ?_ _ | refine blk_drew ?_ | refine blk_alloc ?_ _)); refine blk_put (cs := #[.int .i64 3, .int .i64 0, .float .f64 0, .string (⟨#[]⟩ : ByteArray), .int .i64 0]) ?_ 2 _ rfl; (with_reducible repeat (first | refine blk_drewN ?_ _ | refine blk_drew ?_ | refine blk_alloc ?_ _)); refine blk_put (cs := #[.int .i64 3, .int .i64 0, .float .f64 0, .string (⟨#[]⟩ : ByteArray), .int .i64 0]) ?_ 1 _ rfl; (with_reducible repeat (first | refine blk_drewN ?_ _ | refine blk_drew ?_ | refine blk_alloc ?_ _)); refine blk_put (cs := #[.int .i64 0, .int .i64 0, .float .f64 0, .string (⟨#[]⟩ : ByteArray), .int .i64 0]) ?_ 0 _ rfl; (with_reducible repeat (first | refine blk_drewN ?_ _ | refine blk_drew ?_ | refine blk_alloc ?_ _)); exact BK401.out) Try.underlying28 rfl (by kernel_rfl)) rfl ?_
  exact ⟨by first | rfl | (simp <;> rfl) | (simp [*] <;> rfl), hbe1 HB.out GE401.out⟩

/-! ### impl_Unary: function 31 -/
def impl_Unary.f (k : Nat) (a0 : Int) (a1_0 : Int) (a1_1 : Int) (a1_2 : Nat) (a1_3 : ByteArray) (a1_4 : Int) : Option (Int × Int × Int × Nat × ByteArray × Int) := (impl_ValueOk.f k a1_0 a1_1 a1_2 a1_3 a1_4).bind fun t404 => (if t404 = true then (if a0 = 21 then ((impl_Truth.f k a1_0 a1_1 a1_2 a1_3 a1_4).bind fun t411 => ((impl_vBool.f (!t411)).bind fun bt412 => ((impl_good.f bt412.1 bt412.2.1 bt412.2.2.1 bt412.2.2.2.1 bt412.2.2.2.2).bind fun bt417 => (some (bt417.1, bt417.2.1, bt417.2.2.1, bt417.2.2.2.1, bt417.2.2.2.2.1, bt417.2.2.2.2.2))))) else (if a0 = 19 then (if a1_0 = 2 then ((impl_vInt.f (wrap64 (-a1_1))).bind fun bt423 => ((impl_good.f bt423.1 bt423.2.1 bt423.2.2.1 bt423.2.2.2.1 bt423.2.2.2.2).bind fun bt428 => (some (bt428.1, bt428.2.1, bt428.2.2.1, bt428.2.2.2.1, bt428.2.2.2.2.1, bt428.2.2.2.2.2)))) else (if a1_0 = 3 then ((impl_vFlt.f (fneg a1_2)).bind fun bt434 => ((impl_good.f bt434.1 bt434.2.1 bt434.2.2.1 bt434.2.2.2.1 bt434.2.2.2.2).bind fun bt439 => (some (bt439.1, bt439.2.1, bt439.2.2.1, bt439.2.2.2.1, bt439.2.2.2.2.1, bt439.2.2.2.2.2)))) else ((impl_bad.f 1).bind fun bt445 => (some (bt445.1, bt445.2.1, bt445.2.2.1, bt445.2.2.2.1, bt445.2.2.2.2.1, bt445.2.2.2.2.2))))) else (if a0 = 20 then (if a1_0 = 2 then ((impl_vInt.f (Go.bits .xor .i64 (-1) a1_1)).bind fun bt451 => ((impl_good.f bt451.1 bt451.2.1 bt451.2.2.1 bt451.2.2.2.1 bt451.2.2.2.2).bind fun bt456 => (some (bt456.1, bt456.2.1, bt456.2.2.1, bt456.2.2.2.1, bt456.2.2.2.2.1, bt456.2.2.2.2.2)))) else ((impl_bad.f 1).bind fun bt462 => (some (bt462.1, bt462.2.1, bt462.2.2.1, bt462.2.2.2.1, bt462.2.2.2.2.1, bt462.2.2.2.2.2)))) else (if a0 = 22 then (if a1_0 = 4 then ((impl_vInt.f (a1_3.size : Int)).bind fun bt468 => ((impl_good.f bt468.1 bt468.2.1 bt468.2.2.1 bt468.2.2.2.1 bt468.2.2.2.2).bind fun bt473 => (some (bt473.1, bt473.2.1, bt473.2.2.1, bt473.2.2.2.1, bt473.2.2.2.2.1, bt473.2.2.2.2.2)))) else ((impl_bad.f 1).bind fun bt479 => (some (bt479.1, bt479.2.1, bt479.2.2.1, bt479.2.2.2.1, bt479.2.2.2.2.1, bt479.2.2.2.2.2)))) else ((impl_bad.f 1).bind fun bt485 => (some (bt485.1, bt485.2.1, bt485.2.2.1, bt485.2.2.2.1, bt485.2.2.2.2.1, bt485.2.2.2.2.2))))))) else ((impl_bad.f 1).bind fun bt405 => (some (bt405.1, bt405.2.1, bt405.2.2.1, bt405.2.2.2.1, bt405.2.2.2.2.1, bt405.2.2.2.2.2))))
theorem impl_Unary.mono : ∀ a0 a1 a2 a3 a4 a5 k, LeO (impl_Unary.f k a0 a1 a2 a3 a4 a5) (impl_Unary.f (k + 1) a0 a1 a2 a3 a4 a5) := by
  intro a0 a1 a2 a3 a4 a5 k
  unfold impl_Unary.f
  repeat' first
      | (with_reducible exact impl_Truth.mono _ _ _ _ _ _)
      | (with_reducible exact impl_ValueOk.mono _ _ _ _ _ _)
      | (with_reducible exact LeO.refl _)
      | (with_reducible exact LeO.none _)
      | (with_reducible refine LeO.ite ?_ ?_)
      | (with_reducible refine LeO.bind ?_ (fun _ => ?_))
      | exact impl_Truth.mono _ _ _ _ _ _
      | exact impl_ValueOk.mono _ _ _ _ _ _
      | exact LeO.none _
      | refine LeO.ite ?_ ?_
      | refine LeO.bind ?_ (fun _ => ?_)
set_option maxHeartbeats 8000000 in
set_option maxRecDepth 100000 in
theorem impl_Unary.calls (k : Nat) (a0 : Int) (a1_0 : Int) (a1_1 : Int) (a1_2 : Nat) (a1_3 : ByteArray) (a1_4 : Int) (r1 : Int) (r2 : Int) (r3 : Int) (r4 : Nat) (r5 : ByteArray) (r6 : Int) (w : World) (h : impl_Unary.f k a0 a1_0 a1_1 a1_2 a1_3 a1_4 = some (r1, r2, r3, r4, r5, r6)) :
    Calls Try.prog 31 #[.int .i64 a0, .agg #[.int .i64 a1_0, .int .i64 a1_1, .float .f64 a1_2, .string a1_3, .int .i64 a1_4]] w fun e w' => e = .returned (.agg #[.int .i64 r1, .int .i64 r2, .int .i64 r3, .float .f64 r4, .string r5, .int .i64 r6]) ∧ Below w.heap.size w w' := by
  have hu28 := Try.underlying28
  have hu41 := Try.underlying41
  have HB := Aside0.mk (Below.refl w.heap.size w)
  have H : ((impl_ValueOk.f k a1_0 a1_1 a1_2 a1_3 a1_4).bind fun t404 => (if t404 = true then (if a0 = 21 then ((impl_Truth.f k a1_0 a1_1 a1_2 a1_3 a1_4).bind fun t411 => ((impl_vBool.f (!t411)).bind fun bt412 => ((impl_good.f bt412.1 bt412.2.1 bt412.2.2.1 bt412.2.2.2.1 bt412.2.2.2.2).bind fun bt417 => (some (bt417.1, bt417.2.1, bt417.2.2.1, bt417.2.2.2.1, bt417.2.2.2.2.1, bt417.2.2.2.2.2))))) else (if a0 = 19 then (if a1_0 = 2 then ((impl_vInt.f (wrap64 (-a1_1))).bind fun bt423 => ((impl_good.f bt423.1 bt423.2.1 bt423.2.2.1 bt423.2.2.2.1 bt423.2.2.2.2).bind fun bt428 => (some (bt428.1, bt428.2.1, bt428.2.2.1, bt428.2.2.2.1, bt428.2.2.2.2.1, bt428.2.2.2.2.2)))) else (if a1_0 = 3 then ((impl_vFlt.f (fneg a1_2)).bind fun bt434 => ((impl_good.f bt434.1 bt434.2.1 bt434.2.2.1 bt434.2.2.2.1 bt434.2.2.2.2).bind fun bt439 => (some (bt439.1, bt439.2.1, bt439.2.2.1, bt439.2.2.2.1, bt439.2.2.2.2.1, bt439.2.2.2.2.2)))) else ((impl_bad.f 1).bind fun bt445 => (some (bt445.1, bt445.2.1, bt445.2.2.1, bt445.2.2.2.1, bt445.2.2.2.2.1, bt445.2.2.2.2.2))))) else (if a0 = 20 then (if a1_0 = 2 then ((impl_vInt.f (Go.bits .xor .i64 (-1) a1_1)).bind fun bt451 => ((impl_good.f bt451.1 bt451.2.1 bt451.2.2.1 bt451.2.2.2.1 bt451.2.2.2.2).bind fun bt456 => (some (bt456.1, bt456.2.1, bt456.2.2.1, bt456.2.2.2.1, bt456.2.2.2.2.1, bt456.2.2.2.2.2)))) else ((impl_bad.f 1).bind fun bt462 => (some (bt462.1, bt462.2.1, bt462.2.2.1, bt462.2.2.2.1, bt462.2.2.2.2.1, bt462.2.2.2.2.2)))) else (if a0 = 22 then (if a1_0 = 4 then ((impl_vInt.f (a1_3.size : Int)).bind fun bt468 => ((impl_good.f bt468.1 bt468.2.1 bt468.2.2.1 bt468.2.2.2.1 bt468.2.2.2.2).bind fun bt473 => (some (bt473.1, bt473.2.1, bt473.2.2.1, bt473.2.2.2.1, bt473.2.2.2.2.1, bt473.2.2.2.2.2)))) else ((impl_bad.f 1).bind fun bt479 => (some (bt479.1, bt479.2.1, bt479.2.2.1, bt479.2.2.2.1, bt479.2.2.2.2.1, bt479.2.2.2.2.2)))) else ((impl_bad.f 1).bind fun bt485 => (some (bt485.1, bt485.2.1, bt485.2.2.1, bt485.2.2.2.1, bt485.2.2.2.2.1, bt485.2.2.2.2.2))))))) else ((impl_bad.f 1).bind fun bt405 => (some (bt405.1, bt405.2.1, bt405.2.2.1, bt405.2.2.2.1, bt405.2.2.2.2.1, bt405.2.2.2.2.2))))) = some (r1, r2, r3, r4, r5, r6) := h
  clear h
  replace H := Option.bind_eq_some_iff.mp H
  obtain ⟨t404, A30, H⟩ := H
  replace H : (if t404 = true then (if a0 = 21 then ((impl_Truth.f k a1_0 a1_1 a1_2 a1_3 a1_4).bind fun t411 => ((impl_vBool.f (!t411)).bind fun bt412 => ((impl_good.f bt412.1 bt412.2.1 bt412.2.2.1 bt412.2.2.2.1 bt412.2.2.2.2).bind fun bt417 => (some (bt417.1, bt417.2.1, bt417.2.2.1, bt417.2.2.2.1, bt417.2.2.2.2.1, bt417.2.2.2.2.2))))) else (if a0 = 19 then (if a1_0 = 2 then ((impl_vInt.f (wrap64 (-a1_1))).bind fun bt423 => ((impl_good.f bt423.1 bt423.2.1 bt423.2.2.1 bt423.2.2.2.1 bt423.2.2.2.2).bind fun bt428 => (some (bt428.1, bt428.2.1, bt428.2.2.1, bt428.2.2.2.1, bt428.2.2.2.2.1, bt428.2.2.2.2.2)))) else (if a1_0 = 3 then ((impl_vFlt.f (fneg a1_2)).bind fun bt434 => ((impl_good.f bt434.1 bt434.2.1 bt434.2.2.1 bt434.2.2.2.1 bt434.2.2.2.2).bind fun bt439 => (some (bt439.1, bt439.2.1, bt439.2.2.1, bt439.2.2.2.1, bt439.2.2.2.2.1, bt439.2.2.2.2.2)))) else ((impl_bad.f 1).bind fun bt445 => (some (bt445.1, bt445.2.1, bt445.2.2.1, bt445.2.2.2.1, bt445.2.2.2.2.1, bt445.2.2.2.2.2))))) else (if a0 = 20 then (if a1_0 = 2 then ((impl_vInt.f (Go.bits .xor .i64 (-1) a1_1)).bind fun bt451 => ((impl_good.f bt451.1 bt451.2.1 bt451.2.2.1 bt451.2.2.2.1 bt451.2.2.2.2).bind fun bt456 => (some (bt456.1, bt456.2.1, bt456.2.2.1, bt456.2.2.2.1, bt456.2.2.2.2.1, bt456.2.2.2.2.2)))) else ((impl_bad.f 1).bind fun bt462 => (some (bt462.1, bt462.2.1, bt462.2.2.1, bt462.2.2.2.1, bt462.2.2.2.2.1, bt462.2.2.2.2.2)))) else (if a0 = 22 then (if a1_0 = 4 then ((impl_vInt.f (a1_3.size : Int)).bind fun bt468 => ((impl_good.f bt468.1 bt468.2.1 bt468.2.2.1 bt468.2.2.2.1 bt468.2.2.2.2).bind fun bt473 => (some (bt473.1, bt473.2.1, bt473.2.2.1, bt473.2.2.2.1, bt473.2.2.2.2.1, bt473.2.2.2.2.2)))) else ((impl_bad.f 1).bind fun bt479 => (some (bt479.1, bt479.2.1, bt479.2.2.1, bt479.2.2.2.1, bt479.2.2.2.2.1, bt479.2.2.2.2.2)))) else ((impl_bad.f 1).bind fun bt485 => (some (bt485.1, bt485.2.1, bt485.2.2.1, bt485.2.2.2.1, bt485.2.2.2.2.1, bt485.2.2.2.2.2))))))) else ((impl_bad.f 1).bind fun bt405 => (some (bt405.1, bt405.2.1, bt405.2.2.1, bt405.2.2.2.1, bt405.2.2.2.2.1, bt405.2.2.2.2.2)))) = some (r1, r2, r3, r4, r5, r6) := H
  have A3 := Aside0.mk A30
  clear A30
  by_cases c4 : t404 = true
  rotate_left 1
  · replace c4 := Bool.eq_false_iff.mpr c4
    subst c4
    have H1 : ((impl_bad.f 1).bind fun bt405 => (some (bt405.1, bt405.2.1, bt405.2.2.1, bt405.2.2.2.1, bt405.2.2.2.2.1, bt405.2.2.2.2.2))) = some (r1, r2, r3, r4, r5, r6) := by rw [if_neg (show ¬ (false = true) by decide)] at H; exact H
    clear H
    have H := H1
    clear H1
    replace H := Option.bind_eq_some_iff.mp H
    obtain ⟨⟨t405, t406, t407, t408, t409, t410⟩, A1050, H⟩ := H
    replace H : (some (t405, t406, t407, t408, t409, t410)) = some (r1, r2, r3, r4, r5, r6) := H
    have A105 := Aside0.mk A1050
    clear A1050
    simp only [Option.some.injEq, Prod.mk.injEq] at H
    obtain ⟨rfl, rfl, rfl, rfl, rfl, rfl⟩ := H
    go_enter Try.func31, Try.ntmps31
    go_wp2_with (first | ((with_reducible refine gate_dst (N := 3) rfl ?_); refine box_event rfl (N := 3) rfl (cs := #[.int .i64 a1_0, .int .i64 a1_1, .float .f64 a1_2, .string a1_3, .int .i64 a1_4]) (t := 28) (by first | (go_simp; done) | (go_simp; rfl)) ?_; intro gb402 hg w106 hbox hb; have BK402 := Aside0.mk (hbox); have GW402 := (gws hg (hbe HB.out) : Aside0 (w.heap.size ≤ gb402)); have GE402 := (gws hg (hbe HB.out) : Aside0 (w.heap.size ≤ gb402)); replace HB := hbs HB.out hb; clear hb hbox hg) | ((with_reducible refine gate_dst (N := 4) rfl ?_); refine box_event rfl (N := 4) rfl (cs := #[.int .i64 0, .int .i64 0, .int .i64 0, .float .f64 0, .string (⟨#[]⟩ : ByteArray), .int .i64 0]) (t := 41) (by first | (go_simp; done) | (go_simp; rfl)) ?_; intro gb403 hg w107 hbox hb; have BK403 := Aside0.mk (hbox); have GW403 := (gws hg (hbe1 HB.out GE402.out) : Aside0 (w.heap.size ≤ gb403)); have GE403 := (gws hg (hbe1 HB.out GE402.out) : Aside0 (w.heap.size ≤ gb403)); replace HB := hbs1 HB.out GE402.out hb; have NB402_403 := nlt hg BK402.out; have NB403_402 := ngt hg BK402.out; replace BK402 := bku BK402.out hb; clear hb hbox hg; have hnb108 := NB402_403.out; have hnc108 := NB403_402.out; obtain ⟨hcz109_0, hcz109_1, hcz109_2, hcz109_3, hcz109_4, hfz109_0, hfz109_1, hfz109_2, hfz109_3, hfz109_4⟩ := cells5 BK402.out) | ((with_reducible refine gate_callee (f := 19) rfl ?_); refine goesS (some 6) rfl Try.func19 #[.agg #[.int .i64 a1_0, .int .i64 a1_1, .float .f64 a1_2, .string a1_3, .int .i64 a1_4]] rfl ?_; (with_reducible refine (impl_ValueOk.calls k a1_0 a1_1 a1_2 a1_3 a1_4 false _ A3.out).mono ?_); rintro e w110 ⟨rfl, hb⟩; refine ⟨_, rfl, ?_⟩; replace BK402 := bku BK402.out hb; replace BK403 := bku BK403.out hb; replace HB := hbs2 HB.out GE402.out GE403.out hb; (try clear hb); (try clear hb2); (try clear hk); (try clear hi)) | ((with_reducible refine gate_callee (f := 63) rfl ?_); refine goesS (some 8) rfl Try.func63 #[.int .i64 1] rfl ?_; (with_reducible refine (impl_bad.calls 1 t405 t406 t407 t408 t409 t410 _ A105.out).mono ?_); rintro e w111 ⟨rfl, hb⟩; refine ⟨_, rfl, ?_⟩; replace BK402 := bku BK402.out hb; replace BK403 := bku BK403.out hb; replace HB := hbs2 HB.out GE402.out GE403.out hb; (try clear hb); (try clear hb2); (try clear hk); (try clear hi); obtain ⟨hcz112_0, hcz112_1, hcz112_2, hcz112_3, hcz112_4, hcz112_5, hfz112_0, hfz112_1, hfz112_2, hfz112_3, hfz112_4, hfz112_5⟩ := cells6 BK403.out))
    refine bodyPost_ret (results_cell_row rfl _ _ gb403 41 #[.int .i64 t405, .int .i64 t406, .int .i64 t407, .float .f64 t408, .string t409, .int .i64 t410] (0, 0) _ rfl (by (with_reducible repeat (first | refine blk_drewN ?_ _ | refine blk_drew ?_ | refine blk_alloc ?_ _)); refine blk_put (cs := #[.int .i64 t405, .int .i64 t406, .int .i64 t407, .float .f64 t408, .string t409, .int .i64 0]) ?_ 5 _ rfl; (with_reducible repeat (first | refine blk_drewN ?_ _ | refine blk_drew ?_ | refine blk_alloc ?_ _)); refine blk_put (cs := #[.int .i64 t405, .int .i64 t406, .int .i64 t407, .float .f64 t408, .string (⟨#[]⟩ : ByteArray), .int .i64 0]) ?_ 4 _ rfl; (with_reducible repeat (first | refine blk_drewN ?_ _ | refine blk_drew ?_ | refine blk_alloc ?_ _)); refine blk_put (cs := #[.int .i64 t405, .int .i64 t406, .int .i64 t407, .float .f64 0, .string (⟨#[]⟩ : ByteArray), .int .i64 0]) ?_ 3 _ rfl; (with_reducible repeat (first | refine blk_drewN ?_ _ | refine blk_drew ?_ | refine blk_alloc ?_ _)); refine blk_put (cs := #[.int .i64 t405, .int .i64 t406, .int .i64 0, .float .f64 0, .string (⟨#[]⟩ : ByteArray), .int .i64 0]) ?_ 2 _ rfl; (with_reducible repeat (first | refine blk_drewN ?_ _ | refine blk_drew ?_ | refine blk_alloc ?_ _)); refine blk_put (cs := #[.int .i64 t405, .int .i64 0, .int .i64 0, .float .f64 0, .string (⟨#[]⟩ : ByteArray), .int .i64 0]) ?_ 1 _ rfl; (with_reducible repeat (first | refine blk_drewN ?_ _ | refine blk_drew ?_ | refine blk_alloc ?_ _)); refine blk_put (cs := #[.int .i64 0, .int .i64 0, .int .i64 0, .float .f64 0, .string (⟨#[]⟩ : ByteArray), .int .i64 0]) ?_ 0 _ rfl; (with_reducible repeat (first | refine blk_drewN ?_ _ | refine blk_drew ?_ | refine blk_alloc ?_ _)); exact BK403.out) Try.underlying41 rfl (by kernel_rfl)) rfl ?_
    exact ⟨by first | rfl | (simp <;> rfl) | (simp [*] <;> rfl), hbe2 HB.out GE402.out GE403.out⟩
  subst c4
  have H1 : (if a0 = 21 then ((impl_Truth.f k a1_0 a1_1 a1_2 a1_3 a1_4).bind fun t411 => ((impl_vBool.f (!t411)).bind fun bt412 => ((impl_good.f bt412.1 bt412.2.1 bt412.2.2.1 bt412.2.2.2.1 bt412.2.2.2.2).bind fun bt417 => (some (bt417.1, bt417.2.1, bt417.2.2.1, bt417.2.2.2.1, bt417.2.2.2.2.1, bt417.2.2.2.2.2))))) else (if a0 = 19 then (if a1_0 = 2 then ((impl_vInt.f (wrap64 (-a1_1))).bind fun bt423 => ((impl_good.f bt423.1 bt423.2.1 bt423.2.2.1 bt423.2.2.2.1 bt423.2.2.2.2).bind fun bt428 => (some (bt428.1, bt428.2.1, bt428.2.2.1, bt428.2.2.2.1, bt428.2.2.2.2.1, bt428.2.2.2.2.2)))) else (if a1_0 = 3 then ((impl_vFlt.f (fneg a1_2)).bind fun bt434 => ((impl_good.f bt434.1 bt434.2.1 bt434.2.2.1 bt434.2.2.2.1 bt434.2.2.2.2).bind fun bt439 => (some (bt439.1, bt439.2.1, bt439.2.2.1, bt439.2.2.2.1, bt439.2.2.2.2.1, bt439.2.2.2.2.2)))) else ((impl_bad.f 1).bind fun bt445 => (some (bt445.1, bt445.2.1, bt445.2.2.1, bt445.2.2.2.1, bt445.2.2.2.2.1, bt445.2.2.2.2.2))))) else (if a0 = 20 then (if a1_0 = 2 then ((impl_vInt.f (Go.bits .xor .i64 (-1) a1_1)).bind fun bt451 => ((impl_good.f bt451.1 bt451.2.1 bt451.2.2.1 bt451.2.2.2.1 bt451.2.2.2.2).bind fun bt456 => (some (bt456.1, bt456.2.1, bt456.2.2.1, bt456.2.2.2.1, bt456.2.2.2.2.1, bt456.2.2.2.2.2)))) else ((impl_bad.f 1).bind fun bt462 => (some (bt462.1, bt462.2.1, bt462.2.2.1, bt462.2.2.2.1, bt462.2.2.2.2.1, bt462.2.2.2.2.2)))) else (if a0 = 22 then (if a1_0 = 4 then ((impl_vInt.f (a1_3.size : Int)).bind fun bt468 => ((impl_good.f bt468.1 bt468.2.1 bt468.2.2.1 bt468.2.2.2.1 bt468.2.2.2.2).bind fun bt473 => (some (bt473.1, bt473.2.1, bt473.2.2.1, bt473.2.2.2.1, bt473.2.2.2.2.1, bt473.2.2.2.2.2)))) else ((impl_bad.f 1).bind fun bt479 => (some (bt479.1, bt479.2.1, bt479.2.2.1, bt479.2.2.2.1, bt479.2.2.2.2.1, bt479.2.2.2.2.2)))) else ((impl_bad.f 1).bind fun bt485 => (some (bt485.1, bt485.2.1, bt485.2.2.1, bt485.2.2.2.1, bt485.2.2.2.2.1, bt485.2.2.2.2.2))))))) = some (r1, r2, r3, r4, r5, r6) := by rw [if_pos rfl] at H; exact H
  clear H
  have H := H1
  clear H1
  by_cases c5 : a0 = 21
  · rw [if_pos c5] at H
    have c5b0 : (a0 == 21) = true := beq_iff_eq.mpr c5
    have c5b1 : (a0 != 21) = false := bne_eq_false_iff_eq.mpr c5
    clear c5
    replace H := Option.bind_eq_some_iff.mp H
    obtain ⟨t411, A60, H⟩ := H
    replace H : ((impl_vBool.f (!t411)).bind fun bt412 => ((impl_good.f bt412.1 bt412.2.1 bt412.2.2.1 bt412.2.2.2.1 bt412.2.2.2.2).bind fun bt417 => (some (bt417.1, bt417.2.1, bt417.2.2.1, bt417.2.2.2.1, bt417.2.2.2.2.1, bt417.2.2.2.2.2)))) = some (r1, r2, r3, r4, r5, r6) := H
    have A6 := Aside0.mk A60
    clear A60
    replace H := Option.bind_eq_some_iff.mp H
    obtain ⟨⟨t412, t413, t414, t415, t416⟩, A70, H⟩ := H
    replace H : ((impl_good.f t412 t413 t414 t415 t416).bind fun bt417 => (some (bt417.1, bt417.2.1, bt417.2.2.1, bt417.2.2.2.1, bt417.2.2.2.2.1, bt417.2.2.2.2.2))) = some (r1, r2, r3, r4, r5, r6) := H
    have A7 := Aside0.mk A70
    clear A70
    replace H := Option.bind_eq_some_iff.mp H
    obtain ⟨⟨t417, t418, t419, t420, t421, t422⟩, A80, H⟩ := H
    replace H : (some (t417, t418, t419, t420, t421, t422)) = some (r1, r2, r3, r4, r5, r6) := H
    have A8 := Aside0.mk A80
    clear A80
    simp only [Option.some.injEq, Prod.mk.injEq] at H
    obtain ⟨rfl, rfl, rfl, rfl, rfl, rfl⟩ := H
    go_enter Try.func31, Try.ntmps31
    go_wp2_with (first | ((with_reducible refine gate_dst (N := 3) rfl ?_); refine box_event rfl (N := 3) rfl (cs := #[.int .i64 a1_0, .int .i64 a1_1, .float .f64 a1_2, .string a1_3, .int .i64 a1_4]) (t := 28) (by first | (go_simp; done) | (go_simp; rfl)) ?_; intro gb402 hg w9 hbox hb; have BK402 := Aside0.mk (hbox); have GW402 := (gws hg (hbe HB.out) : Aside0 (w.heap.size ≤ gb402)); have GE402 := (gws hg (hbe HB.out) : Aside0 (w.heap.size ≤ gb402)); replace HB := hbs HB.out hb; clear hb hbox hg) | ((with_reducible refine gate_dst (N := 4) rfl ?_); refine box_event rfl (N := 4) rfl (cs := #[.int .i64 0, .int .i64 0, .int .i64 0, .float .f64 0, .string (⟨#[]⟩ : ByteArray), .int .i64 0]) (t := 41) (by first | (go_simp; done) | (go_simp; rfl)) ?_; intro gb403 hg w10 hbox hb; have BK403 := Aside0.mk (hbox); have GW403 := (gws hg (hbe1 HB.out GE402.out) : Aside0 (w.heap.size ≤ gb403)); have GE403 := (gws hg (hbe1 HB.out GE402.out) : Aside0 (w.heap.size ≤ gb403)); replace HB := hbs1 HB.out GE402.out hb; have NB402_403 := nlt hg BK402.out; have NB403_402 := ngt hg BK402.out; replace BK402 := bku BK402.out hb; clear hb hbox hg; have hnb11 := NB402_403.out; have hnc11 := NB403_402.out; obtain ⟨hcz12_0, hcz12_1, hcz12_2, hcz12_3, hcz12_4, hfz12_0, hfz12_1, hfz12_2, hfz12_3, hfz12_4⟩ := cells5 BK402.out) | ((with_reducible refine gate_callee (f := 19) rfl ?_); refine goesS (some 6) rfl Try.func19 #[.agg #[.int .i64 a1_0, .int .i64 a1_1, .float .f64 a1_2, .string a1_3, .int .i64 a1_4]] rfl ?_; (with_reducible refine (impl_ValueOk.calls k a1_0 a1_1 a1_2 a1_3 a1_4 true _ A3.out).mono ?_); rintro e w13 ⟨rfl, hb⟩; refine ⟨_, rfl, ?_⟩; replace BK402 := bku BK402.out hb; replace BK403 := bku BK403.out hb; replace HB := hbs2 HB.out GE402.out GE403.out hb; (try clear hb); (try clear hb2); (try clear hk); (try clear hi); obtain ⟨hcz14_0, hcz14_1, hcz14_2, hcz14_3, hcz14_4, hfz14_0, hfz14_1, hfz14_2, hfz14_3, hfz14_4⟩ := cells5 BK402.out) | ((with_reducible refine gate_callee (f := 21) rfl ?_); refine goesS (some 13) rfl Try.func21 #[.agg #[.int .i64 a1_0, .int .i64 a1_1, .float .f64 a1_2, .string a1_3, .int .i64 a1_4]] rfl ?_; (with_reducible refine (impl_Truth.calls k a1_0 a1_1 a1_2 a1_3 a1_4 t411 _ A6.out).mono ?_); rintro e w15 ⟨rfl, hb⟩; refine ⟨_, rfl, ?_⟩; replace BK402 := bku BK402.out hb; replace BK403 := bku BK403.out hb; replace HB := hbs2 HB.out GE402.out GE403.out hb; (try clear hb); (try clear hb2); (try clear hk); (try clear hi)) | ((with_reducible refine gate_callee (f := 69) rfl ?_); refine goesS (some 15) rfl Try.func69 #[.bool (!t411)] rfl ?_; (with_reducible refine (impl_vBool.calls (!t411) t412 t413 t414 t415 t416 _ A7.out).mono ?_); rintro e w16 ⟨rfl, hb⟩; refine ⟨_, rfl, ?_⟩; replace BK402 := bku BK402.out hb; replace BK403 := bku BK403.out hb; replace HB := hbs2 HB.out GE402.out GE403.out hb; (try clear hb); (try clear hb2); (try clear hk); (try clear hi)) | ((with_reducible refine gate_callee (f := 65) rfl ?_); refine goesS (some 16) rfl Try.func65 #[.agg #[.int .i64 t412, .int .i64 t413, .float .f64 t414, .string t415, .int .i64 t416]] rfl ?_; (with_reducible refine (impl_good.calls t412 t413 t414 t415 t416 t417 t418 t419 t420 t421 t422 _ A8.out).mono ?_); rintro e w17 ⟨rfl, hb⟩; refine ⟨_, rfl, ?_⟩; replace BK402 := bku BK402.out hb; replace BK403 := bku BK403.out hb; replace HB := hbs2 HB.out GE402.out GE403.out hb; (try clear hb); (try clear hb2); (try clear hk); (try clear hi); obtain ⟨hcz18_0, hcz18_1, hcz18_2, hcz18_3, hcz18_4, hcz18_5, hfz18_0, hfz18_1, hfz18_2, hfz18_3, hfz18_4, hfz18_5⟩ := cells6 BK403.out))
    refine bodyPost_ret (results_cell_row rfl _ _ gb403 41 #[.int .i64 t417, .int .i64 t418, .int .i64 t419, .float .f64 t420, .string t421, .int .i64 t422] (0, 0) _ rfl (by (with_reducible repeat (first | refine blk_drewN ?_ _ | refine blk_drew ?_ | refine blk_alloc ?_ _)); refine blk_put (cs := #[.int .i64 t417, .int .i64 t418, .int .i64 t419, .float .f64 t420, .string t421, .int .i64 0]) ?_ 5 _ rfl; (with_reducible repeat (first | refine blk_drewN ?_ _ | refine blk_drew ?_ | refine blk_alloc ?_ _)); refine blk_put (cs := #[.int .i64 t417, .int .i64 t418, .int .i64 t419, .float .f64 t420, .string (⟨#[]⟩ : ByteArray), .int .i64 0]) ?_ 4 _ rfl; (with_reducible repeat (first | refine blk_drewN ?_ _ | refine blk_drew ?_ | refine blk_alloc ?_ _)); refine blk_put (cs := #[.int .i64 t417, .int .i64 t418, .int .i64 t419, .float .f64 0, .string (⟨#[]⟩ : ByteArray), .int .i64 0]) ?_ 3 _ rfl; (with_reducible repeat (first | refine blk_drewN ?_ _ | refine blk_drew ?_ | refine blk_alloc ?_ _)); refine blk_put (cs := #[.int .i64 t417, .int .i64 t418, .int .i64 0, .float .f64 0, .string (⟨#[]⟩ : ByteArray), .int .i64 0]) ?_ 2 _ rfl; (with_reducible repeat (first | refine blk_drewN ?_ _ | refine blk_drew ?_ | refine blk_alloc ?_ _)); refine blk_put (cs := #[.int .i64 t417, .int .i64 0, .int .i64 0, .float .f64 0, .string (⟨#[]⟩ : ByteArray), .int .i64 0]) ?_ 1 _ rfl; (with_reducible repeat (first | refine blk_drewN ?_ _ | refine blk_drew ?_ | refine blk_alloc ?_ _)); refine blk_put (cs := #[.int .i64 0, .int .i64 0, .int .i64 0, .float .f64 0, .string (⟨#[]⟩ : ByteArray), .int .i64 0]) ?_ 0 _ rfl; (with_reducible repeat (first | refine blk_drewN ?_ _ | refine blk_drew ?_ | refine blk_alloc ?_ _)); exact BK403.out) Try.underlying41 rfl (by kernel_rfl)) rfl ?_
    exact ⟨by first | rfl | (simp <;> rfl) | (simp [*] <;> rfl), hbe2 HB.out GE402.out GE403.out⟩
  rw [if_neg c5] at H
  have c5b0 : (a0 == 21) = false := beq_eq_false_iff_ne.mpr c5
  have c5b1 : (a0 != 21) = true := bne_iff_ne.mpr c5
  by_cases c19 : a0 = 19
  · rw [if_pos c19] at H
    have c19b0 : (a0 == 19) = true := beq_iff_eq.mpr c19
    have c19b1 : (a0 != 19) = false := bne_eq_false_iff_eq.mpr c19
    clear c19
    by_cases c20 : a1_0 = 2
    · rw [if_pos c20] at H
      have c20b0 : (a1_0 == 2) = true := beq_iff_eq.mpr c20
      have c20b1 : (a1_0 != 2) = false := bne_eq_false_iff_eq.mpr c20
      clear c20
      replace H := Option.bind_eq_some_iff.mp H
      obtain ⟨⟨t423, t424, t425, t426, t427⟩, A210, H⟩ := H
      replace H : ((impl_good.f t423 t424 t425 t426 t427).bind fun bt428 => (some (bt428.1, bt428.2.1, bt428.2.2.1, bt428.2.2.2.1, bt428.2.2.2.2.1, bt428.2.2.2.2.2))) = some (r1, r2, r3, r4, r5, r6) := H
      have A21 := Aside0.mk A210
      clear A210
      replace H := Option.bind_eq_some_iff.mp H
      obtain ⟨⟨t428, t429, t430, t431, t432, t433⟩, A220, H⟩ := H
      replace H : (some (t428, t429, t430, t431, t432, t433)) = some (r1, r2, r3, r4, r5, r6) := H
      have A22 := Aside0.mk A220
      clear A220
      simp only [Option.some.injEq, Prod.mk.injEq] at H
      obtain ⟨rfl, rfl, rfl, rfl, rfl, rfl⟩ := H
      go_enter Try.func31, Try.ntmps31
      go_wp2_with (first | ((with_reducible refine gate_dst (N := 3) rfl ?_); refine box_event rfl (N := 3) rfl (cs := #[.int .i64 a1_0, .int .i64 a1_1, .float .f64 a1_2, .string a1_3, .int .i64 a1_4]) (t := 28) (by first | (go_simp; done) | (go_simp; rfl)) ?_; intro gb402 hg w23 hbox hb; have BK402 := Aside0.mk (hbox); have GW402 := (gws hg (hbe HB.out) : Aside0 (w.heap.size ≤ gb402)); have GE402 := (gws hg (hbe HB.out) : Aside0 (w.heap.size ≤ gb402)); replace HB := hbs HB.out hb; clear hb hbox hg) | ((with_reducible refine gate_dst (N := 4) rfl ?_); refine box_event rfl (N := 4) rfl (cs := #[.int .i64 0, .int .i64 0, .int .i64 0, .float .f64 0, .string (⟨#[]⟩ : ByteArray), .int .i64 0]) (t := 41) (by first | (go_simp; done) | (go_simp; rfl)) ?_; intro gb403 hg w24 hbox hb; have BK403 := Aside0.mk (hbox); have GW403 := (gws hg (hbe1 HB.out GE402.out) : Aside0 (w.heap.size ≤ gb403)); have GE403 := (gws hg (hbe1 HB.out GE402.out) : Aside0 (w.heap.size ≤ gb403)); replace HB := hbs1 HB.out GE402.out hb; have NB402_403 := nlt hg BK402.out; have NB403_402 := ngt hg BK402.out; replace BK402 := bku BK402.out hb; clear hb hbox hg; have hnb25 := NB402_403.out; have hnc25 := NB403_402.out; obtain ⟨hcz26_0, hcz26_1, hcz26_2, hcz26_3, hcz26_4, hfz26_0, hfz26_1, hfz26_2, hfz26_3, hfz26_4⟩ := cells5 BK402.out) | ((with_reducible refine gate_callee (f := 19) rfl ?_); refine goesS (some 6) rfl Try.func19 #[.agg #[.int .i64 a1_0, .int .i64 a1_1, .float .f64 a1_2, .string a1_3, .int .i64 a1_4]] rfl ?_; (with_reducible refine (impl_ValueOk.calls k a1_0 a1_1 a1_2 a1_3 a1_4 true _ A3.out).mono ?_); rintro e w27 ⟨rfl, hb⟩; refine ⟨_, rfl, ?_⟩; replace BK402 := bku BK402.out hb; replace BK403 := bku BK403.out hb; replace HB := hbs2 HB.out GE402.out GE403.out hb; (try clear hb); (try clear hb2); (try clear hk); (try clear hi); obtain ⟨hcz28_0, hcz28_1, hcz28_2, hcz28_3, hcz28_4, hfz28_0, hfz28_1, hfz28_2, hfz28_3, hfz28_4⟩ := cells5 BK402.out) | ((with_reducible refine gate_callee (f := 66) rfl ?_); refine goesS (some 25) rfl Try.func66 #[.int .i64 (wrap64 (-a1_1))] rfl ?_; (with_reducible refine (impl_vInt.calls (wrap64 (-a1_1)) t423 t424 t425 t426 t427 _ A21.out).mono ?_); rintro e w29 ⟨rfl, hb⟩; refine ⟨_, rfl, ?_⟩; replace BK402 := bku BK402.out hb; replace BK403 := bku BK403.out hb; replace HB := hbs2 HB.out GE402.out GE403.out hb; (try clear hb); (try clear hb2); (try clear hk); (try clear hi)) | ((with_reducible refine gate_callee (f := 65) rfl ?_); refine goesS (some 26) rfl Try.func65 #[.agg #[.int .i64 t423, .int .i64 t424, .float .f64 t425, .string t426, .int .i64 t427]] rfl ?_; (with_reducible refine (impl_good.calls t423 t424 t425 t426 t427 t428 t429 t430 t431 t432 t433 _ A22.out).mono ?_); rintro e w30 ⟨rfl, hb⟩; refine ⟨_, rfl, ?_⟩; replace BK402 := bku BK402.out hb; replace BK403 := bku BK403.out hb; replace HB := hbs2 HB.out GE402.out GE403.out hb; (try clear hb); (try clear hb2); (try clear hk); (try clear hi); obtain ⟨hcz31_0, hcz31_1, hcz31_2, hcz31_3, hcz31_4, hcz31_5, hfz31_0, hfz31_1, hfz31_2, hfz31_3, hfz31_4, hfz31_5⟩ := cells6 BK403.out))
      refine bodyPost_ret (results_cell_row rfl _ _ gb403 41 #[.int .i64 t428, .int .i64 t429, .int .i64 t430, .float .f64 t431, .string t432, .int .i64 t433] (0, 0) _ rfl (by (with_reducible repeat (first | refine blk_drewN ?_ _ | refine blk_drew ?_ | refine blk_alloc ?_ _)); refine blk_put (cs := #[.int .i64 t428, .int .i64 t429, .int .i64 t430, .float .f64 t431, .string t432, .int .i64 0]) ?_ 5 _ rfl; (with_reducible repeat (first | refine blk_drewN ?_ _ | refine blk_drew ?_ | refine blk_alloc ?_ _)); refine blk_put (cs := #[.int .i64 t428, .int .i64 t429, .int .i64 t430, .float .f64 t431, .string (⟨#[]⟩ : ByteArray), .int .i64 0]) ?_ 4 _ rfl; (with_reducible repeat (first | refine blk_drewN ?_ _ | refine blk_drew ?_ | refine blk_alloc ?_ _)); refine blk_put (cs := #[.int .i64 t428, .int .i64 t429, .int .i64 t430, .float .f64 0, .string (⟨#[]⟩ : ByteArray), .int .i64 0]) ?_ 3 _ rfl; (with_reducible repeat (first | refine blk_drewN ?_ _ | refine blk_drew ?_ | refine blk_alloc ?_ _)); refine blk_put (cs := #[.int .i64 t428, .int .i64 t429, .int .i64 0, .float .f64 0, .string (⟨#[]⟩ : ByteArray), .int .i64 0]) ?_ 2 _ rfl; (with_reducible repeat (first | refine blk_drewN ?_ _ | refine blk_drew ?_ | refine blk_alloc ?_ _)); refine blk_put (cs := #[.int .i64 t428, .int .i64 0, .int .i64 0, .float .f64 0, .string (⟨#[]⟩ : ByteArray), .int .i64 0]) ?_ 1 _ rfl; (with_reducible repeat (first | refine blk_drewN ?_ _ | refine blk_drew ?_ | refine blk_alloc ?_ _)); refine blk_put (cs := #[.int .i64 0, .int .i64 0, .int .i64 0, .float .f64 0, .string (⟨#[]⟩ : ByteArray), .int .i64 0]) ?_ 0 _ rfl; (with_reducible repeat (first | refine blk_drewN ?_ _ | refine blk_drew ?_ | refine blk_alloc ?_ _)); exact BK403.out) Try.underlying41 rfl (by kernel_rfl)) rfl ?_
      exact ⟨by first | rfl | (simp <;> rfl) | (simp [*] <;> rfl), hbe2 HB.out GE402.out GE403.out⟩
    rw [if_neg c20] at H
    have c20b0 : (a1_0 == 2) = false := beq_eq_false_iff_ne.mpr c20
    have c20b1 : (a1_0 != 2) = true := bne_iff_ne.mpr c20
    by_cases c32 : a1_0 = 3
    rotate_left 1
    · rw [if_neg c32] at H
      have c32b0 : (a1_0 == 3) = false := beq_eq_false_iff_ne.mpr c32
      have c32b1 : (a1_0 != 3) = true := bne_iff_ne.mpr c32
      replace H := Option.bind_eq_some_iff.mp H
      obtain ⟨⟨t445, t446, t447, t448, t449, t450⟩, A440, H⟩ := H
      replace H : (some (t445, t446, t447, t448, t449, t450)) = some (r1, r2, r3, r4, r5, r6) := H
      have A44 := Aside0.mk A440
      clear A440
      simp only [Option.some.injEq, Prod.mk.injEq] at H
      obtain ⟨rfl, rfl, rfl, rfl, rfl, rfl⟩ := H
      go_enter Try.func31, Try.ntmps31
      go_wp2_with (first | ((with_reducible refine gate_dst (N := 3) rfl ?_); refine box_event rfl (N := 3) rfl (cs := #[.int .i64 a1_0, .int .i64 a1_1, .float .f64 a1_2, .string a1_3, .int .i64 a1_4]) (t := 28) (by first | (go_simp; done) | (go_simp; rfl)) ?_; intro gb402 hg w45 hbox hb; have BK402 := Aside0.mk (hbox); have GW402 := (gws hg (hbe HB.out) : Aside0 (w.heap.size ≤ gb402)); have GE402 := (gws hg (hbe HB.out) : Aside0 (w.heap.size ≤ gb402)); replace HB := hbs HB.out hb; clear hb hbox hg) | ((with_reducible refine gate_dst (N := 4) rfl ?_); refine box_event rfl (N := 4) rfl (cs := #[.int .i64 0, .int .i64 0, .int .i64 0, .float .f64 0, .string (⟨#[]⟩ : ByteArray), .int .i64 0]) (t := 41) (by first | (go_simp; done) | (go_simp; rfl)) ?_; intro gb403 hg w46 hbox hb; have BK403 := Aside0.mk (hbox); have GW403 := (gws hg (hbe1 HB.out GE402.out) : Aside0 (w.heap.size ≤ gb403)); have GE403 := (gws hg (hbe1 HB.out GE402.out) : Aside0 (w.heap.size ≤ gb403)); replace HB := hbs1 HB.out GE402.out hb; have NB402_403 := nlt hg BK402.out; have NB403_402 := ngt hg BK402.out; replace BK402 := bku BK402.out hb; clear hb hbox hg; have hnb47 := NB402_403.out; have hnc47 := NB403_402.out; obtain ⟨hcz48_0, hcz48_1, hcz48_2, hcz48_3, hcz48_4, hfz48_0, hfz48_1, hfz48_2, hfz48_3, hfz48_4⟩ := cells5 BK402.out) | ((with_reducible refine gate_callee (f := 19) rfl ?_); refine goesS (some 6) rfl Try.func19 #[.agg #[.int .i64 a1_0, .int .i64 a1_1, .float .f64 a1_2, .string a1_3, .int .i64 a1_4]] rfl ?_; (with_reducible refine (impl_ValueOk.calls k a1_0 a1_1 a1_2 a1_3 a1_4 true _ A3.out).mono ?_); rintro e w49 ⟨rfl, hb⟩; refine ⟨_, rfl, ?_⟩; replace BK402 := bku BK402.out hb; replace BK403 := bku BK403.out hb; replace HB := hbs2 HB.out GE402.out GE403.out hb; (try clear hb); (try clear hb2); (try clear hk); (try clear hi); obtain ⟨hcz50_0, hcz50_1, hcz50_2, hcz50_3, hcz50_4, hfz50_0, hfz50_1, hfz50_2, hfz50_3, hfz50_4⟩ := cells5 BK402.out) | ((with_reducible refine gate_callee (f := 63) rfl ?_); refine goesS (some 55) rfl Try.func63 #[.int .i64 1] rfl ?_; (with_reducible refine (impl_bad.calls 1 t445 t446 t447 t448 t449 t450 _ A44.out).mono ?_); rintro e w51 ⟨rfl, hb⟩; refine ⟨_, rfl, ?_⟩; replace BK402 := bku BK402.out hb; replace BK403 := bku BK403.out hb; replace HB := hbs2 HB.out GE402.out GE403.out hb; (try clear hb); (try clear hb2); (try clear hk); (try clear hi); obtain ⟨hcz52_0, hcz52_1, hcz52_2, hcz52_3, hcz52_4, hcz52_5, hfz52_0, hfz52_1, hfz52_2, hfz52_3, hfz52_4, hfz52_5⟩ := cells6 BK403.out))
      refine bodyPost_ret (results_cell_row rfl _ _ gb403 41 #[.int .i64 t445, .int .i64 t446, .int .i64 t447, .float .f64 t448, .string t449, .int .i64 t450] (0, 0) _ rfl (by (with_reducible repeat (first | refine blk_drewN ?_ _ | refine blk_drew ?_ | refine blk_alloc ?_ _)); refine blk_put (cs := #[.int .i64 t445, .int .i64 t446, .int .i64 t447, .float .f64 t448, .string t449, .int .i64 0]) ?_ 5 _ rfl; (with_reducible repeat (first | refine blk_drewN ?_ _ | refine blk_drew ?_ | refine blk_alloc ?_ _)); refine blk_put (cs := #[.int .i64 t445, .int .i64 t446, .int .i64 t447, .float .f64 t448, .string (⟨#[]⟩ : ByteArray), .int .i64 0]) ?_ 4 _ rfl; (with_reducible repeat (first | refine blk_drewN ?_ _ | refine blk_drew ?_ | refine blk_alloc ?_ _)); refine blk_put (cs := #[.int .i64 t445, .int .i64 t446, .int .i64 t447, .float .f64 0, .string (⟨#[]⟩ : ByteArray), .int .i64 0]) ?_ 3 _ rfl; (with_reducible repeat (first | refine blk_drewN ?_ _ | refine blk_drew ?_ | refine blk_alloc ?_ _)); refine blk_put (cs := #[.int .i64 t445, .int .i64 t446, .int .i64 0, .float .f64 0, .string (⟨#[]⟩ : ByteArray), .int .i64 0]) ?_ 2 _ rfl; (with_reducible repeat (first | refine blk_drewN ?_ _ | refine blk_drew ?_ | refine blk_alloc ?_ _)); refine blk_put (cs := #[.int .i64 t445, .int .i64 0, .int .i64 0, .float .f64 0, .string (⟨#[]⟩ : ByteArray), .int .i64 0]) ?_ 1 _ rfl; (with_reducible repeat (first | refine blk_drewN ?_ _ | refine blk_drew ?_ | refine blk_alloc ?_ _)); refine blk_put (cs := #[.int .i64 0, .int .i64 0, .int .i64 0, .float .f64 0, .string (⟨#[]⟩ : ByteArray), .int .i64 0]) ?_ 0 _ rfl; (with_reducible repeat (first | refine blk_drewN ?_ _ | refine blk_drew ?_ | refine blk_alloc ?_ _)); exact BK403.out) Try.underlying41 rfl (by kernel_rfl)) rfl ?_
      exact ⟨by first | rfl | (simp <;> rfl) | (simp [*] <;> rfl), hbe2 HB.out GE402.out GE403.out⟩
    rw [if_pos c32] at H
    have c32b0 : (a1_0 == 3) = true := beq_iff_eq.mpr c32
    have c32b1 : (a1_0 != 3) = false := bne_eq_false_iff_eq.mpr c32
    clear c32
    replace H := Option.bind_eq_some_iff.mp H
    obtain ⟨⟨t434, t435, t436, t437, t438⟩, A330, H⟩ := H
    replace H : ((impl_good.f t434 t435 t436 t437 t438).bind fun bt439 => (some (bt439.1, bt439.2.1, bt439.2.2.1, bt439.2.2.2.1, bt439.2.2.2.2.1, bt439.2.2.2.2.2))) = some (r1, r2, r3, r4, r5, r6) := H
    have A33 := Aside0.mk A330
    clear A330
    replace H := Option.bind_eq_some_iff.mp H
    obtain ⟨⟨t439, t440, t441, t442, t443, t444⟩, A340, H⟩ := H
    replace H : (some (t439, t440, t441, t442, t443, t444)) = some (r1, r2, r3, r4, r5, r6) := H
    have A34 := Aside0.mk A340
    clear A340
    simp only [Option.some.injEq, Prod.mk.injEq] at H
    obtain ⟨rfl, rfl, rfl, rfl, rfl, rfl⟩ := H
    go_enter Try.func31, Try.ntmps31
    go_wp2_with (first | ((with_reducible refine gate_dst (N := 3) rfl ?_); refine box_event rfl (N := 3) rfl (cs := #[.int .i64 a1_0, .int .i64 a1_1, .float .f64 a1_2, .string a1_3, .int .i64 a1_4]) (t := 28) (by first | (go_simp; done) | (go_simp; rfl)) ?_; intro gb402 hg w35 hbox hb; have BK402 := Aside0.mk (hbox); have GW402 := (gws hg (hbe HB.out) : Aside0 (w.heap.size ≤ gb402)); have GE402 := (gws hg (hbe HB.out) : Aside0 (w.heap.size ≤ gb402)); replace HB := hbs HB.out hb; clear hb hbox hg) | ((with_reducible refine gate_dst (N := 4) rfl ?_); refine box_event rfl (N := 4) rfl (cs := #[.int .i64 0, .int .i64 0, .int .i64 0, .float .f64 0, .string (⟨#[]⟩ : ByteArray), .int .i64 0]) (t := 41) (by first | (go_simp; done) | (go_simp; rfl)) ?_; intro gb403 hg w36 hbox hb; have BK403 := Aside0.mk (hbox); have GW403 := (gws hg (hbe1 HB.out GE402.out) : Aside0 (w.heap.size ≤ gb403)); have GE403 := (gws hg (hbe1 HB.out GE402.out) : Aside0 (w.heap.size ≤ gb403)); replace HB := hbs1 HB.out GE402.out hb; have NB402_403 := nlt hg BK402.out; have NB403_402 := ngt hg BK402.out; replace BK402 := bku BK402.out hb; clear hb hbox hg; have hnb37 := NB402_403.out; have hnc37 := NB403_402.out; obtain ⟨hcz38_0, hcz38_1, hcz38_2, hcz38_3, hcz38_4, hfz38_0, hfz38_1, hfz38_2, hfz38_3, hfz38_4⟩ := cells5 BK402.out) | ((with_reducible refine gate_callee (f := 19) rfl ?_); refine goesS (some 6) rfl Try.func19 #[.agg #[.int .i64 a1_0, .int .i64 a1_1, .float .f64 a1_2, .string a1_3, .int .i64 a1_4]] rfl ?_; (with_reducible refine (impl_ValueOk.calls k a1_0 a1_1 a1_2 a1_3 a1_4 true _ A3.out).mono ?_); rintro e w39 ⟨rfl, hb⟩; refine ⟨_, rfl, ?_⟩; replace BK402 := bku BK402.out hb; replace BK403 := bku BK403.out hb; replace HB := hbs2 HB.out GE402.out GE403.out hb; (try clear hb); (try clear hb2); (try clear hk); (try clear hi); obtain ⟨hcz40_0, hcz40_1, hcz40_2, hcz40_3, hcz40_4, hfz40_0, hfz40_1, hfz40_2, hfz40_3, hfz40_4⟩ := cells5 BK402.out) | ((with_reducible refine gate_callee (f := 70) rfl ?_); refine goesS (some 33) rfl Try.func70 #[.float .f64 (fneg a1_2)] rfl ?_; (with_reducible refine (impl_vFlt.calls (fneg a1_2) t434 t435 t436 t437 t438 _ A33.out).mono ?_); rintro e w41 ⟨rfl, hb⟩; refine ⟨_, rfl, ?_⟩; replace BK402 := bku BK402.out hb; replace BK403 := bku BK403.out hb; replace HB := hbs2 HB.out GE402.out GE403.out hb; (try clear hb); (try clear hb2); (try clear hk); (try clear hi)) | ((with_reducible refine gate_callee (f := 65) rfl ?_); refine goesS (some 34) rfl Try.func65 #[.agg #[.int .i64 t434, .int .i64 t435, .float .f64 t436, .string t437, .int .i64 t438]] rfl ?_; (with_reducible refine (impl_good.calls t434 t435 t436 t437 t438 t439 t440 t441 t442 t443 t444 _ A34.out).mono ?_); rintro e w42 ⟨rfl, hb⟩; refine ⟨_, rfl, ?_⟩; replace BK402 := bku BK402.out hb; replace BK403 := bku BK403.out hb; replace HB := hbs2 HB.out GE402.out GE403.out hb; (try clear hb); (try clear hb2); (try clear hk); (try clear hi); obtain ⟨hcz43_0, hcz43_1, hcz43_2, hcz43_3, hcz43_4, hcz43_5, hfz43_0, hfz43_1, hfz43_2, hfz43_3, hfz43_4, hfz43_5⟩ := cells6 BK403.out))
    refine bodyPost_ret (results_cell_row rfl _ _ gb403 41 #[.int .i64 t439, .int .i64 t440, .int .i64 t441, .float .f64 t442, .string t443, .int .i64 t444] (0, 0) _ rfl (by (with_reducible repeat (first | refine blk_drewN ?_ _ | refine blk_drew ?_ | refine blk_alloc ?_ _)); refine blk_put (cs := #[.int .i64 t439, .int .i64 t440, .int .i64 t441, .float .f64 t442, .string t443, .int .i64 0]) ?_ 5 _ rfl; (with_reducible repeat (first | refine blk_drewN ?_ _ | refine blk_drew ?_ | refine blk_alloc ?_ _)); refine blk_put (cs := #[.int .i64 t439, .int .i64 t440, .int .i64 t441, .float .f64 t442, .string (⟨#[]⟩ : ByteArray), .int .i64 0]) ?_ 4 _ rfl; (with_reducible repeat (first | refine blk_drewN ?_ _ | refine blk_drew ?_ | refine blk_alloc ?_ _)); refine blk_put (cs := #[.int .i64 t439, .int .i64 t440, .int .i64 t441, .float .f64 0, .string (⟨#[]⟩ : ByteArray), .int .i64 0]) ?_ 3 _ rfl; (with_reducible repeat (first | refine blk_drewN ?_ _ | refine blk_drew ?_ | refine blk_alloc ?_ _)); refine blk_put (cs := #[.int .i64 t439, .int .i64 t440, .int .i64 0, .float .f64 0, .string (⟨#[]⟩ : ByteArray), .int .i64 0]) ?_ 2 _ rfl; (with_reducible repeat (first | refine blk_drewN ?_ _ | refine blk_drew ?_ | refine blk_alloc ?_ _)); refine blk_put (cs := #[.int .i64 t439, .int .i64 0, .int .i64 0, .float .f64 0, .string (⟨#[]⟩ : ByteArray), .int .i64 0]) ?_ 1 _ rfl; (with_reducible repeat (first | refine blk_drewN ?_ _ | refine blk_drew ?_ | refine blk_alloc ?_ _)); refine blk_put (cs := #[.int .i64 0, .int .i64 0, .int .i64 0, .float .f64 0, .string (⟨#[]⟩ : ByteArray), .int .i64 0]) ?_ 0 _ rfl; (with_reducible repeat (first | refine blk_drewN ?_ _ | refine blk_drew ?_ | refine blk_alloc ?_ _)); exact BK403.out) Try.underlying41 rfl (by kernel_rfl)) rfl ?_
    exact ⟨by first | rfl | (simp <;> rfl) | (simp [*] <;> rfl), hbe2 HB.out GE402.out GE403.out⟩
  rw [if_neg c19] at H
  have c19b0 : (a0 == 19) = false := beq_eq_false_iff_ne.mpr c19
  have c19b1 : (a0 != 19) = true := bne_iff_ne.mpr c19
  by_cases c53 : a0 = 20
  · rw [if_pos c53] at H
    have c53b0 : (a0 == 20) = true := beq_iff_eq.mpr c53
    have c53b1 : (a0 != 20) = false := bne_eq_false_iff_eq.mpr c53
    clear c53
    by_cases c54 : a1_0 = 2
    rotate_left 1
    · rw [if_neg c54] at H
      have c54b0 : (a1_0 == 2) = false := beq_eq_false_iff_ne.mpr c54
      have c54b1 : (a1_0 != 2) = true := bne_iff_ne.mpr c54
      replace H := Option.bind_eq_some_iff.mp H
      obtain ⟨⟨t462, t463, t464, t465, t466, t467⟩, A660, H⟩ := H
      replace H : (some (t462, t463, t464, t465, t466, t467)) = some (r1, r2, r3, r4, r5, r6) := H
      have A66 := Aside0.mk A660
      clear A660
      simp only [Option.some.injEq, Prod.mk.injEq] at H
      obtain ⟨rfl, rfl, rfl, rfl, rfl, rfl⟩ := H
      go_enter Try.func31, Try.ntmps31
      go_wp2_with (first | ((with_reducible refine gate_dst (N := 3) rfl ?_); refine box_event rfl (N := 3) rfl (cs := #[.int .i64 a1_0, .int .i64 a1_1, .float .f64 a1_2, .string a1_3, .int .i64 a1_4]) (t := 28) (by first | (go_simp; done) | (go_simp; rfl)) ?_; intro gb402 hg w67 hbox hb; have BK402 := Aside0.mk (hbox); have GW402 := (gws hg (hbe HB.out) : Aside0 (w.heap.size ≤ gb402)); have GE402 := (gws hg (hbe HB.out) : Aside0 (w.heap.size ≤ gb402)); replace HB := hbs HB.out hb; clear hb hbox hg) | ((with_reducible refine gate_dst (N := 4) rfl ?_); refine box_event rfl (N := 4) rfl (cs := #[.int .i64 0, .int .i64 0, .int .i64 0, .float .f64 0, .string (⟨#[]⟩ : ByteArray), .int .i64 0]) (t := 41) (by first | (go_simp; done) | (go_simp; rfl)) ?_; intro gb403 hg w68 hbox hb; have BK403 := Aside0.mk (hbox); have GW403 := (gws hg (hbe1 HB.out GE402.out) : Aside0 (w.heap.size ≤ gb403)); have GE403 := (gws hg (hbe1 HB.out GE402.out) : Aside0 (w.heap.size ≤ gb403)); replace HB := hbs1 HB.out GE402.out hb; have NB402_403 := nlt hg BK402.out; have NB403_402 := ngt hg BK402.out; replace BK402 := bku BK402.out hb; clear hb hbox hg; have hnb69 := NB402_403.out; have hnc69 := NB403_402.out; obtain ⟨hcz70_0, hcz70_1, hcz70_2, hcz70_3, hcz70_4, hfz70_0, hfz70_1, hfz70_2, hfz70_3, hfz70_4⟩ := cells5 BK402.out) | ((with_reducible refine gate_callee (f := 19) rfl ?_); refine goesS (some 6) rfl Try.func19 #[.agg #[.int .i64 a1_0, .int .i64 a1_1, .float .f64 a1_2, .string a1_3, .int .i64 a1_4]] rfl ?_; (with_reducible refine (impl_ValueOk.calls k a1_0 a1_1 a1_2 a1_3 a1_4 true _ A3.out).mono ?_); rintro e w71 ⟨rfl, hb⟩; refine ⟨_, rfl, ?_⟩; replace BK402 := bku BK402.out hb; replace BK403 := bku BK403.out hb; replace HB := hbs2 HB.out GE402.out GE403.out hb; (try clear hb); (try clear hb2); (try clear hk); (try clear hi); obtain ⟨hcz72_0, hcz72_1, hcz72_2, hcz72_3, hcz72_4, hfz72_0, hfz72_1, hfz72_2, hfz72_3, hfz72_4⟩ := cells5 BK402.out) | ((with_reducible refine gate_callee (f := 63) rfl ?_); refine goesS (some 55) rfl Try.func63 #[.int .i64 1] rfl ?_; (with_reducible refine (impl_bad.calls 1 t462 t463 t464 t465 t466 t467 _ A66.out).mono ?_); rintro e w73 ⟨rfl, hb⟩; refine ⟨_, rfl, ?_⟩; replace BK402 := bku BK402.out hb; replace BK403 := bku BK403.out hb; replace HB := hbs2 HB.out GE402.out GE403.out hb; (try clear hb); (try clear hb2); (try clear hk); (try clear hi); obtain ⟨hcz74_0, hcz74_1, hcz74_2, hcz74_3, hcz74_4, hcz74_5, hfz74_0, hfz74_1, hfz74_2, hfz74_3, hfz74_4, hfz74_5⟩ := cells6 BK403.out))
      refine bodyPost_ret (results_cell_row rfl _ _ gb403 41 #[.int .i64 t462, .int .i64 t463, .int .i64 t464, .float .f64 t465, .string t466, .int .i64 t467] (0, 0) _ rfl (by (with_reducible repeat (first | refine blk_drewN ?_ _ | refine blk_drew ?_ | refine blk_alloc ?_ _)); refine blk_put (cs := #[.int .i64 t462, .int .i64 t463, .int .i64 t464, .float .f64 t465, .string t466, .int .i64 0]) ?_ 5 _ rfl; (with_reducible repeat (first | refine blk_drewN ?_ _ | refine blk_drew ?_ | refine blk_alloc ?_ _)); refine blk_put (cs := #[.int .i64 t462, .int .i64 t463, .int .i64 t464, .float .f64 t465, .string (⟨#[]⟩ : ByteArray), .int .i64 0]) ?_ 4 _ rfl; (with_reducible repeat (first | refine blk_drewN ?_ _ | refine blk_drew ?_ | refine blk_alloc ?_ _)); refine blk_put (cs := #[.int .i64 t462, .int .i64 t463, .int .i64 t464, .float .f64 0, .string (⟨#[]⟩ : ByteArray), .int .i64 0]) ?_ 3 _ rfl; (with_reducible repeat (first | refine blk_drewN ?_ _ | refine blk_drew ?_ | refine blk_alloc ?_ _)); refine blk_put (cs := #[.int .i64 t462, .int .i64 t463, .int .i64 0, .float .f64 0, .string (⟨#[]⟩ : ByteArray), .int .i64 0]) ?_ 2 _ rfl; (with_reducible repeat (first | refine blk_drewN ?_ _ | refine blk_drew ?_ | refine blk_alloc ?_ _)); refine blk_put (cs := #[.int .i64 t462, .int .i64 0, .int .i64 0, .float .f64 0, .string (⟨#[]⟩ : ByteArray), .int .i64 0]) ?_ 1 _ rfl; (with_reducible repeat (first | refine blk_drewN ?_ _ | refine blk_drew ?_ | refine blk_alloc ?_ _)); refine blk_put (cs := #[.int .i64 0, .int .i64 0, .int .i64 0, .float .f64 0, .string (⟨#[]⟩ : ByteArray), .int .i64 0]) ?_ 0 _ rfl; (with_reducible repeat (first | refine blk_drewN ?_ _ | refine blk_drew ?_ | refine blk_alloc ?_ _)); exact BK403.out) Try.underlying41 rfl (by kernel_rfl)) rfl ?_
      exact ⟨by first | rfl | (simp <;> rfl) | (simp [*] <;> rfl), hbe2 HB.out GE402.out GE403.out⟩
    rw [if_pos c54] at H
    have c54b0 : (a1_0 == 2) = true := beq_iff_eq.mpr c54
    have c54b1 : (a1_0 != 2) = false := bne_eq_false_iff_eq.mpr c54
    clear c54
    replace H := Option.bind_eq_some_iff.mp H
    obtain ⟨⟨t451, t452, t453, t454, t455⟩, A550, H⟩ := H
    replace H : ((impl_good.f t451 t452 t453 t454 t455).bind fun bt456 => (some (bt456.1, bt456.2.1, bt456.2.2.1, bt456.2.2.2.1, bt456.2.2.2.2.1, bt456.2.2.2.2.2))) = some (r1, r2, r3, r4, r5, r6) := H
    have A55 := Aside0.mk A550
    clear A550
    replace H := Option.bind_eq_some_iff.mp H
    obtain ⟨⟨t456, t457, t458, t459, t460, t461⟩, A560, H⟩ := H
    replace H : (some (t456, t457, t458, t459, t460, t461)) = some (r1, r2, r3, r4, r5, r6) := H
    have A56 := Aside0.mk A560
    clear A560
    simp only [Option.some.injEq, Prod.mk.injEq] at H
    obtain ⟨rfl, rfl, rfl, rfl, rfl, rfl⟩ := H
    go_enter Try.func31, Try.ntmps31
    go_wp2_with (first | ((with_reducible refine gate_dst (N := 3) rfl ?_); refine box_event rfl (N := 3) rfl (cs := #[.int .i64 a1_0, .int .i64 a1_1, .float .f64 a1_2, .string a1_3, .int .i64 a1_4]) (t := 28) (by first | (go_simp; done) | (go_simp; rfl)) ?_; intro gb402 hg w57 hbox hb; have BK402 := Aside0.mk (hbox); have GW402 := (gws hg (hbe HB.out) : Aside0 (w.heap.size ≤ gb402)); have GE402 := (gws hg (hbe HB.out) : Aside0 (w.heap.size ≤ gb402)); replace HB := hbs HB.out hb; clear hb hbox hg) | ((with_reducible refine gate_dst (N := 4) rfl ?_); refine box_event rfl (N := 4) rfl (cs := #[.int .i64 0, .int .i64 0, .int .i64 0, .float .f64 0, .string (⟨#[]⟩ : ByteArray), .int .i64 0]) (t := 41) (by first | (go_simp; done) | (go_simp; rfl)) ?_; intro gb403 hg w58 hbox hb; have BK403 := Aside0.mk (hbox); have GW403 := (gws hg (hbe1 HB.out GE402.out) : Aside0 (w.heap.size ≤ gb403)); have GE403 := (gws hg (hbe1 HB.out GE402.out) : Aside0 (w.heap.size ≤ gb403)); replace HB := hbs1 HB.out GE402.out hb; have NB402_403 := nlt hg BK402.out; have NB403_402 := ngt hg BK402.out; replace BK402 := bku BK402.out hb; clear hb hbox hg; have hnb59 := NB402_403.out; have hnc59 := NB403_402.out; obtain ⟨hcz60_0, hcz60_1, hcz60_2, hcz60_3, hcz60_4, hfz60_0, hfz60_1, hfz60_2, hfz60_3, hfz60_4⟩ := cells5 BK402.out) | ((with_reducible refine gate_callee (f := 19) rfl ?_); refine goesS (some 6) rfl Try.func19 #[.agg #[.int .i64 a1_0, .int .i64 a1_1, .float .f64 a1_2, .string a1_3, .int .i64 a1_4]] rfl ?_; (with_reducible refine (impl_ValueOk.calls k a1_0 a1_1 a1_2 a1_3 a1_4 true _ A3.out).mono ?_); rintro e w61 ⟨rfl, hb⟩; refine ⟨_, rfl, ?_⟩; replace BK402 := bku BK402.out hb; replace BK403 := bku BK403.out hb; replace HB := hbs2 HB.out GE402.out GE403.out hb; (try clear hb); (try clear hb2); (try clear hk); (try clear hi); obtain ⟨hcz62_0, hcz62_1, hcz62_2, hcz62_3, hcz62_4, hfz62_0, hfz62_1, hfz62_2, hfz62_3, hfz62_4⟩ := cells5 BK402.out) | ((with_reducible refine gate_callee (f := 66) rfl ?_); refine goesS (some 43) rfl Try.func66 #[.int .i64 (Go.bits .xor .i64 (-1) a1_1)] rfl ?_; (with_reducible refine (impl_vInt.calls (Go.bits .xor .i64 (-1) a1_1) t451 t452 t453 t454 t455 _ A55.out).mono ?_); rintro e w63 ⟨rfl, hb⟩; refine ⟨_, rfl, ?_⟩; replace BK402 := bku BK402.out hb; replace BK403 := bku BK403.out hb; replace HB := hbs2 HB.out GE402.out GE403.out hb; (try clear hb); (try clear hb2); (try clear hk); (try clear hi)) | ((with_reducible refine gate_callee (f := 65) rfl ?_); refine goesS (some 44) rfl Try.func65 #[.agg #[.int .i64 t451, .int .i64 t452, .float .f64 t453, .string t454, .int .i64 t455]] rfl ?_; (with_reducible refine (impl_good.calls t451 t452 t453 t454 t455 t456 t457 t458 t459 t460 t461 _ A56.out).mono ?_); rintro e w64 ⟨rfl, hb⟩; refine ⟨_, rfl, ?_⟩; replace BK402 := bku BK402.out hb; replace BK403 := bku BK403.out hb; replace HB := hbs2 HB.out GE402.out GE403.out hb; (try clear hb); (try clear hb2); (try clear hk); (try clear hi); obtain ⟨hcz65_0, hcz65_1, hcz65_2, hcz65_3, hcz65_4, hcz65_5, hfz65_0, hfz65_1, hfz65_2, hfz65_3, hfz65_4, hfz65_5⟩ := cells6 BK403.out))
    refine bodyPost_ret (results_cell_row rfl _ _ gb403 41 #[.int .i64 t456, .int .i64 t457, .int .i64 t458, .float .f64 t459, .string t460, .int .i64 t461] (0, 0) _ rfl (by (with_reducible repeat (first | refine blk_drewN ?_ _ | refine blk_drew ?_ | refine blk_alloc ?_ _)); refine blk_put (cs := #[.int .i64 t456, .int .i64 t457, .int .i64 t458, .float .f64 t459, .string t460, .int .i64 0]) ?_ 5 _ rfl; (with_reducible repeat (first | refine blk_drewN ?_ _ | refine blk_drew ?_ | refine blk_alloc ?_ _)); refine blk_put (cs := #[.int .i64 t456, .int .i64 t457, .int .i64 t458, .float .f64 t459, .string (⟨#[]⟩ : ByteArray), .int .i64 0]) ?_ 4 _ rfl; (with_reducible repeat (first | refine blk_drewN ?_ _ | refine blk_drew ?_ | refine blk_alloc ?_ _)); refine blk_put (cs := #[.int .i64 t456, .int .i64 t457, .int .i64 t458, .float .f64 0, .string (⟨#[]⟩ : ByteArray), .int .i64 0]) ?_ 3 _ rfl; (with_reducible repeat (first | refine blk_drewN ?_ _ | refine blk_drew ?_ | refine blk_alloc ?_ _)); refine blk_put (cs := #[.int .i64 t456, .int .i64 t457, .int .i64 0, .float .f64 0, .string (⟨#[]⟩ : ByteArray), .int .i64 0]) ?_ 2 _ rfl; (with_reducible repeat (first | refine blk_drewN ?_ _ | refine blk_drew ?_ | refine blk_alloc ?_ _)); refine blk_put (cs := #[.int .i64 t456, .int .i64 0, .int .i64 0, .float .f64 0, .string (⟨#[]⟩ : ByteArray), .int .i64 0]) ?_ 1 _ rfl; (with_reducible repeat (first | refine blk_drewN ?_ _ | refine blk_drew ?_ | refine blk_alloc ?_ _)); refine blk_put (cs := #[.int .i64 0, .int .i64 0, .int .i64 0, .float .f64 0, .string (⟨#[]⟩ : ByteArray), .int .i64 0]) ?_ 0 _ rfl; (with_reducible repeat (first | refine blk_drewN ?_ _ | refine blk_drew ?_ | refine blk_alloc ?_ _)); exact BK403.out) Try.underlying41 rfl (by kernel_rfl)) rfl ?_
    exact ⟨by first | rfl | (simp <;> rfl) | (simp [*] <;> rfl), hbe2 HB.out GE402.out GE403.out⟩
  rw [if_neg c53] at H
  have c53b0 : (a0 == 20) = false := beq_eq_false_iff_ne.mpr c53
  have c53b1 : (a0 != 20) = true := bne_iff_ne.mpr c53
  by_cases c75 : a0 = 22
  rotate_left 1
  · rw [if_neg c75] at H
    have c75b0 : (a0 == 22) = false := beq_eq_false_iff_ne.mpr c75
    have c75b1 : (a0 != 22) = true := bne_iff_ne.mpr c75
    replace H := Option.bind_eq_some_iff.mp H
    obtain ⟨⟨t485, t486, t487, t488, t489, t490⟩, A970, H⟩ := H
    replace H : (some (t485, t486, t487, t488, t489, t490)) = some (r1, r2, r3, r4, r5, r6) := H
    have A97 := Aside0.mk A970
    clear A970
    simp only [Option.some.injEq, Prod.mk.injEq] at H
    obtain ⟨rfl, rfl, rfl, rfl, rfl, rfl⟩ := H
    go_enter Try.func31, Try.ntmps31
    go_wp2_with (first | ((with_reducible refine gate_dst (N := 3) rfl ?_); refine box_event rfl (N := 3) rfl (cs := #[.int .i64 a1_0, .int .i64 a1_1, .float .f64 a1_2, .string a1_3, .int .i64 a1_4]) (t := 28) (by first | (go_simp; done) | (go_simp; rfl)) ?_; intro gb402 hg w98 hbox hb; have BK402 := Aside0.mk (hbox); have GW402 := (gws hg (hbe HB.out) : Aside0 (w.heap.size ≤ gb402)); have GE402 := (gws hg (hbe HB.out) : Aside0 (w.heap.size ≤ gb402)); replace HB := hbs HB.out hb; clear hb hbox hg) | ((with_reducible refine gate_dst (N := 4) rfl ?_); refine box_event rfl (N := 4) rfl (cs := #[.int .i64 0, .int .i64 0, .int .i64 0, .float .f64 0, .string (⟨#[]⟩ : ByteArray), .int .i64 0]) (t := 41) (by first | (go_simp; done) | (go_simp; rfl)) ?_; intro gb403 hg w99 hbox hb; have BK403 := Aside0.mk (hbox); have GW403 := (gws hg (hbe1 HB.out GE402.out) : Aside0 (w.heap.size ≤ gb403)); have GE403 := (gws hg (hbe1 HB.out GE402.out) : Aside0 (w.heap.size ≤ gb403)); replace HB := hbs1 HB.out GE402.out hb; have NB402_403 := nlt hg BK402.out; have NB403_402 := ngt hg BK402.out; replace BK402 := bku BK402.out hb; clear hb hbox hg; have hnb100 := NB402_403.out; have hnc100 := NB403_402.out; obtain ⟨hcz101_0, hcz101_1, hcz101_2, hcz101_3, hcz101_4, hfz101_0, hfz101_1, hfz101_2, hfz101_3, hfz101_4⟩ := cells5 BK402.out) | ((with_reducible refine gate_callee (f := 19) rfl ?_); refine goesS (some 6) rfl Try.func19 #[.agg #[.int .i64 a1_0, .int .i64 a1_1, .float .f64 a1_2, .string a1_3, .int .i64 a1_4]] rfl ?_; (with_reducible refine (impl_ValueOk.calls k a1_0 a1_1 a1_2 a1_3 a1_4 true _ A3.out).mono ?_); rintro e w102 ⟨rfl, hb⟩; refine ⟨_, rfl, ?_⟩; replace BK402 := bku BK402.out hb; replace BK403 := bku BK403.out hb; replace HB := hbs2 HB.out GE402.out GE403.out hb; (try clear hb); (try clear hb2); (try clear hk); (try clear hi)) | ((with_reducible refine gate_callee (f := 63) rfl ?_); refine goesS (some 55) rfl Try.func63 #[.int .i64 1] rfl ?_; (with_reducible refine (impl_bad.calls 1 t485 t486 t487 t488 t489 t490 _ A97.out).mono ?_); rintro e w103 ⟨rfl, hb⟩; refine ⟨_, rfl, ?_⟩; replace BK402 := bku BK402.out hb; replace BK403 := bku BK403.out hb; replace HB := hbs2 HB.out GE402.out GE403.out hb; (try clear hb); (try clear hb2); (try clear hk); (try clear hi); obtain ⟨hcz104_0, hcz104_1, hcz104_2, hcz104_3, hcz104_4, hcz104_5, hfz104_0, hfz104_1, hfz104_2, hfz104_3, hfz104_4, hfz104_5⟩ := cells6 BK403.out))
    refine bodyPost_ret (results_cell_row rfl _ _ gb403 41 #[.int .i64 t485, .int .i64 t486, .int .i64 t487, .float .f64 t488, .string t489, .int .i64 t490] (0, 0) _ rfl (by (with_reducible repeat (first | refine blk_drewN ?_ _ | refine blk_drew ?_ | refine blk_alloc ?_ _)); refine blk_put (cs := #[.int .i64 t485, .int .i64 t486, .int .i64 t487, .float .f64 t488, .string t489, .int .i64 0]) ?_ 5 _ rfl; (with_reducible repeat (first | refine blk_drewN ?_ _ | refine blk_drew ?_ | refine blk_alloc ?_ _)); refine blk_put (cs := #[.int .i64 t485, .int .i64 t486, .int .i64 t487, .float .f64 t488, .string (⟨#[]⟩ : ByteArray), .int .i64 0]) ?_ 4 _ rfl; (with_reducible repeat (first | refine blk_drewN ?_ _ | refine blk_drew ?_ | refine blk_alloc ?_ _)); refine blk_put (cs := #[.int .i64 t485, .int .i64 t486, .int .i64 t487, .float .f64 0, .string (⟨#[]⟩ : ByteArray), .int .i64 0]) ?_ 3 _ rfl; (with_reducible repeat (first | refine blk_drewN ?_ _ | refine blk_drew ?_ | refine blk_alloc ?_ _)); refine blk_put (cs := #[.int .i64 t485, .int .i64 t486, .int .i64 0, .float .f64 0, .string (⟨#[]⟩ : ByteArray), .int .i64 0]) ?_ 2 _ rfl; (with_reducible repeat (first | refine blk_drewN ?_ _ | refine blk_drew ?_ | refine blk_alloc ?_ _)); refine blk_put (cs := #[.int .i64 t485, .int .i64 0, .int .i64 0, .float .f64 0, .string (⟨#[]⟩ : ByteArray), .int .i64 0]) ?_ 1 _ rfl; (with_reducible repeat (first | refine blk_drewN ?_ _ | refine blk_drew ?_ | refine blk_alloc ?_ _)); refine blk_put (cs := #[.int .i64 0, .int .i64 0, .int .i64 0, .float .f64 0, .string (⟨#[]⟩ : ByteArray), .int .i64 0]) ?_ 0 _ rfl; (with_reducible repeat (first | refine blk_drewN ?_ _ | refine blk_drew ?_ | refine blk_alloc ?_ _)); exact BK403.out) Try.underlying41 rfl (by kernel_rfl)) rfl ?_
    exact ⟨by first | rfl | (simp <;> rfl) | (simp [*] <;> rfl), hbe2 HB.out GE402.out GE403.out⟩
  rw [if_pos c75] at H
  have c75b0 : (a0 == 22) = true := beq_iff_eq.mpr c75
  have c75b1 : (a0 != 22) = false := bne_eq_false_iff_eq.mpr c75
  clear c75
  by_cases c76 : a1_0 = 4
  rotate_left 1
  · rw [if_neg c76] at H
    have c76b0 : (a1_0 == 4) = false := beq_eq_false_iff_ne.mpr c76
    have c76b1 : (a1_0 != 4) = true := bne_iff_ne.mpr c76
    replace H := Option.bind_eq_some_iff.mp H
    obtain ⟨⟨t479, t480, t481, t482, t483, t484⟩, A880, H⟩ := H
    replace H : (some (t479, t480, t481, t482, t483, t484)) = some (r1, r2, r3, r4, r5, r6) := H
    have A88 := Aside0.mk A880
    clear A880
    simp only [Option.some.injEq, Prod.mk.injEq] at H
    obtain ⟨rfl, rfl, rfl, rfl, rfl, rfl⟩ := H
    go_enter Try.func31, Try.ntmps31
    go_wp2_with (first | ((with_reducible refine gate_dst (N := 3) rfl ?_); refine box_event rfl (N := 3) rfl (cs := #[.int .i64 a1_0, .int .i64 a1_1, .float .f64 a1_2, .string a1_3, .int .i64 a1_4]) (t := 28) (by first | (go_simp; done) | (go_simp; rfl)) ?_; intro gb402 hg w89 hbox hb; have BK402 := Aside0.mk (hbox); have GW402 := (gws hg (hbe HB.out) : Aside0 (w.heap.size ≤ gb402)); have GE402 := (gws hg (hbe HB.out) : Aside0 (w.heap.size ≤ gb402)); replace HB := hbs HB.out hb; clear hb hbox hg) | ((with_reducible refine gate_dst (N := 4) rfl ?_); refine box_event rfl (N := 4) rfl (cs := #[.int .i64 0, .int .i64 0, .int .i64 0, .float .f64 0, .string (⟨#[]⟩ : ByteArray), .int .i64 0]) (t := 41) (by first | (go_simp; done) | (go_simp; rfl)) ?_; intro gb403 hg w90 hbox hb; have BK403 := Aside0.mk (hbox); have GW403 := (gws hg (hbe1 HB.out GE402.out) : Aside0 (w.heap.size ≤ gb403)); have GE403 := (gws hg (hbe1 HB.out GE402.out) : Aside0 (w.heap.size ≤ gb403)); replace HB := hbs1 HB.out GE402.out hb; have NB402_403 := nlt hg BK402.out; have NB403_402 := ngt hg BK402.out; replace BK402 := bku BK402.out hb; clear hb hbox hg; have hnb91 := NB402_403.out; have hnc91 := NB403_402.out; obtain ⟨hcz92_0, hcz92_1, hcz92_2, hcz92_3, hcz92_4, hfz92_0, hfz92_1, hfz92_2, hfz92_3, hfz92_4⟩ := cells5 BK402.out) | ((with_reducible refine gate_callee (f := 19) rfl ?_); refine goesS (some 6) rfl Try.func19 #[.agg #[.int .i64 a1_0, .int .i64 a1_1, .float .f64 a1_2, .string a1_3, .int .i64 a1_4]] rfl ?_; (with_reducible refine (impl_ValueOk.calls k a1_0 a1_1 a1_2 a1_3 a1_4 true _ A3.out).mono ?_); rintro e w93 ⟨rfl, hb⟩; refine ⟨_, rfl, ?_⟩; replace BK402 := bku BK402.out hb; replace BK403 := bku BK403.out hb; replace HB := hbs2 HB.out GE402.out GE403.out hb; (try clear hb); (try clear hb2); (try clear hk); (try clear hi); obtain ⟨hcz94_0, hcz94_1, hcz94_2, hcz94_3, hcz94_4, hfz94_0, hfz94_1, hfz94_2, hfz94_3, hfz94_4⟩ := cells5 BK402.out) | ((with_reducible refine gate_callee (f := 63) rfl ?_); refine goesS (some 55) rfl Try.func63 #[.int .i64 1] rfl ?_; (with_reducible refine (impl_bad.calls 1 t479 t480 t481 t482 t483 t484 _ A88.out).mono ?_); rintro e w95 ⟨rfl, hb⟩; refine ⟨_, rfl, ?_⟩; replace BK402 := bku BK402.out hb; replace BK403 := bku BK403.out hb; replace HB := hbs2 HB.out GE402.out GE403.out hb; (try clear hb); (try clear hb2); (try clear hk); (try clear hi); obtain ⟨hcz96_0, hcz96_1, hcz96_2, hcz96_3, hcz96_4, hcz96_5, hfz96_0, hfz96_1, hfz96_2, hfz96_3, hfz96_4, hfz96_5⟩ := cells6 BK403.out))
    refine bodyPost_ret (results_cell_row rfl _ _ gb403 41 #[.int .i64 t479, .int .i64 t480, .int .i64 t481, .float .f64 t482, .string t483, .int .i64 t484] (0, 0) _ rfl (by (with_reducible repeat (first | refine blk_drewN ?_ _ | refine blk_drew ?_ | refine blk_alloc ?_ _)); refine blk_put (cs := #[.int .i64 t479, .int .i64 t480, .int .i64 t481, .float .f64 t482, .string t483, .int .i64 0]) ?_ 5 _ rfl; (with_reducible repeat (first | refine blk_drewN ?_ _ | refine blk_drew ?_ | refine blk_alloc ?_ _)); refine blk_put (cs := #[.int .i64 t479, .int .i64 t480, .int .i64 t481, .float .f64 t482, .string (⟨#[]⟩ : ByteArray), .int .i64 0]) ?_ 4 _ rfl; (with_reducible repeat (first | refine blk_drewN ?_ _ | refine blk_drew ?_ | refine blk_alloc ?_ _)); refine blk_put (cs := #[.int .i64 t479, .int .i64 t480, .int .i64 t481, .float .f64 0, .string (⟨#[]⟩ : ByteArray), .int .i64 0]) ?_ 3 _ rfl; (with_reducible repeat (first | refine blk_drewN ?_ _ | refine blk_drew ?_ | refine blk_alloc ?_ _)); refine blk_put (cs := #[.int .i64 t479, .int .i64 t480, .int .i64 0, .float .f64 0, .string (⟨#[]⟩ : ByteArray), .int .i64 0]) ?_ 2 _ rfl; (with_reducible repeat (first | refine blk_drewN ?_ _ | refine blk_drew ?_ | refine blk_alloc ?_ _)); refine blk_put (cs := #[.int .i64 t479, .int .i64 0, .int .i64 0, .float .f64 0, .string (⟨#[]⟩ : ByteArray), .int .i64 0]) ?_ 1 _ rfl; (with_reducible repeat (first | refine blk_drewN ?_ _ | refine blk_drew ?_ | refine blk_alloc ?_ _)); refine blk_put (cs := #[.int .i64 0, .int .i64 0, .int .i64 0, .float .f64 0, .string (⟨#[]⟩ : ByteArray), .int .i64 0]) ?_ 0 _ rfl; (with_reducible repeat (first | refine blk_drewN ?_ _ | refine blk_drew ?_ | refine blk_alloc ?_ _)); exact BK403.out) Try.underlying41 rfl (by kernel_rfl)) rfl ?_
    exact ⟨by first | rfl | (simp <;> rfl) | (simp [*] <;> rfl), hbe2 HB.out GE402.out GE403.out⟩
  rw [if_pos c76] at H
  have c76b0 : (a1_0 == 4) = true := beq_iff_eq.mpr c76
  have c76b1 : (a1_0 != 4) = false := bne_eq_false_iff_eq.mpr c76
  clear c76
  replace H := Option.bind_eq_some_iff.mp H
  obtain ⟨⟨t468, t469, t470, t471, t472⟩, A770, H⟩ := H
  replace H : ((impl_good.f t468 t469 t470 t471 t472).bind fun bt473 => (some (bt473.1, bt473.2.1, bt473.2.2.1, bt473.2.2.2.1, bt473.2.2.2.2.1, bt473.2.2.2.2.2))) = some (r1, r2, r3, r4, r5, r6) := H
  have A77 := Aside0.mk A770
  clear A770
  replace H := Option.bind_eq_some_iff.mp H
  obtain ⟨⟨t473, t474, t475, t476, t477, t478⟩, A780, H⟩ := H
  replace H : (some (t473, t474, t475, t476, t477, t478)) = some (r1, r2, r3, r4, r5, r6) := H
  have A78 := Aside0.mk A780
  clear A780
  simp only [Option.some.injEq, Prod.mk.injEq] at H
  obtain ⟨rfl, rfl, rfl, rfl, rfl, rfl⟩ := H
  go_enter Try.func31, Try.ntmps31
  go_wp2_with (first | ((with_reducible refine gate_dst (N := 3) rfl ?_); refine box_event rfl (N := 3) rfl (cs := #[.int .i64 a1_0, .int .i64 a1_1, .float .f64 a1_2, .string a1_3, .int .i64 a1_4]) (t := 28) (by first | (go_simp; done) | (go_simp; rfl)) ?_; intro gb402 hg w79 hbox hb; have BK402 := Aside0.mk (hbox); have GW402 := (gws hg (hbe HB.out) : Aside0 (w.heap.size ≤ gb402)); have GE402 := (gws hg (hbe HB.out) : Aside0 (w.heap.size ≤ gb402)); replace HB := hbs HB.out hb; clear hb hbox hg) | ((with_reducible refine gate_dst (N := 4) rfl ?_); refine box_event rfl (N := 4) rfl (cs := #[.int .i64 0, .int .i64 0, .int .i64 0, .float .f64 0, .string (⟨#[]⟩ : ByteArray), .int .i64 0]) (t := 41) (by first | (go_simp; done) | (go_simp; rfl)) ?_; intro gb403 hg w80 hbox hb; have BK403 := Aside0.mk (hbox); have GW403 := (gws hg (hbe1 HB.out GE402.out) : Aside0 (w.heap.size ≤ gb403)); have GE403 := (gws hg (hbe1 HB.out GE402.out) : Aside0 (w.heap.size ≤ gb403)); replace HB := hbs1 HB.out GE402.out hb; have NB402_403 := nlt hg BK402.out; have NB403_402 := ngt hg BK402.out; replace BK402 := bku BK402.out hb; clear hb hbox hg; have hnb81 := NB402_403.out; have hnc81 := NB403_402.out; obtain ⟨hcz82_0, hcz82_1, hcz82_2, hcz82_3, hcz82_4, hfz82_0, hfz82_1, hfz82_2, hfz82_3, hfz82_4⟩ := cells5 BK402.out) | ((with_reducible refine gate_callee (f := 19) rfl ?_); refine goesS (some 6) rfl Try.func19 #[.agg #[.int .i64 a1_0, .int .i64 a1_1, .float .f64 a1_2, .string a1_3, .int .i64 a1_4]] rfl ?_; (with_reducible refine (impl_ValueOk.calls k a1_0 a1_1 a1_2 a1_3 a1_4 true _ A3.out).mono ?_); rintro e w83 ⟨rfl, hb⟩; refine ⟨_, rfl, ?_⟩; replace BK402 := bku BK402.out hb; replace BK403 := bku BK403.out hb; replace HB := hbs2 HB.out GE402.out GE403.out hb; (try clear hb); (try clear hb2); (try clear hk); (try clear hi); obtain ⟨hcz84_0, hcz84_1, hcz84_2, hcz84_3, hcz84_4, hfz84_0, hfz84_1, hfz84_2, hfz84_3, hfz84_4⟩ := cells5 BK402.out) | ((with_reducible refine gate_callee (f := 66) rfl ?_); refine goesS (some 53) rfl Try.func66 #[.int .i64 (a1_3.size : Int)] rfl ?_; (with_reducible refine (impl_vInt.calls (a1_3.size : Int) t468 t469 t470 t471 t472 _ A77.out).mono ?_); rintro e w85 ⟨rfl, hb⟩; refine ⟨_, rfl, ?_⟩; replace BK402 := bku BK402.out hb; replace BK403 := bku BK403.out hb; replace HB := hbs2 HB.out GE402.out GE403.out hb; (try clear hb); (try clear hb2); (try clear hk); (try clear hi)) | ((with_reducible refine gate_callee (f := 65) rfl ?_); refine goesS (some 54) rfl Try.func65 #[.agg #[.int .i64 t468, .int .i64 t469, .float .f64 t470, .string t471, .int .i64 t472]] rfl ?_; (with_reducible refine (impl_good.calls t468 t469 t470 t471 t472 t473 t474 t475 t476 t477 t478 _ A78.out).mono ?_); rintro e w86 ⟨rfl, hb⟩; refine ⟨_, rfl, ?_⟩; replace BK402 := bku BK402.out hb; replace BK403 := bku BK403.out hb; replace HB := hbs2 HB.out GE402.out GE403.out hb; (try clear hb); (try clear hb2); (try clear hk); (try clear hi); obtain ⟨hcz87_0, hcz87_1, hcz87_2, hcz87_3, hcz87_4, hcz87_5, hfz87_0, hfz87_1, hfz87_2, hfz87_3, hfz87_4, hfz87_5⟩ := cells6 BK403.out))
  refine bodyPost_ret (results_cell_row rfl _ _ gb403 41 #[.int .i64 t473, .int .i64 t474, .int .i64 t475, .float .f64 t476, .string t477, .int .i64 t478] (0, 0) _ rfl (by (with_reducible repeat (first | refine blk_drewN ?_ _ | refine blk_drew ?_ | refine blk_alloc ?_ _)); refine blk_put (cs := #[.int .i64 t473, .int .i64 t474, .int .i64 t475, .float .f64 t476, .string t477, .int .i64 0]) ?_ 5 _ rfl; (with_reducible repeat (first | refine blk_drewN ?_ _ | refine blk_drew ?_ | refine blk_alloc ?_ _)); refine blk_put (cs := #[.int .i64 t473, .int .i64 t474, .int .i64 t475, .float .f64 t476, .string (⟨#[]⟩ : ByteArray), .int .i64 0]) ?_ 4 _ rfl; (with_reducible repeat (first | refine blk_drewN ?_ _ | refine blk_drew ?_ | refine blk_alloc ?_ _)); refine blk_put (cs := #[.int .i64 t473, .int .i64 t474, .int .i64 t475, .float .f64 0, .string (⟨#[]⟩ : ByteArray), .int .i64 0]) ?_ 3 _ rfl; (with_reducible repeat (first | refine blk_drewN ?_ _ | refine blk_drew ?_ | refine blk_alloc ?_ _)); refine blk_put (cs := #[.int .i64 t473, .int .i64 t474, .int .i64 0, .float .f64 0, .string (⟨#[]⟩ : ByteArray), .int .i64 0]) ?_ 2 _ rfl; (with_reducible repeat (first | refine blk_drewN ?_ _ | refine blk_drew ?_ | refine blk_alloc ?_ _)); refine blk_put (cs := #[.int .i64 t473, .int .i64 0, .int .i64 0, .float .f64 0, .string (⟨#[]⟩ : ByteArray), .int .i64 0]) ?_ 1 _ rfl; (with_reducible repeat (first | refine blk_drewN ?_ _ | refine blk_drew ?_ | refine blk_alloc ?_ _)); refine blk_put (cs := #[.int .i64 0, .int .i64 0, .int .i64 0, .float .f64 0, .string (⟨#[]⟩ : ByteArray), .int .i64 0]) ?_ 0 _ rfl; (with_reducible repeat (first | refine blk_drewN ?_ _ | refine blk_drew ?_ | refine blk_alloc ?_ _)); exact BK403.out) Try.underlying41 rfl (by kernel_rfl)) rfl ?_
  exact ⟨by first | rfl | (simp <;> rfl) | (simp [*] <;> rfl), hbe2 HB.out GE402.out GE403.out⟩

/-! ### laws_FnExactUnary: function 8 -/
def laws_FnExactUnary.f (k : Nat) (a0 : Int) (a1_0 : Int) (a1_1 : Int) (a1_2 : Nat) (a1_3 : ByteArray) (a1_4 : Int) : Option (Bool) := (laws_szValue.f a1_0 a1_1 a1_2 a1_3 a1_4 1048576).bind fun t492 => (if t492 < 0 then (some true) else ((laws_toValue.f a1_0 a1_1 a1_2 a1_3 a1_4).bind fun bt493 => ((spec_Unary.f k a0 bt493.1 bt493.2.1 bt493.2.2.1 bt493.2.2.2.1 bt493.2.2.2.2).bind fun bt498 => ((laws_toValue.f a1_0 a1_1 a1_2 a1_3 a1_4).bind fun bt505 => ((impl_Unary.f k a0 bt505.1 bt505.2.1 bt505.2.2.1 bt505.2.2.2.1 bt505.2.2.2.2).bind fun bt510 => ((laws_eqValued.f k bt510.1 bt510.2.1 bt510.2.2.1 bt510.2.2.2.1 bt510.2.2.2.2.1 bt510.2.2.2.2.2 bt498.1 bt498.2.1 bt498.2.2.1 bt498.2.2.2.1 bt498.2.2.2.2.1 bt498.2.2.2.2.2).bind fun t517 => (if t517 = true then (some true) else (some false))))))))
theorem laws_FnExactUnary.mono : ∀ a0 a1 a2 a3 a4 a5 k, LeO (laws_FnExactUnary.f k a0 a1 a2 a3 a4 a5) (laws_FnExactUnary.f (k + 1) a0 a1 a2 a3 a4 a5) := by
  intro a0 a1 a2 a3 a4 a5 k
  unfold laws_FnExactUnary.f
  repeat' first
      | (with_reducible exact impl_Unary.mono _ _ _ _ _ _ _)
      | (with_reducible exact laws_eqValued.mono _ _ _ _ _ _ _ _ _ _ _ _ _)
      | (with_reducible exact spec_Unary.mono _ _ _ _ _ _ _)
      | (with_reducible exact LeO.refl _)
      | (with_reducible exact LeO.none _)
      | (with_reducible refine LeO.ite ?_ ?_)
      | (with_reducible refine LeO.bind ?_ (fun _ => ?_))
      | exact impl_Unary.mono _ _ _ _ _ _ _
      | exact laws_eqValued.mono _ _ _ _ _ _ _ _ _ _ _ _ _
      | exact spec_Unary.mono _ _ _ _ _ _ _
      | exact LeO.none _
      | refine LeO.ite ?_ ?_
      | refine LeO.bind ?_ (fun _ => ?_)
set_option maxHeartbeats 8000000 in
set_option maxRecDepth 100000 in
theorem laws_FnExactUnary.calls (k : Nat) (a0 : Int) (a1_0 : Int) (a1_1 : Int) (a1_2 : Nat) (a1_3 : ByteArray) (a1_4 : Int) (r : Bool) (w : World) (h : laws_FnExactUnary.f k a0 a1_0 a1_1 a1_2 a1_3 a1_4 = some r) (hT : r = true) :
    Calls Try.prog 8 #[.int .i64 a0, .agg #[.int .i64 a1_0, .int .i64 a1_1, .float .f64 a1_2, .string a1_3, .int .i64 a1_4]] w fun e w' => e = .returned (.bool r) ∧ Below w.heap.size w w' := by
  have HT := Aside0.mk hT
  clear hT
  have hu25 := Try.underlying25
  have hu41 := Try.underlying41
  have HB := Aside0.mk (Below.refl w.heap.size w)
  have H : ((laws_szValue.f a1_0 a1_1 a1_2 a1_3 a1_4 1048576).bind fun t492 => (if t492 < 0 then (some true) else ((laws_toValue.f a1_0 a1_1 a1_2 a1_3 a1_4).bind fun bt493 => ((spec_Unary.f k a0 bt493.1 bt493.2.1 bt493.2.2.1 bt493.2.2.2.1 bt493.2.2.2.2).bind fun bt498 => ((laws_toValue.f a1_0 a1_1 a1_2 a1_3 a1_4).bind fun bt505 => ((impl_Unary.f k a0 bt505.1 bt505.2.1 bt505.2.2.1 bt505.2.2.2.1 bt505.2.2.2.2).bind fun bt510 => ((laws_eqValued.f k bt510.1 bt510.2.1 bt510.2.2.1 bt510.2.2.2.1 bt510.2.2.2.2.1 bt510.2.2.2.2.2 bt498.1 bt498.2.1 bt498.2.2.1 bt498.2.2.2.1 bt498.2.2.2.2.1 bt498.2.2.2.2.2).bind fun t517 => (if t517 = true then (some true) else (some false))))))))) = some r := h
  clear h
  replace H := Option.bind_eq_some_iff.mp H
  obtain ⟨t492, A30, H⟩ := H
  replace H : (if t492 < 0 then (some true) else ((laws_toValue.f a1_0 a1_1 a1_2 a1_3 a1_4).bind fun bt493 => ((spec_Unary.f k a0 bt493.1 bt493.2.1 bt493.2.2.1 bt493.2.2.2.1 bt493.2.2.2.2).bind fun bt498 => ((laws_toValue.f a1_0 a1_1 a1_2 a1_3 a1_4).bind fun bt505 => ((impl_Unary.f k a0 bt505.1 bt505.2.1 bt505.2.2.1 bt505.2.2.2.1 bt505.2.2.2.2).bind fun bt510 => ((laws_eqValued.f k bt510.1 bt510.2.1 bt510.2.2.1 bt510.2.2.2.1 bt510.2.2.2.2.1 bt510.2.2.2.2.2 bt498.1 bt498.2.1 bt498.2.2.1 bt498.2.2.2.1 bt498.2.2.2.2.1 bt498.2.2.2.2.2).bind fun t517 => (if t517 = true then (some true) else (some false)))))))) = some r := H
  have A3 := Aside0.mk A30
  clear A30
  by_cases c4 : t492 < 0
  · rw [if_pos c4] at H
    have c4b0 : decide (t492 < 0) = true := decide_eq_true c4
    clear c4
    obtain rfl := Option.some.inj H
    go_enter Try.func8, Try.ntmps8
    go_wp2_with (first | ((with_reducible refine gate_dst (N := 3) rfl ?_); refine box_event rfl (N := 3) rfl (cs := #[.int .i64 a1_0, .int .i64 a1_1, .float .f64 a1_2, .string a1_3, .int .i64 a1_4]) (t := 25) (by first | (go_simp; done) | (go_simp; rfl)) ?_; intro gb491 hg w5 hbox hb; have BK491 := Aside0.mk (hbox); have GW491 := (gws hg (hbe HB.out) : Aside0 (w.heap.size ≤ gb491)); have GE491 := (gws hg (hbe HB.out) : Aside0 (w.heap.size ≤ gb491)); replace HB := hbs HB.out hb; clear hb hbox hg; obtain ⟨hcz6_0, hcz6_1, hcz6_2, hcz6_3, hcz6_4, hfz6_0, hfz6_1, hfz6_2, hfz6_3, hfz6_4⟩ := cells5 BK491.out) | ((with_reducible refine gate_callee (f := 16) rfl ?_); refine goesS (some 10) rfl Try.func16 #[.agg #[.int .i64 a1_0, .int .i64 a1_1, .float .f64 a1_2, .string a1_3, .int .i64 a1_4], .int .i64 1048576] rfl ?_; (with_reducible refine (laws_szValue.calls a1_0 a1_1 a1_2 a1_3 a1_4 1048576 t492 _ A3.out).mono ?_); rintro e w7 ⟨rfl, hb⟩; refine ⟨_, rfl, ?_⟩; replace BK491 := bku BK491.out hb; replace HB := hbs1 HB.out GE491.out hb; (try clear hb); (try clear hb2); (try clear hk); (try clear hi)))
    go_ret
    exact ⟨by first | rfl | (simp <;> rfl) | (simp [*] <;> rfl), hbe1 HB.out GE491.out⟩
  rw [if_neg c4] at H
  have c4b0 : decide (t492 < 0) = false := decide_eq_false c4
  clear c4
  replace H := Option.bind_eq_some_iff.mp H
  obtain ⟨⟨t493, t494, t495, t496, t497⟩, A80, H⟩ := H
  replace H : ((spec_Unary.f k a0 t493 t494 t495 t496 t497).bind fun bt498 => ((laws_toValue.f a1_0 a1_1 a1_2 a1_3 a1_4).bind fun bt505 => ((impl_Unary.f k a0 bt505.1 bt505.2.1 bt505.2.2.1 bt505.2.2.2.1 bt505.2.2.2.2).bind fun bt510 => ((laws_eqValued.f k bt510.1 bt510.2.1 bt510.2.2.1 bt510.2.2.2.1 bt510.2.2.2.2.1 bt510.2.2.2.2.2 bt498.1 bt498.2.1 bt498.2.2.1 bt498.2.2.2.1 bt498.2.2.2.2.1 bt498.2.2.2.2.2).bind fun t517 => (if t517 = true then (some true) else (some false)))))) = some r := H
  have A8 := Aside0.mk A80
  clear A80
  replace H := Option.bind_eq_some_iff.mp H
  obtain ⟨⟨t498, t499, t500, t501, t502, t503⟩, A90, H⟩ := H
  replace H : ((laws_toValue.f a1_0 a1_1 a1_2 a1_3 a1_4).bind fun bt505 => ((impl_Unary.f k a0 bt505.1 bt505.2.1 bt505.2.2.1 bt505.2.2.2.1 bt505.2.2.2.2).bind fun bt510 => ((laws_eqValued.f k bt510.1 bt510.2.1 bt510.2.2.1 bt510.2.2.2.1 bt510.2.2.2.2.1 bt510.2.2.2.2.2 t498 t499 t500 t501 t502 t503).bind fun t517 => (if t517 = true then (some true) else (some false))))) = some r := H
  have A9 := Aside0.mk A90
  clear A90
  replace H := Option.bind_eq_some_iff.mp H
  obtain ⟨⟨t505, t506, t507, t508, t509⟩, A100, H⟩ := H
  replace H : ((impl_Unary.f k a0 t505 t506 t507 t508 t509).bind fun bt510 => ((laws_eqValued.f k bt510.1 bt510.2.1 bt510.2.2.1 bt510.2.2.2.1 bt510.2.2.2.2.1 bt510.2.2.2.2.2 t498 t499 t500 t501 t502 t503).bind fun t517 => (if t517 = true then (some true) else (some false)))) = some r := H
  have A10 := Aside0.mk A100
  clear A100
  replace H := Option.bind_eq_some_iff.mp H
  obtain ⟨⟨t510, t511, t512, t513, t514, t515⟩, A110, H⟩ := H
  replace H : ((laws_eqValued.f k t510 t511 t512 t513 t514 t515 t498 t499 t500 t501 t502 t503).bind fun t517 => (if t517 = true then (some true) else (some false))) = some r := H
  have A11 := Aside0.mk A110
  clear A110
  replace H := Option.bind_eq_some_iff.mp H
  obtain ⟨t517, A120, H⟩ := H
  replace H : (if t517 = true then (some true) else (some false)) = some r := H
  have A12 := Aside0.mk A120
  clear A120
  by_cases c13 : t517 = true
  rotate_left 1
  · replace c13 := Bool.eq_false_iff.mpr c13
    subst c13
    have H1 : (some false) = some r := by rw [if_neg (show ¬ (false = true) by decide)] at H; exact H
    clear H
    have H := H1
    clear H1
    obtain rfl := Option.some.inj H
    cases HT.out
  subst c13
  have H1 : (some true) = some r := by rw [if_pos rfl] at H; exact H
  clear H
  have H := H1
  clear H1
  obtain rfl := Option.some.inj H
  go_enter Try.func8, Try.ntmps8
  go_wp2_with (first | ((with_reducible refine gate_dst (N := 3) rfl ?_); refine box_event rfl (N := 3) rfl (cs := #[.int .i64 a1_0, .int .i64 a1_1, .float .f64 a1_2, .string a1_3, .int .i64 a1_4]) (t := 25) (by first | (go_simp; done) | (go_simp; rfl)) ?_; intro gb491 hg w14 hbox hb; have BK491 := Aside0.mk (hbox); have GW491 := (gws hg (hbe HB.out) : Aside0 (w.heap.size ≤ gb491)); have GE491 := (gws hg (hbe HB.out) : Aside0 (w.heap.size ≤ gb491)); replace HB := hbs HB.out hb; clear hb hbox hg; obtain ⟨hcz15_0, hcz15_1, hcz15_2, hcz15_3, hcz15_4, hfz15_0, hfz15_1, hfz15_2, hfz15_3, hfz15_4⟩ := cells5 BK491.out) | ((with_reducible refine gate_callee (f := 16) rfl ?_); refine goesS (some 10) rfl Try.func16 #[.agg #[.int .i64 a1_0, .int .i64 a1_1, .float .f64 a1_2, .string a1_3, .int .i64 a1_4], .int .i64 1048576] rfl ?_; (with_reducible refine (laws_szValue.calls a1_0 a1_1 a1_2 a1_3 a1_4 1048576 t492 _ A3.out).mono ?_); rintro e w16 ⟨rfl, hb⟩; refine ⟨_, rfl, ?_⟩; replace BK491 := bku BK491.out hb; replace HB := hbs1 HB.out GE491.out hb; (try clear hb); (try clear hb2); (try clear hk); (try clear hi); obtain ⟨hcz17_0, hcz17_1, hcz17_2, hcz17_3, hcz17_4, hfz17_0, hfz17_1, hfz17_2, hfz17_3, hfz17_4⟩ := cells5 BK491.out) | ((with_reducible refine gate_callee (f := 18) rfl ?_); refine goesS (some 15) rfl Try.func18 #[.agg #[.int .i64 a1_0, .int .i64 a1_1, .float .f64 a1_2, .string a1_3, .int .i64 a1_4]] rfl ?_; (with_reducible refine (laws_toValue.calls a1_0 a1_1 a1_2 a1_3 a1_4 t493 t494 t495 t496 t497 _ A8.out).mono ?_); rintro e w18 ⟨rfl, hb⟩; refine ⟨_, rfl, ?_⟩; replace BK491 := bku BK491.out hb; replace HB := hbs1 HB.out GE491.out hb; (try clear hb); (try clear hb2); (try clear hk); (try clear hi)) | ((with_reducible refine gate_callee (f := 30) rfl ?_); refine goesS (some 16) rfl Try.func30 #[.int .i64 a0, .agg #[.int .i64 t493, .int .i64 t494, .float .f64 t495, .string t496, .int .i64 t497]] rfl ?_; (with_reducible refine (spec_Unary.calls k a0 t493 t494 t495 t496 t497 t498 t499 t500 t501 t502 t503 _ A9.out).mono ?_); rintro e w19 ⟨rfl, hb⟩; refine ⟨_, rfl, ?_⟩; replace BK491 := bku BK491.out hb; replace HB := hbs1 HB.out GE491.out hb; (try clear hb); (try clear hb2); (try clear hk); (try clear hi)) | ((with_reducible refine gate_dst (N := 6) rfl ?_); refine box_event rfl (N := 6) rfl (cs := #[.int .i64 0, .int .i64 0, .int .i64 0, .float .f64 0, .string (⟨#[]⟩ : ByteArray), .int .i64 0]) (t := 41) (by first | (go_simp; done) | (go_simp; rfl)) ?_; intro gb504 hg w20 hbox hb; have BK504 := Aside0.mk (hbox); have GW504 := (gws hg (hbe1 HB.out GE491.out) : Aside0 (w.heap.size ≤ gb504)); have GE504 := (gws hg (hbe1 HB.out GE491.out) : Aside0 (w.heap.size ≤ gb504)); replace HB := hbs1 HB.out GE491.out hb; have NB491_504 := nlt hg BK491.out; have NB504_491 := ngt hg BK491.out; replace BK491 := bku BK491.out hb; clear hb hbox hg; have hnb21 := NB504_491.out; have hnc21 := NB491_504.out; obtain ⟨hcz22_0, hcz22_1, hcz22_2, hcz22_3, hcz22_4, hcz22_5, hfz22_0, hfz22_1, hfz22_2, hfz22_3, hfz22_4, hfz22_5⟩ := cells6 BK504.out; obtain ⟨hcz23_0, hcz23_1, hcz23_2, hcz23_3, hcz23_4, hfz23_0, hfz23_1, hfz23_2, hfz23_3, hfz23_4⟩ := cells5 BK491.out) | ((with_reducible refine gate_callee (f := 18) rfl ?_); refine goesS (some 19) rfl Try.func18 #[.agg #[.int .i64 a1_0, .int .i64 a1_1, .float .f64 a1_2, .string a1_3, .int .i64 a1_4]] rfl ?_; (with_reducible refine (laws_toValue.calls a1_0 a1_1 a1_2 a1_3 a1_4 t505 t506 t507 t508 t509 _ A10.out).mono ?_); rintro e w24 ⟨rfl, hb⟩; refine ⟨_, rfl, ?_⟩; replace BK491 := Aside0.mk (blk_below (g := gb491) (o := .cells #[.int .i64 a1_0, .int .i64 a1_1, .float .f64 a1_2, .string a1_3, .int .i64 a1_4] 25 (0, 0)) (by (with_reducible repeat (first | refine blk_drewN ?_ _ | refine blk_drew ?_ | refine blk_alloc ?_ _)); refine blk_far ?_ NB491_504.out _; (with_reducible repeat (first | refine blk_drewN ?_ _ | refine blk_drew ?_ | refine blk_alloc ?_ _)); refine blk_far ?_ NB491_504.out _; (with_reducible repeat (first | refine blk_drewN ?_ _ | refine blk_drew ?_ | refine blk_alloc ?_ _)); refine blk_far ?_ NB491_504.out _; (with_reducible repeat (first | refine blk_drewN ?_ _ | refine blk_drew ?_ | refine blk_alloc ?_ _)); refine blk_far ?_ NB491_504.out _; (with_reducible repeat (first | refine blk_drewN ?_ _ | refine blk_drew ?_ | refine blk_alloc ?_ _)); refine blk_far ?_ NB491_504.out _; (with_reducible repeat (first | refine blk_drewN ?_ _ | refine blk_drew ?_ | refine blk_alloc ?_ _)); refine blk_far ?_ NB491_504.out _; (with_reducible repeat (first | refine blk_drewN ?_ _ | refine blk_drew ?_ | refine blk_alloc ?_ _)); exact BK491.out) hb); replace BK504 := Aside0.mk (blk_below (g := gb504) (o := .cells #[.int .i64 t498, .int .i64 t499, .int .i64 t500, .float .f64 t501, .string t502, .int .i64 t503] 41 (0, 0)) (by (with_reducible repeat (first | refine blk_drewN ?_ _ | refine blk_drew ?_ | refine blk_alloc ?_ _)); refine blk_put (cs := #[.int .i64 t498, .int .i64 t499, .int .i64 t500, .float .f64 t501, .string t502, .int .i64 0]) ?_ 5 _ rfl; (with_reducible repeat (first | refine blk_drewN ?_ _ | refine blk_drew ?_ | refine blk_alloc ?_ _)); refine blk_put (cs := #[.int .i64 t498, .int .i64 t499, .int .i64 t500, .float .f64 t501, .string (⟨#[]⟩ : ByteArray), .int .i64 0]) ?_ 4 _ rfl; (with_reducible repeat (first | refine blk_drewN ?_ _ | refine blk_drew ?_ | refine blk_alloc ?_ _)); refine blk_put (cs := #[.int .i64 t498, .int .i64 t499, .int .i64 t500, .float .f64 0, .string (⟨#[]⟩ : ByteArray), .int .i64 0]) ?_ 3 _ rfl; (with_reducible repeat (first | refine blk_drewN ?_ _ | refine blk_drew ?_ | refine blk_alloc ?_ _)); refine blk_put (cs := #[.int .i64 t498, .int .i64 t499, .int .i64 0, .float .f64 0, .string (⟨#[]⟩ : ByteArray), .int .i64 0]) ?_ 2 _ rfl; (with_reducible repeat (first | refine blk_drewN ?_ _ | refine blk_drew ?_ | refine blk_alloc ?_ _)); refine blk_put (cs := #[.int .i64 t498, .int .i64 0, .int .i64 0, .float .f64 0, .string (⟨#[]⟩ : ByteArray), .int .i64 0]) ?_ 1 _ rfl; (with_reducible repeat (first | refine blk_drewN ?_ _ | refine blk_drew ?_ | refine blk_alloc ?_ _)); refine blk_put (cs := #[.int .i64 0, .int .i64 0, .int .i64 0, .float .f64 0, .string (⟨#[]⟩ : ByteArray), .int .i64 0]) ?_ 0 _ rfl; (with_reducible repeat (first | refine blk_drewN ?_ _ | refine blk_drew ?_ | refine blk_alloc ?_ _)); exact BK504.out) hb); replace HB := hbs2 HB.out GE491.out GE504.out hb; (try clear hb); (try clear hb2); (try clear hk); (try clear hi)) | ((with_reducible refine gate_callee (f := 31) rfl ?_); refine goesS (some 20) rfl Try.func31 #[.int .i64 a0, .agg #[.int .i64 t505, .int .i64 t506, .float .f64 t507, .string t508, .int .i64 t509]] rfl ?_; (with_reducible refine (impl_Unary.calls k a0 t505 t506 t507 t508 t509 t510 t511 t512 t513 t514 t515 _ A11.out).mono ?_); rintro e w25 ⟨rfl, hb⟩; refine ⟨_, rfl, ?_⟩; replace BK491 := bku BK491.out hb; replace BK504 := bku BK504.out hb; replace HB := hbs2 HB.out GE491.out GE504.out hb; (try clear hb); (try clear hb2); (try clear hk); (try clear hi)) | ((with_reducible refine gate_dst (N := 7) rfl ?_); refine box_event rfl (N := 7) rfl (cs := #[.int .i64 0, .int .i64 0, .int .i64 0, .float .f64 0, .string (⟨#[]⟩ : ByteArray), .int .i64 0]) (t := 41) (by first | (go_simp; done) | (go_simp; rfl)) ?_; intro gb516 hg w26 hbox hb; have BK516 := Aside0.mk (hbox); have GW516 := (gws hg (hbe2 HB.out GE491.out GE504.out) : Aside0 (w.heap.size ≤ gb516)); have GE516 := (gws hg (hbe2 HB.out GE491.out GE504.out) : Aside0 (w.heap.size ≤ gb516)); replace HB := hbs2 HB.out GE491.out GE504.out hb; have NB491_516 := nlt hg BK491.out; have NB516_491 := ngt hg BK491.out; replace BK491 := bku BK491.out hb; have NB504_516 := nlt hg BK504.out; have NB516_504 := ngt hg BK504.out; replace BK504 := bku BK504.out hb; clear hb hbox hg; have hnb27 := NB516_491.out; have hnc27 := NB491_516.out; have hnb28 := NB516_504.out; have hnc28 := NB504_516.out; obtain ⟨hcz29_0, hcz29_1, hcz29_2, hcz29_3, hcz29_4, hcz29_5, hfz29_0, hfz29_1, hfz29_2, hfz29_3, hfz29_4, hfz29_5⟩ := cells6 BK516.out; obtain ⟨hcz30_0, hcz30_1, hcz30_2, hcz30_3, hcz30_4, hcz30_5, hfz30_0, hfz30_1, hfz30_2, hfz30_3, hfz30_4, hfz30_5⟩ := cells6 BK504.out) | ((with_reducible refine gate_callee (f := 29) rfl ?_); refine goesS (some 23) rfl Try.func29 #[.agg #[.int .i64 t510, .int .i64 t511, .int .i64 t512, .float .f64 t513, .string t514, .int .i64 t515], .agg #[.int .i64 t498, .int .i64 t499, .int .i64 t500, .float .f64 t501, .string t502, .int .i64 t503]] rfl ?_; (with_reducible refine (laws_eqValued.calls k t510 t511 t512 t513 t514 t515 t498 t499 t500 t501 t502 t503 true _ A12.out).mono ?_); rintro e w31 ⟨rfl, hb⟩; refine ⟨_, rfl, ?_⟩; replace BK491 := Aside0.mk (blk_below (g := gb491) (o := .cells #[.int .i64 a1_0, .int .i64 a1_1, .float .f64 a1_2, .string a1_3, .int .i64 a1_4] 25 (0, 0)) (by (with_reducible repeat (first | refine blk_drewN ?_ _ | refine blk_drew ?_ | refine blk_alloc ?_ _)); refine blk_far ?_ NB491_516.out _; (with_reducible repeat (first | refine blk_drewN ?_ _ | refine blk_drew ?_ | refine blk_alloc ?_ _)); refine blk_far ?_ NB491_516.out _; (with_reducible repeat (first | refine blk_drewN ?_ _ | refine blk_drew ?_ | refine blk_alloc ?_ _)); refine blk_far ?_ NB491_516.out _; (with_reducible repeat (first | refine blk_drewN ?_ _ | refine blk_drew ?_ | refine blk_alloc ?_ _)); refine blk_far ?_ NB491_516.out _; (with_reducible repeat (first | refine blk_drewN ?_ _ | refine blk_drew ?_ | refine blk_alloc ?_ _)); refine blk_far ?_ NB491_516.out _; (with_reducible repeat (first | refine blk_drewN ?_ _ | refine blk_drew ?_ | refine blk_alloc ?_ _)); refine blk_far ?_ NB491_516.out _; (with_reducible repeat (first | refine blk_drewN ?_ _ | refine blk_drew ?_ | refine blk_alloc ?_ _)); exact BK491.out) hb); replace BK504 := Aside0.mk (blk_below (g := gb504) (o := .cells #[.int .i64 t498, .int .i64 t499, .int .i64 t500, .float .f64 t501, .string t502, .int .i64 t503] 41 (0, 0)) (by (with_reducible repeat (first | refine blk_drewN ?_ _ | refine blk_drew ?_ | refine blk_alloc ?_ _)); refine blk_far ?_ NB504_516.out _; (with_reducible repeat (first | refine blk_drewN ?_ _ | refine blk_drew ?_ | refine blk_alloc ?_ _)); refine blk_far ?_ NB504_516.out _; (with_reducible repeat (first | refine blk_drewN ?_ _ | refine blk_drew ?_ | refine blk_alloc ?_ _)); refine blk_far ?_ NB504_516.out _; (with_reducible repeat (first | refine blk_drewN ?_ _ | refine blk_drew ?_ | refine blk_alloc ?_ _)); refine blk_far ?_ NB504_516.out _; (with_reducible repeat (first | refine blk_drewN ?_ _ | refine blk_drew ?_ | refine blk_alloc ?_ _)); refine blk_far ?_ NB504_516.out _; (with_reducible repeat (first | refine blk_drewN ?_ _ | refine blk_drew ?_ | refine blk_alloc ?_ _)); refine blk_far ?_ NB504_516.out _; (with_reducible repeat (first | refine blk_drewN ?_ _ | refine blk_drew ?_ | refine blk_alloc ?_ _)); exact BK504.out) hb); replace BK516 := Aside0.mk (blk_below (g := gb516) (o := .cells #[.int .i64 t510, .int .i64 t511, .int .i64 t512, .float .f64 t513, .string t514, .int .i64 t515] 41 (0, 0)) (by (with_reducible repeat (first | refine blk_drewN ?_ _ | refine blk_drew ?_ | refine blk_alloc ?_ _)); refine blk_put (cs := #[.int .i64 t510, .int .i64 t511, .int .i64 t512, .float .f64 t513, .string t514, .int .i64 0]) ?_ 5 _ rfl; (with_reducible repeat (first | refine blk_drewN ?_ _ | refine blk_drew ?_ | refine blk_alloc ?_ _)); refine blk_put (cs := #[.int .i64 t510, .int .i64 t511, .int .i64 t512, .float .f64 t513, .string (⟨#[]⟩ : ByteArray), .int .i64 0]) ?_ 4 _ rfl; (with_reducible repeat (first | refine blk_drewN ?_ _ | refine blk_drew ?_ | refine blk_alloc ?_ _)); refine blk_put (cs := #[.int .i64 t510, .int .i64 t511, .int .i64 t512, .float .f64 0, .string (⟨#[]⟩ : ByteArray), .int .i64 0]) ?_ 3 _ rfl; (with_reducible repeat (first | refine blk_drewN ?_ _ | refine blk_drew ?_ | refine blk_alloc ?_ _)); refine blk_put (cs := #[.int .i64 t510, .int .i64 t511, .int .i64 0, .float .f64 0, .string (⟨#[]⟩ : ByteArray), .int .i64 0]) ?_ 2 _ rfl; (with_reducible repeat (first | refine blk_drewN ?_ _ | refine blk_drew ?_ | refine blk_alloc ?_ _)); refine blk_put (cs := #[.int .i64 t510, .int .i64 0, .int .i64 0, .float .f64 0, .string (⟨#[]⟩ : ByteArray), .int .i64 0]) ?_ 1 _ rfl; (with_reducible repeat (first | refine blk_drewN ?_ _ | refine blk_drew ?_ | refine blk_alloc ?_ _)); refine blk_put (cs := #[.int .i64 0, .int .i64 0, .int .i64 0, .float .f64 0, .string (⟨#[]⟩ : ByteArray), .int .i64 0]) ?_ 0 _ rfl; (with_reducible repeat (first | refine blk_drewN ?_ _ | refine blk_drew ?_ | refine blk_alloc ?_ _)); exact BK516.out) hb); replace HB := hbs3 HB.out GE491.out GE504.out GE516.out hb; (try clear hb); (try clear hb2); (try clear hk); (try clear hi)))
  go_ret
  exact ⟨by first | rfl | (simp <;> rfl) | (simp [*] <;> rfl), hbe3 HB.out GE491.out GE504.out GE516.out⟩

/-! ### spec_l1strings: function 71 -/
mutual
def spec_l1strings.l0 : Nat → ByteArray → ByteArray → Int → Option (Int)
  | 0, _, _, _ => none
  | k + 1, x0, x1, x5 => if x5 < (x0.size : Int) then (spec_l1strings.j1 k x0 x1 x5 (decide (x5 < (x1.size : Int)))) else (spec_l1strings.j1 k x0 x1 x5 false)
def spec_l1strings.j1 : Nat → ByteArray → ByteArray → Int → Bool → Option (Int)
  | 0, _, _, _, _ => none
  | k + 1, x0, x1, x5, x15 => if x15 = true then (if 0 ≤ x5 then (if x5 < (x0.size : Int) then (if x5 < (x1.size : Int) then (if (bt x0 x5) < (bt x1 x5) then (some (-1)) else (if (bt x0 x5) > (bt x1 x5) then (some 1) else (spec_l1strings.l0 k x0 x1 (wrap64 (x5 + 1))))) else (none)) else (none)) else (none)) else (if (x0.size : Int) < (x1.size : Int) then (some (-1)) else (if (x0.size : Int) > (x1.size : Int) then (some 1) else (some 0)))
end
def spec_l1strings.f (k : Nat) (a0 : ByteArray) (a1 : ByteArray) : Option (Int) := spec_l1strings.l0 k a0 a1 0
theorem spec_l1strings.mono_l : ∀ k, (∀ y0 y1 y2, LeO (spec_l1strings.l0 k y0 y1 y2) (spec_l1strings.l0 (k + 1) y0 y1 y2)) ∧ (∀ y0 y1 y2 y3, LeO (spec_l1strings.j1 k y0 y1 y2 y3) (spec_l1strings.j1 (k + 1) y0 y1 y2 y3))
  | 0 => ⟨fun _ _ _ r h => by simp [spec_l1strings.l0] at h, fun _ _ _ _ r h => by simp [spec_l1strings.j1] at h⟩
  | k + 1 => by
    obtain ⟨ih0, ih1⟩ := spec_l1strings.mono_l k
    refine ⟨?_, ?_⟩
    · intro y0 y1 y2
      unfold spec_l1strings.l0
      repeat' first
      | (with_reducible exact ih0 _ _ _)
      | (with_reducible exact ih1 _ _ _ _)
      | (with_reducible exact LeO.refl _)
      | (with_reducible exact LeO.none _)
      | (with_reducible refine LeO.ite ?_ ?_)
      | (with_reducible refine LeO.bind ?_ (fun _ => ?_))
      | exact ih0 _ _ _
      | exact ih1 _ _ _ _
      | exact LeO.none _
      | refine LeO.ite ?_ ?_
      | refine LeO.bind ?_ (fun _ => ?_)
    · intro y0 y1 y2 y3
      unfold spec_l1strings.j1
      repeat' first
      | (with_reducible exact ih0 _ _ _)
      | (with_reducible exact ih1 _ _ _ _)
      | (with_reducible exact LeO.refl _)
      | (with_reducible exact LeO.none _)
      | (with_reducible refine LeO.ite ?_ ?_)
      | (with_reducible refine LeO.bind ?_ (fun _ => ?_))
      | exact ih0 _ _ _
      | exact ih1 _ _ _ _
      | exact LeO.none _
      | refine LeO.ite ?_ ?_
      | refine LeO.bind ?_ (fun _ => ?_)
theorem spec_l1strings.mono : ∀ a0 a1 k, LeO (spec_l1strings.f k a0 a1) (spec_l1strings.f (k + 1) a0 a1) := by
  intro a0 a1 k
  obtain ⟨ih0, ih1⟩ := spec_l1strings.mono_l k
  unfold spec_l1strings.f
  repeat' first
      | (with_reducible exact ih0 _ _ _)
      | (with_reducible exact ih1 _ _ _ _)
      | (with_reducible exact LeO.refl _)
      | (with_reducible exact LeO.none _)
      | (with_reducible refine LeO.ite ?_ ?_)
      | (with_reducible refine LeO.bind ?_ (fun _ => ?_))
      | exact ih0 _ _ _
      | exact ih1 _ _ _ _
      | exact LeO.none _
      | refine LeO.ite ?_ ?_
      | refine LeO.bind ?_ (fun _ => ?_)
set_option maxHeartbeats 8000000 in
set_option maxRecDepth 100000 in
theorem spec_l1strings.calls (k : Nat) (a0 : ByteArray) (a1 : ByteArray) (r : Int) (w : World) (h : spec_l1strings.f k a0 a1 = some r) :
    Calls Try.prog 71 #[.string a0, .string a1] w fun e w' => e = .returned (.int .i64 r) ∧ Drawn0 w w' := by
  have H : (spec_l1strings.l0 k a0 a1 0) = some r := h
  clear h
  have H' := Aside0.mk H
  clear H
  go_enter Try.func71, Try.ntmps71
  go_wp2
  repeat (go_quiet (fail); try go_wp2)
  go_loopg [5] k (fun kq v5 w' => ∃ (x5_1 : Int), v5 = .int .i64 x5_1 ∧ Aside0 (spec_l1strings.l0 kq a0 a1 x5_1 = some r) ∧ Aside0 (kq ≤ k) ∧ Drawn0 w w')
  case atStart => exact ⟨(0), (by first | rfl | (simp; done) | (simp [*]; done)), H', ⟨Nat.le_refl _⟩, by repeat (first | exact Drawn0.refl _ | apply Drawn0.step)⟩
  case round =>
    clear H'
    obtain ⟨x5_1, rfl, HA, HK1, ⟨m1, rfl⟩⟩ := hrel
    rcases gk with _ | k1
    · exact absurd HA.out (by simp [spec_l1strings.l0])
    have H := HA.out
    clear HA
    simp only [spec_l1strings.l0] at H
    have HC3 := Aside0.mk H
    clear H
    go_upto_region 2 with (fail)
    repeat (go_quiet (fail); go_upto_region 2 with (fail))
    go_cut [15] (fun v15 wc => ∃ (kq : Nat) (x15_2 : Bool), v15 = .bool x15_2 ∧ Aside0 (spec_l1strings.j1 kq a0 a1 x5_1 x15_2 = some r) ∧ Aside0 (kq ≤ k1) ∧ Drawn0 w wc)
    case first =>
      have H := HC3.out
      clear HC3
      by_cases c4 : x5_1 < (a0.size : Int)
      rotate_left 1
      · rw [if_neg c4] at H
        have c4b0 : decide (x5_1 < (a0.size : Int)) = false := decide_eq_false c4
        clear c4
        (first | rw [c4b0] | (simp only [i64_w, i32_w]; rw [c4b0]) | skip)
        have H' := Aside0.mk H
        clear H
        go_wp2
        repeat (go_quiet (fail); try go_wp2)
        go_meet
        case rel => exact ⟨_, (false), (by first | rfl | (simp; done) | (simp [*]; done)), H', ⟨by have := HK1.out; first | omega | exact Nat.le_refl _⟩, by repeat (first | exact Drawn0.refl _ | apply Drawn0.step)⟩
      rw [if_pos c4] at H
      have c4b0 : decide (x5_1 < (a0.size : Int)) = true := decide_eq_true c4
      clear c4
      (first | rw [c4b0] | (simp only [i64_w, i32_w]; rw [c4b0]) | skip)
      have H' := Aside0.mk H
      clear H
      go_wp2
      repeat (go_quiet (fail); try go_wp2)
      go_meet
      case rel => exact ⟨_, (decide (x5_1 < (a1.size : Int))), (by first | rfl | (simp; done) | (simp [*]; done)), H', ⟨by have := HK1.out; first | omega | exact Nat.le_refl _⟩, by repeat (first | exact Drawn0.refl _ | apply Drawn0.step)⟩
    clear HC3
    try clear p2
    try clear c4
    try clear c4b0
    try clear p2
    obtain ⟨kq, x15_2, rfl, HA, HJ2, ⟨mc2, rfl⟩⟩ := hcut
    rcases kq with _ | kj2
    · exact absurd HA.out (by simp [spec_l1strings.j1])
    have H := HA.out
    clear HA
    simp only [spec_l1strings.j1] at H
    by_cases c5 : x15_2 = true
    focus
     subst c5
     have H1 : (if 0 ≤ x5_1 then (if x5_1 < (a0.size : Int) then (if x5_1 < (a1.size : Int) then (if (bt a0 x5_1) < (bt a1 x5_1) then (some (-1)) else (if (bt a0 x5_1) > (bt a1 x5_1) then (some 1) else (spec_l1strings.l0 kj2 a0 a1 (wrap64 (x5_1 + 1))))) else (none)) else (none)) else (none)) = some r := by rw [if_pos rfl] at H; exact H
     clear H
     have H := H1
     clear H1
     by_cases c6 : 0 ≤ x5_1
     focus
      rw [if_pos c6] at H
      have c6b0 : decide (0 ≤ x5_1) = true := decide_eq_true c6
      clear c6
      by_cases c7 : x5_1 < (a0.size : Int)
      focus
       rw [if_pos c7] at H
       have c7b0 : decide (x5_1 < (a0.size : Int)) = true := decide_eq_true c7
       clear c7
       by_cases c9 : x5_1 < (a1.size : Int)
       focus
        rw [if_pos c9] at H
        have c9b0 : decide (x5_1 < (a1.size : Int)) = true := decide_eq_true c9
        clear c9
        by_cases c11 : (bt a0 x5_1) < (bt a1 x5_1)
        focus
         rw [if_pos c11] at H
         have c11b0 : decide ((bt a0 x5_1) < (bt a1 x5_1)) = true := decide_eq_true c11
         clear c11
         obtain rfl := Option.some.inj H
         have p8 : 0 ≤ (x5_1 : Int) := of_decide_eq_true (by first | (with_reducible assumption) | assumption)
         have q8 : x5_1 < (a0.size : Int) := of_decide_eq_true (by first | (with_reducible assumption) | assumption)
         have hx8 := bt_at a0 x5_1
         replace p8 := eq_true p8
         replace q8 := eq_true q8
         have p10 : 0 ≤ (x5_1 : Int) := of_decide_eq_true (by first | (with_reducible assumption) | assumption)
         have q10 : x5_1 < (a1.size : Int) := of_decide_eq_true (by first | (with_reducible assumption) | assumption)
         have hx10 := bt_at a1 x5_1
         replace p10 := eq_true p10
         replace q10 := eq_true q10
        rotate_left 1
        focus
         rw [if_neg c11] at H
         have c11b0 : decide ((bt a0 x5_1) < (bt a1 x5_1)) = false := decide_eq_false c11
         clear c11
         by_cases c14 : (bt a0 x5_1) > (bt a1 x5_1)
         focus
          rw [if_pos c14] at H
          have c14b0 : decide ((bt a1 x5_1) < (bt a0 x5_1)) = true := decide_eq_true c14
          clear c14
          obtain rfl := Option.some.inj H
          have p8 : 0 ≤ (x5_1 : Int) := of_decide_eq_true (by first | (with_reducible assumption) | assumption)
          have q8 : x5_1 < (a0.size : Int) := of_decide_eq_true (by first | (with_reducible assumption) | assumption)
          have hx8 := bt_at a0 x5_1
          replace p8 := eq_true p8
          replace q8 := eq_true q8
          have p10 : 0 ≤ (x5_1 : Int) := of_decide_eq_true (by first | (with_reducible assumption) | assumption)
          have q10 : x5_1 < (a1.size : Int) := of_decide_eq_true (by first | (with_reducible assumption) | assumption)
          have hx10 := bt_at a1 x5_1
          replace p10 := eq_true p10
          replace q10 := eq_true q10
          have p12 : 0 ≤ (x5_1 : Int) := of_decide_eq_true (by first | (with_reducible assumption) | assumption)
          have q12 : x5_1 < (a0.size : Int) := of_decide_eq_true (by first | (with_reducible assumption) | assumption)
          have hx12 := bt_at a0 x5_1
          replace p12 := eq_true p12
          replace q12 := eq_true q12
          have p13 : 0 ≤ (x5_1 : Int) := of_decide_eq_true (by first | (with_reducible assumption) | assumption)
          have q13 : x5_1 < (a1.size : Int) := of_decide_eq_true (by first | (with_reducible assumption) | assumption)
          have hx13 := bt_at a1 x5_1
          replace p13 := eq_true p13
          replace q13 := eq_true q13
         rotate_left 1
         · rw [if_neg c14] at H
           have c14b0 : decide ((bt a1 x5_1) < (bt a0 x5_1)) = false := decide_eq_false c14
           clear c14
           have H' := Aside0.mk H
           clear H
           have p8 : 0 ≤ (x5_1 : Int) := of_decide_eq_true (by first | (with_reducible assumption) | assumption)
           have q8 : x5_1 < (a0.size : Int) := of_decide_eq_true (by first | (with_reducible assumption) | assumption)
           have hx8 := bt_at a0 x5_1
           replace p8 := eq_true p8
           replace q8 := eq_true q8
           have p10 : 0 ≤ (x5_1 : Int) := of_decide_eq_true (by first | (with_reducible assumption) | assumption)
           have q10 : x5_1 < (a1.size : Int) := of_decide_eq_true (by first | (with_reducible assumption) | assumption)
           have hx10 := bt_at a1 x5_1
           replace p10 := eq_true p10
           replace q10 := eq_true q10
           have p12 : 0 ≤ (x5_1 : Int) := of_decide_eq_true (by first | (with_reducible assumption) | assumption)
           have q12 : x5_1 < (a0.size : Int) := of_decide_eq_true (by first | (with_reducible assumption) | assumption)
           have hx12 := bt_at a0 x5_1
           replace p12 := eq_true p12
           replace q12 := eq_true q12
           have p13 : 0 ≤ (x5_1 : Int) := of_decide_eq_true (by first | (with_reducible assumption) | assumption)
           have q13 : x5_1 < (a1.size : Int) := of_decide_eq_true (by first | (with_reducible assumption) | assumption)
           have hx13 := bt_at a1 x5_1
           replace p13 := eq_true p13
           replace q13 := eq_true q13
           go_wp2
           repeat (go_quiet (fail); try go_wp2)
           go_roundg kj2
           case measure => have := HK1.out; have := HJ2.out; omega
           case rel => exact ⟨(wrap64 (x5_1 + 1)), (by first | rfl | (simp; done) | (simp [*]; done)), H', ⟨by have := HK1.out; have := HJ2.out; omega⟩, by repeat (first | exact Drawn0.refl _ | apply Drawn0.step)⟩
       rotate_left 2
       · rw [if_neg c9] at H
         exact absurd H (by simp)
      rotate_left 2
      · rw [if_neg c7] at H
        exact absurd H (by simp)
     rotate_left 2
     · rw [if_neg c6] at H
       exact absurd H (by simp)
    rotate_left 2
    focus
     replace c5 := Bool.eq_false_iff.mpr c5
     subst c5
     have H1 : (if (a0.size : Int) < (a1.size : Int) then (some (-1)) else (if (a0.size : Int) > (a1.size : Int) then (some 1) else (some 0))) = some r := by rw [if_neg (show ¬ (false = true) by decide)] at H; exact H
     clear H
     have H := H1
     clear H1
     by_cases c15 : (a0.size : Int) < (a1.size : Int)
     focus
      rw [if_pos c15] at H
      have c15b0 : decide ((a0.size : Int) < (a1.size : Int)) = true := decide_eq_true c15
      have c15b1 : decide (a0.size < a1.size) = true := decide_eq_true (Int.ofNat_lt.mp c15)
      clear c15
      obtain rfl := Option.some.inj H
     rotate_left 1
     focus
      rw [if_neg c15] at H
      have c15b0 : decide ((a0.size : Int) < (a1.size : Int)) = false := decide_eq_false c15
      have c15b1 : decide (a0.size < a1.size) = false := decide_eq_false (fun h => c15 (Int.ofNat_lt.mpr h))
      clear c15
      by_cases c16 : (a0.size : Int) > (a1.size : Int)
      focus
       rw [if_pos c16] at H
       have c16b0 : decide ((a1.size : Int) < (a0.size : Int)) = true := decide_eq_true c16
       have c16b1 : decide (a1.size < a0.size) = true := decide_eq_true (Int.ofNat_lt.mp c16)
       clear c16
       obtain rfl := Option.some.inj H
      rotate_left 1
      focus
       rw [if_neg c16] at H
       have c16b0 : decide ((a1.size : Int) < (a0.size : Int)) = false := decide_eq_false c16
       have c16b1 : decide (a1.size < a0.size) = false := decide_eq_false (fun h => c16 (Int.ofNat_lt.mpr h))
       clear c16
       obtain rfl := Option.some.inj H
    all_goals
     go_wp2
     repeat (go_quiet (fail); try go_wp2)
     go_ret
     exact ⟨by first | rfl | (simp; done) | (simp [*]; done), by repeat (first | exact Drawn0.refl _ | apply Drawn0.step)⟩

/-! ### spec_l1num: function 72 -/
def spec_l1num.f (a0_0 : Int) (a0_1 : Int) (a0_2 : Nat) (a0_3 : ByteArray) (a0_4 : Int) : Option (Bool) := if a0_0 = 2 then (some true) else (some (a0_0 == 3))
set_option maxHeartbeats 8000000 in
set_option maxRecDepth 100000 in
theorem spec_l1num.calls (a0_0 : Int) (a0_1 : Int) (a0_2 : Nat) (a0_3 : ByteArray) (a0_4 : Int) (r : Bool) (w : World) (h : spec_l1num.f a0_0 a0_1 a0_2 a0_3 a0_4 = some r) :
    Calls Try.prog 72 #[.agg #[.int .i64 a0_0, .int .i64 a0_1, .float .f64 a0_2, .string a0_3, .int .i64 a0_4]] w fun e w' => e = .returned (.bool r) ∧ Below w.heap.size w w' := by
  have hu28 := Try.underlying28
  have HB := Aside0.mk (Below.refl w.heap.size w)
  have H : (if a0_0 = 2 then (some true) else (some (a0_0 == 3))) = some r := h
  clear h
  by_cases c2 : a0_0 = 2
  focus
   rw [if_pos c2] at H
   have c2b0 : (a0_0 == 2) = true := beq_iff_eq.mpr c2
   have c2b1 : (a0_0 != 2) = false := bne_eq_false_iff_eq.mpr c2
   clear c2
   obtain rfl := Option.some.inj H
  rotate_left 1
  focus
   rw [if_neg c2] at H
   have c2b0 : (a0_0 == 2) = false := beq_eq_false_iff_ne.mpr c2
   have c2b1 : (a0_0 != 2) = true := bne_iff_ne.mpr c2
   obtain rfl := Option.some.inj H
  all_goals
   go_enter Try.func72, Try.ntmps72
   go_wp2_with (first | ((with_reducible refine gate_dst (N := 1) rfl ?_); refine box_event rfl (N := 1) rfl (cs := #[.int .i64 a0_0, .int .i64 a0_1, .float .f64 a0_2, .string a0_3, .int .i64 a0_4]) (t := 28) (by first | (go_simp; done) | (go_simp; rfl)) ?_; intro gbz0_ hg wz1_ hbox hb; have nz2_ := hbs HB.out hb; have nz3_ := Aside0.mk (hbox); have nz4_ := (gws hg (hbe HB.out) : Aside0 (w.heap.size ≤ gbz0_)); have nz5_ := (gws hg (hbe HB.out) : Aside0 (w.heap.size ≤ gbz0_)); clear HB; have HB := nz2_; have BKz6_ := nz3_; have GWz7_ := nz4_; have GEz8_ := nz5_; clear nz2_ nz3_ nz4_ nz5_; clear hb hbox hg; have hczz9_ : wz1_.cell? ⟨gbz0_, 0, none⟩ = some (.int .i64 a0_0) := (blk_cell BKz6_.out 0).trans rfl; have hczz10_ : wz1_.cell? ⟨gbz0_, 1, none⟩ = some (.int .i64 a0_1) := (blk_cell BKz6_.out 1).trans rfl; have hczz11_ : wz1_.cell? ⟨gbz0_, 2, none⟩ = some (.float .f64 a0_2) := (blk_cell BKz6_.out 2).trans rfl; have hczz12_ : wz1_.cell? ⟨gbz0_, 3, none⟩ = some (.string a0_3) := (blk_cell BKz6_.out 3).trans rfl; have hczz13_ : wz1_.cell? ⟨gbz0_, 4, none⟩ = some (.int .i64 a0_4) := (blk_cell BKz6_.out 4).trans rfl; have hfzz14_ := blk_frozen BKz6_.out 0; have hfzz15_ := blk_frozen BKz6_.out 1; have hfzz16_ := blk_frozen BKz6_.out 2; have hfzz17_ := blk_frozen BKz6_.out 3; have hfzz18_ := blk_frozen BKz6_.out 4))
   go_ret
   exact ⟨by first | rfl | (simp [errW_none, errW_some] <;> rfl) | (simp [*, errW_none, errW_some] <;> rfl), by repeat (first | (with_reducible first | exact HB.out | apply below_alloc | apply pw_below_drewN | apply below_drew1 | refine below_set ?_ GEz8_.out) | exact HB.out)⟩

/-! ### spec_l1intflt: function 73 -/
def spec_l1intflt.f (k : Nat) (a0 : Int) (a1 : Nat) : Option (Int) := if (fgeq a1 4890909195324358656) = true then (some (-1)) else (if (flss a1 14114281232179134464) = true then (some 1) else ((spec_l1floor.f k a1).bind fun t519 => (if (f2iOk .i64 t519) = true then (if a0 < (f2i t519) then (some (-1)) else (if a0 > (f2i t519) then (some 1) else (if (fgtr a1 t519) = true then (some (-1)) else (some 0)))) else (none))))
theorem spec_l1intflt.mono : ∀ a0 a1 k, LeO (spec_l1intflt.f k a0 a1) (spec_l1intflt.f (k + 1) a0 a1) := by
  intro a0 a1 k
  unfold spec_l1intflt.f
  repeat' first
      | (with_reducible exact spec_l1floor.mono _ _)
      | (with_reducible exact LeO.refl _)
      | (with_reducible exact LeO.none _)
      | (with_reducible refine LeO.ite ?_ ?_)
      | (with_reducible refine LeO.bind ?_ (fun _ => ?_))
      | exact spec_l1floor.mono _ _
      | exact LeO.none _
      | refine LeO.ite ?_ ?_
      | refine LeO.bind ?_ (fun _ => ?_)
set_option maxHeartbeats 8000000 in
set_option maxRecDepth 100000 in
theorem spec_l1intflt.calls (k : Nat) (a0 : Int) (a1 : Nat) (r : Int) (w : World) (h : spec_l1intflt.f k a0 a1 = some r) :
    Calls Try.prog 73 #[.int .i64 a0, .float .f64 a1] w fun e w' => e = .returned (.int .i64 r) ∧ Drawn0 w w' := by
  have H : (if (fgeq a1 4890909195324358656) = true then (some (-1)) else (if (flss a1 14114281232179134464) = true then (some 1) else ((spec_l1floor.f k a1).bind fun t519 => (if (f2iOk .i64 t519) = true then (if a0 < (f2i t519) then (some (-1)) else (if a0 > (f2i t519) then (some 1) else (if (fgtr a1 t519) = true then (some (-1)) else (some 0)))) else (none))))) = some r := h
  clear h
  by_cases c3 : (fgeq a1 4890909195324358656) = true
  · rw [if_pos c3] at H
    have c3b0 : (fgeq a1 4890909195324358656) = true := c3
    clear c3
    obtain rfl := Option.some.inj H
    go_enter Try.func73, Try.ntmps73
    go_wp2
    go_ret
    exact ⟨by first | rfl | (simp; done) | (simp [*]; done), by repeat (first | exact Drawn0.refl _ | apply Drawn0.step)⟩
  focus
   rw [if_neg c3] at H
   have c3b0 : (fgeq a1 4890909195324358656) = false := by simpa using c3
   clear c3
   by_cases c4 : (flss a1 14114281232179134464) = true
   · rw [if_pos c4] at H
     have c4b0 : (flss a1 14114281232179134464) = true := c4
     clear c4
     obtain rfl := Option.some.inj H
     go_enter Try.func73, Try.ntmps73
     go_wp2
     go_ret
     exact ⟨by first | rfl | (simp; done) | (simp [*]; done), by repeat (first | exact Drawn0.refl _ | apply Drawn0.step)⟩
   focus
    rw [if_neg c4] at H
    have c4b0 : (flss a1 14114281232179134464) = false := by simpa using c4
    clear c4
    replace H := Option.bind_eq_some_iff.mp H
    obtain ⟨t519, A50, H⟩ := H
    replace H : (if (f2iOk .i64 t519) = true then (if a0 < (f2i t519) then (some (-1)) else (if a0 > (f2i t519) then (some 1) else (if (fgtr a1 t519) = true then (some (-1)) else (some 0)))) else (none)) = some r := H
    have A5 := Aside0.mk A50
    clear A50
    by_cases c6 : (f2iOk .i64 t519) = true
    focus
     rw [if_pos c6] at H
     have c6b0 : (f2iOk .i64 t519) = true := c6
     clear c6
     by_cases c7 : a0 < (f2i t519)
     focus
      rw [if_pos c7] at H
      have c7b0 : decide (a0 < (f2i t519)) = true := decide_eq_true c7
      clear c7
      obtain rfl := Option.some.inj H
     rotate_left 1
     focus
      rw [if_neg c7] at H
      have c7b0 : decide (a0 < (f2i t519)) = false := decide_eq_false c7
      clear c7
      by_cases c8 : a0 > (f2i t519)
      focus
       rw [if_pos c8] at H
       have c8b0 : decide ((f2i t519) < a0) = true := decide_eq_true c8
       clear c8
       obtain rfl := Option.some.inj H
      rotate_left 1
      focus
       rw [if_neg c8] at H
       have c8b0 : decide ((f2i t519) < a0) = false := decide_eq_false c8
       clear c8
       by_cases c9 : (fgtr a1 t519) = true
       focus
        rw [if_pos c9] at H
        have c9b0 : (fgtr a1 t519) = true := c9
        clear c9
        obtain rfl := Option.some.inj H
       rotate_left 1
       focus
        rw [if_neg c9] at H
        have c9b0 : (fgtr a1 t519) = false := by simpa using c9
        clear c9
        obtain rfl := Option.some.inj H
    rotate_left 4
    · rw [if_neg c6] at H
      exact absurd H (by simp)
  all_goals
   go_enter Try.func73, Try.ntmps73
   go_wp2_with (first | ((with_reducible refine gate_callee (f := 60) rfl ?_); refine goesS (some 12) rfl Try.func60 #[.float .f64 a1] rfl ?_; (with_reducible refine (spec_l1floor.calls k a1 t519 _ A5.out).mono ?_); rintro e w' ⟨rfl, ⟨nd, rfl⟩⟩; refine ⟨_, rfl, ?_⟩))
   go_ret
   exact ⟨by first | rfl | (simp; done) | (simp [*]; done), by repeat (first | exact Drawn0.refl _ | apply Drawn0.step)⟩

end Go.Proofs.Ytdjlbfaiccdbfaa.PAll
