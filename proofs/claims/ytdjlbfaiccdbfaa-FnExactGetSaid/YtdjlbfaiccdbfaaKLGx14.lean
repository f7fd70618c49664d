/- Cut down from the texts of the same job by wip/shake.py to what this claim reaches. -/
import Derived.Test.YtdjlbfaiccdbfaaKLGx0
import Derived.Test.YtdjlbfaiccdbfaaKLGx8
namespace Go.Proofs.Ytdjlbfaiccdbfaa.PAll
open Go.RowKit Go.Proofs.YtdjlbfaiccdbfaaW.PrintWords Go.Proofs.YtdjlbfaiccdbfaaW.PrintLast Go.Proofs.YtdjlbfaiccdbfaaW.PrintMore
attribute [local go_sem] max2_int min2_int max_two min_two max_three min_three max_four min_four   -- for this text's walks alone
set_option linter.unusedVariables false
set_option linter.unusedSimpArgs false
def impl_number.f (a0_0 : Int) (a0_1 : Int) (a0_2 : Nat) (a0_3 : ByteArray) (a0_4 : Int) : Option (Bool) := if a0_0 = 2 then (some true) else (some (a0_0 == 3))
set_option maxHeartbeats 8000000 in
set_option maxRecDepth 100000 in
theorem impl_number.calls (a0_0 : Int) (a0_1 : Int) (a0_2 : Nat) (a0_3 : ByteArray) (a0_4 : Int) (r : Bool) (w : World) (h : impl_number.f a0_0 a0_1 a0_2 a0_3 a0_4 = some r) :
    Calls Try.prog 74 #[.agg #[.int .i64 a0_0, .int .i64 a0_1, .float .f64 a0_2, .string a0_3, .int .i64 a0_4]] w fun e w' => e = .returned (.bool r) ∧ Below w.heap.size w w' := by
  have hu28 := Try.underlying28
  have HB := Aside0.mk (Below.refl w.heap.size w)
  have H : (if a0_0 = 2 then (some true) else (some (a0_0 == 3))) = some r := h
  clear h
  by_cases c2 : a0_0 = 2
  focus
   rw [if_pos c2] at H
   have c2b0 : (a0_0 == 2) = true := beq_iff_eq.mpr c2
   have c2b1 : (a0_0 != 2) = false := bne_eq_false_iff_eq.mpr c2
   clear c2
   obtain rfl := Option.some.inj H
  rotate_left 1
  focus
   rw [if_neg c2] at H
   have c2b0 : (a0_0 == 2) = false := beq_eq_false_iff_ne.mpr c2
   have c2b1 : (a0_0 != 2) = true := bne_iff_ne.mpr c2
   obtain rfl := Option.some.inj H
  all_goals
   go_enter Try.func74, Try.ntmps74
   go_wp2_with (first | ((with_reducible refine gate_dst (N := 1) rfl ?_); refine box_event rfl (N := 1) rfl (cs := #[.int .i64 a0_0, .int .i64 a0_1, .float .f64 a0_2, .string a0_3, .int .i64 a0_4]) (t := 28) (by first | (go_simp; done) | (go_simp; rfl)) ?_; intro gbz0_ hg wz1_ hbox hb; have nz2_ := hbs HB.out hb; have nz3_ := Aside0.mk (hbox); have nz4_ := (gws hg (hbe HB.out) : Aside0 (w.heap.size ≤ gbz0_)); have nz5_ := (gws hg (hbe HB.out) : Aside0 (w.heap.size ≤ gbz0_)); clear HB; have HB := nz2_; have BKz6_ := nz3_; have GWz7_ := nz4_; have GEz8_ := nz5_; clear nz2_ nz3_ nz4_ nz5_; clear hb hbox hg; have hczz9_ : wz1_.cell? ⟨gbz0_, 0, none⟩ = some (.int .i64 a0_0) := (blk_cell BKz6_.out 0).trans rfl; have hczz10_ : wz1_.cell? ⟨gbz0_, 1, none⟩ = some (.int .i64 a0_1) := (blk_cell BKz6_.out 1).trans rfl; have hczz11_ : wz1_.cell? ⟨gbz0_, 2, none⟩ = some (.float .f64 a0_2) := (blk_cell BKz6_.out 2).trans rfl; have hczz12_ : wz1_.cell? ⟨gbz0_, 3, none⟩ = some (.string a0_3) := (blk_cell BKz6_.out 3).trans rfl; have hczz13_ : wz1_.cell? ⟨gbz0_, 4, none⟩ = some (.int .i64 a0_4) := (blk_cell BKz6_.out 4).trans rfl; have hfzz14_ := blk_frozen BKz6_.out 0; have hfzz15_ := blk_frozen BKz6_.out 1; have hfzz16_ := blk_frozen BKz6_.out 2; have hfzz17_ := blk_frozen BKz6_.out 3; have hfzz18_ := blk_frozen BKz6_.out 4))
   go_ret
   exact ⟨by first | rfl | (simp [errW_none, errW_some] <;> rfl) | (simp [*, errW_none, errW_some] <;> rfl), by repeat (first | (with_reducible first | exact HB.out | apply below_alloc | apply pw_below_drewN | apply below_drew1 | refine below_set ?_ GEz8_.out) | exact HB.out)⟩
def impl_order64.f (a0 : Int) (a1 : Int) : Option (Int) := if a0 < a1 then (some (-1)) else (if a0 > a1 then (some 1) else (some 0))
set_option maxHeartbeats 8000000 in
set_option maxRecDepth 100000 in
theorem impl_order64.calls (a0 : Int) (a1 : Int) (r : Int) (w : World) (h : impl_order64.f a0 a1 = some r) :
    Calls Try.prog 75 #[.int .i64 a0, .int .i64 a1] w fun e w' => e = .returned (.int .i64 r) ∧ Drawn0 w w' := by
  have H : (if a0 < a1 then (some (-1)) else (if a0 > a1 then (some 1) else (some 0))) = some r := h
  clear h
  by_cases c3 : a0 < a1
  focus
   rw [if_pos c3] at H
   have c3b0 : decide (a0 < a1) = true := decide_eq_true c3
   clear c3
   obtain rfl := Option.some.inj H
  rotate_left 1
  focus
   rw [if_neg c3] at H
   have c3b0 : decide (a0 < a1) = false := decide_eq_false c3
   clear c3
   by_cases c4 : a0 > a1
   focus
    rw [if_pos c4] at H
    have c4b0 : decide (a1 < a0) = true := decide_eq_true c4
    clear c4
    obtain rfl := Option.some.inj H
   rotate_left 1
   focus
    rw [if_neg c4] at H
    have c4b0 : decide (a1 < a0) = false := decide_eq_false c4
    clear c4
    obtain rfl := Option.some.inj H
  all_goals
   go_enter Try.func75, Try.ntmps75
   go_wp2
   go_ret
   exact ⟨by first | rfl | (simp; done) | (simp [*]; done), by repeat (first | exact Drawn0.refl _ | apply Drawn0.step)⟩
def impl_intFloat.f (a0 : Int) (a1 : Nat) : Option (Int) := if (fgeq a1 4890909195324358656) = true then (some (-1)) else (if (flss a1 14114281232179134464) = true then (some 1) else ((math_Trunc.f a1).bind fun t533 => (if (f2iOk .i64 t533) = true then ((impl_order64.f a0 (f2i t533)).bind fun t534 => (if t534 = 0 then (if (fgtr a1 t533) = true then (some (-1)) else (if (flss a1 t533) = true then (some 1) else (some 0))) else (some t534))) else (none))))
set_option maxHeartbeats 8000000 in
set_option maxRecDepth 100000 in
theorem impl_intFloat.calls (a0 : Int) (a1 : Nat) (r : Int) (w : World) (h : impl_intFloat.f a0 a1 = some r) :
    Calls Try.prog 76 #[.int .i64 a0, .float .f64 a1] w fun e w' => e = .returned (.int .i64 r) ∧ Drawn0 w w' := by
  have H : (if (fgeq a1 4890909195324358656) = true then (some (-1)) else (if (flss a1 14114281232179134464) = true then (some 1) else ((math_Trunc.f a1).bind fun t533 => (if (f2iOk .i64 t533) = true then ((impl_order64.f a0 (f2i t533)).bind fun t534 => (if t534 = 0 then (if (fgtr a1 t533) = true then (some (-1)) else (if (flss a1 t533) = true then (some 1) else (some 0))) else (some t534))) else (none))))) = some r := h
  clear h
  by_cases c3 : (fgeq a1 4890909195324358656) = true
  · rw [if_pos c3] at H
    have c3b0 : (fgeq a1 4890909195324358656) = true := c3
    clear c3
    obtain rfl := Option.some.inj H
    go_enter Try.func76, Try.ntmps76
    go_wp2
    go_ret
    exact ⟨by first | rfl | (simp; done) | (simp [*]; done), by repeat (first | exact Drawn0.refl _ | apply Drawn0.step)⟩
  focus
   rw [if_neg c3] at H
   have c3b0 : (fgeq a1 4890909195324358656) = false := by simpa using c3
   clear c3
   by_cases c4 : (flss a1 14114281232179134464) = true
   · rw [if_pos c4] at H
     have c4b0 : (flss a1 14114281232179134464) = true := c4
     clear c4
     obtain rfl := Option.some.inj H
     go_enter Try.func76, Try.ntmps76
     go_wp2
     go_ret
     exact ⟨by first | rfl | (simp; done) | (simp [*]; done), by repeat (first | exact Drawn0.refl _ | apply Drawn0.step)⟩
   focus
    rw [if_neg c4] at H
    have c4b0 : (flss a1 14114281232179134464) = false := by simpa using c4
    clear c4
    replace H := Option.bind_eq_some_iff.mp H
    obtain ⟨t533, A50, H⟩ := H
    replace H : (if (f2iOk .i64 t533) = true then ((impl_order64.f a0 (f2i t533)).bind fun t534 => (if t534 = 0 then (if (fgtr a1 t533) = true then (some (-1)) else (if (flss a1 t533) = true then (some 1) else (some 0))) else (some t534))) else (none)) = some r := H
    have A5 := Aside0.mk A50
    clear A50
    by_cases c6 : (f2iOk .i64 t533) = true
    focus
     rw [if_pos c6] at H
     have c6b0 : (f2iOk .i64 t533) = true := c6
     clear c6
     replace H := Option.bind_eq_some_iff.mp H
     obtain ⟨t534, A70, H⟩ := H
     replace H : (if t534 = 0 then (if (fgtr a1 t533) = true then (some (-1)) else (if (flss a1 t533) = true then (some 1) else (some 0))) else (some t534)) = some r := H
     have A7 := Aside0.mk A70
     clear A70
     by_cases c8 : t534 = 0
     focus
      rw [if_pos c8] at H
      have c8b0 : (t534 == 0) = true := beq_iff_eq.mpr c8
      have c8b1 : (t534 != 0) = false := bne_eq_false_iff_eq.mpr c8
      clear c8
      by_cases c9 : (fgtr a1 t533) = true
      focus
       rw [if_pos c9] at H
       have c9b0 : (fgtr a1 t533) = true := c9
       clear c9
       obtain rfl := Option.some.inj H
      rotate_left 1
      focus
       rw [if_neg c9] at H
       have c9b0 : (fgtr a1 t533) = false := by simpa using c9
       clear c9
       by_cases c10 : (flss a1 t533) = true
       focus
        rw [if_pos c10] at H
        have c10b0 : (flss a1 t533) = true := c10
        clear c10
        obtain rfl := Option.some.inj H
       rotate_left 1
       focus
        rw [if_neg c10] at H
        have c10b0 : (flss a1 t533) = false := by simpa using c10
        clear c10
        obtain rfl := Option.some.inj H
     rotate_left 3
     focus
      rw [if_neg c8] at H
      have c8b0 : (t534 == 0) = false := beq_eq_false_iff_ne.mpr c8
      have c8b1 : (t534 != 0) = true := bne_iff_ne.mpr c8
      obtain rfl := Option.some.inj H
    rotate_left 4
    · rw [if_neg c6] at H
      exact absurd H (by simp)
  all_goals
   go_enter Try.func76, Try.ntmps76
   go_wp2_with (first | ((with_reducible refine gate_callee (f := 64) rfl ?_); refine goesS (some 12) rfl Try.func64 #[.float .f64 a1] rfl ?_; (with_reducible refine (math_Trunc.calls a1 t533 _ A5.out).mono ?_); rintro e w' ⟨rfl, ⟨nd, rfl⟩⟩; refine ⟨_, rfl, ?_⟩) | ((with_reducible refine gate_callee (f := 75) rfl ?_); refine goesS (some 16) rfl Try.func75 #[.int .i64 a0, .int .i64 (f2i t533)] rfl ?_; (with_reducible refine (impl_order64.calls a0 (f2i t533) t534 _ A7.out).mono ?_); rintro e w' ⟨rfl, ⟨nd, rfl⟩⟩; refine ⟨_, rfl, ?_⟩))
   go_ret
   exact ⟨by first | rfl | (simp; done) | (simp [*]; done), by repeat (first | exact Drawn0.refl _ | apply Drawn0.step)⟩
end Go.Proofs.Ytdjlbfaiccdbfaa.PAll
