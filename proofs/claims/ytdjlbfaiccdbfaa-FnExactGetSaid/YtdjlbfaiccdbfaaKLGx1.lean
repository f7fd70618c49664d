/- Cut down from the texts of the same job by wip/shake.py to what this claim reaches. -/
import Derived.Test.YtdjlbfaiccdbfaaKLGx0
namespace Go.Proofs.Ytdjlbfaiccdbfaa.PAll
open Go.RowKit Go.Proofs.YtdjlbfaiccdbfaaW.PrintWords Go.Proofs.YtdjlbfaiccdbfaaW.PrintLast Go.Proofs.YtdjlbfaiccdbfaaW.PrintMore
attribute [local go_sem] max2_int min2_int max_two min_two max_three min_three max_four min_four   -- for this text's walks alone
set_option linter.unusedVariables false
set_option linter.unusedSimpArgs false
def laws_szValue.f (a0_0 : Int) (a0_1 : Int) (a0_2 : Nat) (a0_3 : ByteArray) (a0_4 : Int) (a1 : Int) : Option (Int) := if (wrap64 (a1 - (a0_3.size : Int))) < 0 then (some (-1)) else (some (wrap64 (a1 - (a0_3.size : Int))))
set_option maxHeartbeats 8000000 in
set_option maxRecDepth 100000 in
theorem laws_szValue.calls (a0_0 : Int) (a0_1 : Int) (a0_2 : Nat) (a0_3 : ByteArray) (a0_4 : Int) (a1 : Int) (r : Int) (w : World) (h : laws_szValue.f a0_0 a0_1 a0_2 a0_3 a0_4 a1 = some r) :
    Calls Try.prog 16 #[.agg #[.int .i64 a0_0, .int .i64 a0_1, .float .f64 a0_2, .string a0_3, .int .i64 a0_4], .int .i64 a1] w fun e w' => e = .returned (.int .i64 r) ∧ Below w.heap.size w w' := by
  have hu25 := Try.underlying25
  have HB := Aside0.mk (Below.refl w.heap.size w)
  have H : (if (wrap64 (a1 - (a0_3.size : Int))) < 0 then (some (-1)) else (some (wrap64 (a1 - (a0_3.size : Int))))) = some r := h
  clear h
  by_cases c3 : (wrap64 (a1 - (a0_3.size : Int))) < 0
  focus
   rw [if_pos c3] at H
   have c3b0 : decide ((wrap64 (a1 - (a0_3.size : Int))) < 0) = true := decide_eq_true c3
   clear c3
   obtain rfl := Option.some.inj H
  rotate_left 1
  focus
   rw [if_neg c3] at H
   have c3b0 : decide ((wrap64 (a1 - (a0_3.size : Int))) < 0) = false := decide_eq_false c3
   clear c3
   obtain rfl := Option.some.inj H
  all_goals
   go_enter Try.func16, Try.ntmps16
   go_wp2_with (first | ((with_reducible refine gate_dst (N := 2) rfl ?_); refine box_event rfl (N := 2) rfl (cs := #[.int .i64 a0_0, .int .i64 a0_1, .float .f64 a0_2, .string a0_3, .int .i64 a0_4]) (t := 25) (by first | (go_simp; done) | (go_simp; rfl)) ?_; intro gbz0_ hg wz1_ hbox hb; have nz2_ := hbs HB.out hb; have nz3_ := Aside0.mk (hbox); have nz4_ := (gws hg (hbe HB.out) : Aside0 (w.heap.size ≤ gbz0_)); have nz5_ := (gws hg (hbe HB.out) : Aside0 (w.heap.size ≤ gbz0_)); clear HB; have HB := nz2_; have BKz6_ := nz3_; have GWz7_ := nz4_; have GEz8_ := nz5_; clear nz2_ nz3_ nz4_ nz5_; clear hb hbox hg; have hczz9_ : wz1_.cell? ⟨gbz0_, 0, none⟩ = some (.int .i64 a0_0) := (blk_cell BKz6_.out 0).trans rfl; have hczz10_ : wz1_.cell? ⟨gbz0_, 1, none⟩ = some (.int .i64 a0_1) := (blk_cell BKz6_.out 1).trans rfl; have hczz11_ : wz1_.cell? ⟨gbz0_, 2, none⟩ = some (.float .f64 a0_2) := (blk_cell BKz6_.out 2).trans rfl; have hczz12_ : wz1_.cell? ⟨gbz0_, 3, none⟩ = some (.string a0_3) := (blk_cell BKz6_.out 3).trans rfl; have hczz13_ : wz1_.cell? ⟨gbz0_, 4, none⟩ = some (.int .i64 a0_4) := (blk_cell BKz6_.out 4).trans rfl; have hfzz14_ := blk_frozen BKz6_.out 0; have hfzz15_ := blk_frozen BKz6_.out 1; have hfzz16_ := blk_frozen BKz6_.out 2; have hfzz17_ := blk_frozen BKz6_.out 3; have hfzz18_ := blk_frozen BKz6_.out 4))
   go_ret
   exact ⟨by first | rfl | (simp [errW_none, errW_some] <;> rfl) | (simp [*, errW_none, errW_some] <;> rfl), by repeat (first | (with_reducible first | exact HB.out | apply below_alloc | apply pw_below_drewN | apply below_drew1 | refine below_set ?_ GEz8_.out) | exact HB.out)⟩
def spec_l1zero.f (a0_0 : Int) (a0_1 : Int) (a0_2 : Nat) (a0_3 : ByteArray) (a0_4 : Int) (a1 : Bool) (a2 : Bool) (a3 : Bool) (a4 : Bool) : Option (Bool) := if a1 = true then (if a2 = true then (if a3 = true then (if a4 = true then (some true) else (some (a0_4 == 0))) else (if a0_3.toList = ([] : List UInt8) then (if a4 = true then (some true) else (some (a0_4 == 0))) else (some false))) else (if (feq a0_2 0) = true then (if a3 = true then (if a4 = true then (some true) else (some (a0_4 == 0))) else (if a0_3.toList = ([] : List UInt8) then (if a4 = true then (some true) else (some (a0_4 == 0))) else (some false))) else (some false))) else (if a0_1 = 0 then (if a2 = true then (if a3 = true then (if a4 = true then (some true) else (some (a0_4 == 0))) else (if a0_3.toList = ([] : List UInt8) then (if a4 = true then (some true) else (some (a0_4 == 0))) else (some false))) else (if (feq a0_2 0) = true then (if a3 = true then (if a4 = true then (some true) else (some (a0_4 == 0))) else (if a0_3.toList = ([] : List UInt8) then (if a4 = true then (some true) else (some (a0_4 == 0))) else (some false))) else (some false))) else (some false))
set_option maxHeartbeats 8000000 in
set_option maxRecDepth 100000 in
theorem spec_l1zero.calls (a0_0 : Int) (a0_1 : Int) (a0_2 : Nat) (a0_3 : ByteArray) (a0_4 : Int) (a1 : Bool) (a2 : Bool) (a3 : Bool) (a4 : Bool) (r : Bool) (w : World) (h : spec_l1zero.f a0_0 a0_1 a0_2 a0_3 a0_4 a1 a2 a3 a4 = some r) :
    Calls Try.prog 53 #[.agg #[.int .i64 a0_0, .int .i64 a0_1, .float .f64 a0_2, .string a0_3, .int .i64 a0_4], .bool a1, .bool a2, .bool a3, .bool a4] w fun e w' => e = .returned (.bool r) ∧ Below w.heap.size w w' := by
  have hu28 := Try.underlying28
  have HB := Aside0.mk (Below.refl w.heap.size w)
  have H : (if a1 = true then (if a2 = true then (if a3 = true then (if a4 = true then (some true) else (some (a0_4 == 0))) else (if a0_3.toList = ([] : List UInt8) then (if a4 = true then (some true) else (some (a0_4 == 0))) else (some false))) else (if (feq a0_2 0) = true then (if a3 = true then (if a4 = true then (some true) else (some (a0_4 == 0))) else (if a0_3.toList = ([] : List UInt8) then (if a4 = true then (some true) else (some (a0_4 == 0))) else (some false))) else (some false))) else (if a0_1 = 0 then (if a2 = true then (if a3 = true then (if a4 = true then (some true) else (some (a0_4 == 0))) else (if a0_3.toList = ([] : List UInt8) then (if a4 = true then (some true) else (some (a0_4 == 0))) else (some false))) else (if (feq a0_2 0) = true then (if a3 = true then (if a4 = true then (some true) else (some (a0_4 == 0))) else (if a0_3.toList = ([] : List UInt8) then (if a4 = true then (some true) else (some (a0_4 == 0))) else (some false))) else (some false))) else (some false))) = some r := h
  clear h
  by_cases c6 : a1 = true
  focus
   subst c6
   have H1 : (if a2 = true then (if a3 = true then (if a4 = true then (some true) else (some (a0_4 == 0))) else (if a0_3.toList = ([] : List UInt8) then (if a4 = true then (some true) else (some (a0_4 == 0))) else (some false))) else (if (feq a0_2 0) = true then (if a3 = true then (if a4 = true then (some true) else (some (a0_4 == 0))) else (if a0_3.toList = ([] : List UInt8) then (if a4 = true then (some true) else (some (a0_4 == 0))) else (some false))) else (some false))) = some r := by rw [if_pos rfl] at H; exact H
   clear H
   have H := H1
   clear H1
   by_cases c7 : a2 = true
   focus
    subst c7
    have H1 : (if a3 = true then (if a4 = true then (some true) else (some (a0_4 == 0))) else (if a0_3.toList = ([] : List UInt8) then (if a4 = true then (some true) else (some (a0_4 == 0))) else (some false))) = some r := by rw [if_pos rfl] at H; exact H
    clear H
    have H := H1
    clear H1
    by_cases c8 : a3 = true
    focus
     subst c8
     have H1 : (if a4 = true then (some true) else (some (a0_4 == 0))) = some r := by rw [if_pos rfl] at H; exact H
     clear H
     have H := H1
     clear H1
     by_cases c9 : a4 = true
     · subst c9
       have H1 : (some true) = some r := by rw [if_pos rfl] at H; exact H
       clear H
       have H := H1
       clear H1
       obtain rfl := Option.some.inj H
       go_enter Try.func53, Try.ntmps53
       go_wp2_with (first | ((with_reducible refine gate_dst (N := 5) rfl ?_); refine box_event rfl (N := 5) rfl (cs := #[.int .i64 a0_0, .int .i64 a0_1, .float .f64 a0_2, .string a0_3, .int .i64 a0_4]) (t := 28) (by first | (go_simp; done) | (go_simp; rfl)) ?_; intro gb102 hg w10 hbox hb; have BK102 := Aside0.mk (hbox); have GW102 := (gws hg (hbe HB.out) : Aside0 (w.heap.size ≤ gb102)); have GE102 := (gws hg (hbe HB.out) : Aside0 (w.heap.size ≤ gb102)); replace HB := hbs HB.out hb; clear hb hbox hg))
       go_ret
       exact ⟨by first | rfl | (simp <;> rfl) | (simp [*] <;> rfl), hbe1 HB.out GE102.out⟩
     focus
      replace c9 := Bool.eq_false_iff.mpr c9
      subst c9
      have H1 : (some (a0_4 == 0)) = some r := by rw [if_neg (show ¬ (false = true) by decide)] at H; exact H
      clear H
      have H := H1
      clear H1
      obtain rfl := Option.some.inj H
    rotate_left 1
    focus
     replace c8 := Bool.eq_false_iff.mpr c8
     subst c8
     have H1 : (if a0_3.toList = ([] : List UInt8) then (if a4 = true then (some true) else (some (a0_4 == 0))) else (some false)) = some r := by rw [if_neg (show ¬ (false = true) by decide)] at H; exact H
     clear H
     have H := H1
     clear H1
     by_cases c13 : a0_3.toList = ([] : List UInt8)
     focus
      rw [if_pos c13] at H
      have c13b0 : (a0_3.toList == ([] : List UInt8)) = true := beq_iff_eq.mpr c13
      have c13b1 : (a0_3.toList != ([] : List UInt8)) = false := bne_eq_false_iff_eq.mpr c13
      clear c13
      by_cases c14 : a4 = true
      focus
       subst c14
       have H1 : (some true) = some r := by rw [if_pos rfl] at H; exact H
       clear H
       have H := H1
       clear H1
       obtain rfl := Option.some.inj H
      rotate_left 1
      focus
       replace c14 := Bool.eq_false_iff.mpr c14
       subst c14
       have H1 : (some (a0_4 == 0)) = some r := by rw [if_neg (show ¬ (false = true) by decide)] at H; exact H
       clear H
       have H := H1
       clear H1
       obtain rfl := Option.some.inj H
     rotate_left 2
     focus
      rw [if_neg c13] at H
      have c13b0 : (a0_3.toList == ([] : List UInt8)) = false := beq_eq_false_iff_ne.mpr c13
      have c13b1 : (a0_3.toList != ([] : List UInt8)) = true := bne_iff_ne.mpr c13
      obtain rfl := Option.some.inj H
   rotate_left 4
   focus
    replace c7 := Bool.eq_false_iff.mpr c7
    subst c7
    have H1 : (if (feq a0_2 0) = true then (if a3 = true then (if a4 = true then (some true) else (some (a0_4 == 0))) else (if a0_3.toList = ([] : List UInt8) then (if a4 = true then (some true) else (some (a0_4 == 0))) else (some false))) else (some false)) = some r := by rw [if_neg (show ¬ (false = true) by decide)] at H; exact H
    clear H
    have H := H1
    clear H1
    by_cases c21 : (feq a0_2 0) = true
    focus
     rw [if_pos c21] at H
     have c21b0 : (feq a0_2 0) = true := c21
     clear c21
     by_cases c22 : a3 = true
     focus
      subst c22
      have H1 : (if a4 = true then (some true) else (some (a0_4 == 0))) = some r := by rw [if_pos rfl] at H; exact H
      clear H
      have H := H1
      clear H1
      by_cases c23 : a4 = true
      focus
       subst c23
       have H1 : (some true) = some r := by rw [if_pos rfl] at H; exact H
       clear H
       have H := H1
       clear H1
       obtain rfl := Option.some.inj H
      rotate_left 1
      focus
       replace c23 := Bool.eq_false_iff.mpr c23
       subst c23
       have H1 : (some (a0_4 == 0)) = some r := by rw [if_neg (show ¬ (false = true) by decide)] at H; exact H
       clear H
       have H := H1
       clear H1
       obtain rfl := Option.some.inj H
     rotate_left 2
     focus
      replace c22 := Bool.eq_false_iff.mpr c22
      subst c22
      have H1 : (if a0_3.toList = ([] : List UInt8) then (if a4 = true then (some true) else (some (a0_4 == 0))) else (some false)) = some r := by rw [if_neg (show ¬ (false = true) by decide)] at H; exact H
      clear H
      have H := H1
      clear H1
      by_cases c28 : a0_3.toList = ([] : List UInt8)
      focus
       rw [if_pos c28] at H
       have c28b0 : (a0_3.toList == ([] : List UInt8)) = true := beq_iff_eq.mpr c28
       have c28b1 : (a0_3.toList != ([] : List UInt8)) = false := bne_eq_false_iff_eq.mpr c28
       clear c28
       by_cases c29 : a4 = true
       focus
        subst c29
        have H1 : (some true) = some r := by rw [if_pos rfl] at H; exact H
        clear H
        have H := H1
        clear H1
        obtain rfl := Option.some.inj H
       rotate_left 1
       focus
        replace c29 := Bool.eq_false_iff.mpr c29
        subst c29
        have H1 : (some (a0_4 == 0)) = some r := by rw [if_neg (show ¬ (false = true) by decide)] at H; exact H
        clear H
        have H := H1
        clear H1
        obtain rfl := Option.some.inj H
      rotate_left 2
      focus
       rw [if_neg c28] at H
       have c28b0 : (a0_3.toList == ([] : List UInt8)) = false := beq_eq_false_iff_ne.mpr c28
       have c28b1 : (a0_3.toList != ([] : List UInt8)) = true := bne_iff_ne.mpr c28
       obtain rfl := Option.some.inj H
    rotate_left 5
    focus
     rw [if_neg c21] at H
     have c21b0 : (feq a0_2 0) = false := by simpa using c21
     clear c21
     obtain rfl := Option.some.inj H
  rotate_left 10
  focus
   replace c6 := Bool.eq_false_iff.mpr c6
   subst c6
   have H1 : (if a0_1 = 0 then (if a2 = true then (if a3 = true then (if a4 = true then (some true) else (some (a0_4 == 0))) else (if a0_3.toList = ([] : List UInt8) then (if a4 = true then (some true) else (some (a0_4 == 0))) else (some false))) else (if (feq a0_2 0) = true then (if a3 = true then (if a4 = true then (some true) else (some (a0_4 == 0))) else (if a0_3.toList = ([] : List UInt8) then (if a4 = true then (some true) else (some (a0_4 == 0))) else (some false))) else (some false))) else (some false)) = some r := by rw [if_neg (show ¬ (false = true) by decide)] at H; exact H
   clear H
   have H := H1
   clear H1
   by_cases c38 : a0_1 = 0
   focus
    rw [if_pos c38] at H
    have c38b0 : (a0_1 == 0) = true := beq_iff_eq.mpr c38
    have c38b1 : (a0_1 != 0) = false := bne_eq_false_iff_eq.mpr c38
    clear c38
    by_cases c39 : a2 = true
    focus
     subst c39
     have H1 : (if a3 = true then (if a4 = true then (some true) else (some (a0_4 == 0))) else (if a0_3.toList = ([] : List UInt8) then (if a4 = true then (some true) else (some (a0_4 == 0))) else (some false))) = some r := by rw [if_pos rfl] at H; exact H
     clear H
     have H := H1
     clear H1
     by_cases c40 : a3 = true
     focus
      subst c40
      have H1 : (if a4 = true then (some true) else (some (a0_4 == 0))) = some r := by rw [if_pos rfl] at H; exact H
      clear H
      have H := H1
      clear H1
      by_cases c41 : a4 = true
      focus
       subst c41
       have H1 : (some true) = some r := by rw [if_pos rfl] at H; exact H
       clear H
       have H := H1
       clear H1
       obtain rfl := Option.some.inj H
      rotate_left 1
      focus
       replace c41 := Bool.eq_false_iff.mpr c41
       subst c41
       have H1 : (some (a0_4 == 0)) = some r := by rw [if_neg (show ¬ (false = true) by decide)] at H; exact H
       clear H
       have H := H1
       clear H1
       obtain rfl := Option.some.inj H
     rotate_left 2
     focus
      replace c40 := Bool.eq_false_iff.mpr c40
      subst c40
      have H1 : (if a0_3.toList = ([] : List UInt8) then (if a4 = true then (some true) else (some (a0_4 == 0))) else (some false)) = some r := by rw [if_neg (show ¬ (false = true) by decide)] at H; exact H
      clear H
      have H := H1
      clear H1
      by_cases c46 : a0_3.toList = ([] : List UInt8)
      focus
       rw [if_pos c46] at H
       have c46b0 : (a0_3.toList == ([] : List UInt8)) = true := beq_iff_eq.mpr c46
       have c46b1 : (a0_3.toList != ([] : List UInt8)) = false := bne_eq_false_iff_eq.mpr c46
       clear c46
       by_cases c47 : a4 = true
       focus
        subst c47
        have H1 : (some true) = some r := by rw [if_pos rfl] at H; exact H
        clear H
        have H := H1
        clear H1
        obtain rfl := Option.some.inj H
       rotate_left 1
       focus
        replace c47 := Bool.eq_false_iff.mpr c47
        subst c47
        have H1 : (some (a0_4 == 0)) = some r := by rw [if_neg (show ¬ (false = true) by decide)] at H; exact H
        clear H
        have H := H1
        clear H1
        obtain rfl := Option.some.inj H
      rotate_left 2
      focus
       rw [if_neg c46] at H
       have c46b0 : (a0_3.toList == ([] : List UInt8)) = false := beq_eq_false_iff_ne.mpr c46
       have c46b1 : (a0_3.toList != ([] : List UInt8)) = true := bne_iff_ne.mpr c46
       obtain rfl := Option.some.inj H
    rotate_left 5
    focus
     replace c39 := Bool.eq_false_iff.mpr c39
     subst c39
     have H1 : (if (feq a0_2 0) = true then (if a3 = true then (if a4 = true then (some true) else (some (a0_4 == 0))) else (if a0_3.toList = ([] : List UInt8) then (if a4 = true then (some true) else (some (a0_4 == 0))) else (some false))) else (some false)) = some r := by rw [if_neg (show ¬ (false = true) by decide)] at H; exact H
     clear H
     have H := H1
     clear H1
     by_cases c54 : (feq a0_2 0) = true
     focus
      rw [if_pos c54] at H
      have c54b0 : (feq a0_2 0) = true := c54
      clear c54
      by_cases c55 : a3 = true
      focus
       subst c55
       have H1 : (if a4 = true then (some true) else (some (a0_4 == 0))) = some r := by rw [if_pos rfl] at H; exact H
       clear H
       have H := H1
       clear H1
       by_cases c56 : a4 = true
       focus
        subst c56
        have H1 : (some true) = some r := by rw [if_pos rfl] at H; exact H
        clear H
        have H := H1
        clear H1
        obtain rfl := Option.some.inj H
       rotate_left 1
       focus
        replace c56 := Bool.eq_false_iff.mpr c56
        subst c56
        have H1 : (some (a0_4 == 0)) = some r := by rw [if_neg (show ¬ (false = true) by decide)] at H; exact H
        clear H
        have H := H1
        clear H1
        obtain rfl := Option.some.inj H
      rotate_left 2
      focus
       replace c55 := Bool.eq_false_iff.mpr c55
       subst c55
       have H1 : (if a0_3.toList = ([] : List UInt8) then (if a4 = true then (some true) else (some (a0_4 == 0))) else (some false)) = some r := by rw [if_neg (show ¬ (false = true) by decide)] at H; exact H
       clear H
       have H := H1
       clear H1
       by_cases c61 : a0_3.toList = ([] : List UInt8)
       focus
        rw [if_pos c61] at H
        have c61b0 : (a0_3.toList == ([] : List UInt8)) = true := beq_iff_eq.mpr c61
        have c61b1 : (a0_3.toList != ([] : List UInt8)) = false := bne_eq_false_iff_eq.mpr c61
        clear c61
        by_cases c62 : a4 = true
        focus
         subst c62
         have H1 : (some true) = some r := by rw [if_pos rfl] at H; exact H
         clear H
         have H := H1
         clear H1
         obtain rfl := Option.some.inj H
        rotate_left 1
        focus
         replace c62 := Bool.eq_false_iff.mpr c62
         subst c62
         have H1 : (some (a0_4 == 0)) = some r := by rw [if_neg (show ¬ (false = true) by decide)] at H; exact H
         clear H
         have H := H1
         clear H1
         obtain rfl := Option.some.inj H
       rotate_left 2
       focus
        rw [if_neg c61] at H
        have c61b0 : (a0_3.toList == ([] : List UInt8)) = false := beq_eq_false_iff_ne.mpr c61
        have c61b1 : (a0_3.toList != ([] : List UInt8)) = true := bne_iff_ne.mpr c61
        obtain rfl := Option.some.inj H
     rotate_left 5
     focus
      rw [if_neg c54] at H
      have c54b0 : (feq a0_2 0) = false := by simpa using c54
      clear c54
      obtain rfl := Option.some.inj H
   rotate_left 11
   focus
    rw [if_neg c38] at H
    have c38b0 : (a0_1 == 0) = false := beq_eq_false_iff_ne.mpr c38
    have c38b1 : (a0_1 != 0) = true := bne_iff_ne.mpr c38
    obtain rfl := Option.some.inj H
  all_goals
   go_enter Try.func53, Try.ntmps53
   go_wp2_with (first | ((with_reducible refine gate_dst (N := 5) rfl ?_); refine box_event rfl (N := 5) rfl (cs := #[.int .i64 a0_0, .int .i64 a0_1, .float .f64 a0_2, .string a0_3, .int .i64 a0_4]) (t := 28) (by first | (go_simp; done) | (go_simp; rfl)) ?_; intro gbz0_ hg wz1_ hbox hb; have nz2_ := hbs HB.out hb; have nz3_ := Aside0.mk (hbox); have nz4_ := (gws hg (hbe HB.out) : Aside0 (w.heap.size ≤ gbz0_)); have nz5_ := (gws hg (hbe HB.out) : Aside0 (w.heap.size ≤ gbz0_)); clear HB; have HB := nz2_; have BKz6_ := nz3_; have GWz7_ := nz4_; have GEz8_ := nz5_; clear nz2_ nz3_ nz4_ nz5_; clear hb hbox hg; have hczz9_ : wz1_.cell? ⟨gbz0_, 0, none⟩ = some (.int .i64 a0_0) := (blk_cell BKz6_.out 0).trans rfl; have hczz10_ : wz1_.cell? ⟨gbz0_, 1, none⟩ = some (.int .i64 a0_1) := (blk_cell BKz6_.out 1).trans rfl; have hczz11_ : wz1_.cell? ⟨gbz0_, 2, none⟩ = some (.float .f64 a0_2) := (blk_cell BKz6_.out 2).trans rfl; have hczz12_ : wz1_.cell? ⟨gbz0_, 3, none⟩ = some (.string a0_3) := (blk_cell BKz6_.out 3).trans rfl; have hczz13_ : wz1_.cell? ⟨gbz0_, 4, none⟩ = some (.int .i64 a0_4) := (blk_cell BKz6_.out 4).trans rfl; have hfzz14_ := blk_frozen BKz6_.out 0; have hfzz15_ := blk_frozen BKz6_.out 1; have hfzz16_ := blk_frozen BKz6_.out 2; have hfzz17_ := blk_frozen BKz6_.out 3; have hfzz18_ := blk_frozen BKz6_.out 4))
   go_ret
   exact ⟨by first | rfl | (simp [errW_none, errW_some] <;> rfl) | (simp [*, errW_none, errW_some] <;> rfl), by repeat (first | (with_reducible first | exact HB.out | apply below_alloc | apply pw_below_drewN | apply below_drew1 | refine below_set ?_ GEz8_.out) | exact HB.out)⟩
end Go.Proofs.Ytdjlbfaiccdbfaa.PAll
