/- Cut down from the texts of the same job by wip/shake.py to what this claim reaches. -/
import Derived.Test.YtdjlbfaiccdbfaaKLGx0
namespace Go.Proofs.Ytdjlbfaiccdbfaa.PAll
open Go.RowKit Go.Proofs.YtdjlbfaiccdbfaaW.PrintWords Go.Proofs.YtdjlbfaiccdbfaaW.PrintLast Go.Proofs.YtdjlbfaiccdbfaaW.PrintMore
attribute [local go_sem] max2_int min2_int max_two min_two max_three min_three max_four min_four   -- for this text's walks alone
set_option linter.unusedVariables false
set_option linter.unusedSimpArgs false
def impl_ValueOk.j0 : Nat → Bool → Bool → Bool → Bool → Int → Bool → Int → Int → Nat → ByteArray → Int → Option (Bool)
  | 0, _, _, _, _, _, _, _, _, _, _, _ => none
  | k + 1, x3, x4, x5, x6, x20, x85, x115000, x115001, x115002, x115003, x115004 => if x85 = true then (if x3 = true then (if x4 = true then (if x5 = true then (some (decide (x115004 ≥ 0))) else (some false)) else (some false)) else (some false)) else (if x20 = 8 then (if x4 = true then (if x5 = true then (if x6 = true then (if x115001 ≥ 0 then (some (decide (x115001 < 15))) else (some false)) else (some false)) else (some false)) else (some false)) else (some false))
def impl_ValueOk.f (k : Nat) (a0_0 : Int) (a0_1 : Int) (a0_2 : Nat) (a0_3 : ByteArray) (a0_4 : Int) : Option (Bool) := if a0_0 = 0 then (if a0_1 = 0 then (if (feq a0_2 0) = true then (if a0_3.toList = ([] : List UInt8) then (some (a0_4 == 0)) else (some false)) else (some false)) else (some false)) else (if a0_0 = 1 then (if a0_1 = 0 then (if (feq a0_2 0) = true then (if a0_3.toList = ([] : List UInt8) then (some (a0_4 == 0)) else (some false)) else (some false)) else (if a0_1 = 1 then (if (feq a0_2 0) = true then (if a0_3.toList = ([] : List UInt8) then (some (a0_4 == 0)) else (some false)) else (some false)) else (some false))) else (if a0_0 = 2 then (if (feq a0_2 0) = true then (if a0_3.toList = ([] : List UInt8) then (some (a0_4 == 0)) else (some false)) else (some false)) else (if a0_0 = 3 then (if a0_1 = 0 then (if a0_3.toList = ([] : List UInt8) then (some (a0_4 == 0)) else (some false)) else (some false)) else (if a0_0 = 4 then (if a0_1 = 0 then (if (feq a0_2 0) = true then (if a0_4 = 0 then (some (decide ((a0_3.size : Int) ≤ 4000))) else (some false)) else (some false)) else (some false)) else (if a0_0 = 5 then (impl_ValueOk.j0 k (a0_1 == 0) (feq a0_2 0) (a0_3.toList == ([] : List UInt8)) (a0_4 == 0) a0_0 (a0_0 == 5) a0_0 a0_1 a0_2 a0_3 a0_4) else (if a0_0 = 6 then (impl_ValueOk.j0 k (a0_1 == 0) (feq a0_2 0) (a0_3.toList == ([] : List UInt8)) (a0_4 == 0) a0_0 (a0_0 == 6) a0_0 a0_1 a0_2 a0_3 a0_4) else (impl_ValueOk.j0 k (a0_1 == 0) (feq a0_2 0) (a0_3.toList == ([] : List UInt8)) (a0_4 == 0) a0_0 (a0_0 == 7) a0_0 a0_1 a0_2 a0_3 a0_4)))))))
set_option maxHeartbeats 8000000 in
set_option maxRecDepth 100000 in
theorem impl_ValueOk.calls (k : Nat) (a0_0 : Int) (a0_1 : Int) (a0_2 : Nat) (a0_3 : ByteArray) (a0_4 : Int) (r : Bool) (w : World) (h : impl_ValueOk.f k a0_0 a0_1 a0_2 a0_3 a0_4 = some r) :
    Calls Try.prog 19 #[.agg #[.int .i64 a0_0, .int .i64 a0_1, .float .f64 a0_2, .string a0_3, .int .i64 a0_4]] w fun e w' => e = .returned (.bool r) ∧ Below w.heap.size w w' := by
  have hu28 := Try.underlying28
  have HB := Aside0.mk (Below.refl w.heap.size w)
  have H : (if a0_0 = 0 then (if a0_1 = 0 then (if (feq a0_2 0) = true then (if a0_3.toList = ([] : List UInt8) then (some (a0_4 == 0)) else (some false)) else (some false)) else (some false)) else (if a0_0 = 1 then (if a0_1 = 0 then (if (feq a0_2 0) = true then (if a0_3.toList = ([] : List UInt8) then (some (a0_4 == 0)) else (some false)) else (some false)) else (if a0_1 = 1 then (if (feq a0_2 0) = true then (if a0_3.toList = ([] : List UInt8) then (some (a0_4 == 0)) else (some false)) else (some false)) else (some false))) else (if a0_0 = 2 then (if (feq a0_2 0) = true then (if a0_3.toList = ([] : List UInt8) then (some (a0_4 == 0)) else (some false)) else (some false)) else (if a0_0 = 3 then (if a0_1 = 0 then (if a0_3.toList = ([] : List UInt8) then (some (a0_4 == 0)) else (some false)) else (some false)) else (if a0_0 = 4 then (if a0_1 = 0 then (if (feq a0_2 0) = true then (if a0_4 = 0 then (some (decide ((a0_3.size : Int) ≤ 4000))) else (some false)) else (some false)) else (some false)) else (if a0_0 = 5 then (impl_ValueOk.j0 k (a0_1 == 0) (feq a0_2 0) (a0_3.toList == ([] : List UInt8)) (a0_4 == 0) a0_0 (a0_0 == 5) a0_0 a0_1 a0_2 a0_3 a0_4) else (if a0_0 = 6 then (impl_ValueOk.j0 k (a0_1 == 0) (feq a0_2 0) (a0_3.toList == ([] : List UInt8)) (a0_4 == 0) a0_0 (a0_0 == 6) a0_0 a0_1 a0_2 a0_3 a0_4) else (impl_ValueOk.j0 k (a0_1 == 0) (feq a0_2 0) (a0_3.toList == ([] : List UInt8)) (a0_4 == 0) a0_0 (a0_0 == 7) a0_0 a0_1 a0_2 a0_3 a0_4)))))))) = some r := h
  clear h
  by_cases c2 : a0_0 = 0
  focus
   rw [if_pos c2] at H
   have c2b0 : (a0_0 == 0) = true := beq_iff_eq.mpr c2
   have c2b1 : (a0_0 != 0) = false := bne_eq_false_iff_eq.mpr c2
   clear c2
   by_cases c3 : a0_1 = 0
   focus
    rw [if_pos c3] at H
    have c3b0 : (a0_1 == 0) = true := beq_iff_eq.mpr c3
    have c3b1 : (a0_1 != 0) = false := bne_eq_false_iff_eq.mpr c3
    clear c3
    by_cases c4 : (feq a0_2 0) = true
    focus
     rw [if_pos c4] at H
     have c4b0 : (feq a0_2 0) = true := c4
     clear c4
     by_cases c5 : a0_3.toList = ([] : List UInt8)
     focus
      rw [if_pos c5] at H
      have c5b0 : (a0_3.toList == ([] : List UInt8)) = true := beq_iff_eq.mpr c5
      have c5b1 : (a0_3.toList != ([] : List UInt8)) = false := bne_eq_false_iff_eq.mpr c5
      clear c5
      obtain rfl := Option.some.inj H
     rotate_left 1
     focus
      rw [if_neg c5] at H
      have c5b0 : (a0_3.toList == ([] : List UInt8)) = false := beq_eq_false_iff_ne.mpr c5
      have c5b1 : (a0_3.toList != ([] : List UInt8)) = true := bne_iff_ne.mpr c5
      obtain rfl := Option.some.inj H
    rotate_left 2
    focus
     rw [if_neg c4] at H
     have c4b0 : (feq a0_2 0) = false := by simpa using c4
     clear c4
     obtain rfl := Option.some.inj H
   rotate_left 3
   focus
    rw [if_neg c3] at H
    have c3b0 : (a0_1 == 0) = false := beq_eq_false_iff_ne.mpr c3
    have c3b1 : (a0_1 != 0) = true := bne_iff_ne.mpr c3
    obtain rfl := Option.some.inj H
  rotate_left 4
  focus
   rw [if_neg c2] at H
   have c2b0 : (a0_0 == 0) = false := beq_eq_false_iff_ne.mpr c2
   have c2b1 : (a0_0 != 0) = true := bne_iff_ne.mpr c2
   by_cases c14 : a0_0 = 1
   focus
    rw [if_pos c14] at H
    have c14b0 : (a0_0 == 1) = true := beq_iff_eq.mpr c14
    have c14b1 : (a0_0 != 1) = false := bne_eq_false_iff_eq.mpr c14
    clear c14
    by_cases c15 : a0_1 = 0
    focus
     rw [if_pos c15] at H
     have c15b0 : (a0_1 == 0) = true := beq_iff_eq.mpr c15
     have c15b1 : (a0_1 != 0) = false := bne_eq_false_iff_eq.mpr c15
     clear c15
     by_cases c16 : (feq a0_2 0) = true
     focus
      rw [if_pos c16] at H
      have c16b0 : (feq a0_2 0) = true := c16
      clear c16
      by_cases c17 : a0_3.toList = ([] : List UInt8)
      focus
       rw [if_pos c17] at H
       have c17b0 : (a0_3.toList == ([] : List UInt8)) = true := beq_iff_eq.mpr c17
       have c17b1 : (a0_3.toList != ([] : List UInt8)) = false := bne_eq_false_iff_eq.mpr c17
       clear c17
       obtain rfl := Option.some.inj H
      rotate_left 1
      focus
       rw [if_neg c17] at H
       have c17b0 : (a0_3.toList == ([] : List UInt8)) = false := beq_eq_false_iff_ne.mpr c17
       have c17b1 : (a0_3.toList != ([] : List UInt8)) = true := bne_iff_ne.mpr c17
       obtain rfl := Option.some.inj H
     rotate_left 2
     focus
      rw [if_neg c16] at H
      have c16b0 : (feq a0_2 0) = false := by simpa using c16
      clear c16
      obtain rfl := Option.some.inj H
    rotate_left 3
    focus
     rw [if_neg c15] at H
     have c15b0 : (a0_1 == 0) = false := beq_eq_false_iff_ne.mpr c15
     have c15b1 : (a0_1 != 0) = true := bne_iff_ne.mpr c15
     by_cases c24 : a0_1 = 1
     focus
      rw [if_pos c24] at H
      have c24b0 : (a0_1 == 1) = true := beq_iff_eq.mpr c24
      have c24b1 : (a0_1 != 1) = false := bne_eq_false_iff_eq.mpr c24
      clear c24
      by_cases c25 : (feq a0_2 0) = true
      focus
       rw [if_pos c25] at H
       have c25b0 : (feq a0_2 0) = true := c25
       clear c25
       by_cases c26 : a0_3.toList = ([] : List UInt8)
       focus
        rw [if_pos c26] at H
        have c26b0 : (a0_3.toList == ([] : List UInt8)) = true := beq_iff_eq.mpr c26
        have c26b1 : (a0_3.toList != ([] : List UInt8)) = false := bne_eq_false_iff_eq.mpr c26
        clear c26
        obtain rfl := Option.some.inj H
       rotate_left 1
       focus
        rw [if_neg c26] at H
        have c26b0 : (a0_3.toList == ([] : List UInt8)) = false := beq_eq_false_iff_ne.mpr c26
        have c26b1 : (a0_3.toList != ([] : List UInt8)) = true := bne_iff_ne.mpr c26
        obtain rfl := Option.some.inj H
      rotate_left 2
      focus
       rw [if_neg c25] at H
       have c25b0 : (feq a0_2 0) = false := by simpa using c25
       clear c25
       obtain rfl := Option.some.inj H
     rotate_left 3
     focus
      rw [if_neg c24] at H
      have c24b0 : (a0_1 == 1) = false := beq_eq_false_iff_ne.mpr c24
      have c24b1 : (a0_1 != 1) = true := bne_iff_ne.mpr c24
      obtain rfl := Option.some.inj H
   rotate_left 7
   focus
    rw [if_neg c14] at H
    have c14b0 : (a0_0 == 1) = false := beq_eq_false_iff_ne.mpr c14
    have c14b1 : (a0_0 != 1) = true := bne_iff_ne.mpr c14
    by_cases c35 : a0_0 = 2
    focus
     rw [if_pos c35] at H
     have c35b0 : (a0_0 == 2) = true := beq_iff_eq.mpr c35
     have c35b1 : (a0_0 != 2) = false := bne_eq_false_iff_eq.mpr c35
     clear c35
     by_cases c36 : (feq a0_2 0) = true
     focus
      rw [if_pos c36] at H
      have c36b0 : (feq a0_2 0) = true := c36
      clear c36
      by_cases c37 : a0_3.toList = ([] : List UInt8)
      focus
       rw [if_pos c37] at H
       have c37b0 : (a0_3.toList == ([] : List UInt8)) = true := beq_iff_eq.mpr c37
       have c37b1 : (a0_3.toList != ([] : List UInt8)) = false := bne_eq_false_iff_eq.mpr c37
       clear c37
       obtain rfl := Option.some.inj H
      rotate_left 1
      focus
       rw [if_neg c37] at H
       have c37b0 : (a0_3.toList == ([] : List UInt8)) = false := beq_eq_false_iff_ne.mpr c37
       have c37b1 : (a0_3.toList != ([] : List UInt8)) = true := bne_iff_ne.mpr c37
       obtain rfl := Option.some.inj H
     rotate_left 2
     focus
      rw [if_neg c36] at H
      have c36b0 : (feq a0_2 0) = false := by simpa using c36
      clear c36
      obtain rfl := Option.some.inj H
    rotate_left 3
    focus
     rw [if_neg c35] at H
     have c35b0 : (a0_0 == 2) = false := beq_eq_false_iff_ne.mpr c35
     have c35b1 : (a0_0 != 2) = true := bne_iff_ne.mpr c35
     by_cases c44 : a0_0 = 3
     focus
      rw [if_pos c44] at H
      have c44b0 : (a0_0 == 3) = true := beq_iff_eq.mpr c44
      have c44b1 : (a0_0 != 3) = false := bne_eq_false_iff_eq.mpr c44
      clear c44
      by_cases c45 : a0_1 = 0
      focus
       rw [if_pos c45] at H
       have c45b0 : (a0_1 == 0) = true := beq_iff_eq.mpr c45
       have c45b1 : (a0_1 != 0) = false := bne_eq_false_iff_eq.mpr c45
       clear c45
       by_cases c46 : a0_3.toList = ([] : List UInt8)
       focus
        rw [if_pos c46] at H
        have c46b0 : (a0_3.toList == ([] : List UInt8)) = true := beq_iff_eq.mpr c46
        have c46b1 : (a0_3.toList != ([] : List UInt8)) = false := bne_eq_false_iff_eq.mpr c46
        clear c46
        obtain rfl := Option.some.inj H
       rotate_left 1
       focus
        rw [if_neg c46] at H
        have c46b0 : (a0_3.toList == ([] : List UInt8)) = false := beq_eq_false_iff_ne.mpr c46
        have c46b1 : (a0_3.toList != ([] : List UInt8)) = true := bne_iff_ne.mpr c46
        obtain rfl := Option.some.inj H
      rotate_left 2
      focus
       rw [if_neg c45] at H
       have c45b0 : (a0_1 == 0) = false := beq_eq_false_iff_ne.mpr c45
       have c45b1 : (a0_1 != 0) = true := bne_iff_ne.mpr c45
       obtain rfl := Option.some.inj H
     rotate_left 3
     focus
      rw [if_neg c44] at H
      have c44b0 : (a0_0 == 3) = false := beq_eq_false_iff_ne.mpr c44
      have c44b1 : (a0_0 != 3) = true := bne_iff_ne.mpr c44
      by_cases c53 : a0_0 = 4
      focus
       rw [if_pos c53] at H
       have c53b0 : (a0_0 == 4) = true := beq_iff_eq.mpr c53
       have c53b1 : (a0_0 != 4) = false := bne_eq_false_iff_eq.mpr c53
       clear c53
       by_cases c54 : a0_1 = 0
       focus
        rw [if_pos c54] at H
        have c54b0 : (a0_1 == 0) = true := beq_iff_eq.mpr c54
        have c54b1 : (a0_1 != 0) = false := bne_eq_false_iff_eq.mpr c54
        clear c54
        by_cases c55 : (feq a0_2 0) = true
        focus
         rw [if_pos c55] at H
         have c55b0 : (feq a0_2 0) = true := c55
         clear c55
         by_cases c56 : a0_4 = 0
         focus
          rw [if_pos c56] at H
          have c56b0 : (a0_4 == 0) = true := beq_iff_eq.mpr c56
          have c56b1 : (a0_4 != 0) = false := bne_eq_false_iff_eq.mpr c56
          clear c56
          obtain rfl := Option.some.inj H
         rotate_left 1
         focus
          rw [if_neg c56] at H
          have c56b0 : (a0_4 == 0) = false := beq_eq_false_iff_ne.mpr c56
          have c56b1 : (a0_4 != 0) = true := bne_iff_ne.mpr c56
          obtain rfl := Option.some.inj H
        rotate_left 2
        focus
         rw [if_neg c55] at H
         have c55b0 : (feq a0_2 0) = false := by simpa using c55
         clear c55
         obtain rfl := Option.some.inj H
       rotate_left 3
       focus
        rw [if_neg c54] at H
        have c54b0 : (a0_1 == 0) = false := beq_eq_false_iff_ne.mpr c54
        have c54b1 : (a0_1 != 0) = true := bne_iff_ne.mpr c54
        obtain rfl := Option.some.inj H
      rotate_left 4
      · rw [if_neg c53] at H
        have c53b0 : (a0_0 == 4) = false := beq_eq_false_iff_ne.mpr c53
        have c53b1 : (a0_0 != 4) = true := bne_iff_ne.mpr c53
        have HC65 := Aside0.mk H
        clear H
        go_enter Try.func19, Try.ntmps19
        go_upto_if 85 with (first | ((with_reducible refine gate_dst (N := 1) rfl ?_); (try (refine gate_guard (by rfl) ?_; dsimp only)); refine box_event rfl (N := 1) rfl (cs := #[.int .i64 a0_0, .int .i64 a0_1, .float .f64 a0_2, .string a0_3, .int .i64 a0_4]) (t := 28) (by first | (go_simp; done) | (go_simp; rfl)) ?_; intro gb114 hg w66 hbox hb; have BK114 := Aside0.mk (hbox); have GW114 := (gws hg (hbe HB.out) : Aside0 (w.heap.size ≤ gb114)); have GE114 := (gws hg (hbe HB.out) : Aside0 (w.heap.size ≤ gb114)); replace HB := hbs HB.out hb; clear hb hbox hg; obtain ⟨hcz67_0, hcz67_1, hcz67_2, hcz67_3, hcz67_4, hfz67_0, hfz67_1, hfz67_2, hfz67_3, hfz67_4⟩ := cells5 BK114.out))
        repeat (go_quiet (first | ((with_reducible refine gate_dst (N := 1) rfl ?_); (try (refine gate_guard (by rfl) ?_; dsimp only)); refine box_event rfl (N := 1) rfl (cs := #[.int .i64 a0_0, .int .i64 a0_1, .float .f64 a0_2, .string a0_3, .int .i64 a0_4]) (t := 28) (by first | (go_simp; done) | (go_simp; rfl)) ?_; intro gb114 hg w66 hbox hb; have BK114 := Aside0.mk (hbox); have GW114 := (gws hg (hbe HB.out) : Aside0 (w.heap.size ≤ gb114)); have GE114 := (gws hg (hbe HB.out) : Aside0 (w.heap.size ≤ gb114)); replace HB := hbs HB.out hb; clear hb hbox hg; obtain ⟨hcz67_0, hcz67_1, hcz67_2, hcz67_3, hcz67_4, hfz67_0, hfz67_1, hfz67_2, hfz67_3, hfz67_4⟩ := cells5 BK114.out)); go_upto_if 85 with (first | ((with_reducible refine gate_dst (N := 1) rfl ?_); (try (refine gate_guard (by rfl) ?_; dsimp only)); refine box_event rfl (N := 1) rfl (cs := #[.int .i64 a0_0, .int .i64 a0_1, .float .f64 a0_2, .string a0_3, .int .i64 a0_4]) (t := 28) (by first | (go_simp; done) | (go_simp; rfl)) ?_; intro gb114 hg w66 hbox hb; have BK114 := Aside0.mk (hbox); have GW114 := (gws hg (hbe HB.out) : Aside0 (w.heap.size ≤ gb114)); have GE114 := (gws hg (hbe HB.out) : Aside0 (w.heap.size ≤ gb114)); replace HB := hbs HB.out hb; clear hb hbox hg; obtain ⟨hcz67_0, hcz67_1, hcz67_2, hcz67_3, hcz67_4, hfz67_0, hfz67_1, hfz67_2, hfz67_3, hfz67_4⟩ := cells5 BK114.out)))
        (try simp only [Act.put, List.setIfInBounds_toArray, List.set_cons_zero, List.set_cons_succ])
        go_cut [85] (fun v85 wc => ∃ (kq : Nat) (x85_64 : Bool), v85 = .bool x85_64 ∧ Aside0 (impl_ValueOk.j0 kq (a0_1 == 0) (feq a0_2 0) (a0_3.toList == ([] : List UInt8)) (a0_4 == 0) a0_0 x85_64 a0_0 a0_1 a0_2 a0_3 a0_4 = some r) ∧ Aside0 (kq ≤ k) ∧ Aside0 (wc.heap[gb114]? = some (.cells #[.int .i64 a0_0, .int .i64 a0_1, .float .f64 a0_2, .string a0_3, .int .i64 a0_4] 28 (0, 0))) ∧ Aside0 (Below w.heap.size w wc))
        case first =>
          have H := HC65.out
          clear HC65
          by_cases c68 : a0_0 = 5
          · rw [if_pos c68] at H
            have c68b0 : (a0_0 == 5) = true := beq_iff_eq.mpr c68
            have c68b1 : (a0_0 != 5) = false := bne_eq_false_iff_eq.mpr c68
            clear c68
            (first | rw [c68b0] | (simp only [i64_w, i32_w]; rw [c68b0]) | skip)
            have H' := Aside0.mk H
            clear H
            go_wp2
            repeat (go_quiet (fail); try go_wp2)
            go_meet
            case rel => exact ⟨_, ((a0_0 == 5)), (by first | rfl | (simp; done) | (simp [*]; done)), H', ⟨by first | omega | exact Nat.le_refl _⟩, ⟨by (with_reducible repeat (first | refine blk_drewN ?_ _ | refine blk_drew ?_ | refine blk_alloc ?_ _)); exact BK114.out⟩, ⟨by repeat (first | (with_reducible first | exact HB.out | apply below_alloc | apply pw_below_drewN | apply below_drew1 | refine below_set ?_ GE114.out) | exact HB.out)⟩⟩
          rw [if_neg c68] at H
          have c68b0 : (a0_0 == 5) = false := beq_eq_false_iff_ne.mpr c68
          have c68b1 : (a0_0 != 5) = true := bne_iff_ne.mpr c68
          (first | rw [c68b0] | (simp only [i64_w, i32_w]; rw [c68b0]) | skip)
          by_cases c69 : a0_0 = 6
          rotate_left 1
          · rw [if_neg c69] at H
            have c69b0 : (a0_0 == 6) = false := beq_eq_false_iff_ne.mpr c69
            have c69b1 : (a0_0 != 6) = true := bne_iff_ne.mpr c69
            have H' := Aside0.mk H
            clear H
            go_wp2
            repeat (go_quiet (fail); try go_wp2)
            go_meet
            case rel => exact ⟨_, ((a0_0 == 7)), (by first | rfl | (simp; done) | (simp [*]; done)), H', ⟨by first | omega | exact Nat.le_refl _⟩, ⟨by (with_reducible repeat (first | refine blk_drewN ?_ _ | refine blk_drew ?_ | refine blk_alloc ?_ _)); exact BK114.out⟩, ⟨by repeat (first | (with_reducible first | exact HB.out | apply below_alloc | apply pw_below_drewN | apply below_drew1 | refine below_set ?_ GE114.out) | exact HB.out)⟩⟩
          rw [if_pos c69] at H
          have c69b0 : (a0_0 == 6) = true := beq_iff_eq.mpr c69
          have c69b1 : (a0_0 != 6) = false := bne_eq_false_iff_eq.mpr c69
          clear c69
          have H' := Aside0.mk H
          clear H
          go_wp2
          repeat (go_quiet (fail); try go_wp2)
          go_meet
          case rel => exact ⟨_, ((a0_0 == 6)), (by first | rfl | (simp; done) | (simp [*]; done)), H', ⟨by first | omega | exact Nat.le_refl _⟩, ⟨by (with_reducible repeat (first | refine blk_drewN ?_ _ | refine blk_drew ?_ | refine blk_alloc ?_ _)); exact BK114.out⟩, ⟨by repeat (first | (with_reducible first | exact HB.out | apply below_alloc | apply pw_below_drewN | apply below_drew1 | refine below_set ?_ GE114.out) | exact HB.out)⟩⟩
        clear HC65
        try clear c1
        try clear c2
        try clear c2b0
        try clear c2b1
        try clear p2
        try clear c3
        try clear c3b0
        try clear c3b1
        try clear c4
        try clear c4b0
        try clear c5
        try clear c5b0
        try clear c5b1
        try clear c6
        try clear c14
        try clear c14b0
        try clear c14b1
        try clear c15
        try clear c15b0
        try clear c15b1
        try clear c16
        try clear c16b0
        try clear c17
        try clear c17b0
        try clear c17b1
        try clear c19
        try clear c24
        try clear c24b0
        try clear c24b1
        try clear c25
        try clear c25b0
        try clear c26
        try clear c26b0
        try clear c26b1
        try clear c35
        try clear c35b0
        try clear c35b1
        try clear c36
        try clear c36b0
        try clear c37
        try clear c37b0
        try clear c37b1
        try clear c44
        try clear c44b0
        try clear c44b1
        try clear c45
        try clear c45b0
        try clear c45b1
        try clear c46
        try clear c46b0
        try clear c46b1
        try clear c53
        try clear c53b0
        try clear c53b1
        try clear c54
        try clear c54b0
        try clear c54b1
        try clear c55
        try clear c55b0
        try clear c56
        try clear c56b0
        try clear c56b1
        try clear c68
        try clear c68b0
        try clear c68b1
        try clear c69
        try clear c69b0
        try clear c69b1
        try clear hcz11_0
        try clear hcz11_1
        try clear hcz11_2
        try clear hcz11_3
        try clear hcz11_4
        try clear hcz13_0
        try clear hcz13_1
        try clear hcz13_2
        try clear hcz13_3
        try clear hcz13_4
        try clear hcz19_0
        try clear hcz19_1
        try clear hcz19_2
        try clear hcz19_3
        try clear hcz19_4
        try clear hcz21_0
        try clear hcz21_1
        try clear hcz21_2
        try clear hcz21_3
        try clear hcz21_4
        try clear hcz23_0
        try clear hcz23_1
        try clear hcz23_2
        try clear hcz23_3
        try clear hcz23_4
        try clear hcz28_0
        try clear hcz28_1
        try clear hcz28_2
        try clear hcz28_3
        try clear hcz28_4
        try clear hcz30_0
        try clear hcz30_1
        try clear hcz30_2
        try clear hcz30_3
        try clear hcz30_4
        try clear hcz32_0
        try clear hcz32_1
        try clear hcz32_2
        try clear hcz32_3
        try clear hcz32_4
        try clear hcz34_0
        try clear hcz34_1
        try clear hcz34_2
        try clear hcz34_3
        try clear hcz34_4
        try clear hcz39_0
        try clear hcz39_1
        try clear hcz39_2
        try clear hcz39_3
        try clear hcz39_4
        try clear hcz41_0
        try clear hcz41_1
        try clear hcz41_2
        try clear hcz41_3
        try clear hcz41_4
        try clear hcz43_0
        try clear hcz43_1
        try clear hcz43_2
        try clear hcz43_3
        try clear hcz43_4
        try clear hcz48_0
        try clear hcz48_1
        try clear hcz48_2
        try clear hcz48_3
        try clear hcz48_4
        try clear hcz50_0
        try clear hcz50_1
        try clear hcz50_2
        try clear hcz50_3
        try clear hcz50_4
        try clear hcz52_0
        try clear hcz52_1
        try clear hcz52_2
        try clear hcz52_3
        try clear hcz52_4
        try clear hcz58_0
        try clear hcz58_1
        try clear hcz58_2
        try clear hcz58_3
        try clear hcz58_4
        try clear hcz60_0
        try clear hcz60_1
        try clear hcz60_2
        try clear hcz60_3
        try clear hcz60_4
        try clear hcz62_0
        try clear hcz62_1
        try clear hcz62_2
        try clear hcz62_3
        try clear hcz62_4
        try clear hcz64_0
        try clear hcz64_1
        try clear hcz64_2
        try clear hcz64_3
        try clear hcz64_4
        try clear hcz67_0
        try clear hcz67_1
        try clear hcz67_2
        try clear hcz67_3
        try clear hcz67_4
        try clear hcz7_0
        try clear hcz7_1
        try clear hcz7_2
        try clear hcz7_3
        try clear hcz7_4
        try clear hcz9_0
        try clear hcz9_1
        try clear hcz9_2
        try clear hcz9_3
        try clear hcz9_4
        try clear hfz11_0
        try clear hfz11_1
        try clear hfz11_2
        try clear hfz11_3
        try clear hfz11_4
        try clear hfz13_0
        try clear hfz13_1
        try clear hfz13_2
        try clear hfz13_3
        try clear hfz13_4
        try clear hfz19_0
        try clear hfz19_1
        try clear hfz19_2
        try clear hfz19_3
        try clear hfz19_4
        try clear hfz21_0
        try clear hfz21_1
        try clear hfz21_2
        try clear hfz21_3
        try clear hfz21_4
        try clear hfz23_0
        try clear hfz23_1
        try clear hfz23_2
        try clear hfz23_3
        try clear hfz23_4
        try clear hfz28_0
        try clear hfz28_1
        try clear hfz28_2
        try clear hfz28_3
        try clear hfz28_4
        try clear hfz30_0
        try clear hfz30_1
        try clear hfz30_2
        try clear hfz30_3
        try clear hfz30_4
        try clear hfz32_0
        try clear hfz32_1
        try clear hfz32_2
        try clear hfz32_3
        try clear hfz32_4
        try clear hfz34_0
        try clear hfz34_1
        try clear hfz34_2
        try clear hfz34_3
        try clear hfz34_4
        try clear hfz39_0
        try clear hfz39_1
        try clear hfz39_2
        try clear hfz39_3
        try clear hfz39_4
        try clear hfz41_0
        try clear hfz41_1
        try clear hfz41_2
        try clear hfz41_3
        try clear hfz41_4
        try clear hfz43_0
        try clear hfz43_1
        try clear hfz43_2
        try clear hfz43_3
        try clear hfz43_4
        try clear hfz48_0
        try clear hfz48_1
        try clear hfz48_2
        try clear hfz48_3
        try clear hfz48_4
        try clear hfz50_0
        try clear hfz50_1
        try clear hfz50_2
        try clear hfz50_3
        try clear hfz50_4
        try clear hfz52_0
        try clear hfz52_1
        try clear hfz52_2
        try clear hfz52_3
        try clear hfz52_4
        try clear hfz58_0
        try clear hfz58_1
        try clear hfz58_2
        try clear hfz58_3
        try clear hfz58_4
        try clear hfz60_0
        try clear hfz60_1
        try clear hfz60_2
        try clear hfz60_3
        try clear hfz60_4
        try clear hfz62_0
        try clear hfz62_1
        try clear hfz62_2
        try clear hfz62_3
        try clear hfz62_4
        try clear hfz64_0
        try clear hfz64_1
        try clear hfz64_2
        try clear hfz64_3
        try clear hfz64_4
        try clear hfz67_0
        try clear hfz67_1
        try clear hfz67_2
        try clear hfz67_3
        try clear hfz67_4
        try clear hfz7_0
        try clear hfz7_1
        try clear hfz7_2
        try clear hfz7_3
        try clear hfz7_4
        try clear hfz9_0
        try clear hfz9_1
        try clear hfz9_2
        try clear hfz9_3
        try clear hfz9_4
        obtain ⟨kq, x85_64, rfl, HA, HJ64, BK114, HB⟩ := hcut
        rcases kq with _ | kj64
        · exact absurd HA.out (by simp [impl_ValueOk.j0])
        have H := HA.out
        clear HA
        simp only [impl_ValueOk.j0] at H
        by_cases c70 : x85_64 = true
        focus
         subst c70
         have H1 : (if (a0_1 == 0) = true then (if (feq a0_2 0) = true then (if (a0_3.toList == ([] : List UInt8)) = true then (some (decide (a0_4 ≥ 0))) else (some false)) else (some false)) else (some false)) = some r := by rw [if_pos rfl] at H; exact H
         clear H
         have H := H1
         clear H1
         by_cases c71 : (a0_1 == 0) = true
         focus
          rw [if_pos c71] at H
          have c71b0 : (a0_1 == 0) = true := c71
          (try (have c71b1 : decide (a0_1 = 0) = true := by simpa using c71))
          (try (have c71b2 : (a0_1 == 0) = true := by simpa using c71))
          clear c71
          by_cases c72 : (feq a0_2 0) = true
          focus
           rw [if_pos c72] at H
           have c72b0 : (feq a0_2 0) = true := c72
           clear c72
           by_cases c73 : (a0_3.toList == ([] : List UInt8)) = true
           focus
            rw [if_pos c73] at H
            have c73b0 : (a0_3.toList == ([] : List UInt8)) = true := c73
            (try (have c73b1 : decide (a0_3.toList = ([] : List UInt8)) = true := by simpa using c73))
            (try (have c73b2 : (a0_3.toList == ([] : List UInt8)) = true := by simpa using c73))
            (try (have c73b3 : a0_3.toList.isEmpty = true := by simpa using c73))
            clear c73
            obtain rfl := Option.some.inj H
            obtain ⟨hcz74_0, hcz74_1, hcz74_2, hcz74_3, hcz74_4, hfz74_0, hfz74_1, hfz74_2, hfz74_3, hfz74_4⟩ := cells5 BK114.out
           rotate_left 1
           focus
            rw [if_neg c73] at H
            have c73b0 : (a0_3.toList == ([] : List UInt8)) = false := by simpa using c73
            (try (have c73b1 : decide (a0_3.toList = ([] : List UInt8)) = false := by simpa using c73))
            (try (have c73b2 : (a0_3.toList == ([] : List UInt8)) = false := by simpa using c73))
            (try (have c73b3 : ¬ (a0_3.toList = ([] : List UInt8)) := by simpa using c73))
            (try (have c73b4 : a0_3.toList.isEmpty = false := by simpa using c73))
            clear c73
            obtain rfl := Option.some.inj H
          rotate_left 2
          focus
           rw [if_neg c72] at H
           have c72b0 : (feq a0_2 0) = false := by simpa using c72
           clear c72
           obtain rfl := Option.some.inj H
         rotate_left 3
         focus
          rw [if_neg c71] at H
          have c71b0 : (a0_1 == 0) = false := by simpa using c71
          (try (have c71b1 : decide (a0_1 = 0) = false := by simpa using c71))
          (try (have c71b2 : (a0_1 == 0) = false := by simpa using c71))
          (try (have c71b3 : ¬ (a0_1 = 0) := by simpa using c71))
          clear c71
          obtain rfl := Option.some.inj H
        rotate_left 4
        focus
         replace c70 := Bool.eq_false_iff.mpr c70
         subst c70
         have H1 : (if a0_0 = 8 then (if (feq a0_2 0) = true then (if (a0_3.toList == ([] : List UInt8)) = true then (if (a0_4 == 0) = true then (if a0_1 ≥ 0 then (some (decide (a0_1 < 15))) else (some false)) else (some false)) else (some false)) else (some false)) else (some false)) = some r := by rw [if_neg (show ¬ (false = true) by decide)] at H; exact H
         clear H
         have H := H1
         clear H1
         by_cases c75 : a0_0 = 8
         focus
          rw [if_pos c75] at H
          have c75b0 : (a0_0 == 8) = true := beq_iff_eq.mpr c75
          have c75b1 : (a0_0 != 8) = false := bne_eq_false_iff_eq.mpr c75
          clear c75
          by_cases c76 : (feq a0_2 0) = true
          focus
           rw [if_pos c76] at H
           have c76b0 : (feq a0_2 0) = true := c76
           clear c76
           by_cases c77 : (a0_3.toList == ([] : List UInt8)) = true
           focus
            rw [if_pos c77] at H
            have c77b0 : (a0_3.toList == ([] : List UInt8)) = true := c77
            (try (have c77b1 : decide (a0_3.toList = ([] : List UInt8)) = true := by simpa using c77))
            (try (have c77b2 : (a0_3.toList == ([] : List UInt8)) = true := by simpa using c77))
            (try (have c77b3 : a0_3.toList.isEmpty = true := by simpa using c77))
            clear c77
            by_cases c78 : (a0_4 == 0) = true
            focus
             rw [if_pos c78] at H
             have c78b0 : (a0_4 == 0) = true := c78
             (try (have c78b1 : decide (a0_4 = 0) = true := by simpa using c78))
             (try (have c78b2 : (a0_4 == 0) = true := by simpa using c78))
             clear c78
             by_cases c79 : a0_1 ≥ 0
             focus
              rw [if_pos c79] at H
              have c79b0 : decide (0 ≤ a0_1) = true := decide_eq_true c79
              clear c79
              obtain rfl := Option.some.inj H
              obtain ⟨hcz80_0, hcz80_1, hcz80_2, hcz80_3, hcz80_4, hfz80_0, hfz80_1, hfz80_2, hfz80_3, hfz80_4⟩ := cells5 BK114.out
             rotate_left 1
             focus
              rw [if_neg c79] at H
              have c79b0 : decide (0 ≤ a0_1) = false := decide_eq_false c79
              clear c79
              obtain rfl := Option.some.inj H
              obtain ⟨hcz81_0, hcz81_1, hcz81_2, hcz81_3, hcz81_4, hfz81_0, hfz81_1, hfz81_2, hfz81_3, hfz81_4⟩ := cells5 BK114.out
            rotate_left 2
            focus
             rw [if_neg c78] at H
             have c78b0 : (a0_4 == 0) = false := by simpa using c78
             (try (have c78b1 : decide (a0_4 = 0) = false := by simpa using c78))
             (try (have c78b2 : (a0_4 == 0) = false := by simpa using c78))
             (try (have c78b3 : ¬ (a0_4 = 0) := by simpa using c78))
             clear c78
             obtain rfl := Option.some.inj H
           rotate_left 3
           focus
            rw [if_neg c77] at H
            have c77b0 : (a0_3.toList == ([] : List UInt8)) = false := by simpa using c77
            (try (have c77b1 : decide (a0_3.toList = ([] : List UInt8)) = false := by simpa using c77))
            (try (have c77b2 : (a0_3.toList == ([] : List UInt8)) = false := by simpa using c77))
            (try (have c77b3 : ¬ (a0_3.toList = ([] : List UInt8)) := by simpa using c77))
            (try (have c77b4 : a0_3.toList.isEmpty = false := by simpa using c77))
            clear c77
            obtain rfl := Option.some.inj H
          rotate_left 4
          focus
           rw [if_neg c76] at H
           have c76b0 : (feq a0_2 0) = false := by simpa using c76
           clear c76
           obtain rfl := Option.some.inj H
         rotate_left 5
         focus
          rw [if_neg c75] at H
          have c75b0 : (a0_0 == 8) = false := beq_eq_false_iff_ne.mpr c75
          have c75b1 : (a0_0 != 8) = true := bne_iff_ne.mpr c75
          obtain rfl := Option.some.inj H
        all_goals
         go_wp2
         repeat (go_quiet (fail); try go_wp2)
         go_ret
         exact ⟨by first | rfl | (simp <;> rfl) | (simp [*] <;> rfl), hbe1 HB.out GE114.out⟩
  all_goals
   go_enter Try.func19, Try.ntmps19
   go_wp2_with (first | ((with_reducible refine gate_dst (N := 1) rfl ?_); (try (refine gate_guard (by rfl) ?_; dsimp only)); refine box_event rfl (N := 1) rfl (cs := #[.int .i64 a0_0, .int .i64 a0_1, .float .f64 a0_2, .string a0_3, .int .i64 a0_4]) (t := 28) (by first | (go_simp; done) | (go_simp; rfl)) ?_; intro gbz0_ hg wz1_ hbox hb; have nz2_ := hbs HB.out hb; have nz3_ := Aside0.mk (hbox); have nz4_ := (gws hg (hbe HB.out) : Aside0 (w.heap.size ≤ gbz0_)); have nz5_ := (gws hg (hbe HB.out) : Aside0 (w.heap.size ≤ gbz0_)); clear HB; have HB := nz2_; have BKz6_ := nz3_; have GWz7_ := nz4_; have GEz8_ := nz5_; clear nz2_ nz3_ nz4_ nz5_; clear hb hbox hg; have hczz9_ : wz1_.cell? ⟨gbz0_, 0, none⟩ = some (.int .i64 a0_0) := (blk_cell BKz6_.out 0).trans rfl; have hczz10_ : wz1_.cell? ⟨gbz0_, 1, none⟩ = some (.int .i64 a0_1) := (blk_cell BKz6_.out 1).trans rfl; have hczz11_ : wz1_.cell? ⟨gbz0_, 2, none⟩ = some (.float .f64 a0_2) := (blk_cell BKz6_.out 2).trans rfl; have hczz12_ : wz1_.cell? ⟨gbz0_, 3, none⟩ = some (.string a0_3) := (blk_cell BKz6_.out 3).trans rfl; have hczz13_ : wz1_.cell? ⟨gbz0_, 4, none⟩ = some (.int .i64 a0_4) := (blk_cell BKz6_.out 4).trans rfl; have hfzz14_ := blk_frozen BKz6_.out 0; have hfzz15_ := blk_frozen BKz6_.out 1; have hfzz16_ := blk_frozen BKz6_.out 2; have hfzz17_ := blk_frozen BKz6_.out 3; have hfzz18_ := blk_frozen BKz6_.out 4))
   repeat (go_quiet (first | ((with_reducible refine gate_dst (N := 1) rfl ?_); (try (refine gate_guard (by rfl) ?_; dsimp only)); refine box_event rfl (N := 1) rfl (cs := #[.int .i64 a0_0, .int .i64 a0_1, .float .f64 a0_2, .string a0_3, .int .i64 a0_4]) (t := 28) (by first | (go_simp; done) | (go_simp; rfl)) ?_; intro gbz0_ hg wz1_ hbox hb; have nz2_ := hbs HB.out hb; have nz3_ := Aside0.mk (hbox); have nz4_ := (gws hg (hbe HB.out) : Aside0 (w.heap.size ≤ gbz0_)); have nz5_ := (gws hg (hbe HB.out) : Aside0 (w.heap.size ≤ gbz0_)); clear HB; have HB := nz2_; have BKz6_ := nz3_; have GWz7_ := nz4_; have GEz8_ := nz5_; clear nz2_ nz3_ nz4_ nz5_; clear hb hbox hg; have hczz9_ : wz1_.cell? ⟨gbz0_, 0, none⟩ = some (.int .i64 a0_0) := (blk_cell BKz6_.out 0).trans rfl; have hczz10_ : wz1_.cell? ⟨gbz0_, 1, none⟩ = some (.int .i64 a0_1) := (blk_cell BKz6_.out 1).trans rfl; have hczz11_ : wz1_.cell? ⟨gbz0_, 2, none⟩ = some (.float .f64 a0_2) := (blk_cell BKz6_.out 2).trans rfl; have hczz12_ : wz1_.cell? ⟨gbz0_, 3, none⟩ = some (.string a0_3) := (blk_cell BKz6_.out 3).trans rfl; have hczz13_ : wz1_.cell? ⟨gbz0_, 4, none⟩ = some (.int .i64 a0_4) := (blk_cell BKz6_.out 4).trans rfl; have hfzz14_ := blk_frozen BKz6_.out 0; have hfzz15_ := blk_frozen BKz6_.out 1; have hfzz16_ := blk_frozen BKz6_.out 2; have hfzz17_ := blk_frozen BKz6_.out 3; have hfzz18_ := blk_frozen BKz6_.out 4)); try go_wp2_with (first | ((with_reducible refine gate_dst (N := 1) rfl ?_); (try (refine gate_guard (by rfl) ?_; dsimp only)); refine box_event rfl (N := 1) rfl (cs := #[.int .i64 a0_0, .int .i64 a0_1, .float .f64 a0_2, .string a0_3, .int .i64 a0_4]) (t := 28) (by first | (go_simp; done) | (go_simp; rfl)) ?_; intro gbz0_ hg wz1_ hbox hb; have nz2_ := hbs HB.out hb; have nz3_ := Aside0.mk (hbox); have nz4_ := (gws hg (hbe HB.out) : Aside0 (w.heap.size ≤ gbz0_)); have nz5_ := (gws hg (hbe HB.out) : Aside0 (w.heap.size ≤ gbz0_)); clear HB; have HB := nz2_; have BKz6_ := nz3_; have GWz7_ := nz4_; have GEz8_ := nz5_; clear nz2_ nz3_ nz4_ nz5_; clear hb hbox hg; have hczz9_ : wz1_.cell? ⟨gbz0_, 0, none⟩ = some (.int .i64 a0_0) := (blk_cell BKz6_.out 0).trans rfl; have hczz10_ : wz1_.cell? ⟨gbz0_, 1, none⟩ = some (.int .i64 a0_1) := (blk_cell BKz6_.out 1).trans rfl; have hczz11_ : wz1_.cell? ⟨gbz0_, 2, none⟩ = some (.float .f64 a0_2) := (blk_cell BKz6_.out 2).trans rfl; have hczz12_ : wz1_.cell? ⟨gbz0_, 3, none⟩ = some (.string a0_3) := (blk_cell BKz6_.out 3).trans rfl; have hczz13_ : wz1_.cell? ⟨gbz0_, 4, none⟩ = some (.int .i64 a0_4) := (blk_cell BKz6_.out 4).trans rfl; have hfzz14_ := blk_frozen BKz6_.out 0; have hfzz15_ := blk_frozen BKz6_.out 1; have hfzz16_ := blk_frozen BKz6_.out 2; have hfzz17_ := blk_frozen BKz6_.out 3; have hfzz18_ := blk_frozen BKz6_.out 4)))
   go_ret
   exact ⟨by first | rfl | (simp [errW_none, errW_some] <;> rfl) | (simp [*, errW_none, errW_some] <;> rfl), by repeat (first | (with_reducible first | exact HB.out | apply below_alloc | apply pw_below_drewN | apply below_drew1 | refine below_set ?_ GEz8_.out) | exact HB.out)⟩
end Go.Proofs.Ytdjlbfaiccdbfaa.PAll
