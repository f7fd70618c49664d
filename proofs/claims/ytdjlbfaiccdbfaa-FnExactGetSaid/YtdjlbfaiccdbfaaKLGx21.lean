/- Cut down from the texts of the same job by wip/shake.py to what this claim reaches. -/
import Derived.Test.YtdjlbfaiccdbfaaKLGx0
import Derived.Test.YtdjlbfaiccdbfaaKLGx3
import Derived.Test.YtdjlbfaiccdbfaaKLGx9
import Derived.Test.YtdjlbfaiccdbfaaKLGx17
namespace Go.Proofs.Ytdjlbfaiccdbfaa.PAll
open Go.RowKit Go.Proofs.YtdjlbfaiccdbfaaW.PrintWords Go.Proofs.YtdjlbfaiccdbfaaW.PrintLast Go.Proofs.YtdjlbfaiccdbfaaW.PrintMore
attribute [local go_sem] max2_int min2_int max_two min_two max_three min_three max_four min_four   -- for this text's walks alone
set_option linter.unusedVariables false
set_option linter.unusedSimpArgs false
mutual
def impl_TableOk.j0 : Nat → Bool → List (S61) → Int → Option (Bool)
  | 0, _, _, _ => none
  | k + 1, x21, x668000, x668001 => if x21 = true then (some false) else (impl_TableOk.l0 k 0 x668000 (x668000.length : Int) 0 x668000 x668001)
def impl_TableOk.l0 : Nat → Int → List (S61) → Int → Int → List (S61) → Int → Option (Bool)
  | 0, _, _, _, _, _, _ => none
  | k + 1, x3, x23, x24, x25, x668000, x668001 => if x25 < x24 then (if 0 ≤ x25 then (if x25 < (x23.length : Int) then ((impl_Key.f k ((rd_T61 x23 x25).f0.f0) ((rd_T61 x23 x25).f0.f1) ((rd_T61 x23 x25).f0.f2) ((rd_T61 x23 x25).f0.f3) ((rd_T61 x23 x25).f0.f4)).bind fun bt670 => (if bt670.1 = 0 then (if bt670.2.1 = ((rd_T61 x23 x25).f0.f0) then ((impl_ValueOk.f k ((rd_T61 x23 x25).f1.f0) ((rd_T61 x23 x25).f1.f1) ((rd_T61 x23 x25).f1.f2) ((rd_T61 x23 x25).f1.f3) ((rd_T61 x23 x25).f1.f4)).bind fun t677 => (if t677 = true then (impl_TableOk.j2 k x3 x25 x23 x24 x25 (((rd_T61 x23 x25).f1.f0) == 0) x668000 x668001 ((rd_T61 x23 x25).f0.f0) ((rd_T61 x23 x25).f0.f1) ((rd_T61 x23 x25).f0.f2) ((rd_T61 x23 x25).f0.f3) ((rd_T61 x23 x25).f0.f4) ((rd_T61 x23 x25).f1.f0) ((rd_T61 x23 x25).f1.f1) ((rd_T61 x23 x25).f1.f2) ((rd_T61 x23 x25).f1.f3) ((rd_T61 x23 x25).f1.f4) ((rd_T61 x23 x25).f2)) else (impl_TableOk.j2 k x3 x25 x23 x24 x25 true x668000 x668001 ((rd_T61 x23 x25).f0.f0) ((rd_T61 x23 x25).f0.f1) ((rd_T61 x23 x25).f0.f2) ((rd_T61 x23 x25).f0.f3) ((rd_T61 x23 x25).f0.f4) ((rd_T61 x23 x25).f1.f0) ((rd_T61 x23 x25).f1.f1) ((rd_T61 x23 x25).f1.f2) ((rd_T61 x23 x25).f1.f3) ((rd_T61 x23 x25).f1.f4) ((rd_T61 x23 x25).f2)))) else (impl_TableOk.j2 k x3 x25 x23 x24 x25 true x668000 x668001 ((rd_T61 x23 x25).f0.f0) ((rd_T61 x23 x25).f0.f1) ((rd_T61 x23 x25).f0.f2) ((rd_T61 x23 x25).f0.f3) ((rd_T61 x23 x25).f0.f4) ((rd_T61 x23 x25).f1.f0) ((rd_T61 x23 x25).f1.f1) ((rd_T61 x23 x25).f1.f2) ((rd_T61 x23 x25).f1.f3) ((rd_T61 x23 x25).f1.f4) ((rd_T61 x23 x25).f2))) else (impl_TableOk.j2 k x3 x25 x23 x24 x25 true x668000 x668001 ((rd_T61 x23 x25).f0.f0) ((rd_T61 x23 x25).f0.f1) ((rd_T61 x23 x25).f0.f2) ((rd_T61 x23 x25).f0.f3) ((rd_T61 x23 x25).f0.f4) ((rd_T61 x23 x25).f1.f0) ((rd_T61 x23 x25).f1.f1) ((rd_T61 x23 x25).f1.f2) ((rd_T61 x23 x25).f1.f3) ((rd_T61 x23 x25).f1.f4) ((rd_T61 x23 x25).f2)))) else (none)) else (none)) else (some true)
def impl_TableOk.j2 : Nat → Int → Int → List (S61) → Int → Int → Bool → List (S61) → Int → Int → Int → Nat → ByteArray → Int → Int → Int → Nat → ByteArray → Int → Int → Option (Bool)
  | 0, _, _, _, _, _, _, _, _, _, _, _, _, _, _, _, _, _, _, _ => none
  | k + 1, x3, x4, x23, x24, x25, x56, x668000, x668001, x670000, x670001, x670002, x670003, x670004, x670005, x670006, x670007, x670008, x670009, x670010 => if x56 = true then (some false) else (if x670010 ≤ x3 then (impl_TableOk.j3 k x4 x23 x24 x25 true x668000 x668001 x670000 x670001 x670002 x670003 x670004 x670005 x670006 x670007 x670008 x670009 x670010) else (impl_TableOk.j3 k x4 x23 x24 x25 (decide (x670010 > x668001)) x668000 x668001 x670000 x670001 x670002 x670003 x670004 x670005 x670006 x670007 x670008 x670009 x670010))
def impl_TableOk.j3 : Nat → Int → List (S61) → Int → Int → Bool → List (S61) → Int → Int → Int → Nat → ByteArray → Int → Int → Int → Nat → ByteArray → Int → Int → Option (Bool)
  | 0, _, _, _, _, _, _, _, _, _, _, _, _, _, _, _, _, _, _ => none
  | k + 1, x4, x23, x24, x25, x67, x668000, x668001, x670000, x670001, x670002, x670003, x670004, x670005, x670006, x670007, x670008, x670009, x670010 => if x67 = true then (some false) else (impl_TableOk.l1 k x670010 x4 0 x23 x24 x25 x668000 x668001 x670000 x670001 x670002 x670003 x670004 x670005 x670006 x670007 x670008 x670009 x670010)
def impl_TableOk.l1 : Nat → Int → Int → Int → List (S61) → Int → Int → List (S61) → Int → Int → Int → Nat → ByteArray → Int → Int → Int → Nat → ByteArray → Int → Int → Option (Bool)
  | 0, _, _, _, _, _, _, _, _, _, _, _, _, _, _, _, _, _, _, _ => none
  | k + 1, x3, x4, x7, x23, x24, x25, x668000, x668001, x670000, x670001, x670002, x670003, x670004, x670005, x670006, x670007, x670008, x670009, x670010 => if x7 < x4 then (if 0 ≤ x7 then (if x7 < (x668000.length : Int) then ((impl_Same.f k ((rd_T61 x668000 x7).f0.f0) ((rd_T61 x668000 x7).f0.f1) ((rd_T61 x668000 x7).f0.f2) ((rd_T61 x668000 x7).f0.f3) ((rd_T61 x668000 x7).f0.f4) x670000 x670001 x670002 x670003 x670004).bind fun t679 => (if t679 = true then (some false) else (impl_TableOk.l1 k x3 x4 (wrap64 (x7 + 1)) x23 x24 x25 x668000 x668001 x670000 x670001 x670002 x670003 x670004 x670005 x670006 x670007 x670008 x670009 x670010))) else (none)) else (none)) else (impl_TableOk.l0 k x3 x23 x24 (wrap64 (x25 + 1)) x668000 x668001)
end
def impl_TableOk.f (k : Nat) (l0_0 : List (S61)) (a0_1 : Int) : Option (Bool) := if (l0_0.length : Int) > 500 then (impl_TableOk.j0 k true l0_0 a0_1) else (if a0_1 < 0 then (impl_TableOk.j0 k true l0_0 a0_1) else (impl_TableOk.j0 k (decide (a0_1 > 1000000000000)) l0_0 a0_1))
def impl_TableOk.T16 : Bool × List (List Nat × List Nat) := (true, [([], []), ([0], [0]), ([], []), ([1, 2], [1, 2]), ([3], [3]), ([4], [4]), ([], []), ([6], [6]), ([5, 7], [5, 7])])
def impl_TableOk.B16 : List Nat := [0, 1, 0, 7, 15, 31, 0, 64, 255]
theorem impl_TableOk.tab16 : rtab .any (opsOf Try.f39 16) = impl_TableOk.T16 := by kernel_rfl
theorem impl_TableOk.bits16 : waitsOk impl_TableOk.T16.2 impl_TableOk.B16 = true := by kernel_rfl
set_option maxHeartbeats 8000000 in
set_option maxRecDepth 100000 in
theorem impl_TableOk.calls (k : Nat) (A0_0 : Option Addr) (c0_0 : Nat) (l0_0 : List (S61)) (a0_1 : Int) (r : Bool) (w : World) (hr0_0 : Kd.C k61 w A0_0 l0_0.length l0_0) (hc0_0 : l0_0.length ≤ c0_0) (h : impl_TableOk.f k l0_0 a0_1 = some r) :
    Calls Try.prog 39 #[.agg #[.slice A0_0 l0_0.length c0_0, .int .i64 a0_1]] w fun e w' => e = .returned (.bool r) ∧ Below w.heap.size w w' := by
  have hu56 := Try.underlying56
  have hu61 := Try.underlying61
  have hu28 := Try.underlying28
  have hu41 := Try.underlying41
  have HR0_0 := Aside0.mk hr0_0
  have HC0_0 := Aside0.mk hc0_0
  clear hr0_0 hc0_0
  have HB := Aside0.mk (Below.refl w.heap.size w)
  have H : (if (l0_0.length : Int) > 500 then (impl_TableOk.j0 k true l0_0 a0_1) else (if a0_1 < 0 then (impl_TableOk.j0 k true l0_0 a0_1) else (impl_TableOk.j0 k (decide (a0_1 > 1000000000000)) l0_0 a0_1))) = some r := h
  clear h
  have HC2 := Aside0.mk H
  clear H
  go_enter Try.func39, Try.ntmps39
  go_upto_region 1 with (first | ((with_reducible refine gate_dst (N := 1) rfl ?_); refine box_event rfl (N := 1) rfl (cs := #[.slice A0_0 l0_0.length c0_0, .int .i64 a0_1]) (t := 56) (by first | (go_simp; done) | (go_simp; rfl)) ?_; intro gb667 hg w3 hbox hb; have BK667 := Aside0.mk (hbox); have GW667 := (gws hg (hbe HB.out) : Aside0 (w.heap.size ≤ gb667)); have GE667 := (gws hg (hbe HB.out) : Aside0 (w.heap.size ≤ gb667)); replace HB := hbs HB.out hb; clear hb hbox hg))
  (try simp only [Act.put, List.setIfInBounds_toArray, List.set_cons_zero, List.set_cons_succ])
  go_cut [21] (fun v21 wc => ∃ (kq : Nat) (x21_1 : Bool), v21 = .bool x21_1 ∧ Aside0 (impl_TableOk.j0 kq x21_1 l0_0 a0_1 = some r) ∧ Aside0 (kq ≤ k) ∧ Aside0 (wc.heap[gb667]? = some (.cells #[(.slice A0_0 l0_0.length c0_0), .int .i64 a0_1] 56 (0, 0))) ∧ Aside0 (Below w.heap.size w wc))
  case first =>
    have H := HC2.out
    clear HC2
    by_cases c4 : (l0_0.length : Int) > 500
    focus
     rw [if_pos c4] at H
     have c4b0 : decide (500 < (l0_0.length : Int)) = true := decide_eq_true c4
     have c4b1 : decide (500 < l0_0.length) = true := decide_eq_true (by omega)
     clear c4
     (first | rw [c4b0] | (simp only [i64_w, i32_w]; rw [c4b0]) | skip)
     have H' := Aside0.mk H
     clear H
     obtain ⟨hcz5_0, hcz5_1, hfz5_0, hfz5_1⟩ := cells2 BK667.out
    rotate_left 1
    focus
     rw [if_neg c4] at H
     have c4b0 : decide (500 < (l0_0.length : Int)) = false := decide_eq_false c4
     have c4b1 : decide (500 < l0_0.length) = false := decide_eq_false (by omega)
     clear c4
     (first | rw [c4b0] | (simp only [i64_w, i32_w]; rw [c4b0]) | skip)
     by_cases c6 : a0_1 < 0
     focus
      rw [if_pos c6] at H
      have c6b0 : decide (a0_1 < 0) = true := decide_eq_true c6
      clear c6
      have H' := Aside0.mk H
      clear H
      obtain ⟨hcz7_0, hcz7_1, hfz7_0, hfz7_1⟩ := cells2 BK667.out
     rotate_left 1
     · rw [if_neg c6] at H
       have c6b0 : decide (a0_1 < 0) = false := decide_eq_false c6
       clear c6
       have H' := Aside0.mk H
       clear H
       obtain ⟨hcz8_0, hcz8_1, hfz8_0, hfz8_1⟩ := cells2 BK667.out
       go_wp2
       go_meet
       case rel => exact ⟨_, (decide (a0_1 > 1000000000000)), (by first | rfl | (simp; done) | (simp [*]; done)), H', ⟨by first | omega | exact Nat.le_refl _⟩, ⟨by (with_reducible repeat (first | refine blk_drewN ?_ _ | refine blk_drew ?_ | refine blk_alloc ?_ _)); exact BK667.out⟩, ⟨by repeat (first | (with_reducible first | exact HB.out | apply below_alloc | apply pw_below_drewN | apply below_drew1 | refine below_set ?_ GE667.out) | exact HB.out)⟩⟩
    all_goals
     go_wp2
     go_meet
     case rel => exact ⟨_, (true), (by first | rfl | (simp; done) | (simp [*]; done)), H', ⟨by first | omega | exact Nat.le_refl _⟩, ⟨by (with_reducible repeat (first | refine blk_drewN ?_ _ | refine blk_drew ?_ | refine blk_alloc ?_ _)); exact BK667.out⟩, ⟨by repeat (first | (with_reducible first | exact HB.out | apply below_alloc | apply pw_below_drewN | apply below_drew1 | refine below_set ?_ GE667.out) | exact HB.out)⟩⟩
  clear HC2
  obtain ⟨kq, x21_1, rfl, HA, HJ1, BK667, HB⟩ := hcut
  rcases kq with _ | kj1
  · exact absurd HA.out (by simp [impl_TableOk.j0])
  have H := HA.out
  clear HA
  simp only [impl_TableOk.j0] at H
  by_cases c9 : x21_1 = true
  · subst c9
    have H1 : (some false) = some r := by rw [if_pos rfl] at H; exact H
    clear H
    have H := H1
    clear H1
    obtain rfl := Option.some.inj H
    go_wp2
    go_ret
    exact ⟨by first | rfl | (simp <;> rfl) | (simp [*] <;> rfl), hbe1 HB.out GE667.out⟩
  replace c9 := Bool.eq_false_iff.mpr c9
  subst c9
  have H1 : (impl_TableOk.l0 kj1 0 l0_0 (l0_0.length : Int) 0 l0_0 a0_1) = some r := by rw [if_neg (show ¬ (false = true) by decide)] at H; exact H
  clear H
  have H := H1
  clear H1
  have H' := Aside0.mk H
  clear H
  obtain ⟨hcz10_0, hcz10_1, hfz10_0, hfz10_1⟩ := cells2 BK667.out
  go_wp2
  go_loopg [3, 25] kj1 (fun kq v3 v25 w' => ∃ (x3_2 : Int) (x25_2 : Int), v3 = .int .i64 x3_2 ∧ v25 = .int .i64 x25_2 ∧ Aside0 (impl_TableOk.l0 kq x3_2 l0_0 (l0_0.length : Int) x25_2 l0_0 a0_1 = some r) ∧ Aside0 (kq ≤ kj1) ∧ Aside0 (w'.heap[gb667]? = some (.cells #[(.slice A0_0 l0_0.length c0_0), .int .i64 a0_1] 56 (0, 0))) ∧ Aside0 (Below w.heap.size w w'))
  case atStart => exact ⟨(0), (0), (by first | rfl | (simp; done) | (simp [*]; done)), (by first | rfl | (simp; done) | (simp [*]; done)), H', ⟨Nat.le_refl _⟩, ⟨by (with_reducible repeat (first | refine blk_drewN ?_ _ | refine blk_drew ?_ | refine blk_alloc ?_ _)); exact BK667.out⟩, ⟨by repeat (first | (with_reducible first | exact HB.out | apply below_alloc | apply pw_below_drewN | apply below_drew1 | refine below_set ?_ GE667.out) | exact HB.out)⟩⟩
  case round =>
    clear H'
    try clear c9
    try clear hcz10_0
    try clear hcz10_1
    try clear hfz10_0
    try clear hfz10_1
    obtain ⟨x3_2, x25_2, rfl, rfl, HA, HK2, BK667, HB⟩ := hrel
    rcases gk with _ | k2
    · exact absurd HA.out (by simp [impl_TableOk.l0])
    have H := HA.out
    clear HA
    simp only [impl_TableOk.l0] at H
    by_cases c11 : x25_2 < (l0_0.length : Int)
    rotate_left 1
    · rw [if_neg c11] at H
      have c11b0 : decide (x25_2 < (l0_0.length : Int)) = false := decide_eq_false c11
      clear c11
      obtain rfl := Option.some.inj H
      go_wp2
      go_ret
      exact ⟨by first | rfl | (simp <;> rfl) | (simp [*] <;> rfl), hbe1 HB.out GE667.out⟩
    rw [if_pos c11] at H
    have c11b0 : decide (x25_2 < (l0_0.length : Int)) = true := decide_eq_true c11
    clear c11
    by_cases c12 : 0 ≤ x25_2
    rotate_left 1
    · rw [if_neg c12] at H
      exact absurd H (by simp)
    rw [if_pos c12] at H
    have c12b0 : decide (0 ≤ x25_2) = true := decide_eq_true c12
    clear c12
    by_cases c13 : x25_2 < (l0_0.length : Int)
    rotate_left 1
    · rw [if_neg c13] at H
      exact absurd H (by simp)
    rw [if_pos c13] at H
    have c13b0 : decide (x25_2 < (l0_0.length : Int)) = true := decide_eq_true c13
    clear c13
    replace H := Option.bind_eq_some_iff.mp H
    obtain ⟨⟨t670, t671, t672, t673, t674, t675⟩, A140, H⟩ := H
    replace H : (if t670 = 0 then (if t671 = ((rd_T61 l0_0 x25_2).f0.f0) then ((impl_ValueOk.f k2 ((rd_T61 l0_0 x25_2).f1.f0) ((rd_T61 l0_0 x25_2).f1.f1) ((rd_T61 l0_0 x25_2).f1.f2) ((rd_T61 l0_0 x25_2).f1.f3) ((rd_T61 l0_0 x25_2).f1.f4)).bind fun t677 => (if t677 = true then (impl_TableOk.j2 k2 x3_2 x25_2 l0_0 (l0_0.length : Int) x25_2 (((rd_T61 l0_0 x25_2).f1.f0) == 0) l0_0 a0_1 ((rd_T61 l0_0 x25_2).f0.f0) ((rd_T61 l0_0 x25_2).f0.f1) ((rd_T61 l0_0 x25_2).f0.f2) ((rd_T61 l0_0 x25_2).f0.f3) ((rd_T61 l0_0 x25_2).f0.f4) ((rd_T61 l0_0 x25_2).f1.f0) ((rd_T61 l0_0 x25_2).f1.f1) ((rd_T61 l0_0 x25_2).f1.f2) ((rd_T61 l0_0 x25_2).f1.f3) ((rd_T61 l0_0 x25_2).f1.f4) ((rd_T61 l0_0 x25_2).f2)) else (impl_TableOk.j2 k2 x3_2 x25_2 l0_0 (l0_0.length : Int) x25_2 true l0_0 a0_1 ((rd_T61 l0_0 x25_2).f0.f0) ((rd_T61 l0_0 x25_2).f0.f1) ((rd_T61 l0_0 x25_2).f0.f2) ((rd_T61 l0_0 x25_2).f0.f3) ((rd_T61 l0_0 x25_2).f0.f4) ((rd_T61 l0_0 x25_2).f1.f0) ((rd_T61 l0_0 x25_2).f1.f1) ((rd_T61 l0_0 x25_2).f1.f2) ((rd_T61 l0_0 x25_2).f1.f3) ((rd_T61 l0_0 x25_2).f1.f4) ((rd_T61 l0_0 x25_2).f2)))) else (impl_TableOk.j2 k2 x3_2 x25_2 l0_0 (l0_0.length : Int) x25_2 true l0_0 a0_1 ((rd_T61 l0_0 x25_2).f0.f0) ((rd_T61 l0_0 x25_2).f0.f1) ((rd_T61 l0_0 x25_2).f0.f2) ((rd_T61 l0_0 x25_2).f0.f3) ((rd_T61 l0_0 x25_2).f0.f4) ((rd_T61 l0_0 x25_2).f1.f0) ((rd_T61 l0_0 x25_2).f1.f1) ((rd_T61 l0_0 x25_2).f1.f2) ((rd_T61 l0_0 x25_2).f1.f3) ((rd_T61 l0_0 x25_2).f1.f4) ((rd_T61 l0_0 x25_2).f2))) else (impl_TableOk.j2 k2 x3_2 x25_2 l0_0 (l0_0.length : Int) x25_2 true l0_0 a0_1 ((rd_T61 l0_0 x25_2).f0.f0) ((rd_T61 l0_0 x25_2).f0.f1) ((rd_T61 l0_0 x25_2).f0.f2) ((rd_T61 l0_0 x25_2).f0.f3) ((rd_T61 l0_0 x25_2).f0.f4) ((rd_T61 l0_0 x25_2).f1.f0) ((rd_T61 l0_0 x25_2).f1.f1) ((rd_T61 l0_0 x25_2).f1.f2) ((rd_T61 l0_0 x25_2).f1.f3) ((rd_T61 l0_0 x25_2).f1.f4) ((rd_T61 l0_0 x25_2).f2))) = some r := H
    have A14 := Aside0.mk A140
    clear A140
    have HC15 := Aside0.mk H
    clear H
    have p668 : 0 ≤ (x25_2 : Int) := of_decide_eq_true (by first | (with_reducible assumption) | assumption)
    have q668 : x25_2 < (l0_0.length : Int) := of_decide_eq_true (by first | (with_reducible assumption) | assumption)
    obtain ⟨ad668, e668, hx668_0, hx668_1, hx668_2, hx668_3, hx668_4, hx668_5, hx668_6, hx668_7, hx668_8, hx668_9, hx668_10⟩ := at_T61 HR0_0.out x25_2 p668 q668
    cases e668
    (first | replace hx668_0 := (HB.out.cell (World.block_lt_of_cell? w _ hx668_0)).trans hx668_0 | skip)
    (first | replace hx668_1 := (HB.out.cell (World.block_lt_of_cell? w _ hx668_1)).trans hx668_1 | skip)
    (first | replace hx668_2 := (HB.out.cell (World.block_lt_of_cell? w _ hx668_2)).trans hx668_2 | skip)
    (first | replace hx668_3 := (HB.out.cell (World.block_lt_of_cell? w _ hx668_3)).trans hx668_3 | skip)
    (first | replace hx668_4 := (HB.out.cell (World.block_lt_of_cell? w _ hx668_4)).trans hx668_4 | skip)
    (first | replace hx668_5 := (HB.out.cell (World.block_lt_of_cell? w _ hx668_5)).trans hx668_5 | skip)
    (first | replace hx668_6 := (HB.out.cell (World.block_lt_of_cell? w _ hx668_6)).trans hx668_6 | skip)
    (first | replace hx668_7 := (HB.out.cell (World.block_lt_of_cell? w _ hx668_7)).trans hx668_7 | skip)
    (first | replace hx668_8 := (HB.out.cell (World.block_lt_of_cell? w _ hx668_8)).trans hx668_8 | skip)
    (first | replace hx668_9 := (HB.out.cell (World.block_lt_of_cell? w _ hx668_9)).trans hx668_9 | skip)
    (first | replace hx668_10 := (HB.out.cell (World.block_lt_of_cell? w _ hx668_10)).trans hx668_10 | skip)
    replace p668 := eq_true p668
    replace q668 := eq_true q668
    go_upto_region 8 with (first | ((with_reducible refine gate_dst (N := 5) rfl ?_); refine box_event rfl (N := 5) rfl (cs := #[.int .i64 0, .int .i64 0, .float .f64 0, .string (⟨#[]⟩ : ByteArray), .int .i64 0, .int .i64 0, .int .i64 0, .float .f64 0, .string (⟨#[]⟩ : ByteArray), .int .i64 0, .int .i64 0]) (t := 61) (by first | (go_simp; done) | (go_simp; rfl)) ?_; intro gb669 hg w16 hbox hb; have BK669 := Aside0.mk (hbox); have GW669 := (gws hg (hbe1 HB.out GE667.out) : Aside0 (w.heap.size ≤ gb669)); have GE669 := (gws hg (hbe1 HB.out GE667.out) : Aside0 (w.heap.size ≤ gb669)); replace HB := hbs1 HB.out GE667.out hb; have NB667_669 := nlt hg BK667.out; have NB669_667 := ngt hg BK667.out; replace BK667 := bku BK667.out hb; clear hb hbox hg; have hnb17 := NB669_667.out; have hnc17 := NB667_669.out; obtain ⟨hcz18_0, hcz18_1, hcz18_2, hcz18_3, hcz18_4, hcz18_5, hcz18_6, hcz18_7, hcz18_8, hcz18_9, hcz18_10, hfz18_0, hfz18_1, hfz18_2, hfz18_3, hfz18_4, hfz18_5, hfz18_6, hfz18_7, hfz18_8, hfz18_9, hfz18_10⟩ := cells11 BK669.out) | ((with_reducible refine gate_callee (f := 28) rfl ?_); refine goesS (some 32) rfl Try.func28 #[.agg #[.int .i64 ((rd_T61 l0_0 x25_2).f0.f0), .int .i64 ((rd_T61 l0_0 x25_2).f0.f1), .float .f64 ((rd_T61 l0_0 x25_2).f0.f2), .string ((rd_T61 l0_0 x25_2).f0.f3), .int .i64 ((rd_T61 l0_0 x25_2).f0.f4)]] rfl ?_; (with_reducible refine (impl_Key.calls k2 ((rd_T61 l0_0 x25_2).f0.f0) ((rd_T61 l0_0 x25_2).f0.f1) ((rd_T61 l0_0 x25_2).f0.f2) ((rd_T61 l0_0 x25_2).f0.f3) ((rd_T61 l0_0 x25_2).f0.f4) t670 t671 t672 t673 t674 t675 _ A14.out).mono ?_); rintro e w19 ⟨rfl, hb⟩; refine ⟨_, rfl, ?_⟩; replace BK667 := Aside0.mk (blk_below (g := gb667) (o := .cells #[.slice (some ad668) l0_0.length c0_0, .int .i64 a0_1] 56 (0, 0)) (by (with_reducible repeat (first | refine blk_drewN ?_ _ | refine blk_drew ?_ | refine blk_alloc ?_ _)); refine blk_far ?_ NB667_669.out _; (with_reducible repeat (first | refine blk_drewN ?_ _ | refine blk_drew ?_ | refine blk_alloc ?_ _)); refine blk_far ?_ NB667_669.out _; (with_reducible repeat (first | refine blk_drewN ?_ _ | refine blk_drew ?_ | refine blk_alloc ?_ _)); refine blk_far ?_ NB667_669.out _; (with_reducible repeat (first | refine blk_drewN ?_ _ | refine blk_drew ?_ | refine blk_alloc ?_ _)); refine blk_far ?_ NB667_669.out _; (with_reducible repeat (first | refine blk_drewN ?_ _ | refine blk_drew ?_ | refine blk_alloc ?_ _)); refine blk_far ?_ NB667_669.out _; (with_reducible repeat (first | refine blk_drewN ?_ _ | refine blk_drew ?_ | refine blk_alloc ?_ _)); refine blk_far ?_ NB667_669.out _; (with_reducible repeat (first | refine blk_drewN ?_ _ | refine blk_drew ?_ | refine blk_alloc ?_ _)); refine blk_far ?_ NB667_669.out _; (with_reducible repeat (first | refine blk_drewN ?_ _ | refine blk_drew ?_ | refine blk_alloc ?_ _)); refine blk_far ?_ NB667_669.out _; (with_reducible repeat (first | refine blk_drewN ?_ _ | refine blk_drew ?_ | refine blk_alloc ?_ _)); refine blk_far ?_ NB667_669.out _; (with_reducible repeat (first | refine blk_drewN ?_ _ | refine blk_drew ?_ | refine blk_alloc ?_ _)); refine blk_far ?_ NB667_669.out _; (with_reducible repeat (first | refine blk_drewN ?_ _ | refine blk_drew ?_ | refine blk_alloc ?_ _)); refine blk_far ?_ NB667_669.out _; (with_reducible repeat (first | refine blk_drewN ?_ _ | refine blk_drew ?_ | refine blk_alloc ?_ _)); exact BK667.out) hb); replace BK669 := Aside0.mk (blk_below (g := gb669) (o := .cells #[.int .i64 ((rd_T61 l0_0 x25_2).f0.f0), .int .i64 ((rd_T61 l0_0 x25_2).f0.f1), .float .f64 ((rd_T61 l0_0 x25_2).f0.f2), .string ((rd_T61 l0_0 x25_2).f0.f3), .int .i64 ((rd_T61 l0_0 x25_2).f0.f4), .int .i64 ((rd_T61 l0_0 x25_2).f1.f0), .int .i64 ((rd_T61 l0_0 x25_2).f1.f1), .float .f64 ((rd_T61 l0_0 x25_2).f1.f2), .string ((rd_T61 l0_0 x25_2).f1.f3), .int .i64 ((rd_T61 l0_0 x25_2).f1.f4), .int .i64 ((rd_T61 l0_0 x25_2).f2)] 61 (0, 0)) (by (with_reducible repeat (first | refine blk_drewN ?_ _ | refine blk_drew ?_ | refine blk_alloc ?_ _)); refine blk_put (cs := #[.int .i64 ((rd_T61 l0_0 x25_2).f0.f0), .int .i64 ((rd_T61 l0_0 x25_2).f0.f1), .float .f64 ((rd_T61 l0_0 x25_2).f0.f2), .string ((rd_T61 l0_0 x25_2).f0.f3), .int .i64 ((rd_T61 l0_0 x25_2).f0.f4), .int .i64 ((rd_T61 l0_0 x25_2).f1.f0), .int .i64 ((rd_T61 l0_0 x25_2).f1.f1), .float .f64 ((rd_T61 l0_0 x25_2).f1.f2), .string ((rd_T61 l0_0 x25_2).f1.f3), .int .i64 ((rd_T61 l0_0 x25_2).f1.f4), .int .i64 0]) ?_ 10 _ rfl; (with_reducible repeat (first | refine blk_drewN ?_ _ | refine blk_drew ?_ | refine blk_alloc ?_ _)); refine blk_put (cs := #[.int .i64 ((rd_T61 l0_0 x25_2).f0.f0), .int .i64 ((rd_T61 l0_0 x25_2).f0.f1), .float .f64 ((rd_T61 l0_0 x25_2).f0.f2), .string ((rd_T61 l0_0 x25_2).f0.f3), .int .i64 ((rd_T61 l0_0 x25_2).f0.f4), .int .i64 ((rd_T61 l0_0 x25_2).f1.f0), .int .i64 ((rd_T61 l0_0 x25_2).f1.f1), .float .f64 ((rd_T61 l0_0 x25_2).f1.f2), .string ((rd_T61 l0_0 x25_2).f1.f3), .int .i64 0, .int .i64 0]) ?_ 9 _ rfl; (with_reducible repeat (first | refine blk_drewN ?_ _ | refine blk_drew ?_ | refine blk_alloc ?_ _)); refine blk_put (cs := #[.int .i64 ((rd_T61 l0_0 x25_2).f0.f0), .int .i64 ((rd_T61 l0_0 x25_2).f0.f1), .float .f64 ((rd_T61 l0_0 x25_2).f0.f2), .string ((rd_T61 l0_0 x25_2).f0.f3), .int .i64 ((rd_T61 l0_0 x25_2).f0.f4), .int .i64 ((rd_T61 l0_0 x25_2).f1.f0), .int .i64 ((rd_T61 l0_0 x25_2).f1.f1), .float .f64 ((rd_T61 l0_0 x25_2).f1.f2), .string (⟨#[]⟩ : ByteArray), .int .i64 0, .int .i64 0]) ?_ 8 _ rfl; (with_reducible repeat (first | refine blk_drewN ?_ _ | refine blk_drew ?_ | refine blk_alloc ?_ _)); refine blk_put (cs := #[.int .i64 ((rd_T61 l0_0 x25_2).f0.f0), .int .i64 ((rd_T61 l0_0 x25_2).f0.f1), .float .f64 ((rd_T61 l0_0 x25_2).f0.f2), .string ((rd_T61 l0_0 x25_2).f0.f3), .int .i64 ((rd_T61 l0_0 x25_2).f0.f4), .int .i64 ((rd_T61 l0_0 x25_2).f1.f0), .int .i64 ((rd_T61 l0_0 x25_2).f1.f1), .float .f64 0, .string (⟨#[]⟩ : ByteArray), .int .i64 0, .int .i64 0]) ?_ 7 _ rfl; (with_reducible repeat (first | refine blk_drewN ?_ _ | refine blk_drew ?_ | refine blk_alloc ?_ _)); refine blk_put (cs := #[.int .i64 ((rd_T61 l0_0 x25_2).f0.f0), .int .i64 ((rd_T61 l0_0 x25_2).f0.f1), .float .f64 ((rd_T61 l0_0 x25_2).f0.f2), .string ((rd_T61 l0_0 x25_2).f0.f3), .int .i64 ((rd_T61 l0_0 x25_2).f0.f4), .int .i64 ((rd_T61 l0_0 x25_2).f1.f0), .int .i64 0, .float .f64 0, .string (⟨#[]⟩ : ByteArray), .int .i64 0, .int .i64 0]) ?_ 6 _ rfl; (with_reducible repeat (first | refine blk_drewN ?_ _ | refine blk_drew ?_ | refine blk_alloc ?_ _)); refine blk_put (cs := #[.int .i64 ((rd_T61 l0_0 x25_2).f0.f0), .int .i64 ((rd_T61 l0_0 x25_2).f0.f1), .float .f64 ((rd_T61 l0_0 x25_2).f0.f2), .string ((rd_T61 l0_0 x25_2).f0.f3), .int .i64 ((rd_T61 l0_0 x25_2).f0.f4), .int .i64 0, .int .i64 0, .float .f64 0, .string (⟨#[]⟩ : ByteArray), .int .i64 0, .int .i64 0]) ?_ 5 _ rfl; (with_reducible repeat (first | refine blk_drewN ?_ _ | refine blk_drew ?_ | refine blk_alloc ?_ _)); refine blk_put (cs := #[.int .i64 ((rd_T61 l0_0 x25_2).f0.f0), .int .i64 ((rd_T61 l0_0 x25_2).f0.f1), .float .f64 ((rd_T61 l0_0 x25_2).f0.f2), .string ((rd_T61 l0_0 x25_2).f0.f3), .int .i64 0, .int .i64 0, .int .i64 0, .float .f64 0, .string (⟨#[]⟩ : ByteArray), .int .i64 0, .int .i64 0]) ?_ 4 _ rfl; (with_reducible repeat (first | refine blk_drewN ?_ _ | refine blk_drew ?_ | refine blk_alloc ?_ _)); refine blk_put (cs := #[.int .i64 ((rd_T61 l0_0 x25_2).f0.f0), .int .i64 ((rd_T61 l0_0 x25_2).f0.f1), .float .f64 ((rd_T61 l0_0 x25_2).f0.f2), .string (⟨#[]⟩ : ByteArray), .int .i64 0, .int .i64 0, .int .i64 0, .float .f64 0, .string (⟨#[]⟩ : ByteArray), .int .i64 0, .int .i64 0]) ?_ 3 _ rfl; (with_reducible repeat (first | refine blk_drewN ?_ _ | refine blk_drew ?_ | refine blk_alloc ?_ _)); refine blk_put (cs := #[.int .i64 ((rd_T61 l0_0 x25_2).f0.f0), .int .i64 ((rd_T61 l0_0 x25_2).f0.f1), .float .f64 0, .string (⟨#[]⟩ : ByteArray), .int .i64 0, .int .i64 0, .int .i64 0, .float .f64 0, .string (⟨#[]⟩ : ByteArray), .int .i64 0, .int .i64 0]) ?_ 2 _ rfl; (with_reducible repeat (first | refine blk_drewN ?_ _ | refine blk_drew ?_ | refine blk_alloc ?_ _)); refine blk_put (cs := #[.int .i64 ((rd_T61 l0_0 x25_2).f0.f0), .int .i64 0, .float .f64 0, .string (⟨#[]⟩ : ByteArray), .int .i64 0, .int .i64 0, .int .i64 0, .float .f64 0, .string (⟨#[]⟩ : ByteArray), .int .i64 0, .int .i64 0]) ?_ 1 _ rfl; (with_reducible repeat (first | refine blk_drewN ?_ _ | refine blk_drew ?_ | refine blk_alloc ?_ _)); refine blk_put (cs := #[.int .i64 0, .int .i64 0, .float .f64 0, .string (⟨#[]⟩ : ByteArray), .int .i64 0, .int .i64 0, .int .i64 0, .float .f64 0, .string (⟨#[]⟩ : ByteArray), .int .i64 0, .int .i64 0]) ?_ 0 _ rfl; (with_reducible repeat (first | refine blk_drewN ?_ _ | refine blk_drew ?_ | refine blk_alloc ?_ _)); exact BK669.out) hb); replace HB := hbs2 HB.out GE667.out GE669.out hb; (try clear hb); (try clear hb2); (try clear hk); (try clear hi)) | ((with_reducible refine gate_dst (N := 6) rfl ?_); refine box_event rfl (N := 6) rfl (cs := #[.int .i64 0, .int .i64 0, .int .i64 0, .float .f64 0, .string (⟨#[]⟩ : ByteArray), .int .i64 0]) (t := 41) (by first | (go_simp; done) | (go_simp; rfl)) ?_; intro gb676 hg w20 hbox hb; have BK676 := Aside0.mk (hbox); have GW676 := (gws hg (hbe2 HB.out GE667.out GE669.out) : Aside0 (w.heap.size ≤ gb676)); have GE676 := (gws hg (hbe2 HB.out GE667.out GE669.out) : Aside0 (w.heap.size ≤ gb676)); replace HB := hbs2 HB.out GE667.out GE669.out hb; have NB667_676 := nlt hg BK667.out; have NB676_667 := ngt hg BK667.out; replace BK667 := bku BK667.out hb; have NB669_676 := nlt hg BK669.out; have NB676_669 := ngt hg BK669.out; replace BK669 := bku BK669.out hb; clear hb hbox hg; have hnb21 := NB676_667.out; have hnc21 := NB667_676.out; have hnb22 := NB676_669.out; have hnc22 := NB669_676.out; obtain ⟨hcz23_0, hcz23_1, hcz23_2, hcz23_3, hcz23_4, hcz23_5, hfz23_0, hfz23_1, hfz23_2, hfz23_3, hfz23_4, hfz23_5⟩ := cells6 BK676.out))
    (try simp only [Act.put, List.setIfInBounds_toArray, List.set_cons_zero, List.set_cons_succ])
    go_cut [56] (fun v56 wc => ∃ (kq : Nat) (x56_14 : Bool), v56 = .bool x56_14 ∧ Aside0 (impl_TableOk.j2 kq x3_2 x25_2 l0_0 (l0_0.length : Int) x25_2 x56_14 l0_0 a0_1 ((rd_T61 l0_0 x25_2).f0.f0) ((rd_T61 l0_0 x25_2).f0.f1) ((rd_T61 l0_0 x25_2).f0.f2) ((rd_T61 l0_0 x25_2).f0.f3) ((rd_T61 l0_0 x25_2).f0.f4) ((rd_T61 l0_0 x25_2).f1.f0) ((rd_T61 l0_0 x25_2).f1.f1) ((rd_T61 l0_0 x25_2).f1.f2) ((rd_T61 l0_0 x25_2).f1.f3) ((rd_T61 l0_0 x25_2).f1.f4) ((rd_T61 l0_0 x25_2).f2) = some r) ∧ Aside0 (kq ≤ k2) ∧ Aside0 (wc.heap[gb667]? = some (.cells #[(.slice (some ad668) l0_0.length c0_0), .int .i64 a0_1] 56 (0, 0))) ∧ Aside0 (wc.heap[gb669]? = some (.cells #[.int .i64 ((rd_T61 l0_0 x25_2).f0.f0), .int .i64 ((rd_T61 l0_0 x25_2).f0.f1), .float .f64 ((rd_T61 l0_0 x25_2).f0.f2), .string ((rd_T61 l0_0 x25_2).f0.f3), .int .i64 ((rd_T61 l0_0 x25_2).f0.f4), .int .i64 ((rd_T61 l0_0 x25_2).f1.f0), .int .i64 ((rd_T61 l0_0 x25_2).f1.f1), .float .f64 ((rd_T61 l0_0 x25_2).f1.f2), .string ((rd_T61 l0_0 x25_2).f1.f3), .int .i64 ((rd_T61 l0_0 x25_2).f1.f4), .int .i64 ((rd_T61 l0_0 x25_2).f2)] 61 (0, 0))) ∧ Aside0 (wc.heap[gb676]? = some (.cells #[.int .i64 t670, .int .i64 t671, .int .i64 t672, .float .f64 t673, .string t674, .int .i64 t675] 41 (0, 0))) ∧ Aside0 (Below w.heap.size w wc))
    case first =>
      have H := HC15.out
      clear HC15
      by_cases c24 : t670 = 0
      focus
       rw [if_pos c24] at H
       have c24b0 : (t670 == 0) = true := beq_iff_eq.mpr c24
       have c24b1 : (t670 != 0) = false := bne_eq_false_iff_eq.mpr c24
       clear c24
       (first | rw [c24b0] | (simp only [i64_w, i32_w]; rw [c24b0]) | skip)
       by_cases c25 : t671 = ((rd_T61 l0_0 x25_2).f0.f0)
       · rw [if_pos c25] at H
         have c25b0 : (t671 == ((rd_T61 l0_0 x25_2).f0.f0)) = true := beq_iff_eq.mpr c25
         have c25b1 : (t671 != ((rd_T61 l0_0 x25_2).f0.f0)) = false := bne_eq_false_iff_eq.mpr c25
         clear c25
         replace H := Option.bind_eq_some_iff.mp H
         obtain ⟨t677, A260, H⟩ := H
         replace H : (if t677 = true then (impl_TableOk.j2 k2 x3_2 x25_2 l0_0 (l0_0.length : Int) x25_2 (((rd_T61 l0_0 x25_2).f1.f0) == 0) l0_0 a0_1 ((rd_T61 l0_0 x25_2).f0.f0) ((rd_T61 l0_0 x25_2).f0.f1) ((rd_T61 l0_0 x25_2).f0.f2) ((rd_T61 l0_0 x25_2).f0.f3) ((rd_T61 l0_0 x25_2).f0.f4) ((rd_T61 l0_0 x25_2).f1.f0) ((rd_T61 l0_0 x25_2).f1.f1) ((rd_T61 l0_0 x25_2).f1.f2) ((rd_T61 l0_0 x25_2).f1.f3) ((rd_T61 l0_0 x25_2).f1.f4) ((rd_T61 l0_0 x25_2).f2)) else (impl_TableOk.j2 k2 x3_2 x25_2 l0_0 (l0_0.length : Int) x25_2 true l0_0 a0_1 ((rd_T61 l0_0 x25_2).f0.f0) ((rd_T61 l0_0 x25_2).f0.f1) ((rd_T61 l0_0 x25_2).f0.f2) ((rd_T61 l0_0 x25_2).f0.f3) ((rd_T61 l0_0 x25_2).f0.f4) ((rd_T61 l0_0 x25_2).f1.f0) ((rd_T61 l0_0 x25_2).f1.f1) ((rd_T61 l0_0 x25_2).f1.f2) ((rd_T61 l0_0 x25_2).f1.f3) ((rd_T61 l0_0 x25_2).f1.f4) ((rd_T61 l0_0 x25_2).f2))) = some r := H
         have A26 := Aside0.mk A260
         clear A260
         by_cases c27 : t677 = true
         rotate_left 1
         · replace c27 := Bool.eq_false_iff.mpr c27
           subst c27
           have H1 : (impl_TableOk.j2 k2 x3_2 x25_2 l0_0 (l0_0.length : Int) x25_2 true l0_0 a0_1 ((rd_T61 l0_0 x25_2).f0.f0) ((rd_T61 l0_0 x25_2).f0.f1) ((rd_T61 l0_0 x25_2).f0.f2) ((rd_T61 l0_0 x25_2).f0.f3) ((rd_T61 l0_0 x25_2).f0.f4) ((rd_T61 l0_0 x25_2).f1.f0) ((rd_T61 l0_0 x25_2).f1.f1) ((rd_T61 l0_0 x25_2).f1.f2) ((rd_T61 l0_0 x25_2).f1.f3) ((rd_T61 l0_0 x25_2).f1.f4) ((rd_T61 l0_0 x25_2).f2)) = some r := by rw [if_neg (show ¬ (false = true) by decide)] at H; exact H
           clear H
           have H := H1
           clear H1
           have H' := Aside0.mk H
           clear H
           have hnb35 := NB676_667.out
           have hnc35 := NB667_676.out
           have hnb36 := NB676_669.out
           have hnc36 := NB669_676.out
           obtain ⟨hcz37_0, hcz37_1, hcz37_2, hcz37_3, hcz37_4, hcz37_5, hfz37_0, hfz37_1, hfz37_2, hfz37_3, hfz37_4, hfz37_5⟩ := cells6 BK676.out
           have hnb38 := NB669_667.out
           have hnc38 := NB667_669.out
           obtain ⟨hcz39_0, hcz39_1, hcz39_2, hcz39_3, hcz39_4, hcz39_5, hcz39_6, hcz39_7, hcz39_8, hcz39_9, hcz39_10, hfz39_0, hfz39_1, hfz39_2, hfz39_3, hfz39_4, hfz39_5, hfz39_6, hfz39_7, hfz39_8, hfz39_9, hfz39_10⟩ := cells11 BK669.out
           go_wp2_with (first | (go_at_call 19; (with_reducible refine (impl_ValueOk.calls k2 ((rd_T61 l0_0 x25_2).f1.f0) ((rd_T61 l0_0 x25_2).f1.f1) ((rd_T61 l0_0 x25_2).f1.f2) ((rd_T61 l0_0 x25_2).f1.f3) ((rd_T61 l0_0 x25_2).f1.f4) false _ A26.out).mono ?_); rintro e w40 ⟨rfl, hb⟩; replace BK667 := Aside0.mk (blk_below (g := gb667) (o := .cells #[.slice (some ad668) l0_0.length c0_0, .int .i64 a0_1] 56 (0, 0)) (by (with_reducible repeat (first | refine blk_drewN ?_ _ | refine blk_drew ?_ | refine blk_alloc ?_ _)); refine blk_far ?_ NB667_676.out _; (with_reducible repeat (first | refine blk_drewN ?_ _ | refine blk_drew ?_ | refine blk_alloc ?_ _)); refine blk_far ?_ NB667_676.out _; (with_reducible repeat (first | refine blk_drewN ?_ _ | refine blk_drew ?_ | refine blk_alloc ?_ _)); refine blk_far ?_ NB667_676.out _; (with_reducible repeat (first | refine blk_drewN ?_ _ | refine blk_drew ?_ | refine blk_alloc ?_ _)); refine blk_far ?_ NB667_676.out _; (with_reducible repeat (first | refine blk_drewN ?_ _ | refine blk_drew ?_ | refine blk_alloc ?_ _)); refine blk_far ?_ NB667_676.out _; (with_reducible repeat (first | refine blk_drewN ?_ _ | refine blk_drew ?_ | refine blk_alloc ?_ _)); refine blk_far ?_ NB667_676.out _; (with_reducible repeat (first | refine blk_drewN ?_ _ | refine blk_drew ?_ | refine blk_alloc ?_ _)); exact BK667.out) hb); replace BK669 := Aside0.mk (blk_below (g := gb669) (o := .cells #[.int .i64 ((rd_T61 l0_0 x25_2).f0.f0), .int .i64 ((rd_T61 l0_0 x25_2).f0.f1), .float .f64 ((rd_T61 l0_0 x25_2).f0.f2), .string ((rd_T61 l0_0 x25_2).f0.f3), .int .i64 ((rd_T61 l0_0 x25_2).f0.f4), .int .i64 ((rd_T61 l0_0 x25_2).f1.f0), .int .i64 ((rd_T61 l0_0 x25_2).f1.f1), .float .f64 ((rd_T61 l0_0 x25_2).f1.f2), .string ((rd_T61 l0_0 x25_2).f1.f3), .int .i64 ((rd_T61 l0_0 x25_2).f1.f4), .int .i64 ((rd_T61 l0_0 x25_2).f2)] 61 (0, 0)) (by (with_reducible repeat (first | refine blk_drewN ?_ _ | refine blk_drew ?_ | refine blk_alloc ?_ _)); refine blk_far ?_ NB669_676.out _; (with_reducible repeat (first | refine blk_drewN ?_ _ | refine blk_drew ?_ | refine blk_alloc ?_ _)); refine blk_far ?_ NB669_676.out _; (with_reducible repeat (first | refine blk_drewN ?_ _ | refine blk_drew ?_ | refine blk_alloc ?_ _)); refine blk_far ?_ NB669_676.out _; (with_reducible repeat (first | refine blk_drewN ?_ _ | refine blk_drew ?_ | refine blk_alloc ?_ _)); refine blk_far ?_ NB669_676.out _; (with_reducible repeat (first | refine blk_drewN ?_ _ | refine blk_drew ?_ | refine blk_alloc ?_ _)); refine blk_far ?_ NB669_676.out _; (with_reducible repeat (first | refine blk_drewN ?_ _ | refine blk_drew ?_ | refine blk_alloc ?_ _)); refine blk_far ?_ NB669_676.out _; (with_reducible repeat (first | refine blk_drewN ?_ _ | refine blk_drew ?_ | refine blk_alloc ?_ _)); exact BK669.out) hb); replace BK676 := Aside0.mk (blk_below (g := gb676) (o := .cells #[.int .i64 t670, .int .i64 t671, .int .i64 t672, .float .f64 t673, .string t674, .int .i64 t675] 41 (0, 0)) (by (with_reducible repeat (first | refine blk_drewN ?_ _ | refine blk_drew ?_ | refine blk_alloc ?_ _)); refine blk_put (cs := #[.int .i64 t670, .int .i64 t671, .int .i64 t672, .float .f64 t673, .string t674, .int .i64 0]) ?_ 5 _ rfl; (with_reducible repeat (first | refine blk_drewN ?_ _ | refine blk_drew ?_ | refine blk_alloc ?_ _)); refine blk_put (cs := #[.int .i64 t670, .int .i64 t671, .int .i64 t672, .float .f64 t673, .string (⟨#[]⟩ : ByteArray), .int .i64 0]) ?_ 4 _ rfl; (with_reducible repeat (first | refine blk_drewN ?_ _ | refine blk_drew ?_ | refine blk_alloc ?_ _)); refine blk_put (cs := #[.int .i64 t670, .int .i64 t671, .int .i64 t672, .float .f64 0, .string (⟨#[]⟩ : ByteArray), .int .i64 0]) ?_ 3 _ rfl; (with_reducible repeat (first | refine blk_drewN ?_ _ | refine blk_drew ?_ | refine blk_alloc ?_ _)); refine blk_put (cs := #[.int .i64 t670, .int .i64 t671, .int .i64 0, .float .f64 0, .string (⟨#[]⟩ : ByteArray), .int .i64 0]) ?_ 2 _ rfl; (with_reducible repeat (first | refine blk_drewN ?_ _ | refine blk_drew ?_ | refine blk_alloc ?_ _)); refine blk_put (cs := #[.int .i64 t670, .int .i64 0, .int .i64 0, .float .f64 0, .string (⟨#[]⟩ : ByteArray), .int .i64 0]) ?_ 1 _ rfl; (with_reducible repeat (first | refine blk_drewN ?_ _ | refine blk_drew ?_ | refine blk_alloc ?_ _)); refine blk_put (cs := #[.int .i64 0, .int .i64 0, .int .i64 0, .float .f64 0, .string (⟨#[]⟩ : ByteArray), .int .i64 0]) ?_ 0 _ rfl; (with_reducible repeat (first | refine blk_drewN ?_ _ | refine blk_drew ?_ | refine blk_alloc ?_ _)); exact BK676.out) hb); replace HB := hbs3 HB.out GE667.out GE669.out GE676.out hb; (try clear hb); (try clear hb2); (try clear hk); (try clear hi)))
           go_meet
           case rel => exact ⟨_, (true), (by first | rfl | (simp; done) | (simp [*]; done)), H', ⟨by have := HJ1.out; have := HK2.out; first | omega | exact Nat.le_refl _⟩, ⟨by (with_reducible repeat (first | refine blk_drewN ?_ _ | refine blk_drew ?_ | refine blk_alloc ?_ _)); exact BK667.out⟩, ⟨by (with_reducible repeat (first | refine blk_drewN ?_ _ | refine blk_drew ?_ | refine blk_alloc ?_ _)); exact BK669.out⟩, ⟨by (with_reducible repeat (first | refine blk_drewN ?_ _ | refine blk_drew ?_ | refine blk_alloc ?_ _)); exact BK676.out⟩, ⟨by repeat (first | (with_reducible first | exact HB.out | apply below_alloc | apply pw_below_drewN | apply below_drew1 | refine below_set ?_ GE667.out | refine below_set ?_ GE669.out | refine below_set ?_ GE676.out) | exact HB.out)⟩⟩
         subst c27
         have H1 : (impl_TableOk.j2 k2 x3_2 x25_2 l0_0 (l0_0.length : Int) x25_2 (((rd_T61 l0_0 x25_2).f1.f0) == 0) l0_0 a0_1 ((rd_T61 l0_0 x25_2).f0.f0) ((rd_T61 l0_0 x25_2).f0.f1) ((rd_T61 l0_0 x25_2).f0.f2) ((rd_T61 l0_0 x25_2).f0.f3) ((rd_T61 l0_0 x25_2).f0.f4) ((rd_T61 l0_0 x25_2).f1.f0) ((rd_T61 l0_0 x25_2).f1.f1) ((rd_T61 l0_0 x25_2).f1.f2) ((rd_T61 l0_0 x25_2).f1.f3) ((rd_T61 l0_0 x25_2).f1.f4) ((rd_T61 l0_0 x25_2).f2)) = some r := by rw [if_pos rfl] at H; exact H
         clear H
         have H := H1
         clear H1
         have H' := Aside0.mk H
         clear H
         have hnb28 := NB676_667.out
         have hnc28 := NB667_676.out
         have hnb29 := NB676_669.out
         have hnc29 := NB669_676.out
         obtain ⟨hcz30_0, hcz30_1, hcz30_2, hcz30_3, hcz30_4, hcz30_5, hfz30_0, hfz30_1, hfz30_2, hfz30_3, hfz30_4, hfz30_5⟩ := cells6 BK676.out
         have hnb31 := NB669_667.out
         have hnc31 := NB667_669.out
         obtain ⟨hcz32_0, hcz32_1, hcz32_2, hcz32_3, hcz32_4, hcz32_5, hcz32_6, hcz32_7, hcz32_8, hcz32_9, hcz32_10, hfz32_0, hfz32_1, hfz32_2, hfz32_3, hfz32_4, hfz32_5, hfz32_6, hfz32_7, hfz32_8, hfz32_9, hfz32_10⟩ := cells11 BK669.out
         go_wp2_with (first | (go_at_call 19; (with_reducible refine (impl_ValueOk.calls k2 ((rd_T61 l0_0 x25_2).f1.f0) ((rd_T61 l0_0 x25_2).f1.f1) ((rd_T61 l0_0 x25_2).f1.f2) ((rd_T61 l0_0 x25_2).f1.f3) ((rd_T61 l0_0 x25_2).f1.f4) true _ A26.out).mono ?_); rintro e w33 ⟨rfl, hb⟩; replace BK667 := Aside0.mk (blk_below (g := gb667) (o := .cells #[.slice (some ad668) l0_0.length c0_0, .int .i64 a0_1] 56 (0, 0)) (by (with_reducible repeat (first | refine blk_drewN ?_ _ | refine blk_drew ?_ | refine blk_alloc ?_ _)); refine blk_far ?_ NB667_676.out _; (with_reducible repeat (first | refine blk_drewN ?_ _ | refine blk_drew ?_ | refine blk_alloc ?_ _)); refine blk_far ?_ NB667_676.out _; (with_reducible repeat (first | refine blk_drewN ?_ _ | refine blk_drew ?_ | refine blk_alloc ?_ _)); refine blk_far ?_ NB667_676.out _; (with_reducible repeat (first | refine blk_drewN ?_ _ | refine blk_drew ?_ | refine blk_alloc ?_ _)); refine blk_far ?_ NB667_676.out _; (with_reducible repeat (first | refine blk_drewN ?_ _ | refine blk_drew ?_ | refine blk_alloc ?_ _)); refine blk_far ?_ NB667_676.out _; (with_reducible repeat (first | refine blk_drewN ?_ _ | refine blk_drew ?_ | refine blk_alloc ?_ _)); refine blk_far ?_ NB667_676.out _; (with_reducible repeat (first | refine blk_drewN ?_ _ | refine blk_drew ?_ | refine blk_alloc ?_ _)); exact BK667.out) hb); replace BK669 := Aside0.mk (blk_below (g := gb669) (o := .cells #[.int .i64 ((rd_T61 l0_0 x25_2).f0.f0), .int .i64 ((rd_T61 l0_0 x25_2).f0.f1), .float .f64 ((rd_T61 l0_0 x25_2).f0.f2), .string ((rd_T61 l0_0 x25_2).f0.f3), .int .i64 ((rd_T61 l0_0 x25_2).f0.f4), .int .i64 ((rd_T61 l0_0 x25_2).f1.f0), .int .i64 ((rd_T61 l0_0 x25_2).f1.f1), .float .f64 ((rd_T61 l0_0 x25_2).f1.f2), .string ((rd_T61 l0_0 x25_2).f1.f3), .int .i64 ((rd_T61 l0_0 x25_2).f1.f4), .int .i64 ((rd_T61 l0_0 x25_2).f2)] 61 (0, 0)) (by (with_reducible repeat (first | refine blk_drewN ?_ _ | refine blk_drew ?_ | refine blk_alloc ?_ _)); refine blk_far ?_ NB669_676.out _; (with_reducible repeat (first | refine blk_drewN ?_ _ | refine blk_drew ?_ | refine blk_alloc ?_ _)); refine blk_far ?_ NB669_676.out _; (with_reducible repeat (first | refine blk_drewN ?_ _ | refine blk_drew ?_ | refine blk_alloc ?_ _)); refine blk_far ?_ NB669_676.out _; (with_reducible repeat (first | refine blk_drewN ?_ _ | refine blk_drew ?_ | refine blk_alloc ?_ _)); refine blk_far ?_ NB669_676.out _; (with_reducible repeat (first | refine blk_drewN ?_ _ | refine blk_drew ?_ | refine blk_alloc ?_ _)); refine blk_far ?_ NB669_676.out _; (with_reducible repeat (first | refine blk_drewN ?_ _ | refine blk_drew ?_ | refine blk_alloc ?_ _)); refine blk_far ?_ NB669_676.out _; (with_reducible repeat (first | refine blk_drewN ?_ _ | refine blk_drew ?_ | refine blk_alloc ?_ _)); exact BK669.out) hb); replace BK676 := Aside0.mk (blk_below (g := gb676) (o := .cells #[.int .i64 t670, .int .i64 t671, .int .i64 t672, .float .f64 t673, .string t674, .int .i64 t675] 41 (0, 0)) (by (with_reducible repeat (first | refine blk_drewN ?_ _ | refine blk_drew ?_ | refine blk_alloc ?_ _)); refine blk_put (cs := #[.int .i64 t670, .int .i64 t671, .int .i64 t672, .float .f64 t673, .string t674, .int .i64 0]) ?_ 5 _ rfl; (with_reducible repeat (first | refine blk_drewN ?_ _ | refine blk_drew ?_ | refine blk_alloc ?_ _)); refine blk_put (cs := #[.int .i64 t670, .int .i64 t671, .int .i64 t672, .float .f64 t673, .string (⟨#[]⟩ : ByteArray), .int .i64 0]) ?_ 4 _ rfl; (with_reducible repeat (first | refine blk_drewN ?_ _ | refine blk_drew ?_ | refine blk_alloc ?_ _)); refine blk_put (cs := #[.int .i64 t670, .int .i64 t671, .int .i64 t672, .float .f64 0, .string (⟨#[]⟩ : ByteArray), .int .i64 0]) ?_ 3 _ rfl; (with_reducible repeat (first | refine blk_drewN ?_ _ | refine blk_drew ?_ | refine blk_alloc ?_ _)); refine blk_put (cs := #[.int .i64 t670, .int .i64 t671, .int .i64 0, .float .f64 0, .string (⟨#[]⟩ : ByteArray), .int .i64 0]) ?_ 2 _ rfl; (with_reducible repeat (first | refine blk_drewN ?_ _ | refine blk_drew ?_ | refine blk_alloc ?_ _)); refine blk_put (cs := #[.int .i64 t670, .int .i64 0, .int .i64 0, .float .f64 0, .string (⟨#[]⟩ : ByteArray), .int .i64 0]) ?_ 1 _ rfl; (with_reducible repeat (first | refine blk_drewN ?_ _ | refine blk_drew ?_ | refine blk_alloc ?_ _)); refine blk_put (cs := #[.int .i64 0, .int .i64 0, .int .i64 0, .float .f64 0, .string (⟨#[]⟩ : ByteArray), .int .i64 0]) ?_ 0 _ rfl; (with_reducible repeat (first | refine blk_drewN ?_ _ | refine blk_drew ?_ | refine blk_alloc ?_ _)); exact BK676.out) hb); replace HB := hbs3 HB.out GE667.out GE669.out GE676.out hb; (try clear hb); (try clear hb2); (try clear hk); (try clear hi); obtain ⟨hcz34_0, hcz34_1, hcz34_2, hcz34_3, hcz34_4, hcz34_5, hcz34_6, hcz34_7, hcz34_8, hcz34_9, hcz34_10, hfz34_0, hfz34_1, hfz34_2, hfz34_3, hfz34_4, hfz34_5, hfz34_6, hfz34_7, hfz34_8, hfz34_9, hfz34_10⟩ := cells11 BK669.out))
         go_meet
         case rel => exact ⟨_, ((((rd_T61 l0_0 x25_2).f1.f0) == 0)), (by first | rfl | (simp; done) | (simp [*]; done)), H', ⟨by have := HJ1.out; have := HK2.out; first | omega | exact Nat.le_refl _⟩, ⟨by (with_reducible repeat (first | refine blk_drewN ?_ _ | refine blk_drew ?_ | refine blk_alloc ?_ _)); exact BK667.out⟩, ⟨by (with_reducible repeat (first | refine blk_drewN ?_ _ | refine blk_drew ?_ | refine blk_alloc ?_ _)); exact BK669.out⟩, ⟨by (with_reducible repeat (first | refine blk_drewN ?_ _ | refine blk_drew ?_ | refine blk_alloc ?_ _)); exact BK676.out⟩, ⟨by repeat (first | (with_reducible first | exact HB.out | apply below_alloc | apply pw_below_drewN | apply below_drew1 | refine below_set ?_ GE667.out | refine below_set ?_ GE669.out | refine below_set ?_ GE676.out) | exact HB.out)⟩⟩
       focus
        rw [if_neg c25] at H
        have c25b0 : (t671 == ((rd_T61 l0_0 x25_2).f0.f0)) = false := beq_eq_false_iff_ne.mpr c25
        have c25b1 : (t671 != ((rd_T61 l0_0 x25_2).f0.f0)) = true := bne_iff_ne.mpr c25
        have H' := Aside0.mk H
        clear H
        have hnb41 := NB676_667.out
        have hnc41 := NB667_676.out
        have hnb42 := NB676_669.out
        have hnc42 := NB669_676.out
        obtain ⟨hcz43_0, hcz43_1, hcz43_2, hcz43_3, hcz43_4, hcz43_5, hfz43_0, hfz43_1, hfz43_2, hfz43_3, hfz43_4, hfz43_5⟩ := cells6 BK676.out
        have hnb44 := NB669_667.out
        have hnc44 := NB667_669.out
        obtain ⟨hcz45_0, hcz45_1, hcz45_2, hcz45_3, hcz45_4, hcz45_5, hcz45_6, hcz45_7, hcz45_8, hcz45_9, hcz45_10, hfz45_0, hfz45_1, hfz45_2, hfz45_3, hfz45_4, hfz45_5, hfz45_6, hfz45_7, hfz45_8, hfz45_9, hfz45_10⟩ := cells11 BK669.out
      rotate_left 1
      focus
       rw [if_neg c24] at H
       have c24b0 : (t670 == 0) = false := beq_eq_false_iff_ne.mpr c24
       have c24b1 : (t670 != 0) = true := bne_iff_ne.mpr c24
       (first | rw [c24b0] | (simp only [i64_w, i32_w]; rw [c24b0]) | skip)
       have H' := Aside0.mk H
       clear H
       have hnb46 := NB676_667.out
       have hnc46 := NB667_676.out
       have hnb47 := NB676_669.out
       have hnc47 := NB669_676.out
       obtain ⟨hcz48_0, hcz48_1, hcz48_2, hcz48_3, hcz48_4, hcz48_5, hfz48_0, hfz48_1, hfz48_2, hfz48_3, hfz48_4, hfz48_5⟩ := cells6 BK676.out
      all_goals
       go_wp2
       go_meet
       case rel => exact ⟨_, (true), (by first | rfl | (simp; done) | (simp [*]; done)), H', ⟨by have := HJ1.out; have := HK2.out; first | omega | exact Nat.le_refl _⟩, ⟨by (with_reducible repeat (first | refine blk_drewN ?_ _ | refine blk_drew ?_ | refine blk_alloc ?_ _)); refine blk_far ?_ NB667_676.out _; (with_reducible repeat (first | refine blk_drewN ?_ _ | refine blk_drew ?_ | refine blk_alloc ?_ _)); refine blk_far ?_ NB667_676.out _; (with_reducible repeat (first | refine blk_drewN ?_ _ | refine blk_drew ?_ | refine blk_alloc ?_ _)); refine blk_far ?_ NB667_676.out _; (with_reducible repeat (first | refine blk_drewN ?_ _ | refine blk_drew ?_ | refine blk_alloc ?_ _)); refine blk_far ?_ NB667_676.out _; (with_reducible repeat (first | refine blk_drewN ?_ _ | refine blk_drew ?_ | refine blk_alloc ?_ _)); refine blk_far ?_ NB667_676.out _; (with_reducible repeat (first | refine blk_drewN ?_ _ | refine blk_drew ?_ | refine blk_alloc ?_ _)); refine blk_far ?_ NB667_676.out _; (with_reducible repeat (first | refine blk_drewN ?_ _ | refine blk_drew ?_ | refine blk_alloc ?_ _)); exact BK667.out⟩, ⟨by (with_reducible repeat (first | refine blk_drewN ?_ _ | refine blk_drew ?_ | refine blk_alloc ?_ _)); refine blk_far ?_ NB669_676.out _; (with_reducible repeat (first | refine blk_drewN ?_ _ | refine blk_drew ?_ | refine blk_alloc ?_ _)); refine blk_far ?_ NB669_676.out _; (with_reducible repeat (first | refine blk_drewN ?_ _ | refine blk_drew ?_ | refine blk_alloc ?_ _)); refine blk_far ?_ NB669_676.out _; (with_reducible repeat (first | refine blk_drewN ?_ _ | refine blk_drew ?_ | refine blk_alloc ?_ _)); refine blk_far ?_ NB669_676.out _; (with_reducible repeat (first | refine blk_drewN ?_ _ | refine blk_drew ?_ | refine blk_alloc ?_ _)); refine blk_far ?_ NB669_676.out _; (with_reducible repeat (first | refine blk_drewN ?_ _ | refine blk_drew ?_ | refine blk_alloc ?_ _)); refine blk_far ?_ NB669_676.out _; (with_reducible repeat (first | refine blk_drewN ?_ _ | refine blk_drew ?_ | refine blk_alloc ?_ _)); exact BK669.out⟩, ⟨by (with_reducible repeat (first | refine blk_drewN ?_ _ | refine blk_drew ?_ | refine blk_alloc ?_ _)); refine blk_put (cs := #[.int .i64 t670, .int .i64 t671, .int .i64 t672, .float .f64 t673, .string t674, .int .i64 0]) ?_ 5 _ rfl; (with_reducible repeat (first | refine blk_drewN ?_ _ | refine blk_drew ?_ | refine blk_alloc ?_ _)); refine blk_put (cs := #[.int .i64 t670, .int .i64 t671, .int .i64 t672, .float .f64 t673, .string (⟨#[]⟩ : ByteArray), .int .i64 0]) ?_ 4 _ rfl; (with_reducible repeat (first | refine blk_drewN ?_ _ | refine blk_drew ?_ | refine blk_alloc ?_ _)); refine blk_put (cs := #[.int .i64 t670, .int .i64 t671, .int .i64 t672, .float .f64 0, .string (⟨#[]⟩ : ByteArray), .int .i64 0]) ?_ 3 _ rfl; (with_reducible repeat (first | refine blk_drewN ?_ _ | refine blk_drew ?_ | refine blk_alloc ?_ _)); refine blk_put (cs := #[.int .i64 t670, .int .i64 t671, .int .i64 0, .float .f64 0, .string (⟨#[]⟩ : ByteArray), .int .i64 0]) ?_ 2 _ rfl; (with_reducible repeat (first | refine blk_drewN ?_ _ | refine blk_drew ?_ | refine blk_alloc ?_ _)); refine blk_put (cs := #[.int .i64 t670, .int .i64 0, .int .i64 0, .float .f64 0, .string (⟨#[]⟩ : ByteArray), .int .i64 0]) ?_ 1 _ rfl; (with_reducible repeat (first | refine blk_drewN ?_ _ | refine blk_drew ?_ | refine blk_alloc ?_ _)); refine blk_put (cs := #[.int .i64 0, .int .i64 0, .int .i64 0, .float .f64 0, .string (⟨#[]⟩ : ByteArray), .int .i64 0]) ?_ 0 _ rfl; (with_reducible repeat (first | refine blk_drewN ?_ _ | refine blk_drew ?_ | refine blk_alloc ?_ _)); exact BK676.out⟩, ⟨by repeat (first | (with_reducible first | exact HB.out | apply below_alloc | apply pw_below_drewN | apply below_drew1 | refine below_set ?_ GE667.out | refine below_set ?_ GE669.out | refine below_set ?_ GE676.out) | exact HB.out)⟩⟩
    clear HC15
    try clear c9
    try clear c11
    try clear c11b0
    try clear c12
    try clear c12b0
    try clear c13
    try clear c13b0
    try clear hcz10_0
    try clear hcz10_1
    try clear hcz18_0
    try clear hcz18_1
    try clear hcz18_10
    try clear hcz18_2
    try clear hcz18_3
    try clear hcz18_4
    try clear hcz18_5
    try clear hcz18_6
    try clear hcz18_7
    try clear hcz18_8
    try clear hcz18_9
    try clear hcz23_0
    try clear hcz23_1
    try clear hcz23_2
    try clear hcz23_3
    try clear hcz23_4
    try clear hcz23_5
    try clear hfz10_0
    try clear hfz10_1
    try clear hfz18_0
    try clear hfz18_1
    try clear hfz18_10
    try clear hfz18_2
    try clear hfz18_3
    try clear hfz18_4
    try clear hfz18_5
    try clear hfz18_6
    try clear hfz18_7
    try clear hfz18_8
    try clear hfz18_9
    try clear hfz23_0
    try clear hfz23_1
    try clear hfz23_2
    try clear hfz23_3
    try clear hfz23_4
    try clear hfz23_5
    try clear hx668_0
    try clear hx668_1
    try clear hx668_10
    try clear hx668_2
    try clear hx668_3
    try clear hx668_4
    try clear hx668_5
    try clear hx668_6
    try clear hx668_7
    try clear hx668_8
    try clear hx668_9
    try clear p668
    try clear q668
    obtain ⟨kq, x56_14, rfl, HA, HJ14, BK667, BK669, BK676, HB⟩ := hcut
    rcases kq with _ | kj14
    · exact absurd HA.out (by simp [impl_TableOk.j2])
    have H := HA.out
    clear HA
    simp only [impl_TableOk.j2] at H
    by_cases c49 : x56_14 = true
    · subst c49
      have H1 : (some false) = some r := by rw [if_pos rfl] at H; exact H
      clear H
      have H := H1
      clear H1
      obtain rfl := Option.some.inj H
      go_wp2
      go_ret
      exact ⟨by first | rfl | (simp <;> rfl) | (simp [*] <;> rfl), hbe3 HB.out GE667.out GE669.out GE676.out⟩
    replace c49 := Bool.eq_false_iff.mpr c49
    subst c49
    have H1 : (if ((rd_T61 l0_0 x25_2).f2) ≤ x3_2 then (impl_TableOk.j3 kj14 x25_2 l0_0 (l0_0.length : Int) x25_2 true l0_0 a0_1 ((rd_T61 l0_0 x25_2).f0.f0) ((rd_T61 l0_0 x25_2).f0.f1) ((rd_T61 l0_0 x25_2).f0.f2) ((rd_T61 l0_0 x25_2).f0.f3) ((rd_T61 l0_0 x25_2).f0.f4) ((rd_T61 l0_0 x25_2).f1.f0) ((rd_T61 l0_0 x25_2).f1.f1) ((rd_T61 l0_0 x25_2).f1.f2) ((rd_T61 l0_0 x25_2).f1.f3) ((rd_T61 l0_0 x25_2).f1.f4) ((rd_T61 l0_0 x25_2).f2)) else (impl_TableOk.j3 kj14 x25_2 l0_0 (l0_0.length : Int) x25_2 (decide (((rd_T61 l0_0 x25_2).f2) > a0_1)) l0_0 a0_1 ((rd_T61 l0_0 x25_2).f0.f0) ((rd_T61 l0_0 x25_2).f0.f1) ((rd_T61 l0_0 x25_2).f0.f2) ((rd_T61 l0_0 x25_2).f0.f3) ((rd_T61 l0_0 x25_2).f0.f4) ((rd_T61 l0_0 x25_2).f1.f0) ((rd_T61 l0_0 x25_2).f1.f1) ((rd_T61 l0_0 x25_2).f1.f2) ((rd_T61 l0_0 x25_2).f1.f3) ((rd_T61 l0_0 x25_2).f1.f4) ((rd_T61 l0_0 x25_2).f2))) = some r := by rw [if_neg (show ¬ (false = true) by decide)] at H; exact H
    clear H
    have H := H1
    clear H1
    have HC50 := Aside0.mk H
    clear H
    go_upto_region 10 with (fail)
    go_cut [67] (fun v67 wc => ∃ (kq : Nat) (x67_49 : Bool), v67 = .bool x67_49 ∧ Aside0 (impl_TableOk.j3 kq x25_2 l0_0 (l0_0.length : Int) x25_2 x67_49 l0_0 a0_1 ((rd_T61 l0_0 x25_2).f0.f0) ((rd_T61 l0_0 x25_2).f0.f1) ((rd_T61 l0_0 x25_2).f0.f2) ((rd_T61 l0_0 x25_2).f0.f3) ((rd_T61 l0_0 x25_2).f0.f4) ((rd_T61 l0_0 x25_2).f1.f0) ((rd_T61 l0_0 x25_2).f1.f1) ((rd_T61 l0_0 x25_2).f1.f2) ((rd_T61 l0_0 x25_2).f1.f3) ((rd_T61 l0_0 x25_2).f1.f4) ((rd_T61 l0_0 x25_2).f2) = some r) ∧ Aside0 (kq ≤ kj14) ∧ Aside0 (wc.heap[gb667]? = some (.cells #[(.slice (some ad668) l0_0.length c0_0), .int .i64 a0_1] 56 (0, 0))) ∧ Aside0 (wc.heap[gb669]? = some (.cells #[.int .i64 ((rd_T61 l0_0 x25_2).f0.f0), .int .i64 ((rd_T61 l0_0 x25_2).f0.f1), .float .f64 ((rd_T61 l0_0 x25_2).f0.f2), .string ((rd_T61 l0_0 x25_2).f0.f3), .int .i64 ((rd_T61 l0_0 x25_2).f0.f4), .int .i64 ((rd_T61 l0_0 x25_2).f1.f0), .int .i64 ((rd_T61 l0_0 x25_2).f1.f1), .float .f64 ((rd_T61 l0_0 x25_2).f1.f2), .string ((rd_T61 l0_0 x25_2).f1.f3), .int .i64 ((rd_T61 l0_0 x25_2).f1.f4), .int .i64 ((rd_T61 l0_0 x25_2).f2)] 61 (0, 0))) ∧ Aside0 (wc.heap[gb676]? = some (.cells #[.int .i64 t670, .int .i64 t671, .int .i64 t672, .float .f64 t673, .string t674, .int .i64 t675] 41 (0, 0))) ∧ Aside0 (Below w.heap.size w wc))
    case first =>
      have H := HC50.out
      clear HC50
      by_cases c51 : ((rd_T61 l0_0 x25_2).f2) ≤ x3_2
      · rw [if_pos c51] at H
        have c51b0 : decide (((rd_T61 l0_0 x25_2).f2) ≤ x3_2) = true := decide_eq_true c51
        clear c51
        (first | rw [c51b0] | (simp only [i64_w, i32_w]; rw [c51b0]) | skip)
        have H' := Aside0.mk H
        clear H
        have hnb52 := NB669_667.out
        have hnc52 := NB667_669.out
        have hnb53 := NB669_676.out
        have hnc53 := NB676_669.out
        obtain ⟨hcz54_0, hcz54_1, hcz54_2, hcz54_3, hcz54_4, hcz54_5, hcz54_6, hcz54_7, hcz54_8, hcz54_9, hcz54_10, hfz54_0, hfz54_1, hfz54_2, hfz54_3, hfz54_4, hfz54_5, hfz54_6, hfz54_7, hfz54_8, hfz54_9, hfz54_10⟩ := cells11 BK669.out
        go_wp2
        go_meet
        case rel => exact ⟨_, (true), (by first | rfl | (simp; done) | (simp [*]; done)), H', ⟨by have := HJ1.out; have := HK2.out; have := HJ14.out; first | omega | exact Nat.le_refl _⟩, ⟨by (with_reducible repeat (first | refine blk_drewN ?_ _ | refine blk_drew ?_ | refine blk_alloc ?_ _)); exact BK667.out⟩, ⟨by (with_reducible repeat (first | refine blk_drewN ?_ _ | refine blk_drew ?_ | refine blk_alloc ?_ _)); exact BK669.out⟩, ⟨by (with_reducible repeat (first | refine blk_drewN ?_ _ | refine blk_drew ?_ | refine blk_alloc ?_ _)); exact BK676.out⟩, ⟨by repeat (first | (with_reducible first | exact HB.out | apply below_alloc | apply pw_below_drewN | apply below_drew1 | refine below_set ?_ GE667.out | refine below_set ?_ GE669.out | refine below_set ?_ GE676.out) | exact HB.out)⟩⟩
      rw [if_neg c51] at H
      have c51b0 : decide (((rd_T61 l0_0 x25_2).f2) ≤ x3_2) = false := decide_eq_false c51
      clear c51
      (first | rw [c51b0] | (simp only [i64_w, i32_w]; rw [c51b0]) | skip)
      have H' := Aside0.mk H
      clear H
      have hnb55 := NB669_667.out
      have hnc55 := NB667_669.out
      have hnb56 := NB669_676.out
      have hnc56 := NB676_669.out
      obtain ⟨hcz57_0, hcz57_1, hcz57_2, hcz57_3, hcz57_4, hcz57_5, hcz57_6, hcz57_7, hcz57_8, hcz57_9, hcz57_10, hfz57_0, hfz57_1, hfz57_2, hfz57_3, hfz57_4, hfz57_5, hfz57_6, hfz57_7, hfz57_8, hfz57_9, hfz57_10⟩ := cells11 BK669.out
      have hnb58 := NB667_676.out
      have hnc58 := NB676_667.out
      obtain ⟨hcz59_0, hcz59_1, hfz59_0, hfz59_1⟩ := cells2 BK667.out
      go_wp2
      go_meet
      case rel => exact ⟨_, (decide (((rd_T61 l0_0 x25_2).f2) > a0_1)), (by first | rfl | (simp; done) | (simp [*]; done)), H', ⟨by have := HJ1.out; have := HK2.out; have := HJ14.out; first | omega | exact Nat.le_refl _⟩, ⟨by (with_reducible repeat (first | refine blk_drewN ?_ _ | refine blk_drew ?_ | refine blk_alloc ?_ _)); exact BK667.out⟩, ⟨by (with_reducible repeat (first | refine blk_drewN ?_ _ | refine blk_drew ?_ | refine blk_alloc ?_ _)); exact BK669.out⟩, ⟨by (with_reducible repeat (first | refine blk_drewN ?_ _ | refine blk_drew ?_ | refine blk_alloc ?_ _)); exact BK676.out⟩, ⟨by repeat (first | (with_reducible first | exact HB.out | apply below_alloc | apply pw_below_drewN | apply below_drew1 | refine below_set ?_ GE667.out | refine below_set ?_ GE669.out | refine below_set ?_ GE676.out) | exact HB.out)⟩⟩
    clear HC50
    try clear c9
    try clear c11
    try clear c11b0
    try clear c12
    try clear c12b0
    try clear c13
    try clear c13b0
    try clear c49
    try clear hcz10_0
    try clear hcz10_1
    try clear hcz18_0
    try clear hcz18_1
    try clear hcz18_10
    try clear hcz18_2
    try clear hcz18_3
    try clear hcz18_4
    try clear hcz18_5
    try clear hcz18_6
    try clear hcz18_7
    try clear hcz18_8
    try clear hcz18_9
    try clear hcz23_0
    try clear hcz23_1
    try clear hcz23_2
    try clear hcz23_3
    try clear hcz23_4
    try clear hcz23_5
    try clear hfz10_0
    try clear hfz10_1
    try clear hfz18_0
    try clear hfz18_1
    try clear hfz18_10
    try clear hfz18_2
    try clear hfz18_3
    try clear hfz18_4
    try clear hfz18_5
    try clear hfz18_6
    try clear hfz18_7
    try clear hfz18_8
    try clear hfz18_9
    try clear hfz23_0
    try clear hfz23_1
    try clear hfz23_2
    try clear hfz23_3
    try clear hfz23_4
    try clear hfz23_5
    try clear hx668_0
    try clear hx668_1
    try clear hx668_10
    try clear hx668_2
    try clear hx668_3
    try clear hx668_4
    try clear hx668_5
    try clear hx668_6
    try clear hx668_7
    try clear hx668_8
    try clear hx668_9
    try clear p668
    try clear q668
    obtain ⟨kq, x67_49, rfl, HA, HJ49, BK667, BK669, BK676, HB⟩ := hcut
    rcases kq with _ | kj49
    · exact absurd HA.out (by simp [impl_TableOk.j3])
    have H := HA.out
    clear HA
    simp only [impl_TableOk.j3] at H
    by_cases c60 : x67_49 = true
    · subst c60
      have H1 : (some false) = some r := by rw [if_pos rfl] at H; exact H
      clear H
      have H := H1
      clear H1
      obtain rfl := Option.some.inj H
      go_wp2
      go_ret
      exact ⟨by first | rfl | (simp <;> rfl) | (simp [*] <;> rfl), hbe3 HB.out GE667.out GE669.out GE676.out⟩
    replace c60 := Bool.eq_false_iff.mpr c60
    subst c60
    have H1 : (impl_TableOk.l1 kj49 ((rd_T61 l0_0 x25_2).f2) x25_2 0 l0_0 (l0_0.length : Int) x25_2 l0_0 a0_1 ((rd_T61 l0_0 x25_2).f0.f0) ((rd_T61 l0_0 x25_2).f0.f1) ((rd_T61 l0_0 x25_2).f0.f2) ((rd_T61 l0_0 x25_2).f0.f3) ((rd_T61 l0_0 x25_2).f0.f4) ((rd_T61 l0_0 x25_2).f1.f0) ((rd_T61 l0_0 x25_2).f1.f1) ((rd_T61 l0_0 x25_2).f1.f2) ((rd_T61 l0_0 x25_2).f1.f3) ((rd_T61 l0_0 x25_2).f1.f4) ((rd_T61 l0_0 x25_2).f2)) = some r := by rw [if_neg (show ¬ (false = true) by decide)] at H; exact H
    clear H
    have H := H1
    clear H1
    have H' := Aside0.mk H
    clear H
    have hnb61 := NB669_667.out
    have hnc61 := NB667_669.out
    have hnb62 := NB669_676.out
    have hnc62 := NB676_669.out
    obtain ⟨hcz63_0, hcz63_1, hcz63_2, hcz63_3, hcz63_4, hcz63_5, hcz63_6, hcz63_7, hcz63_8, hcz63_9, hcz63_10, hfz63_0, hfz63_1, hfz63_2, hfz63_3, hfz63_4, hfz63_5, hfz63_6, hfz63_7, hfz63_8, hfz63_9, hfz63_10⟩ := cells11 BK669.out
    go_wp2
    go_loopg [7] kj49 (fun kq v7 w' => ∃ (x7_5 : Int), v7 = .int .i64 x7_5 ∧ Aside0 (impl_TableOk.l1 kq ((rd_T61 l0_0 x25_2).f2) x25_2 x7_5 l0_0 (l0_0.length : Int) x25_2 l0_0 a0_1 ((rd_T61 l0_0 x25_2).f0.f0) ((rd_T61 l0_0 x25_2).f0.f1) ((rd_T61 l0_0 x25_2).f0.f2) ((rd_T61 l0_0 x25_2).f0.f3) ((rd_T61 l0_0 x25_2).f0.f4) ((rd_T61 l0_0 x25_2).f1.f0) ((rd_T61 l0_0 x25_2).f1.f1) ((rd_T61 l0_0 x25_2).f1.f2) ((rd_T61 l0_0 x25_2).f1.f3) ((rd_T61 l0_0 x25_2).f1.f4) ((rd_T61 l0_0 x25_2).f2) = some r) ∧ Aside0 (kq ≤ kj49) ∧ Aside0 (w'.heap[gb667]? = some (.cells #[(.slice (some ad668) l0_0.length c0_0), .int .i64 a0_1] 56 (0, 0))) ∧ Aside0 (w'.heap[gb669]? = some (.cells #[.int .i64 ((rd_T61 l0_0 x25_2).f0.f0), .int .i64 ((rd_T61 l0_0 x25_2).f0.f1), .float .f64 ((rd_T61 l0_0 x25_2).f0.f2), .string ((rd_T61 l0_0 x25_2).f0.f3), .int .i64 ((rd_T61 l0_0 x25_2).f0.f4), .int .i64 ((rd_T61 l0_0 x25_2).f1.f0), .int .i64 ((rd_T61 l0_0 x25_2).f1.f1), .float .f64 ((rd_T61 l0_0 x25_2).f1.f2), .string ((rd_T61 l0_0 x25_2).f1.f3), .int .i64 ((rd_T61 l0_0 x25_2).f1.f4), .int .i64 ((rd_T61 l0_0 x25_2).f2)] 61 (0, 0))) ∧ Aside0 (w'.heap[gb676]? = some (.cells #[.int .i64 t670, .int .i64 t671, .int .i64 t672, .float .f64 t673, .string t674, .int .i64 t675] 41 (0, 0))) ∧ Aside0 (Below w.heap.size w w'))
    case atStart => exact ⟨(0), (by first | rfl | (simp; done) | (simp [*]; done)), H', ⟨Nat.le_refl _⟩, ⟨by (with_reducible repeat (first | refine blk_drewN ?_ _ | refine blk_drew ?_ | refine blk_alloc ?_ _)); exact BK667.out⟩, ⟨by (with_reducible repeat (first | refine blk_drewN ?_ _ | refine blk_drew ?_ | refine blk_alloc ?_ _)); exact BK669.out⟩, ⟨by (with_reducible repeat (first | refine blk_drewN ?_ _ | refine blk_drew ?_ | refine blk_alloc ?_ _)); exact BK676.out⟩, ⟨by repeat (first | (with_reducible first | exact HB.out | apply below_alloc | apply pw_below_drewN | apply below_drew1 | refine below_set ?_ GE667.out | refine below_set ?_ GE669.out | refine below_set ?_ GE676.out) | exact HB.out)⟩⟩
    case round =>
      clear H'
      try clear c9
      try clear c11
      try clear c11b0
      try clear c12
      try clear c12b0
      try clear c13
      try clear c13b0
      try clear c49
      try clear c60
      try clear hcz10_0
      try clear hcz10_1
      try clear hcz18_0
      try clear hcz18_1
      try clear hcz18_10
      try clear hcz18_2
      try clear hcz18_3
      try clear hcz18_4
      try clear hcz18_5
      try clear hcz18_6
      try clear hcz18_7
      try clear hcz18_8
      try clear hcz18_9
      try clear hcz23_0
      try clear hcz23_1
      try clear hcz23_2
      try clear hcz23_3
      try clear hcz23_4
      try clear hcz23_5
      try clear hcz63_0
      try clear hcz63_1
      try clear hcz63_10
      try clear hcz63_2
      try clear hcz63_3
      try clear hcz63_4
      try clear hcz63_5
      try clear hcz63_6
      try clear hcz63_7
      try clear hcz63_8
      try clear hcz63_9
      try clear hfz10_0
      try clear hfz10_1
      try clear hfz18_0
      try clear hfz18_1
      try clear hfz18_10
      try clear hfz18_2
      try clear hfz18_3
      try clear hfz18_4
      try clear hfz18_5
      try clear hfz18_6
      try clear hfz18_7
      try clear hfz18_8
      try clear hfz18_9
      try clear hfz23_0
      try clear hfz23_1
      try clear hfz23_2
      try clear hfz23_3
      try clear hfz23_4
      try clear hfz23_5
      try clear hfz63_0
      try clear hfz63_1
      try clear hfz63_10
      try clear hfz63_2
      try clear hfz63_3
      try clear hfz63_4
      try clear hfz63_5
      try clear hfz63_6
      try clear hfz63_7
      try clear hfz63_8
      try clear hfz63_9
      try clear hx668_0
      try clear hx668_1
      try clear hx668_10
      try clear hx668_2
      try clear hx668_3
      try clear hx668_4
      try clear hx668_5
      try clear hx668_6
      try clear hx668_7
      try clear hx668_8
      try clear hx668_9
      try clear p668
      try clear q668
      obtain ⟨x7_5, rfl, HA, HK5, BK667, BK669, BK676, HB⟩ := hrel
      rcases gk with _ | k5
      · exact absurd HA.out (by simp [impl_TableOk.l1])
      have H := HA.out
      clear HA
      simp only [impl_TableOk.l1] at H
      by_cases c64 : x7_5 < x25_2
      rotate_left 1
      · rw [if_neg c64] at H
        have c64b0 : decide (x7_5 < x25_2) = false := decide_eq_false c64
        clear c64
        have H' := Aside0.mk H
        clear H
        go_wp2
        go_roundg k5
        case measure => have := HJ1.out; have := HK2.out; have := HJ14.out; have := HJ49.out; have := HK5.out; omega
        case rel => exact ⟨(((rd_T61 l0_0 x25_2).f2)), (wrap64 (x25_2 + 1)), (by first | rfl | (simp; done) | (simp [*]; done)), (by first | rfl | (simp; done) | (simp [*]; done)), H', ⟨by have := HJ1.out; have := HK2.out; have := HJ14.out; have := HJ49.out; have := HK5.out; omega⟩, ⟨by (with_reducible repeat (first | refine blk_drewN ?_ _ | refine blk_drew ?_ | refine blk_alloc ?_ _)); exact BK667.out⟩, ⟨by repeat (first | (with_reducible first | exact HB.out | apply below_alloc | apply pw_below_drewN | apply below_drew1 | refine below_set ?_ GE667.out | refine below_set ?_ GE669.out | refine below_set ?_ GE676.out) | exact HB.out)⟩⟩
      rw [if_pos c64] at H
      have c64b0 : decide (x7_5 < x25_2) = true := decide_eq_true c64
      clear c64
      by_cases c65 : 0 ≤ x7_5
      rotate_left 1
      · rw [if_neg c65] at H
        exact absurd H (by simp)
      rw [if_pos c65] at H
      have c65b0 : decide (0 ≤ x7_5) = true := decide_eq_true c65
      clear c65
      by_cases c66 : x7_5 < (l0_0.length : Int)
      rotate_left 1
      · rw [if_neg c66] at H
        exact absurd H (by simp)
      rw [if_pos c66] at H
      have c66b0 : decide (x7_5 < (l0_0.length : Int)) = true := decide_eq_true c66
      clear c66
      replace H := Option.bind_eq_some_iff.mp H
      obtain ⟨t679, A670, H⟩ := H
      replace H : (if t679 = true then (some false) else (impl_TableOk.l1 k5 ((rd_T61 l0_0 x25_2).f2) x25_2 (wrap64 (x7_5 + 1)) l0_0 (l0_0.length : Int) x25_2 l0_0 a0_1 ((rd_T61 l0_0 x25_2).f0.f0) ((rd_T61 l0_0 x25_2).f0.f1) ((rd_T61 l0_0 x25_2).f0.f2) ((rd_T61 l0_0 x25_2).f0.f3) ((rd_T61 l0_0 x25_2).f0.f4) ((rd_T61 l0_0 x25_2).f1.f0) ((rd_T61 l0_0 x25_2).f1.f1) ((rd_T61 l0_0 x25_2).f1.f2) ((rd_T61 l0_0 x25_2).f1.f3) ((rd_T61 l0_0 x25_2).f1.f4) ((rd_T61 l0_0 x25_2).f2))) = some r := H
      have A67 := Aside0.mk A670
      clear A670
      by_cases c68 : t679 = true
      · subst c68
        have H1 : (some false) = some r := by rw [if_pos rfl] at H; exact H
        clear H
        have H := H1
        clear H1
        obtain rfl := Option.some.inj H
        try go_wp2
        replace BK667 := Aside0.mk (blk_drew BK667.out)
        replace BK669 := Aside0.mk (blk_drew BK669.out)
        replace BK676 := Aside0.mk (blk_drew BK676.out)
        replace HB := Aside0.mk (below_drew1 HB.out)
        have p678 : 0 ≤ (x7_5 : Int) := of_decide_eq_true (by first | (with_reducible assumption) | assumption)
        have q678 : x7_5 < (l0_0.length : Int) := of_decide_eq_true (by first | (with_reducible assumption) | assumption)
        obtain ⟨ad678, e678, hx678_0, hx678_1, hx678_2, hx678_3, hx678_4, hx678_5, hx678_6, hx678_7, hx678_8, hx678_9, hx678_10⟩ := at_T61 HR0_0.out x7_5 p678 q678
        have hw678_10 := hx678_10
        have hw678_9 := hx678_9
        have hw678_8 := hx678_8
        have hw678_7 := hx678_7
        have hw678_6 := hx678_6
        have hw678_5 := hx678_5
        have hw678_4 := hx678_4
        have hw678_3 := hx678_3
        have hw678_2 := hx678_2
        have hw678_1 := hx678_1
        have hw678_0 := hx678_0
        obtain rfl : ad668 = ad678 := (by injection e678)
        (first | replace hx678_0 := (HB.out.cell (World.block_lt_of_cell? w _ hx678_0)).trans hx678_0 | skip)
        (first | replace hx678_1 := (HB.out.cell (World.block_lt_of_cell? w _ hx678_1)).trans hx678_1 | skip)
        (first | replace hx678_2 := (HB.out.cell (World.block_lt_of_cell? w _ hx678_2)).trans hx678_2 | skip)
        (first | replace hx678_3 := (HB.out.cell (World.block_lt_of_cell? w _ hx678_3)).trans hx678_3 | skip)
        (first | replace hx678_4 := (HB.out.cell (World.block_lt_of_cell? w _ hx678_4)).trans hx678_4 | skip)
        (first | replace hx678_5 := (HB.out.cell (World.block_lt_of_cell? w _ hx678_5)).trans hx678_5 | skip)
        (first | replace hx678_6 := (HB.out.cell (World.block_lt_of_cell? w _ hx678_6)).trans hx678_6 | skip)
        (first | replace hx678_7 := (HB.out.cell (World.block_lt_of_cell? w _ hx678_7)).trans hx678_7 | skip)
        (first | replace hx678_8 := (HB.out.cell (World.block_lt_of_cell? w _ hx678_8)).trans hx678_8 | skip)
        (first | replace hx678_9 := (HB.out.cell (World.block_lt_of_cell? w _ hx678_9)).trans hx678_9 | skip)
        (first | replace hx678_10 := (HB.out.cell (World.block_lt_of_cell? w _ hx678_10)).trans hx678_10 | skip)
        replace p678 := eq_true p678
        replace q678 := eq_true q678
        refine start_ (n := 9) (S := fun w' => w'.cell? ⟨gb667, 0, none⟩ = some (.slice (some ad668) l0_0.length c0_0) ∧ w'.cell? ⟨gb667, 1, none⟩ = some (.int .i64 a0_1) ∧ w'.cell? ⟨gb669, 0, none⟩ = some (.int .i64 ((rd_T61 l0_0 x25_2).f0.f0)) ∧ w'.cell? ⟨gb669, 1, none⟩ = some (.int .i64 ((rd_T61 l0_0 x25_2).f0.f1)) ∧ w'.cell? ⟨gb669, 2, none⟩ = some (.float .f64 ((rd_T61 l0_0 x25_2).f0.f2)) ∧ w'.cell? ⟨gb669, 3, none⟩ = some (.string ((rd_T61 l0_0 x25_2).f0.f3)) ∧ w'.cell? ⟨gb669, 4, none⟩ = some (.int .i64 ((rd_T61 l0_0 x25_2).f0.f4)) ∧ w'.cell? ⟨gb669, 5, none⟩ = some (.int .i64 ((rd_T61 l0_0 x25_2).f1.f0)) ∧ w'.cell? ⟨gb669, 6, none⟩ = some (.int .i64 ((rd_T61 l0_0 x25_2).f1.f1)) ∧ w'.cell? ⟨gb669, 7, none⟩ = some (.float .f64 ((rd_T61 l0_0 x25_2).f1.f2)) ∧ w'.cell? ⟨gb669, 8, none⟩ = some (.string ((rd_T61 l0_0 x25_2).f1.f3)) ∧ w'.cell? ⟨gb669, 9, none⟩ = some (.int .i64 ((rd_T61 l0_0 x25_2).f1.f4)) ∧ w'.cell? ⟨gb669, 10, none⟩ = some (.int .i64 ((rd_T61 l0_0 x25_2).f2)) ∧ w'.cell? (ad668.add ((x7_5).toNat * 11)) = some (.int .i64 ((rd_T61 l0_0 x7_5).f0.f0)) ∧ w'.cell? ⟨(ad668.add ((x7_5).toNat * 11)).block, (ad668.add ((x7_5).toNat * 11)).off + 1, none⟩ = some (.int .i64 ((rd_T61 l0_0 x7_5).f0.f1)) ∧ w'.cell? ⟨(ad668.add ((x7_5).toNat * 11)).block, (ad668.add ((x7_5).toNat * 11)).off + 2, none⟩ = some (.float .f64 ((rd_T61 l0_0 x7_5).f0.f2)) ∧ w'.cell? ⟨(ad668.add ((x7_5).toNat * 11)).block, (ad668.add ((x7_5).toNat * 11)).off + 3, none⟩ = some (.string ((rd_T61 l0_0 x7_5).f0.f3)) ∧ w'.cell? ⟨(ad668.add ((x7_5).toNat * 11)).block, (ad668.add ((x7_5).toNat * 11)).off + 4, none⟩ = some (.int .i64 ((rd_T61 l0_0 x7_5).f0.f4)) ∧ w'.cell? ⟨(ad668.add ((x7_5).toNat * 11)).block, (ad668.add ((x7_5).toNat * 11)).off + 5, none⟩ = some (.int .i64 ((rd_T61 l0_0 x7_5).f1.f0)) ∧ w'.cell? ⟨(ad668.add ((x7_5).toNat * 11)).block, (ad668.add ((x7_5).toNat * 11)).off + 6, none⟩ = some (.int .i64 ((rd_T61 l0_0 x7_5).f1.f1)) ∧ w'.cell? ⟨(ad668.add ((x7_5).toNat * 11)).block, (ad668.add ((x7_5).toNat * 11)).off + 7, none⟩ = some (.float .f64 ((rd_T61 l0_0 x7_5).f1.f2)) ∧ w'.cell? ⟨(ad668.add ((x7_5).toNat * 11)).block, (ad668.add ((x7_5).toNat * 11)).off + 8, none⟩ = some (.string ((rd_T61 l0_0 x7_5).f1.f3)) ∧ w'.cell? ⟨(ad668.add ((x7_5).toNat * 11)).block, (ad668.add ((x7_5).toNat * 11)).off + 9, none⟩ = some (.int .i64 ((rd_T61 l0_0 x7_5).f1.f4)) ∧ w'.cell? ⟨(ad668.add ((x7_5).toNat * 11)).block, (ad668.add ((x7_5).toNat * 11)).off + 10, none⟩ = some (.int .i64 ((rd_T61 l0_0 x7_5).f2))) (ds := []) #[false, false, false, false, false, false, false, false, false] (by kernel_rfl) rfl rfl ⟨(blk_cell BK667.out 0).trans rfl, (blk_cell BK667.out 1).trans rfl, (blk_cell BK669.out 0).trans rfl, (blk_cell BK669.out 1).trans rfl, (blk_cell BK669.out 2).trans rfl, (blk_cell BK669.out 3).trans rfl, (blk_cell BK669.out 4).trans rfl, (blk_cell BK669.out 5).trans rfl, (blk_cell BK669.out 6).trans rfl, (blk_cell BK669.out 7).trans rfl, (blk_cell BK669.out 8).trans rfl, (blk_cell BK669.out 9).trans rfl, (blk_cell BK669.out 10).trans rfl, ((HB.out.cell (World.block_lt_of_cell? w _ hw678_0)).trans hw678_0), ((HB.out.cell (World.block_lt_of_cell? w _ hw678_1)).trans hw678_1), ((HB.out.cell (World.block_lt_of_cell? w _ hw678_2)).trans hw678_2), ((HB.out.cell (World.block_lt_of_cell? w _ hw678_3)).trans hw678_3), ((HB.out.cell (World.block_lt_of_cell? w _ hw678_4)).trans hw678_4), ((HB.out.cell (World.block_lt_of_cell? w _ hw678_5)).trans hw678_5), ((HB.out.cell (World.block_lt_of_cell? w _ hw678_6)).trans hw678_6), ((HB.out.cell (World.block_lt_of_cell? w _ hw678_7)).trans hw678_7), ((HB.out.cell (World.block_lt_of_cell? w _ hw678_8)).trans hw678_8), ((HB.out.cell (World.block_lt_of_cell? w _ hw678_9)).trans hw678_9), ((HB.out.cell (World.block_lt_of_cell? w _ hw678_10)).trans hw678_10)⟩ (fun hHeld => ?_); refine with_tabW impl_TableOk.tab16 impl_TableOk.bits16 (fun HT_ HW_ => ?_)
        generalize wr.drew = w69 at BK667 BK669 BK676 HB hx678_0 hx678_1 hx678_10 hx678_2 hx678_3 hx678_4 hx678_5 hx678_6 hx678_7 hx678_8 hx678_9 hHeld ⊢
        refine pure_ (i := 0) (N := some 75) (v := ?_) (a' := ?_) #[true, false, false, false, false, false, false, false, false] rfl rfl (any_of HT_.out (by kernel_rfl)) (fun _ _ _ h => h) (Or.inl ⟨by rfl, ?_⟩) ?_ ?_
        rotate_left
        · intro w'
          go_simp
          with_reducible rfl
        rotate_left
        · simp only [Act.put, List.setIfInBounds_toArray, List.set_cons_zero, List.set_cons_succ, i64_w, i32_w]
          rfl
        refine pure_ (i := 2) (N := some 77) (v := ?_) (a' := ?_) #[true, false, true, false, false, false, false, false, false] rfl rfl (any_of HT_.out (by kernel_rfl)) (fun _ _ _ h => h) (Or.inl ⟨by rfl, ?_⟩) ?_ ?_
        rotate_left
        · intro w'
          go_simp
          with_reducible rfl
        rotate_left
        · simp only [Act.put, List.setIfInBounds_toArray, List.set_cons_zero, List.set_cons_succ, i64_w, i32_w]
          rfl
        refine pure_ (i := 6) (N := some 81) (v := ?_) (a' := ?_) #[true, false, true, false, false, false, true, false, false] rfl rfl (any_of HT_.out (by kernel_rfl)) (fun _ _ _ h => h) (Or.inl ⟨by rfl, ?_⟩) ?_ ?_
        rotate_left
        · intro w'
          go_simp
          with_reducible rfl
        rotate_left
        · simp only [Act.put, List.setIfInBounds_toArray, List.set_cons_zero, List.set_cons_succ, i64_w, i32_w]
          rfl
        refine take_ (i := 1) (N := some 76) (v := ?_) (a' := ?_) #[true, true, true, false, false, false, true, false, false] rfl rfl (take_ofW HT_.out HW_.out (by kernel_rfl)) (fun _ _ _ h => h) (Or.inl ⟨by rfl, ?_⟩) hHeld ?_ ?_
        rotate_left
        · rintro w' ⟨s0, s1, s2, s3, s4, s5, s6, s7, s8, s9, s10, s11, s12, s13, s14, s15, s16, s17, s18, s19, s20, s21, s22, s23⟩
          go_simp
          with_reducible rfl
        rotate_left
        · simp only [Act.put, List.setIfInBounds_toArray, List.set_cons_zero, List.set_cons_succ, i64_w, i32_w]
          rfl
        refine pure_ (i := 3) (N := some 78) (v := ?_) (a' := ?_) #[true, true, true, true, false, false, true, false, false] rfl rfl (any_of HT_.out (by kernel_rfl)) (fun _ _ _ h => h) (Or.inl ⟨by rfl, ?_⟩) ?_ ?_
        rotate_left
        · intro w'
          go_simp
          with_reducible rfl
        rotate_left
        · simp only [Act.put, List.setIfInBounds_toArray, List.set_cons_zero, List.set_cons_succ, i64_w, i32_w]
          rfl
        refine pure_ (i := 4) (N := some 79) (v := ?_) (a' := ?_) #[true, true, true, true, true, false, true, false, false] rfl rfl (any_of HT_.out (by kernel_rfl)) (fun _ _ _ h => h) (Or.inl ⟨by rfl, ?_⟩) ?_ ?_
        rotate_left
        · intro w'
          go_simp
          with_reducible rfl
        rotate_left
        · simp only [Act.put, List.setIfInBounds_toArray, List.set_cons_zero, List.set_cons_succ, i64_w, i32_w]
          rfl
        refine take_ (i := 5) (N := some 80) (v := ?_) (a' := ?_) #[true, true, true, true, true, true, true, false, false] rfl rfl (take_ofW HT_.out HW_.out (by kernel_rfl)) (fun _ _ _ h => h) (Or.inl ⟨by rfl, ?_⟩) hHeld ?_ ?_
        rotate_left
        · rintro w' ⟨s0, s1, s2, s3, s4, s5, s6, s7, s8, s9, s10, s11, s12, s13, s14, s15, s16, s17, s18, s19, s20, s21, s22, s23⟩
          go_simp
          with_reducible rfl
        rotate_left
        · simp only [Act.put, List.setIfInBounds_toArray, List.set_cons_zero, List.set_cons_succ, i64_w, i32_w]
          rfl
        refine take_ (i := 7) (N := some 82) (v := ?_) (a' := ?_) #[true, true, true, true, true, true, true, true, false] rfl rfl (take_ofW HT_.out HW_.out (by kernel_rfl)) (fun _ _ _ h => h) (Or.inl ⟨by rfl, ?_⟩) hHeld ?_ ?_
        rotate_left
        · rintro w' ⟨s0, s1, s2, s3, s4, s5, s6, s7, s8, s9, s10, s11, s12, s13, s14, s15, s16, s17, s18, s19, s20, s21, s22, s23⟩
          go_simp
          with_reducible rfl
        rotate_left
        · simp only [Act.put, List.setIfInBounds_toArray, List.set_cons_zero, List.set_cons_succ, i64_w, i32_w]
          rfl
        refine one_ (i := 8) (N := some 83) #[true, true, true, true, true, true, true, true, true] rfl rfl (one_of HT_.out (by kernel_rfl)) (by decide) (fun K hK => ?_)
        refine goes_ Try.func35 (by kernel_rfl) rfl #[.agg #[.int .i64 ((rd_T61 l0_0 x7_5).f0.f0), .int .i64 ((rd_T61 l0_0 x7_5).f0.f1), .float .f64 ((rd_T61 l0_0 x7_5).f0.f2), .string ((rd_T61 l0_0 x7_5).f0.f3), .int .i64 ((rd_T61 l0_0 x7_5).f0.f4)], .agg #[.int .i64 ((rd_T61 l0_0 x25_2).f0.f0), .int .i64 ((rd_T61 l0_0 x25_2).f0.f1), .float .f64 ((rd_T61 l0_0 x25_2).f0.f2), .string ((rd_T61 l0_0 x25_2).f0.f3), .int .i64 ((rd_T61 l0_0 x25_2).f0.f4)]] (by rfl) rfl rfl (by (try simp only [List.map_toArray, List.map_cons, List.map_nil]); first | done | rfl | (simp only [List.length_drop, List.length_take]; rfl)) ?_
        with_reducible refine (impl_Same.calls k5 ((rd_T61 l0_0 x7_5).f0.f0) ((rd_T61 l0_0 x7_5).f0.f1) ((rd_T61 l0_0 x7_5).f0.f2) ((rd_T61 l0_0 x7_5).f0.f3) ((rd_T61 l0_0 x7_5).f0.f4) ((rd_T61 l0_0 x25_2).f0.f0) ((rd_T61 l0_0 x25_2).f0.f1) ((rd_T61 l0_0 x25_2).f0.f2) ((rd_T61 l0_0 x25_2).f0.f3) ((rd_T61 l0_0 x25_2).f0.f4) true _ A67.out).mono ?_
        rintro e w70 ⟨rfl, hb⟩
        refine ⟨_, rfl, ?_⟩
        replace BK667 := bku BK667.out hb
        replace BK669 := bku BK669.out hb
        replace BK676 := bku BK676.out hb
        replace HB := hbs3 HB.out GE667.out GE669.out GE676.out hb
        (try clear hb)
        (try clear hb2)
        (try clear hk)
        (try clear hi)
        refine hK.out _ _ ⟨(blk_cell BK667.out 0).trans rfl, (blk_cell BK667.out 1).trans rfl, (blk_cell BK669.out 0).trans rfl, (blk_cell BK669.out 1).trans rfl, (blk_cell BK669.out 2).trans rfl, (blk_cell BK669.out 3).trans rfl, (blk_cell BK669.out 4).trans rfl, (blk_cell BK669.out 5).trans rfl, (blk_cell BK669.out 6).trans rfl, (blk_cell BK669.out 7).trans rfl, (blk_cell BK669.out 8).trans rfl, (blk_cell BK669.out 9).trans rfl, (blk_cell BK669.out 10).trans rfl, ((HB.out.cell (World.block_lt_of_cell? w _ hw678_0)).trans hw678_0), ((HB.out.cell (World.block_lt_of_cell? w _ hw678_1)).trans hw678_1), ((HB.out.cell (World.block_lt_of_cell? w _ hw678_2)).trans hw678_2), ((HB.out.cell (World.block_lt_of_cell? w _ hw678_3)).trans hw678_3), ((HB.out.cell (World.block_lt_of_cell? w _ hw678_4)).trans hw678_4), ((HB.out.cell (World.block_lt_of_cell? w _ hw678_5)).trans hw678_5), ((HB.out.cell (World.block_lt_of_cell? w _ hw678_6)).trans hw678_6), ((HB.out.cell (World.block_lt_of_cell? w _ hw678_7)).trans hw678_7), ((HB.out.cell (World.block_lt_of_cell? w _ hw678_8)).trans hw678_8), ((HB.out.cell (World.block_lt_of_cell? w _ hw678_9)).trans hw678_9), ((HB.out.cell (World.block_lt_of_cell? w _ hw678_10)).trans hw678_10)⟩ (fun hHeld => ?_)
        clear hK K
        refine norm_ (a' := ?_) ?_ ?_
        rotate_left
        · show Act.put _ (some 83) _ = _
          simp only [Act.put, List.setIfInBounds_toArray, List.set_cons_zero, List.set_cons_succ, i64_w, i32_w]
          rfl
        refine done_ (done_of HT_.out (by kernel_rfl)) ?_
        try go_wp2
        go_ret
        exact ⟨by first | rfl | (simp <;> rfl) | (simp [*] <;> rfl), hbe3 HB.out GE667.out GE669.out GE676.out⟩
      replace c68 := Bool.eq_false_iff.mpr c68
      subst c68
      have H1 : (impl_TableOk.l1 k5 ((rd_T61 l0_0 x25_2).f2) x25_2 (wrap64 (x7_5 + 1)) l0_0 (l0_0.length : Int) x25_2 l0_0 a0_1 ((rd_T61 l0_0 x25_2).f0.f0) ((rd_T61 l0_0 x25_2).f0.f1) ((rd_T61 l0_0 x25_2).f0.f2) ((rd_T61 l0_0 x25_2).f0.f3) ((rd_T61 l0_0 x25_2).f0.f4) ((rd_T61 l0_0 x25_2).f1.f0) ((rd_T61 l0_0 x25_2).f1.f1) ((rd_T61 l0_0 x25_2).f1.f2) ((rd_T61 l0_0 x25_2).f1.f3) ((rd_T61 l0_0 x25_2).f1.f4) ((rd_T61 l0_0 x25_2).f2)) = some r := by rw [if_neg (show ¬ (false = true) by decide)] at H; exact H
      clear H
      have H := H1
      clear H1
      have H' := Aside0.mk H
      clear H
      try go_wp2
      replace BK667 := Aside0.mk (blk_drew BK667.out)
      replace BK669 := Aside0.mk (blk_drew BK669.out)
      replace BK676 := Aside0.mk (blk_drew BK676.out)
      replace HB := Aside0.mk (below_drew1 HB.out)
      have p678 : 0 ≤ (x7_5 : Int) := of_decide_eq_true (by first | (with_reducible assumption) | assumption)
      have q678 : x7_5 < (l0_0.length : Int) := of_decide_eq_true (by first | (with_reducible assumption) | assumption)
      obtain ⟨ad678, e678, hx678_0, hx678_1, hx678_2, hx678_3, hx678_4, hx678_5, hx678_6, hx678_7, hx678_8, hx678_9, hx678_10⟩ := at_T61 HR0_0.out x7_5 p678 q678
      have hw678_10 := hx678_10
      have hw678_9 := hx678_9
      have hw678_8 := hx678_8
      have hw678_7 := hx678_7
      have hw678_6 := hx678_6
      have hw678_5 := hx678_5
      have hw678_4 := hx678_4
      have hw678_3 := hx678_3
      have hw678_2 := hx678_2
      have hw678_1 := hx678_1
      have hw678_0 := hx678_0
      obtain rfl : ad668 = ad678 := (by injection e678)
      (first | replace hx678_0 := (HB.out.cell (World.block_lt_of_cell? w _ hx678_0)).trans hx678_0 | skip)
      (first | replace hx678_1 := (HB.out.cell (World.block_lt_of_cell? w _ hx678_1)).trans hx678_1 | skip)
      (first | replace hx678_2 := (HB.out.cell (World.block_lt_of_cell? w _ hx678_2)).trans hx678_2 | skip)
      (first | replace hx678_3 := (HB.out.cell (World.block_lt_of_cell? w _ hx678_3)).trans hx678_3 | skip)
      (first | replace hx678_4 := (HB.out.cell (World.block_lt_of_cell? w _ hx678_4)).trans hx678_4 | skip)
      (first | replace hx678_5 := (HB.out.cell (World.block_lt_of_cell? w _ hx678_5)).trans hx678_5 | skip)
      (first | replace hx678_6 := (HB.out.cell (World.block_lt_of_cell? w _ hx678_6)).trans hx678_6 | skip)
      (first | replace hx678_7 := (HB.out.cell (World.block_lt_of_cell? w _ hx678_7)).trans hx678_7 | skip)
      (first | replace hx678_8 := (HB.out.cell (World.block_lt_of_cell? w _ hx678_8)).trans hx678_8 | skip)
      (first | replace hx678_9 := (HB.out.cell (World.block_lt_of_cell? w _ hx678_9)).trans hx678_9 | skip)
      (first | replace hx678_10 := (HB.out.cell (World.block_lt_of_cell? w _ hx678_10)).trans hx678_10 | skip)
      replace p678 := eq_true p678
      replace q678 := eq_true q678
      refine start_ (n := 9) (S := fun w' => w'.cell? ⟨gb667, 0, none⟩ = some (.slice (some ad668) l0_0.length c0_0) ∧ w'.cell? ⟨gb667, 1, none⟩ = some (.int .i64 a0_1) ∧ w'.cell? ⟨gb669, 0, none⟩ = some (.int .i64 ((rd_T61 l0_0 x25_2).f0.f0)) ∧ w'.cell? ⟨gb669, 1, none⟩ = some (.int .i64 ((rd_T61 l0_0 x25_2).f0.f1)) ∧ w'.cell? ⟨gb669, 2, none⟩ = some (.float .f64 ((rd_T61 l0_0 x25_2).f0.f2)) ∧ w'.cell? ⟨gb669, 3, none⟩ = some (.string ((rd_T61 l0_0 x25_2).f0.f3)) ∧ w'.cell? ⟨gb669, 4, none⟩ = some (.int .i64 ((rd_T61 l0_0 x25_2).f0.f4)) ∧ w'.cell? ⟨gb669, 5, none⟩ = some (.int .i64 ((rd_T61 l0_0 x25_2).f1.f0)) ∧ w'.cell? ⟨gb669, 6, none⟩ = some (.int .i64 ((rd_T61 l0_0 x25_2).f1.f1)) ∧ w'.cell? ⟨gb669, 7, none⟩ = some (.float .f64 ((rd_T61 l0_0 x25_2).f1.f2)) ∧ w'.cell? ⟨gb669, 8, none⟩ = some (.string ((rd_T61 l0_0 x25_2).f1.f3)) ∧ w'.cell? ⟨gb669, 9, none⟩ = some (.int .i64 ((rd_T61 l0_0 x25_2).f1.f4)) ∧ w'.cell? ⟨gb669, 10, none⟩ = some (.int .i64 ((rd_T61 l0_0 x25_2).f2)) ∧ w'.cell? (ad668.add ((x7_5).toNat * 11)) = some (.int .i64 ((rd_T61 l0_0 x7_5).f0.f0)) ∧ w'.cell? ⟨(ad668.add ((x7_5).toNat * 11)).block, (ad668.add ((x7_5).toNat * 11)).off + 1, none⟩ = some (.int .i64 ((rd_T61 l0_0 x7_5).f0.f1)) ∧ w'.cell? ⟨(ad668.add ((x7_5).toNat * 11)).block, (ad668.add ((x7_5).toNat * 11)).off + 2, none⟩ = some (.float .f64 ((rd_T61 l0_0 x7_5).f0.f2)) ∧ w'.cell? ⟨(ad668.add ((x7_5).toNat * 11)).block, (ad668.add ((x7_5).toNat * 11)).off + 3, none⟩ = some (.string ((rd_T61 l0_0 x7_5).f0.f3)) ∧ w'.cell? ⟨(ad668.add ((x7_5).toNat * 11)).block, (ad668.add ((x7_5).toNat * 11)).off + 4, none⟩ = some (.int .i64 ((rd_T61 l0_0 x7_5).f0.f4)) ∧ w'.cell? ⟨(ad668.add ((x7_5).toNat * 11)).block, (ad668.add ((x7_5).toNat * 11)).off + 5, none⟩ = some (.int .i64 ((rd_T61 l0_0 x7_5).f1.f0)) ∧ w'.cell? ⟨(ad668.add ((x7_5).toNat * 11)).block, (ad668.add ((x7_5).toNat * 11)).off + 6, none⟩ = some (.int .i64 ((rd_T61 l0_0 x7_5).f1.f1)) ∧ w'.cell? ⟨(ad668.add ((x7_5).toNat * 11)).block, (ad668.add ((x7_5).toNat * 11)).off + 7, none⟩ = some (.float .f64 ((rd_T61 l0_0 x7_5).f1.f2)) ∧ w'.cell? ⟨(ad668.add ((x7_5).toNat * 11)).block, (ad668.add ((x7_5).toNat * 11)).off + 8, none⟩ = some (.string ((rd_T61 l0_0 x7_5).f1.f3)) ∧ w'.cell? ⟨(ad668.add ((x7_5).toNat * 11)).block, (ad668.add ((x7_5).toNat * 11)).off + 9, none⟩ = some (.int .i64 ((rd_T61 l0_0 x7_5).f1.f4)) ∧ w'.cell? ⟨(ad668.add ((x7_5).toNat * 11)).block, (ad668.add ((x7_5).toNat * 11)).off + 10, none⟩ = some (.int .i64 ((rd_T61 l0_0 x7_5).f2))) (ds := []) #[false, false, false, false, false, false, false, false, false] (by kernel_rfl) rfl rfl ⟨(blk_cell BK667.out 0).trans rfl, (blk_cell BK667.out 1).trans rfl, (blk_cell BK669.out 0).trans rfl, (blk_cell BK669.out 1).trans rfl, (blk_cell BK669.out 2).trans rfl, (blk_cell BK669.out 3).trans rfl, (blk_cell BK669.out 4).trans rfl, (blk_cell BK669.out 5).trans rfl, (blk_cell BK669.out 6).trans rfl, (blk_cell BK669.out 7).trans rfl, (blk_cell BK669.out 8).trans rfl, (blk_cell BK669.out 9).trans rfl, (blk_cell BK669.out 10).trans rfl, ((HB.out.cell (World.block_lt_of_cell? w _ hw678_0)).trans hw678_0), ((HB.out.cell (World.block_lt_of_cell? w _ hw678_1)).trans hw678_1), ((HB.out.cell (World.block_lt_of_cell? w _ hw678_2)).trans hw678_2), ((HB.out.cell (World.block_lt_of_cell? w _ hw678_3)).trans hw678_3), ((HB.out.cell (World.block_lt_of_cell? w _ hw678_4)).trans hw678_4), ((HB.out.cell (World.block_lt_of_cell? w _ hw678_5)).trans hw678_5), ((HB.out.cell (World.block_lt_of_cell? w _ hw678_6)).trans hw678_6), ((HB.out.cell (World.block_lt_of_cell? w _ hw678_7)).trans hw678_7), ((HB.out.cell (World.block_lt_of_cell? w _ hw678_8)).trans hw678_8), ((HB.out.cell (World.block_lt_of_cell? w _ hw678_9)).trans hw678_9), ((HB.out.cell (World.block_lt_of_cell? w _ hw678_10)).trans hw678_10)⟩ (fun hHeld => ?_); refine with_tabW impl_TableOk.tab16 impl_TableOk.bits16 (fun HT_ HW_ => ?_)
      generalize wr.drew = w71 at BK667 BK669 BK676 HB hx678_0 hx678_1 hx678_10 hx678_2 hx678_3 hx678_4 hx678_5 hx678_6 hx678_7 hx678_8 hx678_9 hHeld ⊢
      refine pure_ (i := 0) (N := some 75) (v := ?_) (a' := ?_) #[true, false, false, false, false, false, false, false, false] rfl rfl (any_of HT_.out (by kernel_rfl)) (fun _ _ _ h => h) (Or.inl ⟨by rfl, ?_⟩) ?_ ?_
      rotate_left
      · intro w'
        go_simp
        with_reducible rfl
      rotate_left
      · simp only [Act.put, List.setIfInBounds_toArray, List.set_cons_zero, List.set_cons_succ, i64_w, i32_w]
        rfl
      refine pure_ (i := 2) (N := some 77) (v := ?_) (a' := ?_) #[true, false, true, false, false, false, false, false, false] rfl rfl (any_of HT_.out (by kernel_rfl)) (fun _ _ _ h => h) (Or.inl ⟨by rfl, ?_⟩) ?_ ?_
      rotate_left
      · intro w'
        go_simp
        with_reducible rfl
      rotate_left
      · simp only [Act.put, List.setIfInBounds_toArray, List.set_cons_zero, List.set_cons_succ, i64_w, i32_w]
        rfl
      refine pure_ (i := 6) (N := some 81) (v := ?_) (a' := ?_) #[true, false, true, false, false, false, true, false, false] rfl rfl (any_of HT_.out (by kernel_rfl)) (fun _ _ _ h => h) (Or.inl ⟨by rfl, ?_⟩) ?_ ?_
      rotate_left
      · intro w'
        go_simp
        with_reducible rfl
      rotate_left
      · simp only [Act.put, List.setIfInBounds_toArray, List.set_cons_zero, List.set_cons_succ, i64_w, i32_w]
        rfl
      refine take_ (i := 1) (N := some 76) (v := ?_) (a' := ?_) #[true, true, true, false, false, false, true, false, false] rfl rfl (take_ofW HT_.out HW_.out (by kernel_rfl)) (fun _ _ _ h => h) (Or.inl ⟨by rfl, ?_⟩) hHeld ?_ ?_
      rotate_left
      · rintro w' ⟨s0, s1, s2, s3, s4, s5, s6, s7, s8, s9, s10, s11, s12, s13, s14, s15, s16, s17, s18, s19, s20, s21, s22, s23⟩
        go_simp
        with_reducible rfl
      rotate_left
      · simp only [Act.put, List.setIfInBounds_toArray, List.set_cons_zero, List.set_cons_succ, i64_w, i32_w]
        rfl
      refine pure_ (i := 3) (N := some 78) (v := ?_) (a' := ?_) #[true, true, true, true, false, false, true, false, false] rfl rfl (any_of HT_.out (by kernel_rfl)) (fun _ _ _ h => h) (Or.inl ⟨by rfl, ?_⟩) ?_ ?_
      rotate_left
      · intro w'
        go_simp
        with_reducible rfl
      rotate_left
      · simp only [Act.put, List.setIfInBounds_toArray, List.set_cons_zero, List.set_cons_succ, i64_w, i32_w]
        rfl
      refine pure_ (i := 4) (N := some 79) (v := ?_) (a' := ?_) #[true, true, true, true, true, false, true, false, false] rfl rfl (any_of HT_.out (by kernel_rfl)) (fun _ _ _ h => h) (Or.inl ⟨by rfl, ?_⟩) ?_ ?_
      rotate_left
      · intro w'
        go_simp
        with_reducible rfl
      rotate_left
      · simp only [Act.put, List.setIfInBounds_toArray, List.set_cons_zero, List.set_cons_succ, i64_w, i32_w]
        rfl
      refine take_ (i := 5) (N := some 80) (v := ?_) (a' := ?_) #[true, true, true, true, true, true, true, false, false] rfl rfl (take_ofW HT_.out HW_.out (by kernel_rfl)) (fun _ _ _ h => h) (Or.inl ⟨by rfl, ?_⟩) hHeld ?_ ?_
      rotate_left
      · rintro w' ⟨s0, s1, s2, s3, s4, s5, s6, s7, s8, s9, s10, s11, s12, s13, s14, s15, s16, s17, s18, s19, s20, s21, s22, s23⟩
        go_simp
        with_reducible rfl
      rotate_left
      · simp only [Act.put, List.setIfInBounds_toArray, List.set_cons_zero, List.set_cons_succ, i64_w, i32_w]
        rfl
      refine take_ (i := 7) (N := some 82) (v := ?_) (a' := ?_) #[true, true, true, true, true, true, true, true, false] rfl rfl (take_ofW HT_.out HW_.out (by kernel_rfl)) (fun _ _ _ h => h) (Or.inl ⟨by rfl, ?_⟩) hHeld ?_ ?_
      rotate_left
      · rintro w' ⟨s0, s1, s2, s3, s4, s5, s6, s7, s8, s9, s10, s11, s12, s13, s14, s15, s16, s17, s18, s19, s20, s21, s22, s23⟩
        go_simp
        with_reducible rfl
      rotate_left
      · simp only [Act.put, List.setIfInBounds_toArray, List.set_cons_zero, List.set_cons_succ, i64_w, i32_w]
        rfl
      refine one_ (i := 8) (N := some 83) #[true, true, true, true, true, true, true, true, true] rfl rfl (one_of HT_.out (by kernel_rfl)) (by decide) (fun K hK => ?_)
      refine goes_ Try.func35 (by kernel_rfl) rfl #[.agg #[.int .i64 ((rd_T61 l0_0 x7_5).f0.f0), .int .i64 ((rd_T61 l0_0 x7_5).f0.f1), .float .f64 ((rd_T61 l0_0 x7_5).f0.f2), .string ((rd_T61 l0_0 x7_5).f0.f3), .int .i64 ((rd_T61 l0_0 x7_5).f0.f4)], .agg #[.int .i64 ((rd_T61 l0_0 x25_2).f0.f0), .int .i64 ((rd_T61 l0_0 x25_2).f0.f1), .float .f64 ((rd_T61 l0_0 x25_2).f0.f2), .string ((rd_T61 l0_0 x25_2).f0.f3), .int .i64 ((rd_T61 l0_0 x25_2).f0.f4)]] (by rfl) rfl rfl (by (try simp only [List.map_toArray, List.map_cons, List.map_nil]); first | done | rfl | (simp only [List.length_drop, List.length_take]; rfl)) ?_
      with_reducible refine (impl_Same.calls k5 ((rd_T61 l0_0 x7_5).f0.f0) ((rd_T61 l0_0 x7_5).f0.f1) ((rd_T61 l0_0 x7_5).f0.f2) ((rd_T61 l0_0 x7_5).f0.f3) ((rd_T61 l0_0 x7_5).f0.f4) ((rd_T61 l0_0 x25_2).f0.f0) ((rd_T61 l0_0 x25_2).f0.f1) ((rd_T61 l0_0 x25_2).f0.f2) ((rd_T61 l0_0 x25_2).f0.f3) ((rd_T61 l0_0 x25_2).f0.f4) false _ A67.out).mono ?_
      rintro e w72 ⟨rfl, hb⟩
      refine ⟨_, rfl, ?_⟩
      replace BK667 := bku BK667.out hb
      replace BK669 := bku BK669.out hb
      replace BK676 := bku BK676.out hb
      replace HB := hbs3 HB.out GE667.out GE669.out GE676.out hb
      (try clear hb)
      (try clear hb2)
      (try clear hk)
      (try clear hi)
      refine hK.out _ _ ⟨(blk_cell BK667.out 0).trans rfl, (blk_cell BK667.out 1).trans rfl, (blk_cell BK669.out 0).trans rfl, (blk_cell BK669.out 1).trans rfl, (blk_cell BK669.out 2).trans rfl, (blk_cell BK669.out 3).trans rfl, (blk_cell BK669.out 4).trans rfl, (blk_cell BK669.out 5).trans rfl, (blk_cell BK669.out 6).trans rfl, (blk_cell BK669.out 7).trans rfl, (blk_cell BK669.out 8).trans rfl, (blk_cell BK669.out 9).trans rfl, (blk_cell BK669.out 10).trans rfl, ((HB.out.cell (World.block_lt_of_cell? w _ hw678_0)).trans hw678_0), ((HB.out.cell (World.block_lt_of_cell? w _ hw678_1)).trans hw678_1), ((HB.out.cell (World.block_lt_of_cell? w _ hw678_2)).trans hw678_2), ((HB.out.cell (World.block_lt_of_cell? w _ hw678_3)).trans hw678_3), ((HB.out.cell (World.block_lt_of_cell? w _ hw678_4)).trans hw678_4), ((HB.out.cell (World.block_lt_of_cell? w _ hw678_5)).trans hw678_5), ((HB.out.cell (World.block_lt_of_cell? w _ hw678_6)).trans hw678_6), ((HB.out.cell (World.block_lt_of_cell? w _ hw678_7)).trans hw678_7), ((HB.out.cell (World.block_lt_of_cell? w _ hw678_8)).trans hw678_8), ((HB.out.cell (World.block_lt_of_cell? w _ hw678_9)).trans hw678_9), ((HB.out.cell (World.block_lt_of_cell? w _ hw678_10)).trans hw678_10)⟩ (fun hHeld => ?_)
      clear hK K
      refine norm_ (a' := ?_) ?_ ?_
      rotate_left
      · show Act.put _ (some 83) _ = _
        simp only [Act.put, List.setIfInBounds_toArray, List.set_cons_zero, List.set_cons_succ, i64_w, i32_w]
        rfl
      refine done_ (done_of HT_.out (by kernel_rfl)) ?_
      try go_wp2
      go_roundg k5
      case measure => have := HJ1.out; have := HK2.out; have := HJ14.out; have := HJ49.out; have := HK5.out; omega
      case rel => exact ⟨(wrap64 (x7_5 + 1)), (by first | rfl | (simp; done) | (simp [*]; done)), H', ⟨by have := HJ1.out; have := HK2.out; have := HJ14.out; have := HJ49.out; have := HK5.out; omega⟩, ⟨by (with_reducible repeat (first | refine blk_drewN ?_ _ | refine blk_drew ?_ | refine blk_alloc ?_ _)); exact BK667.out⟩, ⟨by (with_reducible repeat (first | refine blk_drewN ?_ _ | refine blk_drew ?_ | refine blk_alloc ?_ _)); exact BK669.out⟩, ⟨by (with_reducible repeat (first | refine blk_drewN ?_ _ | refine blk_drew ?_ | refine blk_alloc ?_ _)); exact BK676.out⟩, ⟨by repeat (first | (with_reducible first | exact HB.out | apply below_alloc | apply pw_below_drewN | apply below_drew1 | refine below_set ?_ GE667.out | refine below_set ?_ GE669.out | refine below_set ?_ GE676.out) | exact HB.out)⟩⟩
end Go.Proofs.Ytdjlbfaiccdbfaa.PAll
