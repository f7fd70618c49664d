/- Cut down from the texts of the same job by wip/shake.py to what this claim reaches. -/
import Derived.Test.YtdjlbfaiccdbfaaKLGx0
import Derived.Test.YtdjlbfaiccdbfaaKLGx2
import Derived.Test.YtdjlbfaiccdbfaaKLGx7
import Derived.Test.YtdjlbfaiccdbfaaKLGx12
namespace Go.Proofs.Ytdjlbfaiccdbfaa.PAll
open Go.RowKit Go.Proofs.YtdjlbfaiccdbfaaW.PrintWords Go.Proofs.YtdjlbfaiccdbfaaW.PrintLast Go.Proofs.YtdjlbfaiccdbfaaW.PrintMore
attribute [local go_sem] max2_int min2_int max_two min_two max_three min_three max_four min_four   -- for this text's walks alone
set_option linter.unusedVariables false
set_option linter.unusedSimpArgs false
mutual
def spec_Compare.j0 : Nat → Bool → Int → Int → Nat → ByteArray → Int → Int → Int → Nat → ByteArray → Int → Option (Int)
  | 0, _, _, _, _, _, _, _, _, _, _, _ => none
  | k + 1, x12, x521000, x521001, x521002, x521003, x521004, x522000, x522001, x522002, x522003, x522004 => if x12 = true then (some 3) else (if x521000 = 4 then (spec_Compare.j1 k (x522000 == 4) x521000 x521001 x521002 x521003 x521004 x522000 x522001 x522002 x522003 x522004) else (spec_Compare.j1 k false x521000 x521001 x521002 x521003 x521004 x522000 x522001 x522002 x522003 x522004))
def spec_Compare.j1 : Nat → Bool → Int → Int → Nat → ByteArray → Int → Int → Int → Nat → ByteArray → Int → Option (Int)
  | 0, _, _, _, _, _, _, _, _, _, _, _ => none
  | k + 1, x20, x521000, x521001, x521002, x521003, x521004, x522000, x522001, x522002, x522003, x522004 => if x20 = true then ((spec_l1strings.f k x521003 x522003).bind fun t524 => (some t524)) else ((spec_l1num.f x521000 x521001 x521002 x521003 x521004).bind fun t525 => (if t525 = true then ((spec_l1num.f x522000 x522001 x522002 x522003 x522004).bind fun t526 => (spec_Compare.j2 k (!t526) x521000 x521001 x521002 x521003 x521004 x522000 x522001 x522002 x522003 x522004)) else (spec_Compare.j2 k true x521000 x521001 x521002 x521003 x521004 x522000 x522001 x522002 x522003 x522004)))
def spec_Compare.j2 : Nat → Bool → Int → Int → Nat → ByteArray → Int → Int → Int → Nat → ByteArray → Int → Option (Int)
  | 0, _, _, _, _, _, _, _, _, _, _, _ => none
  | k + 1, x33, x521000, x521001, x521002, x521003, x521004, x522000, x522001, x522002, x522003, x522004 => if x33 = true then (some 3) else (if x521000 = 3 then ((spec_l1nan.f x521002).bind fun t527 => (if t527 = true then (spec_Compare.j3 k true x521000 x521001 x521002 x521003 x521004 x522000 x522001 x522002 x522003 x522004) else (if x522000 = 3 then ((spec_l1nan.f x522002).bind fun t528 => (spec_Compare.j3 k t528 x521000 x521001 x521002 x521003 x521004 x522000 x522001 x522002 x522003 x522004)) else (spec_Compare.j3 k false x521000 x521001 x521002 x521003 x521004 x522000 x522001 x522002 x522003 x522004)))) else (if x522000 = 3 then ((spec_l1nan.f x522002).bind fun t529 => (spec_Compare.j3 k t529 x521000 x521001 x521002 x521003 x521004 x522000 x522001 x522002 x522003 x522004)) else (spec_Compare.j3 k false x521000 x521001 x521002 x521003 x521004 x522000 x522001 x522002 x522003 x522004)))
def spec_Compare.j3 : Nat → Bool → Int → Int → Nat → ByteArray → Int → Int → Int → Nat → ByteArray → Int → Option (Int)
  | 0, _, _, _, _, _, _, _, _, _, _, _ => none
  | k + 1, x51, x521000, x521001, x521002, x521003, x521004, x522000, x522001, x522002, x522003, x522004 => if x51 = true then (some 2) else (if x521000 = 2 then (spec_Compare.j4 k (x522000 == 3) x521000 x521001 x521002 x521003 x521004 x522000 x522001 x522002 x522003 x522004) else (spec_Compare.j4 k false x521000 x521001 x521002 x521003 x521004 x522000 x522001 x522002 x522003 x522004))
def spec_Compare.j4 : Nat → Bool → Int → Int → Nat → ByteArray → Int → Int → Int → Nat → ByteArray → Int → Option (Int)
  | 0, _, _, _, _, _, _, _, _, _, _, _ => none
  | k + 1, x59, x521000, x521001, x521002, x521003, x521004, x522000, x522001, x522002, x522003, x522004 => if x59 = true then ((spec_l1intflt.f k x521001 x522002).bind fun t530 => (some t530)) else (if x521000 = 3 then (spec_Compare.j5 k (x522000 == 2) x521000 x521001 x521002 x521003 x521004 x522000 x522001 x522002 x522003 x522004) else (spec_Compare.j5 k false x521000 x521001 x521002 x521003 x521004 x522000 x522001 x522002 x522003 x522004))
def spec_Compare.j5 : Nat → Bool → Int → Int → Nat → ByteArray → Int → Int → Int → Nat → ByteArray → Int → Option (Int)
  | 0, _, _, _, _, _, _, _, _, _, _, _ => none
  | k + 1, x72, x521000, x521001, x521002, x521003, x521004, x522000, x522001, x522002, x522003, x522004 => if x72 = true then ((spec_l1intflt.f k x522001 x521002).bind fun t531 => (some (wrap64 (-t531)))) else (if x521000 = 2 then (if x521001 < x522001 then (some (-1)) else (if x521001 > x522001 then (some 1) else (some 0))) else (if (flss x521002 x522002) = true then (some (-1)) else (if (fgtr x521002 x522002) = true then (some 1) else (some 0))))
end
def spec_Compare.f (k : Nat) (a0_0 : Int) (a0_1 : Int) (a0_2 : Nat) (a0_3 : ByteArray) (a0_4 : Int) (a1_0 : Int) (a1_1 : Int) (a1_2 : Nat) (a1_3 : ByteArray) (a1_4 : Int) : Option (Int) := (spec_ValueOk.f k a0_0 a0_1 a0_2 a0_3 a0_4).bind fun t522 => (if t522 = true then ((spec_ValueOk.f k a1_0 a1_1 a1_2 a1_3 a1_4).bind fun t523 => (spec_Compare.j0 k (!t523) a0_0 a0_1 a0_2 a0_3 a0_4 a1_0 a1_1 a1_2 a1_3 a1_4)) else (spec_Compare.j0 k true a0_0 a0_1 a0_2 a0_3 a0_4 a1_0 a1_1 a1_2 a1_3 a1_4))
set_option maxHeartbeats 8000000 in
set_option maxRecDepth 100000 in
theorem spec_Compare.calls (k : Nat) (a0_0 : Int) (a0_1 : Int) (a0_2 : Nat) (a0_3 : ByteArray) (a0_4 : Int) (a1_0 : Int) (a1_1 : Int) (a1_2 : Nat) (a1_3 : ByteArray) (a1_4 : Int) (r : Int) (w : World) (h : spec_Compare.f k a0_0 a0_1 a0_2 a0_3 a0_4 a1_0 a1_1 a1_2 a1_3 a1_4 = some r) :
    Calls Try.prog 32 #[.agg #[.int .i64 a0_0, .int .i64 a0_1, .float .f64 a0_2, .string a0_3, .int .i64 a0_4], .agg #[.int .i64 a1_0, .int .i64 a1_1, .float .f64 a1_2, .string a1_3, .int .i64 a1_4]] w fun e w' => e = .returned (.int .i64 r) ∧ Below w.heap.size w w' := by
  have hu28 := Try.underlying28
  have HB := Aside0.mk (Below.refl w.heap.size w)
  have H : ((spec_ValueOk.f k a0_0 a0_1 a0_2 a0_3 a0_4).bind fun t522 => (if t522 = true then ((spec_ValueOk.f k a1_0 a1_1 a1_2 a1_3 a1_4).bind fun t523 => (spec_Compare.j0 k (!t523) a0_0 a0_1 a0_2 a0_3 a0_4 a1_0 a1_1 a1_2 a1_3 a1_4)) else (spec_Compare.j0 k true a0_0 a0_1 a0_2 a0_3 a0_4 a1_0 a1_1 a1_2 a1_3 a1_4))) = some r := h
  clear h
  have HC3 := Aside0.mk H
  clear H
  go_enter Try.func32, Try.ntmps32
  go_upto_region 1 with (first | ((with_reducible refine gate_dst (N := 2) rfl ?_); refine box_event rfl (N := 2) rfl (cs := #[.int .i64 a0_0, .int .i64 a0_1, .float .f64 a0_2, .string a0_3, .int .i64 a0_4]) (t := 28) (by first | (go_simp; done) | (go_simp; rfl)) ?_; intro gb520 hg w4 hbox hb; have BK520 := Aside0.mk (hbox); have GW520 := (gws hg (hbe HB.out) : Aside0 (w.heap.size ≤ gb520)); have GE520 := (gws hg (hbe HB.out) : Aside0 (w.heap.size ≤ gb520)); replace HB := hbs HB.out hb; clear hb hbox hg) | ((with_reducible refine gate_dst (N := 3) rfl ?_); refine box_event rfl (N := 3) rfl (cs := #[.int .i64 a1_0, .int .i64 a1_1, .float .f64 a1_2, .string a1_3, .int .i64 a1_4]) (t := 28) (by first | (go_simp; done) | (go_simp; rfl)) ?_; intro gb521 hg w5 hbox hb; have BK521 := Aside0.mk (hbox); have GW521 := (gws hg (hbe1 HB.out GE520.out) : Aside0 (w.heap.size ≤ gb521)); have GE521 := (gws hg (hbe1 HB.out GE520.out) : Aside0 (w.heap.size ≤ gb521)); replace HB := hbs1 HB.out GE520.out hb; have NB520_521 := nlt hg BK520.out; have NB521_520 := ngt hg BK520.out; replace BK520 := bku BK520.out hb; clear hb hbox hg))
  (try simp only [Act.put, List.setIfInBounds_toArray, List.set_cons_zero, List.set_cons_succ])
  go_cut [12] (fun v12 wc => ∃ (kq : Nat) (x12_2 : Bool), v12 = .bool x12_2 ∧ Aside0 (spec_Compare.j0 kq x12_2 a0_0 a0_1 a0_2 a0_3 a0_4 a1_0 a1_1 a1_2 a1_3 a1_4 = some r) ∧ Aside0 (kq ≤ k) ∧ Aside0 (wc.heap[gb520]? = some (.cells #[.int .i64 a0_0, .int .i64 a0_1, .float .f64 a0_2, .string a0_3, .int .i64 a0_4] 28 (0, 0))) ∧ Aside0 (wc.heap[gb521]? = some (.cells #[.int .i64 a1_0, .int .i64 a1_1, .float .f64 a1_2, .string a1_3, .int .i64 a1_4] 28 (0, 0))) ∧ Aside0 (Below w.heap.size w wc))
  case first =>
    have H := HC3.out
    clear HC3
    replace H := Option.bind_eq_some_iff.mp H
    obtain ⟨t522, A60, H⟩ := H
    replace H : (if t522 = true then ((spec_ValueOk.f k a1_0 a1_1 a1_2 a1_3 a1_4).bind fun t523 => (spec_Compare.j0 k (!t523) a0_0 a0_1 a0_2 a0_3 a0_4 a1_0 a1_1 a1_2 a1_3 a1_4)) else (spec_Compare.j0 k true a0_0 a0_1 a0_2 a0_3 a0_4 a1_0 a1_1 a1_2 a1_3 a1_4)) = some r := H
    have A6 := Aside0.mk A60
    clear A60
    by_cases c7 : t522 = true
    rotate_left 1
    · replace c7 := Bool.eq_false_iff.mpr c7
      subst c7
      have H1 : (spec_Compare.j0 k true a0_0 a0_1 a0_2 a0_3 a0_4 a1_0 a1_1 a1_2 a1_3 a1_4) = some r := by rw [if_neg (show ¬ (false = true) by decide)] at H; exact H
      clear H
      have H := H1
      clear H1
      have H' := Aside0.mk H
      clear H
      have hnb14 := NB520_521.out
      have hnc14 := NB521_520.out
      obtain ⟨hcz15_0, hcz15_1, hcz15_2, hcz15_3, hcz15_4, hfz15_0, hfz15_1, hfz15_2, hfz15_3, hfz15_4⟩ := cells5 BK520.out
      go_wp2_with (first | ((with_reducible refine gate_callee (f := 17) rfl ?_); refine goesS (some 6) rfl Try.func17 #[.agg #[.int .i64 a0_0, .int .i64 a0_1, .float .f64 a0_2, .string a0_3, .int .i64 a0_4]] rfl ?_; (with_reducible refine (spec_ValueOk.calls k a0_0 a0_1 a0_2 a0_3 a0_4 false _ A6.out).mono ?_); rintro e w16 ⟨rfl, hb⟩; refine ⟨_, rfl, ?_⟩; replace BK520 := bku BK520.out hb; replace BK521 := bku BK521.out hb; replace HB := hbs2 HB.out GE520.out GE521.out hb; (try clear hb); (try clear hb2); (try clear hk); (try clear hi)))
      go_meet
      case rel => exact ⟨_, (true), (by first | rfl | (simp; done) | (simp [*]; done)), H', ⟨by first | omega | exact Nat.le_refl _⟩, ⟨by (with_reducible repeat (first | refine blk_drewN ?_ _ | refine blk_drew ?_ | refine blk_alloc ?_ _)); exact BK520.out⟩, ⟨by (with_reducible repeat (first | refine blk_drewN ?_ _ | refine blk_drew ?_ | refine blk_alloc ?_ _)); exact BK521.out⟩, ⟨by repeat (first | (with_reducible first | exact HB.out | apply below_alloc | apply pw_below_drewN | apply below_drew1 | refine below_set ?_ GE520.out | refine below_set ?_ GE521.out) | exact HB.out)⟩⟩
    subst c7
    have H1 : ((spec_ValueOk.f k a1_0 a1_1 a1_2 a1_3 a1_4).bind fun t523 => (spec_Compare.j0 k (!t523) a0_0 a0_1 a0_2 a0_3 a0_4 a1_0 a1_1 a1_2 a1_3 a1_4)) = some r := by rw [if_pos rfl] at H; exact H
    clear H
    have H := H1
    clear H1
    replace H := Option.bind_eq_some_iff.mp H
    obtain ⟨t523, A80, H⟩ := H
    replace H : (spec_Compare.j0 k (!t523) a0_0 a0_1 a0_2 a0_3 a0_4 a1_0 a1_1 a1_2 a1_3 a1_4) = some r := H
    have A8 := Aside0.mk A80
    clear A80
    have H' := Aside0.mk H
    clear H
    have hnb9 := NB520_521.out
    have hnc9 := NB521_520.out
    obtain ⟨hcz10_0, hcz10_1, hcz10_2, hcz10_3, hcz10_4, hfz10_0, hfz10_1, hfz10_2, hfz10_3, hfz10_4⟩ := cells5 BK520.out
    go_wp2_with (first | ((with_reducible refine gate_callee (f := 17) rfl ?_); refine goesS (some 6) rfl Try.func17 #[.agg #[.int .i64 a0_0, .int .i64 a0_1, .float .f64 a0_2, .string a0_3, .int .i64 a0_4]] rfl ?_; (with_reducible refine (spec_ValueOk.calls k a0_0 a0_1 a0_2 a0_3 a0_4 true _ A6.out).mono ?_); rintro e w11 ⟨rfl, hb⟩; refine ⟨_, rfl, ?_⟩; replace BK520 := bku BK520.out hb; replace BK521 := bku BK521.out hb; replace HB := hbs2 HB.out GE520.out GE521.out hb; (try clear hb); (try clear hb2); (try clear hk); (try clear hi); obtain ⟨hcz12_0, hcz12_1, hcz12_2, hcz12_3, hcz12_4, hfz12_0, hfz12_1, hfz12_2, hfz12_3, hfz12_4⟩ := cells5 BK521.out) | (go_at_call 17; (with_reducible refine (spec_ValueOk.calls k a1_0 a1_1 a1_2 a1_3 a1_4 t523 _ A8.out).mono ?_); rintro e w13 ⟨rfl, hb⟩; replace BK520 := bku BK520.out hb; replace BK521 := bku BK521.out hb; replace HB := hbs2 HB.out GE520.out GE521.out hb; (try clear hb); (try clear hb2); (try clear hk); (try clear hi)))
    go_meet
    case rel => exact ⟨_, (!t523), (by first | rfl | (simp; done) | (simp [*]; done)), H', ⟨by first | omega | exact Nat.le_refl _⟩, ⟨by (with_reducible repeat (first | refine blk_drewN ?_ _ | refine blk_drew ?_ | refine blk_alloc ?_ _)); exact BK520.out⟩, ⟨by (with_reducible repeat (first | refine blk_drewN ?_ _ | refine blk_drew ?_ | refine blk_alloc ?_ _)); exact BK521.out⟩, ⟨by repeat (first | (with_reducible first | exact HB.out | apply below_alloc | apply pw_below_drewN | apply below_drew1 | refine below_set ?_ GE520.out | refine below_set ?_ GE521.out) | exact HB.out)⟩⟩
  clear HC3
  obtain ⟨kq, x12_2, rfl, HA, HJ2, BK520, BK521, HB⟩ := hcut
  rcases kq with _ | kj2
  · exact absurd HA.out (by simp [spec_Compare.j0])
  have H := HA.out
  clear HA
  simp only [spec_Compare.j0] at H
  by_cases c17 : x12_2 = true
  · subst c17
    have H1 : (some 3) = some r := by rw [if_pos rfl] at H; exact H
    clear H
    have H := H1
    clear H1
    obtain rfl := Option.some.inj H
    go_wp2
    go_ret
    exact ⟨by first | rfl | (simp <;> rfl) | (simp [*] <;> rfl), hbe2 HB.out GE520.out GE521.out⟩
  replace c17 := Bool.eq_false_iff.mpr c17
  subst c17
  have H1 : (if a0_0 = 4 then (spec_Compare.j1 kj2 (a1_0 == 4) a0_0 a0_1 a0_2 a0_3 a0_4 a1_0 a1_1 a1_2 a1_3 a1_4) else (spec_Compare.j1 kj2 false a0_0 a0_1 a0_2 a0_3 a0_4 a1_0 a1_1 a1_2 a1_3 a1_4)) = some r := by rw [if_neg (show ¬ (false = true) by decide)] at H; exact H
  clear H
  have H := H1
  clear H1
  have HC18 := Aside0.mk H
  clear H
  go_upto_region 3 with (fail)
  go_cut [20] (fun v20 wc => ∃ (kq : Nat) (x20_17 : Bool), v20 = .bool x20_17 ∧ Aside0 (spec_Compare.j1 kq x20_17 a0_0 a0_1 a0_2 a0_3 a0_4 a1_0 a1_1 a1_2 a1_3 a1_4 = some r) ∧ Aside0 (kq ≤ kj2) ∧ Aside0 (wc.heap[gb520]? = some (.cells #[.int .i64 a0_0, .int .i64 a0_1, .float .f64 a0_2, .string a0_3, .int .i64 a0_4] 28 (0, 0))) ∧ Aside0 (wc.heap[gb521]? = some (.cells #[.int .i64 a1_0, .int .i64 a1_1, .float .f64 a1_2, .string a1_3, .int .i64 a1_4] 28 (0, 0))) ∧ Aside0 (Below w.heap.size w wc))
  case first =>
    have H := HC18.out
    clear HC18
    by_cases c19 : a0_0 = 4
    rotate_left 1
    · rw [if_neg c19] at H
      have c19b0 : (a0_0 == 4) = false := beq_eq_false_iff_ne.mpr c19
      have c19b1 : (a0_0 != 4) = true := bne_iff_ne.mpr c19
      (first | rw [c19b0] | (simp only [i64_w, i32_w]; rw [c19b0]) | skip)
      have H' := Aside0.mk H
      clear H
      have hnb23 := NB520_521.out
      have hnc23 := NB521_520.out
      obtain ⟨hcz24_0, hcz24_1, hcz24_2, hcz24_3, hcz24_4, hfz24_0, hfz24_1, hfz24_2, hfz24_3, hfz24_4⟩ := cells5 BK520.out
      go_wp2
      go_meet
      case rel => exact ⟨_, (false), (by first | rfl | (simp; done) | (simp [*]; done)), H', ⟨by have := HJ2.out; first | omega | exact Nat.le_refl _⟩, ⟨by (with_reducible repeat (first | refine blk_drewN ?_ _ | refine blk_drew ?_ | refine blk_alloc ?_ _)); exact BK520.out⟩, ⟨by (with_reducible repeat (first | refine blk_drewN ?_ _ | refine blk_drew ?_ | refine blk_alloc ?_ _)); exact BK521.out⟩, ⟨by repeat (first | (with_reducible first | exact HB.out | apply below_alloc | apply pw_below_drewN | apply below_drew1 | refine below_set ?_ GE520.out | refine below_set ?_ GE521.out) | exact HB.out)⟩⟩
    rw [if_pos c19] at H
    have c19b0 : (a0_0 == 4) = true := beq_iff_eq.mpr c19
    have c19b1 : (a0_0 != 4) = false := bne_eq_false_iff_eq.mpr c19
    clear c19
    (first | rw [c19b0] | (simp only [i64_w, i32_w]; rw [c19b0]) | skip)
    have H' := Aside0.mk H
    clear H
    have hnb20 := NB520_521.out
    have hnc20 := NB521_520.out
    obtain ⟨hcz21_0, hcz21_1, hcz21_2, hcz21_3, hcz21_4, hfz21_0, hfz21_1, hfz21_2, hfz21_3, hfz21_4⟩ := cells5 BK520.out
    obtain ⟨hcz22_0, hcz22_1, hcz22_2, hcz22_3, hcz22_4, hfz22_0, hfz22_1, hfz22_2, hfz22_3, hfz22_4⟩ := cells5 BK521.out
    go_wp2
    go_meet
    case rel => exact ⟨_, ((a1_0 == 4)), (by first | rfl | (simp; done) | (simp [*]; done)), H', ⟨by have := HJ2.out; first | omega | exact Nat.le_refl _⟩, ⟨by (with_reducible repeat (first | refine blk_drewN ?_ _ | refine blk_drew ?_ | refine blk_alloc ?_ _)); exact BK520.out⟩, ⟨by (with_reducible repeat (first | refine blk_drewN ?_ _ | refine blk_drew ?_ | refine blk_alloc ?_ _)); exact BK521.out⟩, ⟨by repeat (first | (with_reducible first | exact HB.out | apply below_alloc | apply pw_below_drewN | apply below_drew1 | refine below_set ?_ GE520.out | refine below_set ?_ GE521.out) | exact HB.out)⟩⟩
  clear HC18
  try clear c17
  obtain ⟨kq, x20_17, rfl, HA, HJ17, BK520, BK521, HB⟩ := hcut
  rcases kq with _ | kj17
  · exact absurd HA.out (by simp [spec_Compare.j1])
  have H := HA.out
  clear HA
  simp only [spec_Compare.j1] at H
  by_cases c25 : x20_17 = true
  · subst c25
    have H1 : ((spec_l1strings.f kj17 a0_3 a1_3).bind fun t524 => (some t524)) = some r := by rw [if_pos rfl] at H; exact H
    clear H
    have H := H1
    clear H1
    replace H := Option.bind_eq_some_iff.mp H
    obtain ⟨t524, A260, H⟩ := H
    replace H : (some t524) = some r := H
    have A26 := Aside0.mk A260
    clear A260
    obtain rfl := Option.some.inj H
    have hnb27 := NB520_521.out
    have hnc27 := NB521_520.out
    obtain ⟨hcz28_0, hcz28_1, hcz28_2, hcz28_3, hcz28_4, hfz28_0, hfz28_1, hfz28_2, hfz28_3, hfz28_4⟩ := cells5 BK520.out
    obtain ⟨hcz29_0, hcz29_1, hcz29_2, hcz29_3, hcz29_4, hfz29_0, hfz29_1, hfz29_2, hfz29_3, hfz29_4⟩ := cells5 BK521.out
    go_wp2_with (first | ((with_reducible refine gate_callee (f := 71) rfl ?_); refine goesS (some 25) rfl Try.func71 #[.string a0_3, .string a1_3] rfl ?_; (with_reducible refine (spec_l1strings.calls kj17 a0_3 a1_3 t524 _ A26.out).mono ?_); rintro e w' ⟨rfl, ⟨nd, rfl⟩⟩; refine ⟨_, rfl, ?_⟩))
    go_ret
    exact ⟨by first | rfl | (simp <;> rfl) | (simp [*] <;> rfl), hbe2 HB.out GE520.out GE521.out⟩
  replace c25 := Bool.eq_false_iff.mpr c25
  subst c25
  have H1 : ((spec_l1num.f a0_0 a0_1 a0_2 a0_3 a0_4).bind fun t525 => (if t525 = true then ((spec_l1num.f a1_0 a1_1 a1_2 a1_3 a1_4).bind fun t526 => (spec_Compare.j2 kj17 (!t526) a0_0 a0_1 a0_2 a0_3 a0_4 a1_0 a1_1 a1_2 a1_3 a1_4)) else (spec_Compare.j2 kj17 true a0_0 a0_1 a0_2 a0_3 a0_4 a1_0 a1_1 a1_2 a1_3 a1_4))) = some r := by rw [if_neg (show ¬ (false = true) by decide)] at H; exact H
  clear H
  have H := H1
  clear H1
  have HC30 := Aside0.mk H
  clear H
  go_upto_region 5 with (fail)
  go_cut [33] (fun v33 wc => ∃ (kq : Nat) (x33_29 : Bool), v33 = .bool x33_29 ∧ Aside0 (spec_Compare.j2 kq x33_29 a0_0 a0_1 a0_2 a0_3 a0_4 a1_0 a1_1 a1_2 a1_3 a1_4 = some r) ∧ Aside0 (kq ≤ kj17) ∧ Aside0 (wc.heap[gb520]? = some (.cells #[.int .i64 a0_0, .int .i64 a0_1, .float .f64 a0_2, .string a0_3, .int .i64 a0_4] 28 (0, 0))) ∧ Aside0 (wc.heap[gb521]? = some (.cells #[.int .i64 a1_0, .int .i64 a1_1, .float .f64 a1_2, .string a1_3, .int .i64 a1_4] 28 (0, 0))) ∧ Aside0 (Below w.heap.size w wc))
  case first =>
    have H := HC30.out
    clear HC30
    replace H := Option.bind_eq_some_iff.mp H
    obtain ⟨t525, A310, H⟩ := H
    replace H : (if t525 = true then ((spec_l1num.f a1_0 a1_1 a1_2 a1_3 a1_4).bind fun t526 => (spec_Compare.j2 kj17 (!t526) a0_0 a0_1 a0_2 a0_3 a0_4 a1_0 a1_1 a1_2 a1_3 a1_4)) else (spec_Compare.j2 kj17 true a0_0 a0_1 a0_2 a0_3 a0_4 a1_0 a1_1 a1_2 a1_3 a1_4)) = some r := H
    have A31 := Aside0.mk A310
    clear A310
    by_cases c32 : t525 = true
    rotate_left 1
    · replace c32 := Bool.eq_false_iff.mpr c32
      subst c32
      have H1 : (spec_Compare.j2 kj17 true a0_0 a0_1 a0_2 a0_3 a0_4 a1_0 a1_1 a1_2 a1_3 a1_4) = some r := by rw [if_neg (show ¬ (false = true) by decide)] at H; exact H
      clear H
      have H := H1
      clear H1
      have H' := Aside0.mk H
      clear H
      have hnb39 := NB520_521.out
      have hnc39 := NB521_520.out
      obtain ⟨hcz40_0, hcz40_1, hcz40_2, hcz40_3, hcz40_4, hfz40_0, hfz40_1, hfz40_2, hfz40_3, hfz40_4⟩ := cells5 BK520.out
      go_wp2_with (first | ((with_reducible refine gate_callee (f := 72) rfl ?_); refine goesS (some 27) rfl Try.func72 #[.agg #[.int .i64 a0_0, .int .i64 a0_1, .float .f64 a0_2, .string a0_3, .int .i64 a0_4]] rfl ?_; (with_reducible refine (spec_l1num.calls a0_0 a0_1 a0_2 a0_3 a0_4 false _ A31.out).mono ?_); rintro e w41 ⟨rfl, hb⟩; refine ⟨_, rfl, ?_⟩; replace BK520 := bku BK520.out hb; replace BK521 := bku BK521.out hb; replace HB := hbs2 HB.out GE520.out GE521.out hb; (try clear hb); (try clear hb2); (try clear hk); (try clear hi)))
      go_meet
      case rel => exact ⟨_, (true), (by first | rfl | (simp; done) | (simp [*]; done)), H', ⟨by have := HJ2.out; have := HJ17.out; first | omega | exact Nat.le_refl _⟩, ⟨by (with_reducible repeat (first | refine blk_drewN ?_ _ | refine blk_drew ?_ | refine blk_alloc ?_ _)); exact BK520.out⟩, ⟨by (with_reducible repeat (first | refine blk_drewN ?_ _ | refine blk_drew ?_ | refine blk_alloc ?_ _)); exact BK521.out⟩, ⟨by repeat (first | (with_reducible first | exact HB.out | apply below_alloc | apply pw_below_drewN | apply below_drew1 | refine below_set ?_ GE520.out | refine below_set ?_ GE521.out) | exact HB.out)⟩⟩
    subst c32
    have H1 : ((spec_l1num.f a1_0 a1_1 a1_2 a1_3 a1_4).bind fun t526 => (spec_Compare.j2 kj17 (!t526) a0_0 a0_1 a0_2 a0_3 a0_4 a1_0 a1_1 a1_2 a1_3 a1_4)) = some r := by rw [if_pos rfl] at H; exact H
    clear H
    have H := H1
    clear H1
    replace H := Option.bind_eq_some_iff.mp H
    obtain ⟨t526, A330, H⟩ := H
    replace H : (spec_Compare.j2 kj17 (!t526) a0_0 a0_1 a0_2 a0_3 a0_4 a1_0 a1_1 a1_2 a1_3 a1_4) = some r := H
    have A33 := Aside0.mk A330
    clear A330
    have H' := Aside0.mk H
    clear H
    have hnb34 := NB520_521.out
    have hnc34 := NB521_520.out
    obtain ⟨hcz35_0, hcz35_1, hcz35_2, hcz35_3, hcz35_4, hfz35_0, hfz35_1, hfz35_2, hfz35_3, hfz35_4⟩ := cells5 BK520.out
    go_wp2_with (first | ((with_reducible refine gate_callee (f := 72) rfl ?_); refine goesS (some 27) rfl Try.func72 #[.agg #[.int .i64 a0_0, .int .i64 a0_1, .float .f64 a0_2, .string a0_3, .int .i64 a0_4]] rfl ?_; (with_reducible refine (spec_l1num.calls a0_0 a0_1 a0_2 a0_3 a0_4 true _ A31.out).mono ?_); rintro e w36 ⟨rfl, hb⟩; refine ⟨_, rfl, ?_⟩; replace BK520 := bku BK520.out hb; replace BK521 := bku BK521.out hb; replace HB := hbs2 HB.out GE520.out GE521.out hb; (try clear hb); (try clear hb2); (try clear hk); (try clear hi); obtain ⟨hcz37_0, hcz37_1, hcz37_2, hcz37_3, hcz37_4, hfz37_0, hfz37_1, hfz37_2, hfz37_3, hfz37_4⟩ := cells5 BK521.out) | (go_at_call 72; (with_reducible refine (spec_l1num.calls a1_0 a1_1 a1_2 a1_3 a1_4 t526 _ A33.out).mono ?_); rintro e w38 ⟨rfl, hb⟩; replace BK520 := bku BK520.out hb; replace BK521 := bku BK521.out hb; replace HB := hbs2 HB.out GE520.out GE521.out hb; (try clear hb); (try clear hb2); (try clear hk); (try clear hi)))
    go_meet
    case rel => exact ⟨_, (!t526), (by first | rfl | (simp; done) | (simp [*]; done)), H', ⟨by have := HJ2.out; have := HJ17.out; first | omega | exact Nat.le_refl _⟩, ⟨by (with_reducible repeat (first | refine blk_drewN ?_ _ | refine blk_drew ?_ | refine blk_alloc ?_ _)); exact BK520.out⟩, ⟨by (with_reducible repeat (first | refine blk_drewN ?_ _ | refine blk_drew ?_ | refine blk_alloc ?_ _)); exact BK521.out⟩, ⟨by repeat (first | (with_reducible first | exact HB.out | apply below_alloc | apply pw_below_drewN | apply below_drew1 | refine below_set ?_ GE520.out | refine below_set ?_ GE521.out) | exact HB.out)⟩⟩
  clear HC30
  try clear c17
  try clear c25
  obtain ⟨kq, x33_29, rfl, HA, HJ29, BK520, BK521, HB⟩ := hcut
  rcases kq with _ | kj29
  · exact absurd HA.out (by simp [spec_Compare.j2])
  have H := HA.out
  clear HA
  simp only [spec_Compare.j2] at H
  by_cases c42 : x33_29 = true
  · subst c42
    have H1 : (some 3) = some r := by rw [if_pos rfl] at H; exact H
    clear H
    have H := H1
    clear H1
    obtain rfl := Option.some.inj H
    go_wp2
    go_ret
    exact ⟨by first | rfl | (simp <;> rfl) | (simp [*] <;> rfl), hbe2 HB.out GE520.out GE521.out⟩
  replace c42 := Bool.eq_false_iff.mpr c42
  subst c42
  have H1 : (if a0_0 = 3 then ((spec_l1nan.f a0_2).bind fun t527 => (if t527 = true then (spec_Compare.j3 kj29 true a0_0 a0_1 a0_2 a0_3 a0_4 a1_0 a1_1 a1_2 a1_3 a1_4) else (if a1_0 = 3 then ((spec_l1nan.f a1_2).bind fun t528 => (spec_Compare.j3 kj29 t528 a0_0 a0_1 a0_2 a0_3 a0_4 a1_0 a1_1 a1_2 a1_3 a1_4)) else (spec_Compare.j3 kj29 false a0_0 a0_1 a0_2 a0_3 a0_4 a1_0 a1_1 a1_2 a1_3 a1_4)))) else (if a1_0 = 3 then ((spec_l1nan.f a1_2).bind fun t529 => (spec_Compare.j3 kj29 t529 a0_0 a0_1 a0_2 a0_3 a0_4 a1_0 a1_1 a1_2 a1_3 a1_4)) else (spec_Compare.j3 kj29 false a0_0 a0_1 a0_2 a0_3 a0_4 a1_0 a1_1 a1_2 a1_3 a1_4))) = some r := by rw [if_neg (show ¬ (false = true) by decide)] at H; exact H
  clear H
  have H := H1
  clear H1
  have HC43 := Aside0.mk H
  clear H
  go_upto_region 7 with (fail)
  go_cut [51] (fun v51 wc => ∃ (kq : Nat) (x51_42 : Bool), v51 = .bool x51_42 ∧ Aside0 (spec_Compare.j3 kq x51_42 a0_0 a0_1 a0_2 a0_3 a0_4 a1_0 a1_1 a1_2 a1_3 a1_4 = some r) ∧ Aside0 (kq ≤ kj29) ∧ Aside0 (wc.heap[gb520]? = some (.cells #[.int .i64 a0_0, .int .i64 a0_1, .float .f64 a0_2, .string a0_3, .int .i64 a0_4] 28 (0, 0))) ∧ Aside0 (wc.heap[gb521]? = some (.cells #[.int .i64 a1_0, .int .i64 a1_1, .float .f64 a1_2, .string a1_3, .int .i64 a1_4] 28 (0, 0))) ∧ Aside0 (Below w.heap.size w wc))
  case first =>
    have H := HC43.out
    clear HC43
    by_cases c44 : a0_0 = 3
    focus
     rw [if_pos c44] at H
     have c44b0 : (a0_0 == 3) = true := beq_iff_eq.mpr c44
     have c44b1 : (a0_0 != 3) = false := bne_eq_false_iff_eq.mpr c44
     clear c44
     (first | rw [c44b0] | (simp only [i64_w, i32_w]; rw [c44b0]) | skip)
     replace H := Option.bind_eq_some_iff.mp H
     obtain ⟨t527, A450, H⟩ := H
     replace H : (if t527 = true then (spec_Compare.j3 kj29 true a0_0 a0_1 a0_2 a0_3 a0_4 a1_0 a1_1 a1_2 a1_3 a1_4) else (if a1_0 = 3 then ((spec_l1nan.f a1_2).bind fun t528 => (spec_Compare.j3 kj29 t528 a0_0 a0_1 a0_2 a0_3 a0_4 a1_0 a1_1 a1_2 a1_3 a1_4)) else (spec_Compare.j3 kj29 false a0_0 a0_1 a0_2 a0_3 a0_4 a1_0 a1_1 a1_2 a1_3 a1_4))) = some r := H
     have A45 := Aside0.mk A450
     clear A450
     by_cases c46 : t527 = true
     · subst c46
       have H1 : (spec_Compare.j3 kj29 true a0_0 a0_1 a0_2 a0_3 a0_4 a1_0 a1_1 a1_2 a1_3 a1_4) = some r := by rw [if_pos rfl] at H; exact H
       clear H
       have H := H1
       clear H1
       have H' := Aside0.mk H
       clear H
       have hnb47 := NB520_521.out
       have hnc47 := NB521_520.out
       obtain ⟨hcz48_0, hcz48_1, hcz48_2, hcz48_3, hcz48_4, hfz48_0, hfz48_1, hfz48_2, hfz48_3, hfz48_4⟩ := cells5 BK520.out
       go_wp2_with (first | (go_at_call 59; (with_reducible refine (spec_l1nan.calls a0_2 true _ A45.out).mono ?_); rintro e w' ⟨rfl, ⟨nd, rfl⟩⟩))
       go_meet
       case rel => exact ⟨_, (true), (by first | rfl | (simp; done) | (simp [*]; done)), H', ⟨by have := HJ2.out; have := HJ17.out; have := HJ29.out; first | omega | exact Nat.le_refl _⟩, ⟨by (with_reducible repeat (first | refine blk_drewN ?_ _ | refine blk_drew ?_ | refine blk_alloc ?_ _)); exact BK520.out⟩, ⟨by (with_reducible repeat (first | refine blk_drewN ?_ _ | refine blk_drew ?_ | refine blk_alloc ?_ _)); exact BK521.out⟩, ⟨by repeat (first | (with_reducible first | exact HB.out | apply below_alloc | apply pw_below_drewN | apply below_drew1 | refine below_set ?_ GE520.out | refine below_set ?_ GE521.out) | exact HB.out)⟩⟩
     focus
      replace c46 := Bool.eq_false_iff.mpr c46
      subst c46
      have H1 : (if a1_0 = 3 then ((spec_l1nan.f a1_2).bind fun t528 => (spec_Compare.j3 kj29 t528 a0_0 a0_1 a0_2 a0_3 a0_4 a1_0 a1_1 a1_2 a1_3 a1_4)) else (spec_Compare.j3 kj29 false a0_0 a0_1 a0_2 a0_3 a0_4 a1_0 a1_1 a1_2 a1_3 a1_4)) = some r := by rw [if_neg (show ¬ (false = true) by decide)] at H; exact H
      clear H
      have H := H1
      clear H1
      by_cases c49 : a1_0 = 3
      focus
       rw [if_pos c49] at H
       have c49b0 : (a1_0 == 3) = true := beq_iff_eq.mpr c49
       have c49b1 : (a1_0 != 3) = false := bne_eq_false_iff_eq.mpr c49
       clear c49
       replace H := Option.bind_eq_some_iff.mp H
       obtain ⟨t528, A500, H⟩ := H
       replace H : (spec_Compare.j3 kj29 t528 a0_0 a0_1 a0_2 a0_3 a0_4 a1_0 a1_1 a1_2 a1_3 a1_4) = some r := H
       have A50 := Aside0.mk A500
       clear A500
       have H' := Aside0.mk H
       clear H
       have hnb51 := NB520_521.out
       have hnc51 := NB521_520.out
       obtain ⟨hcz52_0, hcz52_1, hcz52_2, hcz52_3, hcz52_4, hfz52_0, hfz52_1, hfz52_2, hfz52_3, hfz52_4⟩ := cells5 BK520.out
      rotate_left 1
      focus
       rw [if_neg c49] at H
       have c49b0 : (a1_0 == 3) = false := beq_eq_false_iff_ne.mpr c49
       have c49b1 : (a1_0 != 3) = true := bne_iff_ne.mpr c49
       have H' := Aside0.mk H
       clear H
       have hnb54 := NB520_521.out
       have hnc54 := NB521_520.out
       obtain ⟨hcz55_0, hcz55_1, hcz55_2, hcz55_3, hcz55_4, hfz55_0, hfz55_1, hfz55_2, hfz55_3, hfz55_4⟩ := cells5 BK520.out
    rotate_left 2
    · rw [if_neg c44] at H
      have c44b0 : (a0_0 == 3) = false := beq_eq_false_iff_ne.mpr c44
      have c44b1 : (a0_0 != 3) = true := bne_iff_ne.mpr c44
      (first | rw [c44b0] | (simp only [i64_w, i32_w]; rw [c44b0]) | skip)
      by_cases c57 : a1_0 = 3
      rotate_left 1
      · rw [if_neg c57] at H
        have c57b0 : (a1_0 == 3) = false := beq_eq_false_iff_ne.mpr c57
        have c57b1 : (a1_0 != 3) = true := bne_iff_ne.mpr c57
        have H' := Aside0.mk H
        clear H
        have hnb62 := NB520_521.out
        have hnc62 := NB521_520.out
        obtain ⟨hcz63_0, hcz63_1, hcz63_2, hcz63_3, hcz63_4, hfz63_0, hfz63_1, hfz63_2, hfz63_3, hfz63_4⟩ := cells5 BK520.out
        obtain ⟨hcz64_0, hcz64_1, hcz64_2, hcz64_3, hcz64_4, hfz64_0, hfz64_1, hfz64_2, hfz64_3, hfz64_4⟩ := cells5 BK521.out
        go_wp2
        go_meet
        case rel => exact ⟨_, (false), (by first | rfl | (simp; done) | (simp [*]; done)), H', ⟨by have := HJ2.out; have := HJ17.out; have := HJ29.out; first | omega | exact Nat.le_refl _⟩, ⟨by (with_reducible repeat (first | refine blk_drewN ?_ _ | refine blk_drew ?_ | refine blk_alloc ?_ _)); exact BK520.out⟩, ⟨by (with_reducible repeat (first | refine blk_drewN ?_ _ | refine blk_drew ?_ | refine blk_alloc ?_ _)); exact BK521.out⟩, ⟨by repeat (first | (with_reducible first | exact HB.out | apply below_alloc | apply pw_below_drewN | apply below_drew1 | refine below_set ?_ GE520.out | refine below_set ?_ GE521.out) | exact HB.out)⟩⟩
      rw [if_pos c57] at H
      have c57b0 : (a1_0 == 3) = true := beq_iff_eq.mpr c57
      have c57b1 : (a1_0 != 3) = false := bne_eq_false_iff_eq.mpr c57
      clear c57
      replace H := Option.bind_eq_some_iff.mp H
      obtain ⟨t529, A580, H⟩ := H
      replace H : (spec_Compare.j3 kj29 t529 a0_0 a0_1 a0_2 a0_3 a0_4 a1_0 a1_1 a1_2 a1_3 a1_4) = some r := H
      have A58 := Aside0.mk A580
      clear A580
      have H' := Aside0.mk H
      clear H
      have hnb59 := NB520_521.out
      have hnc59 := NB521_520.out
      obtain ⟨hcz60_0, hcz60_1, hcz60_2, hcz60_3, hcz60_4, hfz60_0, hfz60_1, hfz60_2, hfz60_3, hfz60_4⟩ := cells5 BK520.out
      obtain ⟨hcz61_0, hcz61_1, hcz61_2, hcz61_3, hcz61_4, hfz61_0, hfz61_1, hfz61_2, hfz61_3, hfz61_4⟩ := cells5 BK521.out
      go_wp2_with (first | (go_at_call 59; (with_reducible refine (spec_l1nan.calls a1_2 t529 _ A58.out).mono ?_); rintro e w' ⟨rfl, ⟨nd, rfl⟩⟩))
      go_meet
      case rel => exact ⟨_, (t529), (by first | rfl | (simp; done) | (simp [*]; done)), H', ⟨by have := HJ2.out; have := HJ17.out; have := HJ29.out; first | omega | exact Nat.le_refl _⟩, ⟨by (with_reducible repeat (first | refine blk_drewN ?_ _ | refine blk_drew ?_ | refine blk_alloc ?_ _)); exact BK520.out⟩, ⟨by (with_reducible repeat (first | refine blk_drewN ?_ _ | refine blk_drew ?_ | refine blk_alloc ?_ _)); exact BK521.out⟩, ⟨by repeat (first | (with_reducible first | exact HB.out | apply below_alloc | apply pw_below_drewN | apply below_drew1 | refine below_set ?_ GE520.out | refine below_set ?_ GE521.out) | exact HB.out)⟩⟩
    all_goals
     go_wp2_with (first | (go_at_call 59; (with_reducible refine (spec_l1nan.calls a0_2 false _ A45.out).mono ?_); rintro e w' ⟨rfl, ⟨nd, rfl⟩⟩; have hczz0_ : wc.cell? ⟨gb521, 0, none⟩ = some (.int .i64 a1_0) := (blk_cell BK521.out 0).trans rfl; have hczz1_ : wc.cell? ⟨gb521, 1, none⟩ = some (.int .i64 a1_1) := (blk_cell BK521.out 1).trans rfl; have hczz2_ : wc.cell? ⟨gb521, 2, none⟩ = some (.float .f64 a1_2) := (blk_cell BK521.out 2).trans rfl; have hczz3_ : wc.cell? ⟨gb521, 3, none⟩ = some (.string a1_3) := (blk_cell BK521.out 3).trans rfl; have hczz4_ : wc.cell? ⟨gb521, 4, none⟩ = some (.int .i64 a1_4) := (blk_cell BK521.out 4).trans rfl; have hfzz5_ := blk_frozen BK521.out 0; have hfzz6_ := blk_frozen BK521.out 1; have hfzz7_ := blk_frozen BK521.out 2; have hfzz8_ := blk_frozen BK521.out 3; have hfzz9_ := blk_frozen BK521.out 4) | (go_at_call 59; (with_reducible refine (spec_l1nan.calls a1_2 t528 _ A50.out).mono ?_); rintro e w' ⟨rfl, ⟨nd, rfl⟩⟩))
     go_meet
    · case rel => exact ⟨_, (false), (by first | rfl | (simp; done) | (simp [*]; done)), H', ⟨by have := HJ2.out; have := HJ17.out; have := HJ29.out; first | omega | exact Nat.le_refl _⟩, ⟨by (with_reducible repeat (first | refine blk_drewN ?_ _ | refine blk_drew ?_ | refine blk_alloc ?_ _)); exact BK520.out⟩, ⟨by (with_reducible repeat (first | refine blk_drewN ?_ _ | refine blk_drew ?_ | refine blk_alloc ?_ _)); exact BK521.out⟩, ⟨by repeat (first | (with_reducible first | exact HB.out | apply below_alloc | apply pw_below_drewN | apply below_drew1 | refine below_set ?_ GE520.out | refine below_set ?_ GE521.out) | exact HB.out)⟩⟩
    · case rel => exact ⟨_, (t528), (by first | rfl | (simp; done) | (simp [*]; done)), H', ⟨by have := HJ2.out; have := HJ17.out; have := HJ29.out; first | omega | exact Nat.le_refl _⟩, ⟨by (with_reducible repeat (first | refine blk_drewN ?_ _ | refine blk_drew ?_ | refine blk_alloc ?_ _)); exact BK520.out⟩, ⟨by (with_reducible repeat (first | refine blk_drewN ?_ _ | refine blk_drew ?_ | refine blk_alloc ?_ _)); exact BK521.out⟩, ⟨by repeat (first | (with_reducible first | exact HB.out | apply below_alloc | apply pw_below_drewN | apply below_drew1 | refine below_set ?_ GE520.out | refine below_set ?_ GE521.out) | exact HB.out)⟩⟩
  clear HC43
  try clear c17
  try clear c25
  try clear c42
  obtain ⟨kq, x51_42, rfl, HA, HJ42, BK520, BK521, HB⟩ := hcut
  rcases kq with _ | kj42
  · exact absurd HA.out (by simp [spec_Compare.j3])
  have H := HA.out
  clear HA
  simp only [spec_Compare.j3] at H
  by_cases c65 : x51_42 = true
  · subst c65
    have H1 : (some 2) = some r := by rw [if_pos rfl] at H; exact H
    clear H
    have H := H1
    clear H1
    obtain rfl := Option.some.inj H
    go_wp2
    go_ret
    exact ⟨by first | rfl | (simp <;> rfl) | (simp [*] <;> rfl), hbe2 HB.out GE520.out GE521.out⟩
  replace c65 := Bool.eq_false_iff.mpr c65
  subst c65
  have H1 : (if a0_0 = 2 then (spec_Compare.j4 kj42 (a1_0 == 3) a0_0 a0_1 a0_2 a0_3 a0_4 a1_0 a1_1 a1_2 a1_3 a1_4) else (spec_Compare.j4 kj42 false a0_0 a0_1 a0_2 a0_3 a0_4 a1_0 a1_1 a1_2 a1_3 a1_4)) = some r := by rw [if_neg (show ¬ (false = true) by decide)] at H; exact H
  clear H
  have H := H1
  clear H1
  have HC66 := Aside0.mk H
  clear H
  go_upto_region 9 with (fail)
  go_cut [59] (fun v59 wc => ∃ (kq : Nat) (x59_65 : Bool), v59 = .bool x59_65 ∧ Aside0 (spec_Compare.j4 kq x59_65 a0_0 a0_1 a0_2 a0_3 a0_4 a1_0 a1_1 a1_2 a1_3 a1_4 = some r) ∧ Aside0 (kq ≤ kj42) ∧ Aside0 (wc.heap[gb520]? = some (.cells #[.int .i64 a0_0, .int .i64 a0_1, .float .f64 a0_2, .string a0_3, .int .i64 a0_4] 28 (0, 0))) ∧ Aside0 (wc.heap[gb521]? = some (.cells #[.int .i64 a1_0, .int .i64 a1_1, .float .f64 a1_2, .string a1_3, .int .i64 a1_4] 28 (0, 0))) ∧ Aside0 (Below w.heap.size w wc))
  case first =>
    have H := HC66.out
    clear HC66
    by_cases c67 : a0_0 = 2
    rotate_left 1
    · rw [if_neg c67] at H
      have c67b0 : (a0_0 == 2) = false := beq_eq_false_iff_ne.mpr c67
      have c67b1 : (a0_0 != 2) = true := bne_iff_ne.mpr c67
      (first | rw [c67b0] | (simp only [i64_w, i32_w]; rw [c67b0]) | skip)
      have H' := Aside0.mk H
      clear H
      have hnb71 := NB520_521.out
      have hnc71 := NB521_520.out
      obtain ⟨hcz72_0, hcz72_1, hcz72_2, hcz72_3, hcz72_4, hfz72_0, hfz72_1, hfz72_2, hfz72_3, hfz72_4⟩ := cells5 BK520.out
      go_wp2
      go_meet
      case rel => exact ⟨_, (false), (by first | rfl | (simp; done) | (simp [*]; done)), H', ⟨by have := HJ2.out; have := HJ17.out; have := HJ29.out; have := HJ42.out; first | omega | exact Nat.le_refl _⟩, ⟨by (with_reducible repeat (first | refine blk_drewN ?_ _ | refine blk_drew ?_ | refine blk_alloc ?_ _)); exact BK520.out⟩, ⟨by (with_reducible repeat (first | refine blk_drewN ?_ _ | refine blk_drew ?_ | refine blk_alloc ?_ _)); exact BK521.out⟩, ⟨by repeat (first | (with_reducible first | exact HB.out | apply below_alloc | apply pw_below_drewN | apply below_drew1 | refine below_set ?_ GE520.out | refine below_set ?_ GE521.out) | exact HB.out)⟩⟩
    rw [if_pos c67] at H
    have c67b0 : (a0_0 == 2) = true := beq_iff_eq.mpr c67
    have c67b1 : (a0_0 != 2) = false := bne_eq_false_iff_eq.mpr c67
    clear c67
    (first | rw [c67b0] | (simp only [i64_w, i32_w]; rw [c67b0]) | skip)
    have H' := Aside0.mk H
    clear H
    have hnb68 := NB520_521.out
    have hnc68 := NB521_520.out
    obtain ⟨hcz69_0, hcz69_1, hcz69_2, hcz69_3, hcz69_4, hfz69_0, hfz69_1, hfz69_2, hfz69_3, hfz69_4⟩ := cells5 BK520.out
    obtain ⟨hcz70_0, hcz70_1, hcz70_2, hcz70_3, hcz70_4, hfz70_0, hfz70_1, hfz70_2, hfz70_3, hfz70_4⟩ := cells5 BK521.out
    go_wp2
    go_meet
    case rel => exact ⟨_, ((a1_0 == 3)), (by first | rfl | (simp; done) | (simp [*]; done)), H', ⟨by have := HJ2.out; have := HJ17.out; have := HJ29.out; have := HJ42.out; first | omega | exact Nat.le_refl _⟩, ⟨by (with_reducible repeat (first | refine blk_drewN ?_ _ | refine blk_drew ?_ | refine blk_alloc ?_ _)); exact BK520.out⟩, ⟨by (with_reducible repeat (first | refine blk_drewN ?_ _ | refine blk_drew ?_ | refine blk_alloc ?_ _)); exact BK521.out⟩, ⟨by repeat (first | (with_reducible first | exact HB.out | apply below_alloc | apply pw_below_drewN | apply below_drew1 | refine below_set ?_ GE520.out | refine below_set ?_ GE521.out) | exact HB.out)⟩⟩
  clear HC66
  try clear c17
  try clear c25
  try clear c42
  try clear c65
  obtain ⟨kq, x59_65, rfl, HA, HJ65, BK520, BK521, HB⟩ := hcut
  rcases kq with _ | kj65
  · exact absurd HA.out (by simp [spec_Compare.j4])
  have H := HA.out
  clear HA
  simp only [spec_Compare.j4] at H
  by_cases c73 : x59_65 = true
  · subst c73
    have H1 : ((spec_l1intflt.f kj65 a0_1 a1_2).bind fun t530 => (some t530)) = some r := by rw [if_pos rfl] at H; exact H
    clear H
    have H := H1
    clear H1
    replace H := Option.bind_eq_some_iff.mp H
    obtain ⟨t530, A740, H⟩ := H
    replace H : (some t530) = some r := H
    have A74 := Aside0.mk A740
    clear A740
    obtain rfl := Option.some.inj H
    have hnb75 := NB520_521.out
    have hnc75 := NB521_520.out
    obtain ⟨hcz76_0, hcz76_1, hcz76_2, hcz76_3, hcz76_4, hfz76_0, hfz76_1, hfz76_2, hfz76_3, hfz76_4⟩ := cells5 BK520.out
    obtain ⟨hcz77_0, hcz77_1, hcz77_2, hcz77_3, hcz77_4, hfz77_0, hfz77_1, hfz77_2, hfz77_3, hfz77_4⟩ := cells5 BK521.out
    go_wp2_with (first | ((with_reducible refine gate_callee (f := 73) rfl ?_); refine goesS (some 64) rfl Try.func73 #[.int .i64 a0_1, .float .f64 a1_2] rfl ?_; (with_reducible refine (spec_l1intflt.calls kj65 a0_1 a1_2 t530 _ A74.out).mono ?_); rintro e w' ⟨rfl, ⟨nd, rfl⟩⟩; refine ⟨_, rfl, ?_⟩))
    go_ret
    exact ⟨by first | rfl | (simp <;> rfl) | (simp [*] <;> rfl), hbe2 HB.out GE520.out GE521.out⟩
  replace c73 := Bool.eq_false_iff.mpr c73
  subst c73
  have H1 : (if a0_0 = 3 then (spec_Compare.j5 kj65 (a1_0 == 2) a0_0 a0_1 a0_2 a0_3 a0_4 a1_0 a1_1 a1_2 a1_3 a1_4) else (spec_Compare.j5 kj65 false a0_0 a0_1 a0_2 a0_3 a0_4 a1_0 a1_1 a1_2 a1_3 a1_4)) = some r := by rw [if_neg (show ¬ (false = true) by decide)] at H; exact H
  clear H
  have H := H1
  clear H1
  have HC78 := Aside0.mk H
  clear H
  go_upto_region 11 with (fail)
  go_cut [72] (fun v72 wc => ∃ (kq : Nat) (x72_77 : Bool), v72 = .bool x72_77 ∧ Aside0 (spec_Compare.j5 kq x72_77 a0_0 a0_1 a0_2 a0_3 a0_4 a1_0 a1_1 a1_2 a1_3 a1_4 = some r) ∧ Aside0 (kq ≤ kj65) ∧ Aside0 (wc.heap[gb520]? = some (.cells #[.int .i64 a0_0, .int .i64 a0_1, .float .f64 a0_2, .string a0_3, .int .i64 a0_4] 28 (0, 0))) ∧ Aside0 (wc.heap[gb521]? = some (.cells #[.int .i64 a1_0, .int .i64 a1_1, .float .f64 a1_2, .string a1_3, .int .i64 a1_4] 28 (0, 0))) ∧ Aside0 (Below w.heap.size w wc))
  case first =>
    have H := HC78.out
    clear HC78
    by_cases c79 : a0_0 = 3
    rotate_left 1
    · rw [if_neg c79] at H
      have c79b0 : (a0_0 == 3) = false := beq_eq_false_iff_ne.mpr c79
      have c79b1 : (a0_0 != 3) = true := bne_iff_ne.mpr c79
      (first | rw [c79b0] | (simp only [i64_w, i32_w]; rw [c79b0]) | skip)
      have H' := Aside0.mk H
      clear H
      have hnb83 := NB520_521.out
      have hnc83 := NB521_520.out
      obtain ⟨hcz84_0, hcz84_1, hcz84_2, hcz84_3, hcz84_4, hfz84_0, hfz84_1, hfz84_2, hfz84_3, hfz84_4⟩ := cells5 BK520.out
      go_wp2
      go_meet
      case rel => exact ⟨_, (false), (by first | rfl | (simp; done) | (simp [*]; done)), H', ⟨by have := HJ2.out; have := HJ17.out; have := HJ29.out; have := HJ42.out; have := HJ65.out; first | omega | exact Nat.le_refl _⟩, ⟨by (with_reducible repeat (first | refine blk_drewN ?_ _ | refine blk_drew ?_ | refine blk_alloc ?_ _)); exact BK520.out⟩, ⟨by (with_reducible repeat (first | refine blk_drewN ?_ _ | refine blk_drew ?_ | refine blk_alloc ?_ _)); exact BK521.out⟩, ⟨by repeat (first | (with_reducible first | exact HB.out | apply below_alloc | apply pw_below_drewN | apply below_drew1 | refine below_set ?_ GE520.out | refine below_set ?_ GE521.out) | exact HB.out)⟩⟩
    rw [if_pos c79] at H
    have c79b0 : (a0_0 == 3) = true := beq_iff_eq.mpr c79
    have c79b1 : (a0_0 != 3) = false := bne_eq_false_iff_eq.mpr c79
    clear c79
    (first | rw [c79b0] | (simp only [i64_w, i32_w]; rw [c79b0]) | skip)
    have H' := Aside0.mk H
    clear H
    have hnb80 := NB520_521.out
    have hnc80 := NB521_520.out
    obtain ⟨hcz81_0, hcz81_1, hcz81_2, hcz81_3, hcz81_4, hfz81_0, hfz81_1, hfz81_2, hfz81_3, hfz81_4⟩ := cells5 BK520.out
    obtain ⟨hcz82_0, hcz82_1, hcz82_2, hcz82_3, hcz82_4, hfz82_0, hfz82_1, hfz82_2, hfz82_3, hfz82_4⟩ := cells5 BK521.out
    go_wp2
    go_meet
    case rel => exact ⟨_, ((a1_0 == 2)), (by first | rfl | (simp; done) | (simp [*]; done)), H', ⟨by have := HJ2.out; have := HJ17.out; have := HJ29.out; have := HJ42.out; have := HJ65.out; first | omega | exact Nat.le_refl _⟩, ⟨by (with_reducible repeat (first | refine blk_drewN ?_ _ | refine blk_drew ?_ | refine blk_alloc ?_ _)); exact BK520.out⟩, ⟨by (with_reducible repeat (first | refine blk_drewN ?_ _ | refine blk_drew ?_ | refine blk_alloc ?_ _)); exact BK521.out⟩, ⟨by repeat (first | (with_reducible first | exact HB.out | apply below_alloc | apply pw_below_drewN | apply below_drew1 | refine below_set ?_ GE520.out | refine below_set ?_ GE521.out) | exact HB.out)⟩⟩
  clear HC78
  try clear c1
  try clear c2
  try clear p2
  try clear c3
  try clear c4
  try clear c5
  try clear c6
  try clear c7
  try clear c8
  try clear c9
  try clear c14
  try clear c17
  try clear c19
  try clear c19b0
  try clear c19b1
  try clear c20
  try clear c23
  try clear c25
  try clear c27
  try clear c32
  try clear c34
  try clear c39
  try clear c42
  try clear c44
  try clear c44b0
  try clear c44b1
  try clear c46
  try clear c47
  try clear c49
  try clear c49b0
  try clear c49b1
  try clear c51
  try clear c54
  try clear c57
  try clear c57b0
  try clear c57b1
  try clear c59
  try clear c62
  try clear c65
  try clear c67
  try clear c67b0
  try clear c67b1
  try clear c68
  try clear c71
  try clear c73
  try clear c75
  try clear c79
  try clear c79b0
  try clear c79b1
  try clear c80
  try clear c83
  try clear hcz10_0
  try clear hcz10_1
  try clear hcz10_2
  try clear hcz10_3
  try clear hcz10_4
  try clear hcz12_0
  try clear hcz12_1
  try clear hcz12_2
  try clear hcz12_3
  try clear hcz12_4
  try clear hcz15_0
  try clear hcz15_1
  try clear hcz15_2
  try clear hcz15_3
  try clear hcz15_4
  try clear hcz21_0
  try clear hcz21_1
  try clear hcz21_2
  try clear hcz21_3
  try clear hcz21_4
  try clear hcz22_0
  try clear hcz22_1
  try clear hcz22_2
  try clear hcz22_3
  try clear hcz22_4
  try clear hcz24_0
  try clear hcz24_1
  try clear hcz24_2
  try clear hcz24_3
  try clear hcz24_4
  try clear hcz28_0
  try clear hcz28_1
  try clear hcz28_2
  try clear hcz28_3
  try clear hcz28_4
  try clear hcz29_0
  try clear hcz29_1
  try clear hcz29_2
  try clear hcz29_3
  try clear hcz29_4
  try clear hcz35_0
  try clear hcz35_1
  try clear hcz35_2
  try clear hcz35_3
  try clear hcz35_4
  try clear hcz37_0
  try clear hcz37_1
  try clear hcz37_2
  try clear hcz37_3
  try clear hcz37_4
  try clear hcz40_0
  try clear hcz40_1
  try clear hcz40_2
  try clear hcz40_3
  try clear hcz40_4
  try clear hcz48_0
  try clear hcz48_1
  try clear hcz48_2
  try clear hcz48_3
  try clear hcz48_4
  try clear hcz52_0
  try clear hcz52_1
  try clear hcz52_2
  try clear hcz52_3
  try clear hcz52_4
  try clear hcz53_0
  try clear hcz53_1
  try clear hcz53_2
  try clear hcz53_3
  try clear hcz53_4
  try clear hcz55_0
  try clear hcz55_1
  try clear hcz55_2
  try clear hcz55_3
  try clear hcz55_4
  try clear hcz56_0
  try clear hcz56_1
  try clear hcz56_2
  try clear hcz56_3
  try clear hcz56_4
  try clear hcz60_0
  try clear hcz60_1
  try clear hcz60_2
  try clear hcz60_3
  try clear hcz60_4
  try clear hcz61_0
  try clear hcz61_1
  try clear hcz61_2
  try clear hcz61_3
  try clear hcz61_4
  try clear hcz63_0
  try clear hcz63_1
  try clear hcz63_2
  try clear hcz63_3
  try clear hcz63_4
  try clear hcz64_0
  try clear hcz64_1
  try clear hcz64_2
  try clear hcz64_3
  try clear hcz64_4
  try clear hcz69_0
  try clear hcz69_1
  try clear hcz69_2
  try clear hcz69_3
  try clear hcz69_4
  try clear hcz70_0
  try clear hcz70_1
  try clear hcz70_2
  try clear hcz70_3
  try clear hcz70_4
  try clear hcz72_0
  try clear hcz72_1
  try clear hcz72_2
  try clear hcz72_3
  try clear hcz72_4
  try clear hcz76_0
  try clear hcz76_1
  try clear hcz76_2
  try clear hcz76_3
  try clear hcz76_4
  try clear hcz77_0
  try clear hcz77_1
  try clear hcz77_2
  try clear hcz77_3
  try clear hcz77_4
  try clear hcz81_0
  try clear hcz81_1
  try clear hcz81_2
  try clear hcz81_3
  try clear hcz81_4
  try clear hcz82_0
  try clear hcz82_1
  try clear hcz82_2
  try clear hcz82_3
  try clear hcz82_4
  try clear hcz84_0
  try clear hcz84_1
  try clear hcz84_2
  try clear hcz84_3
  try clear hcz84_4
  try clear hfz10_0
  try clear hfz10_1
  try clear hfz10_2
  try clear hfz10_3
  try clear hfz10_4
  try clear hfz12_0
  try clear hfz12_1
  try clear hfz12_2
  try clear hfz12_3
  try clear hfz12_4
  try clear hfz15_0
  try clear hfz15_1
  try clear hfz15_2
  try clear hfz15_3
  try clear hfz15_4
  try clear hfz21_0
  try clear hfz21_1
  try clear hfz21_2
  try clear hfz21_3
  try clear hfz21_4
  try clear hfz22_0
  try clear hfz22_1
  try clear hfz22_2
  try clear hfz22_3
  try clear hfz22_4
  try clear hfz24_0
  try clear hfz24_1
  try clear hfz24_2
  try clear hfz24_3
  try clear hfz24_4
  try clear hfz28_0
  try clear hfz28_1
  try clear hfz28_2
  try clear hfz28_3
  try clear hfz28_4
  try clear hfz29_0
  try clear hfz29_1
  try clear hfz29_2
  try clear hfz29_3
  try clear hfz29_4
  try clear hfz35_0
  try clear hfz35_1
  try clear hfz35_2
  try clear hfz35_3
  try clear hfz35_4
  try clear hfz37_0
  try clear hfz37_1
  try clear hfz37_2
  try clear hfz37_3
  try clear hfz37_4
  try clear hfz40_0
  try clear hfz40_1
  try clear hfz40_2
  try clear hfz40_3
  try clear hfz40_4
  try clear hfz48_0
  try clear hfz48_1
  try clear hfz48_2
  try clear hfz48_3
  try clear hfz48_4
  try clear hfz52_0
  try clear hfz52_1
  try clear hfz52_2
  try clear hfz52_3
  try clear hfz52_4
  try clear hfz53_0
  try clear hfz53_1
  try clear hfz53_2
  try clear hfz53_3
  try clear hfz53_4
  try clear hfz55_0
  try clear hfz55_1
  try clear hfz55_2
  try clear hfz55_3
  try clear hfz55_4
  try clear hfz56_0
  try clear hfz56_1
  try clear hfz56_2
  try clear hfz56_3
  try clear hfz56_4
  try clear hfz60_0
  try clear hfz60_1
  try clear hfz60_2
  try clear hfz60_3
  try clear hfz60_4
  try clear hfz61_0
  try clear hfz61_1
  try clear hfz61_2
  try clear hfz61_3
  try clear hfz61_4
  try clear hfz63_0
  try clear hfz63_1
  try clear hfz63_2
  try clear hfz63_3
  try clear hfz63_4
  try clear hfz64_0
  try clear hfz64_1
  try clear hfz64_2
  try clear hfz64_3
  try clear hfz64_4
  try clear hfz69_0
  try clear hfz69_1
  try clear hfz69_2
  try clear hfz69_3
  try clear hfz69_4
  try clear hfz70_0
  try clear hfz70_1
  try clear hfz70_2
  try clear hfz70_3
  try clear hfz70_4
  try clear hfz72_0
  try clear hfz72_1
  try clear hfz72_2
  try clear hfz72_3
  try clear hfz72_4
  try clear hfz76_0
  try clear hfz76_1
  try clear hfz76_2
  try clear hfz76_3
  try clear hfz76_4
  try clear hfz77_0
  try clear hfz77_1
  try clear hfz77_2
  try clear hfz77_3
  try clear hfz77_4
  try clear hfz81_0
  try clear hfz81_1
  try clear hfz81_2
  try clear hfz81_3
  try clear hfz81_4
  try clear hfz82_0
  try clear hfz82_1
  try clear hfz82_2
  try clear hfz82_3
  try clear hfz82_4
  try clear hfz84_0
  try clear hfz84_1
  try clear hfz84_2
  try clear hfz84_3
  try clear hfz84_4
  try clear p2
  obtain ⟨kq, x72_77, rfl, HA, HJ77, BK520, BK521, HB⟩ := hcut
  rcases kq with _ | kj77
  · exact absurd HA.out (by simp [spec_Compare.j5])
  have H := HA.out
  clear HA
  simp only [spec_Compare.j5] at H
  by_cases c85 : x72_77 = true
  · subst c85
    have H1 : ((spec_l1intflt.f kj77 a1_1 a0_2).bind fun t531 => (some (wrap64 (-t531)))) = some r := by rw [if_pos rfl] at H; exact H
    clear H
    have H := H1
    clear H1
    replace H := Option.bind_eq_some_iff.mp H
    obtain ⟨t531, A860, H⟩ := H
    replace H : (some (wrap64 (-t531))) = some r := H
    have A86 := Aside0.mk A860
    clear A860
    obtain rfl := Option.some.inj H
    have hnb87 := NB521_520.out
    have hnc87 := NB520_521.out
    obtain ⟨hcz88_0, hcz88_1, hcz88_2, hcz88_3, hcz88_4, hfz88_0, hfz88_1, hfz88_2, hfz88_3, hfz88_4⟩ := cells5 BK521.out
    obtain ⟨hcz89_0, hcz89_1, hcz89_2, hcz89_3, hcz89_4, hfz89_0, hfz89_1, hfz89_2, hfz89_3, hfz89_4⟩ := cells5 BK520.out
    go_wp2_with (first | ((with_reducible refine gate_callee (f := 73) rfl ?_); refine goesS (some 77) rfl Try.func73 #[.int .i64 a1_1, .float .f64 a0_2] rfl ?_; (with_reducible refine (spec_l1intflt.calls kj77 a1_1 a0_2 t531 _ A86.out).mono ?_); rintro e w' ⟨rfl, ⟨nd, rfl⟩⟩; refine ⟨_, rfl, ?_⟩))
    go_ret
    exact ⟨by first | rfl | (simp <;> rfl) | (simp [*] <;> rfl), hbe2 HB.out GE520.out GE521.out⟩
  focus
   replace c85 := Bool.eq_false_iff.mpr c85
   subst c85
   have H1 : (if a0_0 = 2 then (if a0_1 < a1_1 then (some (-1)) else (if a0_1 > a1_1 then (some 1) else (some 0))) else (if (flss a0_2 a1_2) = true then (some (-1)) else (if (fgtr a0_2 a1_2) = true then (some 1) else (some 0)))) = some r := by rw [if_neg (show ¬ (false = true) by decide)] at H; exact H
   clear H
   have H := H1
   clear H1
   by_cases c90 : a0_0 = 2
   focus
    rw [if_pos c90] at H
    have c90b0 : (a0_0 == 2) = true := beq_iff_eq.mpr c90
    have c90b1 : (a0_0 != 2) = false := bne_eq_false_iff_eq.mpr c90
    clear c90
    by_cases c91 : a0_1 < a1_1
    focus
     rw [if_pos c91] at H
     have c91b0 : decide (a0_1 < a1_1) = true := decide_eq_true c91
     clear c91
     obtain rfl := Option.some.inj H
     have hnb92 := NB520_521.out
     have hnc92 := NB521_520.out
     obtain ⟨hcz93_0, hcz93_1, hcz93_2, hcz93_3, hcz93_4, hfz93_0, hfz93_1, hfz93_2, hfz93_3, hfz93_4⟩ := cells5 BK520.out
     obtain ⟨hcz94_0, hcz94_1, hcz94_2, hcz94_3, hcz94_4, hfz94_0, hfz94_1, hfz94_2, hfz94_3, hfz94_4⟩ := cells5 BK521.out
    rotate_left 1
    focus
     rw [if_neg c91] at H
     have c91b0 : decide (a0_1 < a1_1) = false := decide_eq_false c91
     clear c91
     by_cases c95 : a0_1 > a1_1
     focus
      rw [if_pos c95] at H
      have c95b0 : decide (a1_1 < a0_1) = true := decide_eq_true c95
      clear c95
      obtain rfl := Option.some.inj H
      have hnb96 := NB520_521.out
      have hnc96 := NB521_520.out
      obtain ⟨hcz97_0, hcz97_1, hcz97_2, hcz97_3, hcz97_4, hfz97_0, hfz97_1, hfz97_2, hfz97_3, hfz97_4⟩ := cells5 BK520.out
      obtain ⟨hcz98_0, hcz98_1, hcz98_2, hcz98_3, hcz98_4, hfz98_0, hfz98_1, hfz98_2, hfz98_3, hfz98_4⟩ := cells5 BK521.out
     rotate_left 1
     focus
      rw [if_neg c95] at H
      have c95b0 : decide (a1_1 < a0_1) = false := decide_eq_false c95
      clear c95
      obtain rfl := Option.some.inj H
      have hnb99 := NB520_521.out
      have hnc99 := NB521_520.out
      obtain ⟨hcz100_0, hcz100_1, hcz100_2, hcz100_3, hcz100_4, hfz100_0, hfz100_1, hfz100_2, hfz100_3, hfz100_4⟩ := cells5 BK520.out
      obtain ⟨hcz101_0, hcz101_1, hcz101_2, hcz101_3, hcz101_4, hfz101_0, hfz101_1, hfz101_2, hfz101_3, hfz101_4⟩ := cells5 BK521.out
   rotate_left 3
   focus
    rw [if_neg c90] at H
    have c90b0 : (a0_0 == 2) = false := beq_eq_false_iff_ne.mpr c90
    have c90b1 : (a0_0 != 2) = true := bne_iff_ne.mpr c90
    by_cases c102 : (flss a0_2 a1_2) = true
    focus
     rw [if_pos c102] at H
     have c102b0 : (flss a0_2 a1_2) = true := c102
     clear c102
     obtain rfl := Option.some.inj H
     have hnb103 := NB520_521.out
     have hnc103 := NB521_520.out
     obtain ⟨hcz104_0, hcz104_1, hcz104_2, hcz104_3, hcz104_4, hfz104_0, hfz104_1, hfz104_2, hfz104_3, hfz104_4⟩ := cells5 BK520.out
     obtain ⟨hcz105_0, hcz105_1, hcz105_2, hcz105_3, hcz105_4, hfz105_0, hfz105_1, hfz105_2, hfz105_3, hfz105_4⟩ := cells5 BK521.out
    rotate_left 1
    focus
     rw [if_neg c102] at H
     have c102b0 : (flss a0_2 a1_2) = false := by simpa using c102
     clear c102
     by_cases c106 : (fgtr a0_2 a1_2) = true
     focus
      rw [if_pos c106] at H
      have c106b0 : (fgtr a0_2 a1_2) = true := c106
      clear c106
      obtain rfl := Option.some.inj H
      have hnb107 := NB520_521.out
      have hnc107 := NB521_520.out
      obtain ⟨hcz108_0, hcz108_1, hcz108_2, hcz108_3, hcz108_4, hfz108_0, hfz108_1, hfz108_2, hfz108_3, hfz108_4⟩ := cells5 BK520.out
      obtain ⟨hcz109_0, hcz109_1, hcz109_2, hcz109_3, hcz109_4, hfz109_0, hfz109_1, hfz109_2, hfz109_3, hfz109_4⟩ := cells5 BK521.out
     rotate_left 1
     focus
      rw [if_neg c106] at H
      have c106b0 : (fgtr a0_2 a1_2) = false := by simpa using c106
      clear c106
      obtain rfl := Option.some.inj H
      have hnb110 := NB520_521.out
      have hnc110 := NB521_520.out
      obtain ⟨hcz111_0, hcz111_1, hcz111_2, hcz111_3, hcz111_4, hfz111_0, hfz111_1, hfz111_2, hfz111_3, hfz111_4⟩ := cells5 BK520.out
      obtain ⟨hcz112_0, hcz112_1, hcz112_2, hcz112_3, hcz112_4, hfz112_0, hfz112_1, hfz112_2, hfz112_3, hfz112_4⟩ := cells5 BK521.out
  all_goals
   go_wp2
   go_ret
   exact ⟨by first | rfl | (simp <;> rfl) | (simp [*] <;> rfl), hbe2 HB.out GE520.out GE521.out⟩
end Go.Proofs.Ytdjlbfaiccdbfaa.PAll
