/- Cut down from the texts of the same job by wip/shake.py to what this claim reaches. -/
import Derived.Test.YtdjlbfaiccdbfaaKLGx0
import Derived.Test.YtdjlbfaiccdbfaaKLGx1
import Derived.Test.YtdjlbfaiccdbfaaKLGx2
import Derived.Test.YtdjlbfaiccdbfaaKLGx12
import Derived.Test.YtdjlbfaiccdbfaaKLGx13
import Derived.Test.YtdjlbfaiccdbfaaKLGx15
namespace Go.Proofs.Ytdjlbfaiccdbfaa.PAll
open Go.RowKit Go.Proofs.YtdjlbfaiccdbfaaW.PrintWords Go.Proofs.YtdjlbfaiccdbfaaW.PrintLast Go.Proofs.YtdjlbfaiccdbfaaW.PrintMore
attribute [local go_sem] max2_int min2_int max_two min_two max_three min_three max_four min_four   -- for this text's walks alone
set_option linter.unusedVariables false
set_option linter.unusedSimpArgs false
def spec_Same.j0 : Nat → Bool → Int → Int → Nat → ByteArray → Int → Int → Int → Nat → ByteArray → Int → Option (Bool)
  | 0, _, _, _, _, _, _, _, _, _, _, _ => none
  | k + 1, x12, x571000, x571001, x571002, x571003, x571004, x572000, x572001, x572002, x572003, x572004 => if x12 = true then (some false) else ((spec_l1num.f x571000 x571001 x571002 x571003 x571004).bind fun t574 => (if t574 = true then ((spec_l1num.f x572000 x572001 x572002 x572003 x572004).bind fun t575 => (if t575 = true then ((spec_Compare.f k x571000 x571001 x571002 x571003 x571004 x572000 x572001 x572002 x572003 x572004).bind fun t576 => (some (t576 == 0))) else (if x571000 = x572000 then (if x571001 = x572001 then (if x571003.toList = x572003.toList then (some (x571004 == x572004)) else (some false)) else (some false)) else (some false)))) else (if x571000 = x572000 then (if x571001 = x572001 then (if x571003.toList = x572003.toList then (some (x571004 == x572004)) else (some false)) else (some false)) else (some false))))
def spec_Same.f (k : Nat) (a0_0 : Int) (a0_1 : Int) (a0_2 : Nat) (a0_3 : ByteArray) (a0_4 : Int) (a1_0 : Int) (a1_1 : Int) (a1_2 : Nat) (a1_3 : ByteArray) (a1_4 : Int) : Option (Bool) := (spec_ValueOk.f k a0_0 a0_1 a0_2 a0_3 a0_4).bind fun t572 => (if t572 = true then ((spec_ValueOk.f k a1_0 a1_1 a1_2 a1_3 a1_4).bind fun t573 => (spec_Same.j0 k (!t573) a0_0 a0_1 a0_2 a0_3 a0_4 a1_0 a1_1 a1_2 a1_3 a1_4)) else (spec_Same.j0 k true a0_0 a0_1 a0_2 a0_3 a0_4 a1_0 a1_1 a1_2 a1_3 a1_4))
set_option maxHeartbeats 8000000 in
set_option maxRecDepth 100000 in
theorem spec_Same.calls (k : Nat) (a0_0 : Int) (a0_1 : Int) (a0_2 : Nat) (a0_3 : ByteArray) (a0_4 : Int) (a1_0 : Int) (a1_1 : Int) (a1_2 : Nat) (a1_3 : ByteArray) (a1_4 : Int) (r : Bool) (w : World) (h : spec_Same.f k a0_0 a0_1 a0_2 a0_3 a0_4 a1_0 a1_1 a1_2 a1_3 a1_4 = some r) :
    Calls Try.prog 34 #[.agg #[.int .i64 a0_0, .int .i64 a0_1, .float .f64 a0_2, .string a0_3, .int .i64 a0_4], .agg #[.int .i64 a1_0, .int .i64 a1_1, .float .f64 a1_2, .string a1_3, .int .i64 a1_4]] w fun e w' => e = .returned (.bool r) ∧ Below w.heap.size w w' := by
  have hu28 := Try.underlying28
  have HB := Aside0.mk (Below.refl w.heap.size w)
  have H : ((spec_ValueOk.f k a0_0 a0_1 a0_2 a0_3 a0_4).bind fun t572 => (if t572 = true then ((spec_ValueOk.f k a1_0 a1_1 a1_2 a1_3 a1_4).bind fun t573 => (spec_Same.j0 k (!t573) a0_0 a0_1 a0_2 a0_3 a0_4 a1_0 a1_1 a1_2 a1_3 a1_4)) else (spec_Same.j0 k true a0_0 a0_1 a0_2 a0_3 a0_4 a1_0 a1_1 a1_2 a1_3 a1_4))) = some r := h
  clear h
  have HC3 := Aside0.mk H
  clear H
  go_enter Try.func34, Try.ntmps34
  go_upto_region 1 with (first | ((with_reducible refine gate_dst (N := 2) rfl ?_); refine box_event rfl (N := 2) rfl (cs := #[.int .i64 a0_0, .int .i64 a0_1, .float .f64 a0_2, .string a0_3, .int .i64 a0_4]) (t := 28) (by first | (go_simp; done) | (go_simp; rfl)) ?_; intro gb570 hg w4 hbox hb; have BK570 := Aside0.mk (hbox); have GW570 := (gws hg (hbe HB.out) : Aside0 (w.heap.size ≤ gb570)); have GE570 := (gws hg (hbe HB.out) : Aside0 (w.heap.size ≤ gb570)); replace HB := hbs HB.out hb; clear hb hbox hg) | ((with_reducible refine gate_dst (N := 3) rfl ?_); refine box_event rfl (N := 3) rfl (cs := #[.int .i64 a1_0, .int .i64 a1_1, .float .f64 a1_2, .string a1_3, .int .i64 a1_4]) (t := 28) (by first | (go_simp; done) | (go_simp; rfl)) ?_; intro gb571 hg w5 hbox hb; have BK571 := Aside0.mk (hbox); have GW571 := (gws hg (hbe1 HB.out GE570.out) : Aside0 (w.heap.size ≤ gb571)); have GE571 := (gws hg (hbe1 HB.out GE570.out) : Aside0 (w.heap.size ≤ gb571)); replace HB := hbs1 HB.out GE570.out hb; have NB570_571 := nlt hg BK570.out; have NB571_570 := ngt hg BK570.out; replace BK570 := bku BK570.out hb; clear hb hbox hg))
  (try simp only [Act.put, List.setIfInBounds_toArray, List.set_cons_zero, List.set_cons_succ])
  go_cut [12] (fun v12 wc => ∃ (kq : Nat) (x12_2 : Bool), v12 = .bool x12_2 ∧ Aside0 (spec_Same.j0 kq x12_2 a0_0 a0_1 a0_2 a0_3 a0_4 a1_0 a1_1 a1_2 a1_3 a1_4 = some r) ∧ Aside0 (kq ≤ k) ∧ Aside0 (wc.heap[gb570]? = some (.cells #[.int .i64 a0_0, .int .i64 a0_1, .float .f64 a0_2, .string a0_3, .int .i64 a0_4] 28 (0, 0))) ∧ Aside0 (wc.heap[gb571]? = some (.cells #[.int .i64 a1_0, .int .i64 a1_1, .float .f64 a1_2, .string a1_3, .int .i64 a1_4] 28 (0, 0))) ∧ Aside0 (Below w.heap.size w wc))
  case first =>
    have H := HC3.out
    clear HC3
    replace H := Option.bind_eq_some_iff.mp H
    obtain ⟨t572, A60, H⟩ := H
    replace H : (if t572 = true then ((spec_ValueOk.f k a1_0 a1_1 a1_2 a1_3 a1_4).bind fun t573 => (spec_Same.j0 k (!t573) a0_0 a0_1 a0_2 a0_3 a0_4 a1_0 a1_1 a1_2 a1_3 a1_4)) else (spec_Same.j0 k true a0_0 a0_1 a0_2 a0_3 a0_4 a1_0 a1_1 a1_2 a1_3 a1_4)) = some r := H
    have A6 := Aside0.mk A60
    clear A60
    by_cases c7 : t572 = true
    rotate_left 1
    · replace c7 := Bool.eq_false_iff.mpr c7
      subst c7
      have H1 : (spec_Same.j0 k true a0_0 a0_1 a0_2 a0_3 a0_4 a1_0 a1_1 a1_2 a1_3 a1_4) = some r := by rw [if_neg (show ¬ (false = true) by decide)] at H; exact H
      clear H
      have H := H1
      clear H1
      have H' := Aside0.mk H
      clear H
      have hnb14 := NB570_571.out
      have hnc14 := NB571_570.out
      obtain ⟨hcz15_0, hcz15_1, hcz15_2, hcz15_3, hcz15_4, hfz15_0, hfz15_1, hfz15_2, hfz15_3, hfz15_4⟩ := cells5 BK570.out
      go_wp2_with (first | ((with_reducible refine gate_callee (f := 17) rfl ?_); refine goesS (some 6) rfl Try.func17 #[.agg #[.int .i64 a0_0, .int .i64 a0_1, .float .f64 a0_2, .string a0_3, .int .i64 a0_4]] rfl ?_; (with_reducible refine (spec_ValueOk.calls k a0_0 a0_1 a0_2 a0_3 a0_4 false _ A6.out).mono ?_); rintro e w16 ⟨rfl, hb⟩; refine ⟨_, rfl, ?_⟩; replace BK570 := bku BK570.out hb; replace BK571 := bku BK571.out hb; replace HB := hbs2 HB.out GE570.out GE571.out hb; (try clear hb); (try clear hb2); (try clear hk); (try clear hi)))
      go_meet
      case rel => exact ⟨_, (true), (by first | rfl | (simp; done) | (simp [*]; done)), H', ⟨by first | omega | exact Nat.le_refl _⟩, ⟨by (with_reducible repeat (first | refine blk_drewN ?_ _ | refine blk_drew ?_ | refine blk_alloc ?_ _)); exact BK570.out⟩, ⟨by (with_reducible repeat (first | refine blk_drewN ?_ _ | refine blk_drew ?_ | refine blk_alloc ?_ _)); exact BK571.out⟩, ⟨by repeat (first | (with_reducible first | exact HB.out | apply below_alloc | apply pw_below_drewN | apply below_drew1 | refine below_set ?_ GE570.out | refine below_set ?_ GE571.out) | exact HB.out)⟩⟩
    subst c7
    have H1 : ((spec_ValueOk.f k a1_0 a1_1 a1_2 a1_3 a1_4).bind fun t573 => (spec_Same.j0 k (!t573) a0_0 a0_1 a0_2 a0_3 a0_4 a1_0 a1_1 a1_2 a1_3 a1_4)) = some r := by rw [if_pos rfl] at H; exact H
    clear H
    have H := H1
    clear H1
    replace H := Option.bind_eq_some_iff.mp H
    obtain ⟨t573, A80, H⟩ := H
    replace H : (spec_Same.j0 k (!t573) a0_0 a0_1 a0_2 a0_3 a0_4 a1_0 a1_1 a1_2 a1_3 a1_4) = some r := H
    have A8 := Aside0.mk A80
    clear A80
    have H' := Aside0.mk H
    clear H
    have hnb9 := NB570_571.out
    have hnc9 := NB571_570.out
    obtain ⟨hcz10_0, hcz10_1, hcz10_2, hcz10_3, hcz10_4, hfz10_0, hfz10_1, hfz10_2, hfz10_3, hfz10_4⟩ := cells5 BK570.out
    go_wp2_with (first | ((with_reducible refine gate_callee (f := 17) rfl ?_); refine goesS (some 6) rfl Try.func17 #[.agg #[.int .i64 a0_0, .int .i64 a0_1, .float .f64 a0_2, .string a0_3, .int .i64 a0_4]] rfl ?_; (with_reducible refine (spec_ValueOk.calls k a0_0 a0_1 a0_2 a0_3 a0_4 true _ A6.out).mono ?_); rintro e w11 ⟨rfl, hb⟩; refine ⟨_, rfl, ?_⟩; replace BK570 := bku BK570.out hb; replace BK571 := bku BK571.out hb; replace HB := hbs2 HB.out GE570.out GE571.out hb; (try clear hb); (try clear hb2); (try clear hk); (try clear hi); obtain ⟨hcz12_0, hcz12_1, hcz12_2, hcz12_3, hcz12_4, hfz12_0, hfz12_1, hfz12_2, hfz12_3, hfz12_4⟩ := cells5 BK571.out) | (go_at_call 17; (with_reducible refine (spec_ValueOk.calls k a1_0 a1_1 a1_2 a1_3 a1_4 t573 _ A8.out).mono ?_); rintro e w13 ⟨rfl, hb⟩; replace BK570 := bku BK570.out hb; replace BK571 := bku BK571.out hb; replace HB := hbs2 HB.out GE570.out GE571.out hb; (try clear hb); (try clear hb2); (try clear hk); (try clear hi)))
    go_meet
    case rel => exact ⟨_, (!t573), (by first | rfl | (simp; done) | (simp [*]; done)), H', ⟨by first | omega | exact Nat.le_refl _⟩, ⟨by (with_reducible repeat (first | refine blk_drewN ?_ _ | refine blk_drew ?_ | refine blk_alloc ?_ _)); exact BK570.out⟩, ⟨by (with_reducible repeat (first | refine blk_drewN ?_ _ | refine blk_drew ?_ | refine blk_alloc ?_ _)); exact BK571.out⟩, ⟨by repeat (first | (with_reducible first | exact HB.out | apply below_alloc | apply pw_below_drewN | apply below_drew1 | refine below_set ?_ GE570.out | refine below_set ?_ GE571.out) | exact HB.out)⟩⟩
  clear HC3
  try clear c1
  try clear p2
  try clear c3
  try clear c7
  try clear c9
  try clear c14
  try clear hcz10_0
  try clear hcz10_1
  try clear hcz10_2
  try clear hcz10_3
  try clear hcz10_4
  try clear hcz12_0
  try clear hcz12_1
  try clear hcz12_2
  try clear hcz12_3
  try clear hcz12_4
  try clear hcz15_0
  try clear hcz15_1
  try clear hcz15_2
  try clear hcz15_3
  try clear hcz15_4
  try clear hfz10_0
  try clear hfz10_1
  try clear hfz10_2
  try clear hfz10_3
  try clear hfz10_4
  try clear hfz12_0
  try clear hfz12_1
  try clear hfz12_2
  try clear hfz12_3
  try clear hfz12_4
  try clear hfz15_0
  try clear hfz15_1
  try clear hfz15_2
  try clear hfz15_3
  try clear hfz15_4
  obtain ⟨kq, x12_2, rfl, HA, HJ2, BK570, BK571, HB⟩ := hcut
  rcases kq with _ | kj2
  · exact absurd HA.out (by simp [spec_Same.j0])
  have H := HA.out
  clear HA
  simp only [spec_Same.j0] at H
  by_cases c17 : x12_2 = true
  · subst c17
    have H1 : (some false) = some r := by rw [if_pos rfl] at H; exact H
    clear H
    have H := H1
    clear H1
    obtain rfl := Option.some.inj H
    go_wp2
    go_ret
    exact ⟨by first | rfl | (simp <;> rfl) | (simp [*] <;> rfl), hbe2 HB.out GE570.out GE571.out⟩
  focus
   replace c17 := Bool.eq_false_iff.mpr c17
   subst c17
   have H1 : ((spec_l1num.f a0_0 a0_1 a0_2 a0_3 a0_4).bind fun t574 => (if t574 = true then ((spec_l1num.f a1_0 a1_1 a1_2 a1_3 a1_4).bind fun t575 => (if t575 = true then ((spec_Compare.f kj2 a0_0 a0_1 a0_2 a0_3 a0_4 a1_0 a1_1 a1_2 a1_3 a1_4).bind fun t576 => (some (t576 == 0))) else (if a0_0 = a1_0 then (if a0_1 = a1_1 then (if a0_3.toList = a1_3.toList then (some (a0_4 == a1_4)) else (some false)) else (some false)) else (some false)))) else (if a0_0 = a1_0 then (if a0_1 = a1_1 then (if a0_3.toList = a1_3.toList then (some (a0_4 == a1_4)) else (some false)) else (some false)) else (some false)))) = some r := by rw [if_neg (show ¬ (false = true) by decide)] at H; exact H
   clear H
   have H := H1
   clear H1
   replace H := Option.bind_eq_some_iff.mp H
   obtain ⟨t574, A180, H⟩ := H
   replace H : (if t574 = true then ((spec_l1num.f a1_0 a1_1 a1_2 a1_3 a1_4).bind fun t575 => (if t575 = true then ((spec_Compare.f kj2 a0_0 a0_1 a0_2 a0_3 a0_4 a1_0 a1_1 a1_2 a1_3 a1_4).bind fun t576 => (some (t576 == 0))) else (if a0_0 = a1_0 then (if a0_1 = a1_1 then (if a0_3.toList = a1_3.toList then (some (a0_4 == a1_4)) else (some false)) else (some false)) else (some false)))) else (if a0_0 = a1_0 then (if a0_1 = a1_1 then (if a0_3.toList = a1_3.toList then (some (a0_4 == a1_4)) else (some false)) else (some false)) else (some false))) = some r := H
   have A18 := Aside0.mk A180
   clear A180
   by_cases c19 : t574 = true
   focus
    subst c19
    have H1 : ((spec_l1num.f a1_0 a1_1 a1_2 a1_3 a1_4).bind fun t575 => (if t575 = true then ((spec_Compare.f kj2 a0_0 a0_1 a0_2 a0_3 a0_4 a1_0 a1_1 a1_2 a1_3 a1_4).bind fun t576 => (some (t576 == 0))) else (if a0_0 = a1_0 then (if a0_1 = a1_1 then (if a0_3.toList = a1_3.toList then (some (a0_4 == a1_4)) else (some false)) else (some false)) else (some false)))) = some r := by rw [if_pos rfl] at H; exact H
    clear H
    have H := H1
    clear H1
    replace H := Option.bind_eq_some_iff.mp H
    obtain ⟨t575, A200, H⟩ := H
    replace H : (if t575 = true then ((spec_Compare.f kj2 a0_0 a0_1 a0_2 a0_3 a0_4 a1_0 a1_1 a1_2 a1_3 a1_4).bind fun t576 => (some (t576 == 0))) else (if a0_0 = a1_0 then (if a0_1 = a1_1 then (if a0_3.toList = a1_3.toList then (some (a0_4 == a1_4)) else (some false)) else (some false)) else (some false))) = some r := H
    have A20 := Aside0.mk A200
    clear A200
    by_cases c21 : t575 = true
    · subst c21
      have H1 : ((spec_Compare.f kj2 a0_0 a0_1 a0_2 a0_3 a0_4 a1_0 a1_1 a1_2 a1_3 a1_4).bind fun t576 => (some (t576 == 0))) = some r := by rw [if_pos rfl] at H; exact H
      clear H
      have H := H1
      clear H1
      replace H := Option.bind_eq_some_iff.mp H
      obtain ⟨t576, A220, H⟩ := H
      replace H : (some (t576 == 0)) = some r := H
      have A22 := Aside0.mk A220
      clear A220
      obtain rfl := Option.some.inj H
      have hnb23 := NB570_571.out
      have hnc23 := NB571_570.out
      obtain ⟨hcz24_0, hcz24_1, hcz24_2, hcz24_3, hcz24_4, hfz24_0, hfz24_1, hfz24_2, hfz24_3, hfz24_4⟩ := cells5 BK570.out
      go_wp2_with (first | ((with_reducible refine gate_callee (f := 72) rfl ?_); refine goesS (some 14) rfl Try.func72 #[.agg #[.int .i64 a0_0, .int .i64 a0_1, .float .f64 a0_2, .string a0_3, .int .i64 a0_4]] rfl ?_; (with_reducible refine (spec_l1num.calls a0_0 a0_1 a0_2 a0_3 a0_4 true _ A18.out).mono ?_); rintro e w25 ⟨rfl, hb⟩; refine ⟨_, rfl, ?_⟩; replace BK570 := bku BK570.out hb; replace BK571 := bku BK571.out hb; replace HB := hbs2 HB.out GE570.out GE571.out hb; (try clear hb); (try clear hb2); (try clear hk); (try clear hi); obtain ⟨hcz26_0, hcz26_1, hcz26_2, hcz26_3, hcz26_4, hfz26_0, hfz26_1, hfz26_2, hfz26_3, hfz26_4⟩ := cells5 BK571.out) | (go_at_call 72; (with_reducible refine (spec_l1num.calls a1_0 a1_1 a1_2 a1_3 a1_4 true _ A20.out).mono ?_); rintro e w27 ⟨rfl, hb⟩; replace BK570 := bku BK570.out hb; replace BK571 := bku BK571.out hb; replace HB := hbs2 HB.out GE570.out GE571.out hb; (try clear hb); (try clear hb2); (try clear hk); (try clear hi); obtain ⟨hcz28_0, hcz28_1, hcz28_2, hcz28_3, hcz28_4, hfz28_0, hfz28_1, hfz28_2, hfz28_3, hfz28_4⟩ := cells5 BK570.out; obtain ⟨hcz29_0, hcz29_1, hcz29_2, hcz29_3, hcz29_4, hfz29_0, hfz29_1, hfz29_2, hfz29_3, hfz29_4⟩ := cells5 BK571.out) | ((with_reducible refine gate_callee (f := 32) rfl ?_); refine goesS (some 21) rfl Try.func32 #[.agg #[.int .i64 a0_0, .int .i64 a0_1, .float .f64 a0_2, .string a0_3, .int .i64 a0_4], .agg #[.int .i64 a1_0, .int .i64 a1_1, .float .f64 a1_2, .string a1_3, .int .i64 a1_4]] rfl ?_; (with_reducible refine (spec_Compare.calls kj2 a0_0 a0_1 a0_2 a0_3 a0_4 a1_0 a1_1 a1_2 a1_3 a1_4 t576 _ A22.out).mono ?_); rintro e w30 ⟨rfl, hb⟩; refine ⟨_, rfl, ?_⟩; replace BK570 := bku BK570.out hb; replace BK571 := bku BK571.out hb; replace HB := hbs2 HB.out GE570.out GE571.out hb; (try clear hb); (try clear hb2); (try clear hk); (try clear hi)))
      go_ret
      exact ⟨by first | rfl | (simp <;> rfl) | (simp [*] <;> rfl), hbe2 HB.out GE570.out GE571.out⟩
    focus
     replace c21 := Bool.eq_false_iff.mpr c21
     subst c21
     have H1 : (if a0_0 = a1_0 then (if a0_1 = a1_1 then (if a0_3.toList = a1_3.toList then (some (a0_4 == a1_4)) else (some false)) else (some false)) else (some false)) = some r := by rw [if_neg (show ¬ (false = true) by decide)] at H; exact H
     clear H
     have H := H1
     clear H1
     by_cases c31 : a0_0 = a1_0
     focus
      rw [if_pos c31] at H
      have c31b0 : (a0_0 == a1_0) = true := beq_iff_eq.mpr c31
      have c31b1 : (a0_0 != a1_0) = false := bne_eq_false_iff_eq.mpr c31
      clear c31
      by_cases c32 : a0_1 = a1_1
      focus
       rw [if_pos c32] at H
       have c32b0 : (a0_1 == a1_1) = true := beq_iff_eq.mpr c32
       have c32b1 : (a0_1 != a1_1) = false := bne_eq_false_iff_eq.mpr c32
       clear c32
       by_cases c33 : a0_3.toList = a1_3.toList
       focus
        rw [if_pos c33] at H
        have c33b0 : (a0_3.toList == a1_3.toList) = true := beq_iff_eq.mpr c33
        have c33b1 : (a0_3.toList != a1_3.toList) = false := bne_eq_false_iff_eq.mpr c33
        clear c33
        obtain rfl := Option.some.inj H
        have hnb34 := NB570_571.out
        have hnc34 := NB571_570.out
        obtain ⟨hcz35_0, hcz35_1, hcz35_2, hcz35_3, hcz35_4, hfz35_0, hfz35_1, hfz35_2, hfz35_3, hfz35_4⟩ := cells5 BK570.out
       rotate_left 1
       focus
        rw [if_neg c33] at H
        have c33b0 : (a0_3.toList == a1_3.toList) = false := beq_eq_false_iff_ne.mpr c33
        have c33b1 : (a0_3.toList != a1_3.toList) = true := bne_iff_ne.mpr c33
        obtain rfl := Option.some.inj H
        have hnb41 := NB570_571.out
        have hnc41 := NB571_570.out
        obtain ⟨hcz42_0, hcz42_1, hcz42_2, hcz42_3, hcz42_4, hfz42_0, hfz42_1, hfz42_2, hfz42_3, hfz42_4⟩ := cells5 BK570.out
      rotate_left 2
      focus
       rw [if_neg c32] at H
       have c32b0 : (a0_1 == a1_1) = false := beq_eq_false_iff_ne.mpr c32
       have c32b1 : (a0_1 != a1_1) = true := bne_iff_ne.mpr c32
       obtain rfl := Option.some.inj H
       have hnb48 := NB570_571.out
       have hnc48 := NB571_570.out
       obtain ⟨hcz49_0, hcz49_1, hcz49_2, hcz49_3, hcz49_4, hfz49_0, hfz49_1, hfz49_2, hfz49_3, hfz49_4⟩ := cells5 BK570.out
     rotate_left 3
     focus
      rw [if_neg c31] at H
      have c31b0 : (a0_0 == a1_0) = false := beq_eq_false_iff_ne.mpr c31
      have c31b1 : (a0_0 != a1_0) = true := bne_iff_ne.mpr c31
      obtain rfl := Option.some.inj H
      have hnb55 := NB570_571.out
      have hnc55 := NB571_570.out
      obtain ⟨hcz56_0, hcz56_1, hcz56_2, hcz56_3, hcz56_4, hfz56_0, hfz56_1, hfz56_2, hfz56_3, hfz56_4⟩ := cells5 BK570.out
   rotate_left 4
   · replace c19 := Bool.eq_false_iff.mpr c19
     subst c19
     have H1 : (if a0_0 = a1_0 then (if a0_1 = a1_1 then (if a0_3.toList = a1_3.toList then (some (a0_4 == a1_4)) else (some false)) else (some false)) else (some false)) = some r := by rw [if_neg (show ¬ (false = true) by decide)] at H; exact H
     clear H
     have H := H1
     clear H1
     by_cases c62 : a0_0 = a1_0
     rotate_left 1
     · rw [if_neg c62] at H
       have c62b0 : (a0_0 == a1_0) = false := beq_eq_false_iff_ne.mpr c62
       have c62b1 : (a0_0 != a1_0) = true := bne_iff_ne.mpr c62
       obtain rfl := Option.some.inj H
       have hnb80 := NB570_571.out
       have hnc80 := NB571_570.out
       obtain ⟨hcz81_0, hcz81_1, hcz81_2, hcz81_3, hcz81_4, hfz81_0, hfz81_1, hfz81_2, hfz81_3, hfz81_4⟩ := cells5 BK570.out
       go_wp2_with (first | ((with_reducible refine gate_callee (f := 72) rfl ?_); refine goesS (some 14) rfl Try.func72 #[.agg #[.int .i64 a0_0, .int .i64 a0_1, .float .f64 a0_2, .string a0_3, .int .i64 a0_4]] rfl ?_; (with_reducible refine (spec_l1num.calls a0_0 a0_1 a0_2 a0_3 a0_4 false _ A18.out).mono ?_); rintro e w82 ⟨rfl, hb⟩; refine ⟨_, rfl, ?_⟩; replace BK570 := bku BK570.out hb; replace BK571 := bku BK571.out hb; replace HB := hbs2 HB.out GE570.out GE571.out hb; (try clear hb); (try clear hb2); (try clear hk); (try clear hi); obtain ⟨hcz83_0, hcz83_1, hcz83_2, hcz83_3, hcz83_4, hfz83_0, hfz83_1, hfz83_2, hfz83_3, hfz83_4⟩ := cells5 BK570.out; obtain ⟨hcz84_0, hcz84_1, hcz84_2, hcz84_3, hcz84_4, hfz84_0, hfz84_1, hfz84_2, hfz84_3, hfz84_4⟩ := cells5 BK571.out))
       go_ret
       exact ⟨by first | rfl | (simp <;> rfl) | (simp [*] <;> rfl), hbe2 HB.out GE570.out GE571.out⟩
     rw [if_pos c62] at H
     have c62b0 : (a0_0 == a1_0) = true := beq_iff_eq.mpr c62
     have c62b1 : (a0_0 != a1_0) = false := bne_eq_false_iff_eq.mpr c62
     clear c62
     by_cases c63 : a0_1 = a1_1
     rotate_left 1
     · rw [if_neg c63] at H
       have c63b0 : (a0_1 == a1_1) = false := beq_eq_false_iff_ne.mpr c63
       have c63b1 : (a0_1 != a1_1) = true := bne_iff_ne.mpr c63
       obtain rfl := Option.some.inj H
       have hnb75 := NB570_571.out
       have hnc75 := NB571_570.out
       obtain ⟨hcz76_0, hcz76_1, hcz76_2, hcz76_3, hcz76_4, hfz76_0, hfz76_1, hfz76_2, hfz76_3, hfz76_4⟩ := cells5 BK570.out
       go_wp2_with (first | ((with_reducible refine gate_callee (f := 72) rfl ?_); refine goesS (some 14) rfl Try.func72 #[.agg #[.int .i64 a0_0, .int .i64 a0_1, .float .f64 a0_2, .string a0_3, .int .i64 a0_4]] rfl ?_; (with_reducible refine (spec_l1num.calls a0_0 a0_1 a0_2 a0_3 a0_4 false _ A18.out).mono ?_); rintro e w77 ⟨rfl, hb⟩; refine ⟨_, rfl, ?_⟩; replace BK570 := bku BK570.out hb; replace BK571 := bku BK571.out hb; replace HB := hbs2 HB.out GE570.out GE571.out hb; (try clear hb); (try clear hb2); (try clear hk); (try clear hi); obtain ⟨hcz78_0, hcz78_1, hcz78_2, hcz78_3, hcz78_4, hfz78_0, hfz78_1, hfz78_2, hfz78_3, hfz78_4⟩ := cells5 BK570.out; obtain ⟨hcz79_0, hcz79_1, hcz79_2, hcz79_3, hcz79_4, hfz79_0, hfz79_1, hfz79_2, hfz79_3, hfz79_4⟩ := cells5 BK571.out))
       go_ret
       exact ⟨by first | rfl | (simp <;> rfl) | (simp [*] <;> rfl), hbe2 HB.out GE570.out GE571.out⟩
     rw [if_pos c63] at H
     have c63b0 : (a0_1 == a1_1) = true := beq_iff_eq.mpr c63
     have c63b1 : (a0_1 != a1_1) = false := bne_eq_false_iff_eq.mpr c63
     clear c63
     by_cases c64 : a0_3.toList = a1_3.toList
     rotate_left 1
     · rw [if_neg c64] at H
       have c64b0 : (a0_3.toList == a1_3.toList) = false := beq_eq_false_iff_ne.mpr c64
       have c64b1 : (a0_3.toList != a1_3.toList) = true := bne_iff_ne.mpr c64
       obtain rfl := Option.some.inj H
       have hnb70 := NB570_571.out
       have hnc70 := NB571_570.out
       obtain ⟨hcz71_0, hcz71_1, hcz71_2, hcz71_3, hcz71_4, hfz71_0, hfz71_1, hfz71_2, hfz71_3, hfz71_4⟩ := cells5 BK570.out
       go_wp2_with (first | ((with_reducible refine gate_callee (f := 72) rfl ?_); refine goesS (some 14) rfl Try.func72 #[.agg #[.int .i64 a0_0, .int .i64 a0_1, .float .f64 a0_2, .string a0_3, .int .i64 a0_4]] rfl ?_; (with_reducible refine (spec_l1num.calls a0_0 a0_1 a0_2 a0_3 a0_4 false _ A18.out).mono ?_); rintro e w72 ⟨rfl, hb⟩; refine ⟨_, rfl, ?_⟩; replace BK570 := bku BK570.out hb; replace BK571 := bku BK571.out hb; replace HB := hbs2 HB.out GE570.out GE571.out hb; (try clear hb); (try clear hb2); (try clear hk); (try clear hi); obtain ⟨hcz73_0, hcz73_1, hcz73_2, hcz73_3, hcz73_4, hfz73_0, hfz73_1, hfz73_2, hfz73_3, hfz73_4⟩ := cells5 BK570.out; obtain ⟨hcz74_0, hcz74_1, hcz74_2, hcz74_3, hcz74_4, hfz74_0, hfz74_1, hfz74_2, hfz74_3, hfz74_4⟩ := cells5 BK571.out))
       go_ret
       exact ⟨by first | rfl | (simp <;> rfl) | (simp [*] <;> rfl), hbe2 HB.out GE570.out GE571.out⟩
     rw [if_pos c64] at H
     have c64b0 : (a0_3.toList == a1_3.toList) = true := beq_iff_eq.mpr c64
     have c64b1 : (a0_3.toList != a1_3.toList) = false := bne_eq_false_iff_eq.mpr c64
     clear c64
     obtain rfl := Option.some.inj H
     have hnb65 := NB570_571.out
     have hnc65 := NB571_570.out
     obtain ⟨hcz66_0, hcz66_1, hcz66_2, hcz66_3, hcz66_4, hfz66_0, hfz66_1, hfz66_2, hfz66_3, hfz66_4⟩ := cells5 BK570.out
     go_wp2_with (first | ((with_reducible refine gate_callee (f := 72) rfl ?_); refine goesS (some 14) rfl Try.func72 #[.agg #[.int .i64 a0_0, .int .i64 a0_1, .float .f64 a0_2, .string a0_3, .int .i64 a0_4]] rfl ?_; (with_reducible refine (spec_l1num.calls a0_0 a0_1 a0_2 a0_3 a0_4 false _ A18.out).mono ?_); rintro e w67 ⟨rfl, hb⟩; refine ⟨_, rfl, ?_⟩; replace BK570 := bku BK570.out hb; replace BK571 := bku BK571.out hb; replace HB := hbs2 HB.out GE570.out GE571.out hb; (try clear hb); (try clear hb2); (try clear hk); (try clear hi); obtain ⟨hcz68_0, hcz68_1, hcz68_2, hcz68_3, hcz68_4, hfz68_0, hfz68_1, hfz68_2, hfz68_3, hfz68_4⟩ := cells5 BK570.out; obtain ⟨hcz69_0, hcz69_1, hcz69_2, hcz69_3, hcz69_4, hfz69_0, hfz69_1, hfz69_2, hfz69_3, hfz69_4⟩ := cells5 BK571.out))
     go_ret
     exact ⟨by first | rfl | (simp <;> rfl) | (simp [*] <;> rfl), hbe2 HB.out GE570.out GE571.out⟩
  all_goals
   go_wp2_with (first | ((with_reducible refine gate_callee (f := 72) rfl ?_); refine goesS (some 14) rfl Try.func72 #[.agg #[.int .i64 a0_0, .int .i64 a0_1, .float .f64 a0_2, .string a0_3, .int .i64 a0_4]] rfl ?_; (with_reducible refine (spec_l1num.calls a0_0 a0_1 a0_2 a0_3 a0_4 true _ A18.out).mono ?_); rintro e wz0_ ⟨rfl, hb⟩; refine ⟨_, rfl, ?_⟩; replace BK570 := bku BK570.out hb; replace BK571 := bku BK571.out hb; replace HB := hbs2 HB.out GE570.out GE571.out hb; (try clear hb); (try clear hb2); (try clear hk); (try clear hi); have hczz1_ : wz0_.cell? ⟨gb571, 0, none⟩ = some (.int .i64 a1_0) := (blk_cell BK571.out 0).trans rfl; have hczz2_ : wz0_.cell? ⟨gb571, 1, none⟩ = some (.int .i64 a1_1) := (blk_cell BK571.out 1).trans rfl; have hczz3_ : wz0_.cell? ⟨gb571, 2, none⟩ = some (.float .f64 a1_2) := (blk_cell BK571.out 2).trans rfl; have hczz4_ : wz0_.cell? ⟨gb571, 3, none⟩ = some (.string a1_3) := (blk_cell BK571.out 3).trans rfl; have hczz5_ : wz0_.cell? ⟨gb571, 4, none⟩ = some (.int .i64 a1_4) := (blk_cell BK571.out 4).trans rfl; have hfzz6_ := blk_frozen BK571.out 0; have hfzz7_ := blk_frozen BK571.out 1; have hfzz8_ := blk_frozen BK571.out 2; have hfzz9_ := blk_frozen BK571.out 3; have hfzz10_ := blk_frozen BK571.out 4) | (go_at_call 72; (with_reducible refine (spec_l1num.calls a1_0 a1_1 a1_2 a1_3 a1_4 false _ A20.out).mono ?_); rintro e wz11_ ⟨rfl, hb⟩; replace BK570 := bku BK570.out hb; replace BK571 := bku BK571.out hb; replace HB := hbs2 HB.out GE570.out GE571.out hb; (try clear hb); (try clear hb2); (try clear hk); (try clear hi); have hczz12_ : wz11_.cell? ⟨gb570, 0, none⟩ = some (.int .i64 a0_0) := (blk_cell BK570.out 0).trans rfl; have hczz13_ : wz11_.cell? ⟨gb570, 1, none⟩ = some (.int .i64 a0_1) := (blk_cell BK570.out 1).trans rfl; have hczz14_ : wz11_.cell? ⟨gb570, 2, none⟩ = some (.float .f64 a0_2) := (blk_cell BK570.out 2).trans rfl; have hczz15_ : wz11_.cell? ⟨gb570, 3, none⟩ = some (.string a0_3) := (blk_cell BK570.out 3).trans rfl; have hczz16_ : wz11_.cell? ⟨gb570, 4, none⟩ = some (.int .i64 a0_4) := (blk_cell BK570.out 4).trans rfl; have hfzz17_ := blk_frozen BK570.out 0; have hfzz18_ := blk_frozen BK570.out 1; have hfzz19_ := blk_frozen BK570.out 2; have hfzz20_ := blk_frozen BK570.out 3; have hfzz21_ := blk_frozen BK570.out 4; have hczz22_ : wz11_.cell? ⟨gb571, 0, none⟩ = some (.int .i64 a1_0) := (blk_cell BK571.out 0).trans rfl; have hczz23_ : wz11_.cell? ⟨gb571, 1, none⟩ = some (.int .i64 a1_1) := (blk_cell BK571.out 1).trans rfl; have hczz24_ : wz11_.cell? ⟨gb571, 2, none⟩ = some (.float .f64 a1_2) := (blk_cell BK571.out 2).trans rfl; have hczz25_ : wz11_.cell? ⟨gb571, 3, none⟩ = some (.string a1_3) := (blk_cell BK571.out 3).trans rfl; have hczz26_ : wz11_.cell? ⟨gb571, 4, none⟩ = some (.int .i64 a1_4) := (blk_cell BK571.out 4).trans rfl; have hfzz27_ := blk_frozen BK571.out 0; have hfzz28_ := blk_frozen BK571.out 1; have hfzz29_ := blk_frozen BK571.out 2; have hfzz30_ := blk_frozen BK571.out 3; have hfzz31_ := blk_frozen BK571.out 4))
   go_ret
   exact ⟨by first | rfl | (simp <;> rfl) | (simp [*] <;> rfl), hbe2 HB.out GE570.out GE571.out⟩
end Go.Proofs.Ytdjlbfaiccdbfaa.PAll
