/- Cut down from the texts of the same job by wip/shake.py to what this claim reaches. -/
import Derived.Test.YtdjlbfaiccdbfaaKLGx0
import Derived.Test.YtdjlbfaiccdbfaaKLGx3
import Derived.Test.YtdjlbfaiccdbfaaKLGx14
namespace Go.Proofs.Ytdjlbfaiccdbfaa.PAll
open Go.RowKit Go.Proofs.YtdjlbfaiccdbfaaW.PrintWords Go.Proofs.YtdjlbfaiccdbfaaW.PrintLast Go.Proofs.YtdjlbfaiccdbfaaW.PrintMore
attribute [local go_sem] max2_int min2_int max_two min_two max_three min_three max_four min_four   -- for this text's walks alone
set_option linter.unusedVariables false
set_option linter.unusedSimpArgs false
mutual
def impl_Compare.j0 : Nat → Bool → Int → Int → Nat → ByteArray → Int → Int → Int → Nat → ByteArray → Int → Option (Int)
  | 0, _, _, _, _, _, _, _, _, _, _, _ => none
  | k + 1, x12, x536000, x536001, x536002, x536003, x536004, x537000, x537001, x537002, x537003, x537004 => if x12 = true then (some 3) else (if x536000 = 4 then (impl_Compare.j1 k (x537000 == 4) x536000 x536001 x536002 x536003 x536004 x537000 x537001 x537002 x537003 x537004) else (impl_Compare.j1 k false x536000 x536001 x536002 x536003 x536004 x537000 x537001 x537002 x537003 x537004))
def impl_Compare.j1 : Nat → Bool → Int → Int → Nat → ByteArray → Int → Int → Int → Nat → ByteArray → Int → Option (Int)
  | 0, _, _, _, _, _, _, _, _, _, _, _ => none
  | k + 1, x20, x536000, x536001, x536002, x536003, x536004, x537000, x537001, x537002, x537003, x537004 => if x20 = true then (if (Op.bytesLess x536003.toList x537003.toList) = true then (some (-1)) else (if (Op.bytesLess x537003.toList x536003.toList) = true then (some 1) else (some 0))) else ((impl_number.f x536000 x536001 x536002 x536003 x536004).bind fun t539 => (if t539 = true then ((impl_number.f x537000 x537001 x537002 x537003 x537004).bind fun t540 => (impl_Compare.j2 k (!t540) x536000 x536001 x536002 x536003 x536004 x537000 x537001 x537002 x537003 x537004)) else (impl_Compare.j2 k true x536000 x536001 x536002 x536003 x536004 x537000 x537001 x537002 x537003 x537004)))
def impl_Compare.j2 : Nat → Bool → Int → Int → Nat → ByteArray → Int → Int → Int → Nat → ByteArray → Int → Option (Int)
  | 0, _, _, _, _, _, _, _, _, _, _, _ => none
  | k + 1, x38, x536000, x536001, x536002, x536003, x536004, x537000, x537001, x537002, x537003, x537004 => if x38 = true then (some 3) else (if x536000 = 3 then (if (fne x536002 x536002) = true then (impl_Compare.j3 k true x536000 x536001 x536002 x536003 x536004 x537000 x537001 x537002 x537003 x537004) else (if x537000 = 3 then (impl_Compare.j3 k (fne x537002 x537002) x536000 x536001 x536002 x536003 x536004 x537000 x537001 x537002 x537003 x537004) else (impl_Compare.j3 k false x536000 x536001 x536002 x536003 x536004 x537000 x537001 x537002 x537003 x537004))) else (if x537000 = 3 then (impl_Compare.j3 k (fne x537002 x537002) x536000 x536001 x536002 x536003 x536004 x537000 x537001 x537002 x537003 x537004) else (impl_Compare.j3 k false x536000 x536001 x536002 x536003 x536004 x537000 x537001 x537002 x537003 x537004)))
def impl_Compare.j3 : Nat → Bool → Int → Int → Nat → ByteArray → Int → Int → Int → Nat → ByteArray → Int → Option (Int)
  | 0, _, _, _, _, _, _, _, _, _, _, _ => none
  | k + 1, x60, x536000, x536001, x536002, x536003, x536004, x537000, x537001, x537002, x537003, x537004 => if x60 = true then (some 2) else (if x536000 = 2 then (impl_Compare.j4 k (x537000 == 2) x536000 x536001 x536002 x536003 x536004 x537000 x537001 x537002 x537003 x537004) else (impl_Compare.j4 k false x536000 x536001 x536002 x536003 x536004 x537000 x537001 x537002 x537003 x537004))
def impl_Compare.j4 : Nat → Bool → Int → Int → Nat → ByteArray → Int → Int → Int → Nat → ByteArray → Int → Option (Int)
  | 0, _, _, _, _, _, _, _, _, _, _, _ => none
  | k + 1, x61, x536000, x536001, x536002, x536003, x536004, x537000, x537001, x537002, x537003, x537004 => if x61 = true then ((impl_order64.f x536001 x537001).bind fun t541 => (some t541)) else (if x536000 = 2 then ((impl_intFloat.f x536001 x537002).bind fun t542 => (some t542)) else (if x537000 = 2 then ((impl_intFloat.f x537001 x536002).bind fun t543 => (some (wrap64 (-t543)))) else (if (flss x536002 x537002) = true then (some (-1)) else (if (fgtr x536002 x537002) = true then (some 1) else (some 0)))))
end
def impl_Compare.f (k : Nat) (a0_0 : Int) (a0_1 : Int) (a0_2 : Nat) (a0_3 : ByteArray) (a0_4 : Int) (a1_0 : Int) (a1_1 : Int) (a1_2 : Nat) (a1_3 : ByteArray) (a1_4 : Int) : Option (Int) := (impl_ValueOk.f k a0_0 a0_1 a0_2 a0_3 a0_4).bind fun t537 => (if t537 = true then ((impl_ValueOk.f k a1_0 a1_1 a1_2 a1_3 a1_4).bind fun t538 => (impl_Compare.j0 k (!t538) a0_0 a0_1 a0_2 a0_3 a0_4 a1_0 a1_1 a1_2 a1_3 a1_4)) else (impl_Compare.j0 k true a0_0 a0_1 a0_2 a0_3 a0_4 a1_0 a1_1 a1_2 a1_3 a1_4))
set_option maxHeartbeats 8000000 in
set_option maxRecDepth 100000 in
theorem impl_Compare.calls (k : Nat) (a0_0 : Int) (a0_1 : Int) (a0_2 : Nat) (a0_3 : ByteArray) (a0_4 : Int) (a1_0 : Int) (a1_1 : Int) (a1_2 : Nat) (a1_3 : ByteArray) (a1_4 : Int) (r : Int) (w : World) (h : impl_Compare.f k a0_0 a0_1 a0_2 a0_3 a0_4 a1_0 a1_1 a1_2 a1_3 a1_4 = some r) :
    Calls Try.prog 33 #[.agg #[.int .i64 a0_0, .int .i64 a0_1, .float .f64 a0_2, .string a0_3, .int .i64 a0_4], .agg #[.int .i64 a1_0, .int .i64 a1_1, .float .f64 a1_2, .string a1_3, .int .i64 a1_4]] w fun e w' => e = .returned (.int .i64 r) ∧ Below w.heap.size w w' := by
  have hu28 := Try.underlying28
  have HB := Aside0.mk (Below.refl w.heap.size w)
  have H : ((impl_ValueOk.f k a0_0 a0_1 a0_2 a0_3 a0_4).bind fun t537 => (if t537 = true then ((impl_ValueOk.f k a1_0 a1_1 a1_2 a1_3 a1_4).bind fun t538 => (impl_Compare.j0 k (!t538) a0_0 a0_1 a0_2 a0_3 a0_4 a1_0 a1_1 a1_2 a1_3 a1_4)) else (impl_Compare.j0 k true a0_0 a0_1 a0_2 a0_3 a0_4 a1_0 a1_1 a1_2 a1_3 a1_4))) = some r := h
  clear h
  have HC3 := Aside0.mk H
  clear H
  go_enter Try.func33, Try.ntmps33
  go_upto_region 1 with (first | ((with_reducible refine gate_dst (N := 2) rfl ?_); refine box_event rfl (N := 2) rfl (cs := #[.int .i64 a0_0, .int .i64 a0_1, .float .f64 a0_2, .string a0_3, .int .i64 a0_4]) (t := 28) (by first | (go_simp; done) | (go_simp; rfl)) ?_; intro gb535 hg w4 hbox hb; have BK535 := Aside0.mk (hbox); have GW535 := (gws hg (hbe HB.out) : Aside0 (w.heap.size ≤ gb535)); have GE535 := (gws hg (hbe HB.out) : Aside0 (w.heap.size ≤ gb535)); replace HB := hbs HB.out hb; clear hb hbox hg) | ((with_reducible refine gate_dst (N := 3) rfl ?_); refine box_event rfl (N := 3) rfl (cs := #[.int .i64 a1_0, .int .i64 a1_1, .float .f64 a1_2, .string a1_3, .int .i64 a1_4]) (t := 28) (by first | (go_simp; done) | (go_simp; rfl)) ?_; intro gb536 hg w5 hbox hb; have BK536 := Aside0.mk (hbox); have GW536 := (gws hg (hbe1 HB.out GE535.out) : Aside0 (w.heap.size ≤ gb536)); have GE536 := (gws hg (hbe1 HB.out GE535.out) : Aside0 (w.heap.size ≤ gb536)); replace HB := hbs1 HB.out GE535.out hb; have NB535_536 := nlt hg BK535.out; have NB536_535 := ngt hg BK535.out; replace BK535 := bku BK535.out hb; clear hb hbox hg))
  (try simp only [Act.put, List.setIfInBounds_toArray, List.set_cons_zero, List.set_cons_succ])
  go_cut [12] (fun v12 wc => ∃ (kq : Nat) (x12_2 : Bool), v12 = .bool x12_2 ∧ Aside0 (impl_Compare.j0 kq x12_2 a0_0 a0_1 a0_2 a0_3 a0_4 a1_0 a1_1 a1_2 a1_3 a1_4 = some r) ∧ Aside0 (kq ≤ k) ∧ Aside0 (wc.heap[gb535]? = some (.cells #[.int .i64 a0_0, .int .i64 a0_1, .float .f64 a0_2, .string a0_3, .int .i64 a0_4] 28 (0, 0))) ∧ Aside0 (wc.heap[gb536]? = some (.cells #[.int .i64 a1_0, .int .i64 a1_1, .float .f64 a1_2, .string a1_3, .int .i64 a1_4] 28 (0, 0))) ∧ Aside0 (Below w.heap.size w wc))
  case first =>
    have H := HC3.out
    clear HC3
    replace H := Option.bind_eq_some_iff.mp H
    obtain ⟨t537, A60, H⟩ := H
    replace H : (if t537 = true then ((impl_ValueOk.f k a1_0 a1_1 a1_2 a1_3 a1_4).bind fun t538 => (impl_Compare.j0 k (!t538) a0_0 a0_1 a0_2 a0_3 a0_4 a1_0 a1_1 a1_2 a1_3 a1_4)) else (impl_Compare.j0 k true a0_0 a0_1 a0_2 a0_3 a0_4 a1_0 a1_1 a1_2 a1_3 a1_4)) = some r := H
    have A6 := Aside0.mk A60
    clear A60
    by_cases c7 : t537 = true
    rotate_left 1
    · replace c7 := Bool.eq_false_iff.mpr c7
      subst c7
      have H1 : (impl_Compare.j0 k true a0_0 a0_1 a0_2 a0_3 a0_4 a1_0 a1_1 a1_2 a1_3 a1_4) = some r := by rw [if_neg (show ¬ (false = true) by decide)] at H; exact H
      clear H
      have H := H1
      clear H1
      have H' := Aside0.mk H
      clear H
      have hnb14 := NB535_536.out
      have hnc14 := NB536_535.out
      obtain ⟨hcz15_0, hcz15_1, hcz15_2, hcz15_3, hcz15_4, hfz15_0, hfz15_1, hfz15_2, hfz15_3, hfz15_4⟩ := cells5 BK535.out
      go_wp2_with (first | ((with_reducible refine gate_callee (f := 19) rfl ?_); refine goesS (some 6) rfl Try.func19 #[.agg #[.int .i64 a0_0, .int .i64 a0_1, .float .f64 a0_2, .string a0_3, .int .i64 a0_4]] rfl ?_; (with_reducible refine (impl_ValueOk.calls k a0_0 a0_1 a0_2 a0_3 a0_4 false _ A6.out).mono ?_); rintro e w16 ⟨rfl, hb⟩; refine ⟨_, rfl, ?_⟩; replace BK535 := bku BK535.out hb; replace BK536 := bku BK536.out hb; replace HB := hbs2 HB.out GE535.out GE536.out hb; (try clear hb); (try clear hb2); (try clear hk); (try clear hi)))
      go_meet
      case rel => exact ⟨_, (true), (by first | rfl | (simp; done) | (simp [*]; done)), H', ⟨by first | omega | exact Nat.le_refl _⟩, ⟨by (with_reducible repeat (first | refine blk_drewN ?_ _ | refine blk_drew ?_ | refine blk_alloc ?_ _)); exact BK535.out⟩, ⟨by (with_reducible repeat (first | refine blk_drewN ?_ _ | refine blk_drew ?_ | refine blk_alloc ?_ _)); exact BK536.out⟩, ⟨by repeat (first | (with_reducible first | exact HB.out | apply below_alloc | apply pw_below_drewN | apply below_drew1 | refine below_set ?_ GE535.out | refine below_set ?_ GE536.out) | exact HB.out)⟩⟩
    subst c7
    have H1 : ((impl_ValueOk.f k a1_0 a1_1 a1_2 a1_3 a1_4).bind fun t538 => (impl_Compare.j0 k (!t538) a0_0 a0_1 a0_2 a0_3 a0_4 a1_0 a1_1 a1_2 a1_3 a1_4)) = some r := by rw [if_pos rfl] at H; exact H
    clear H
    have H := H1
    clear H1
    replace H := Option.bind_eq_some_iff.mp H
    obtain ⟨t538, A80, H⟩ := H
    replace H : (impl_Compare.j0 k (!t538) a0_0 a0_1 a0_2 a0_3 a0_4 a1_0 a1_1 a1_2 a1_3 a1_4) = some r := H
    have A8 := Aside0.mk A80
    clear A80
    have H' := Aside0.mk H
    clear H
    have hnb9 := NB535_536.out
    have hnc9 := NB536_535.out
    obtain ⟨hcz10_0, hcz10_1, hcz10_2, hcz10_3, hcz10_4, hfz10_0, hfz10_1, hfz10_2, hfz10_3, hfz10_4⟩ := cells5 BK535.out
    go_wp2_with (first | ((with_reducible refine gate_callee (f := 19) rfl ?_); refine goesS (some 6) rfl Try.func19 #[.agg #[.int .i64 a0_0, .int .i64 a0_1, .float .f64 a0_2, .string a0_3, .int .i64 a0_4]] rfl ?_; (with_reducible refine (impl_ValueOk.calls k a0_0 a0_1 a0_2 a0_3 a0_4 true _ A6.out).mono ?_); rintro e w11 ⟨rfl, hb⟩; refine ⟨_, rfl, ?_⟩; replace BK535 := bku BK535.out hb; replace BK536 := bku BK536.out hb; replace HB := hbs2 HB.out GE535.out GE536.out hb; (try clear hb); (try clear hb2); (try clear hk); (try clear hi); obtain ⟨hcz12_0, hcz12_1, hcz12_2, hcz12_3, hcz12_4, hfz12_0, hfz12_1, hfz12_2, hfz12_3, hfz12_4⟩ := cells5 BK536.out) | (go_at_call 19; (with_reducible refine (impl_ValueOk.calls k a1_0 a1_1 a1_2 a1_3 a1_4 t538 _ A8.out).mono ?_); rintro e w13 ⟨rfl, hb⟩; replace BK535 := bku BK535.out hb; replace BK536 := bku BK536.out hb; replace HB := hbs2 HB.out GE535.out GE536.out hb; (try clear hb); (try clear hb2); (try clear hk); (try clear hi)))
    go_meet
    case rel => exact ⟨_, (!t538), (by first | rfl | (simp; done) | (simp [*]; done)), H', ⟨by first | omega | exact Nat.le_refl _⟩, ⟨by (with_reducible repeat (first | refine blk_drewN ?_ _ | refine blk_drew ?_ | refine blk_alloc ?_ _)); exact BK535.out⟩, ⟨by (with_reducible repeat (first | refine blk_drewN ?_ _ | refine blk_drew ?_ | refine blk_alloc ?_ _)); exact BK536.out⟩, ⟨by repeat (first | (with_reducible first | exact HB.out | apply below_alloc | apply pw_below_drewN | apply below_drew1 | refine below_set ?_ GE535.out | refine below_set ?_ GE536.out) | exact HB.out)⟩⟩
  clear HC3
  obtain ⟨kq, x12_2, rfl, HA, HJ2, BK535, BK536, HB⟩ := hcut
  rcases kq with _ | kj2
  · exact absurd HA.out (by simp [impl_Compare.j0])
  have H := HA.out
  clear HA
  simp only [impl_Compare.j0] at H
  by_cases c17 : x12_2 = true
  · subst c17
    have H1 : (some 3) = some r := by rw [if_pos rfl] at H; exact H
    clear H
    have H := H1
    clear H1
    obtain rfl := Option.some.inj H
    go_wp2
    go_ret
    exact ⟨by first | rfl | (simp <;> rfl) | (simp [*] <;> rfl), hbe2 HB.out GE535.out GE536.out⟩
  replace c17 := Bool.eq_false_iff.mpr c17
  subst c17
  have H1 : (if a0_0 = 4 then (impl_Compare.j1 kj2 (a1_0 == 4) a0_0 a0_1 a0_2 a0_3 a0_4 a1_0 a1_1 a1_2 a1_3 a1_4) else (impl_Compare.j1 kj2 false a0_0 a0_1 a0_2 a0_3 a0_4 a1_0 a1_1 a1_2 a1_3 a1_4)) = some r := by rw [if_neg (show ¬ (false = true) by decide)] at H; exact H
  clear H
  have H := H1
  clear H1
  have HC18 := Aside0.mk H
  clear H
  go_upto_region 3 with (fail)
  go_cut [20] (fun v20 wc => ∃ (kq : Nat) (x20_17 : Bool), v20 = .bool x20_17 ∧ Aside0 (impl_Compare.j1 kq x20_17 a0_0 a0_1 a0_2 a0_3 a0_4 a1_0 a1_1 a1_2 a1_3 a1_4 = some r) ∧ Aside0 (kq ≤ kj2) ∧ Aside0 (wc.heap[gb535]? = some (.cells #[.int .i64 a0_0, .int .i64 a0_1, .float .f64 a0_2, .string a0_3, .int .i64 a0_4] 28 (0, 0))) ∧ Aside0 (wc.heap[gb536]? = some (.cells #[.int .i64 a1_0, .int .i64 a1_1, .float .f64 a1_2, .string a1_3, .int .i64 a1_4] 28 (0, 0))) ∧ Aside0 (Below w.heap.size w wc))
  case first =>
    have H := HC18.out
    clear HC18
    by_cases c19 : a0_0 = 4
    rotate_left 1
    · rw [if_neg c19] at H
      have c19b0 : (a0_0 == 4) = false := beq_eq_false_iff_ne.mpr c19
      have c19b1 : (a0_0 != 4) = true := bne_iff_ne.mpr c19
      (first | rw [c19b0] | (simp only [i64_w, i32_w]; rw [c19b0]) | skip)
      have H' := Aside0.mk H
      clear H
      have hnb23 := NB535_536.out
      have hnc23 := NB536_535.out
      obtain ⟨hcz24_0, hcz24_1, hcz24_2, hcz24_3, hcz24_4, hfz24_0, hfz24_1, hfz24_2, hfz24_3, hfz24_4⟩ := cells5 BK535.out
      go_wp2
      go_meet
      case rel => exact ⟨_, (false), (by first | rfl | (simp; done) | (simp [*]; done)), H', ⟨by have := HJ2.out; first | omega | exact Nat.le_refl _⟩, ⟨by (with_reducible repeat (first | refine blk_drewN ?_ _ | refine blk_drew ?_ | refine blk_alloc ?_ _)); exact BK535.out⟩, ⟨by (with_reducible repeat (first | refine blk_drewN ?_ _ | refine blk_drew ?_ | refine blk_alloc ?_ _)); exact BK536.out⟩, ⟨by repeat (first | (with_reducible first | exact HB.out | apply below_alloc | apply pw_below_drewN | apply below_drew1 | refine below_set ?_ GE535.out | refine below_set ?_ GE536.out) | exact HB.out)⟩⟩
    rw [if_pos c19] at H
    have c19b0 : (a0_0 == 4) = true := beq_iff_eq.mpr c19
    have c19b1 : (a0_0 != 4) = false := bne_eq_false_iff_eq.mpr c19
    clear c19
    (first | rw [c19b0] | (simp only [i64_w, i32_w]; rw [c19b0]) | skip)
    have H' := Aside0.mk H
    clear H
    have hnb20 := NB535_536.out
    have hnc20 := NB536_535.out
    obtain ⟨hcz21_0, hcz21_1, hcz21_2, hcz21_3, hcz21_4, hfz21_0, hfz21_1, hfz21_2, hfz21_3, hfz21_4⟩ := cells5 BK535.out
    obtain ⟨hcz22_0, hcz22_1, hcz22_2, hcz22_3, hcz22_4, hfz22_0, hfz22_1, hfz22_2, hfz22_3, hfz22_4⟩ := cells5 BK536.out
    go_wp2
    go_meet
    case rel => exact ⟨_, ((a1_0 == 4)), (by first | rfl | (simp; done) | (simp [*]; done)), H', ⟨by have := HJ2.out; first | omega | exact Nat.le_refl _⟩, ⟨by (with_reducible repeat (first | refine blk_drewN ?_ _ | refine blk_drew ?_ | refine blk_alloc ?_ _)); exact BK535.out⟩, ⟨by (with_reducible repeat (first | refine blk_drewN ?_ _ | refine blk_drew ?_ | refine blk_alloc ?_ _)); exact BK536.out⟩, ⟨by repeat (first | (with_reducible first | exact HB.out | apply below_alloc | apply pw_below_drewN | apply below_drew1 | refine below_set ?_ GE535.out | refine below_set ?_ GE536.out) | exact HB.out)⟩⟩
  clear HC18
  try clear c1
  try clear c2
  try clear p2
  try clear c3
  try clear c7
  try clear c9
  try clear c14
  try clear c17
  try clear c19
  try clear c19b0
  try clear c19b1
  try clear c20
  try clear c23
  try clear hcz10_0
  try clear hcz10_1
  try clear hcz10_2
  try clear hcz10_3
  try clear hcz10_4
  try clear hcz12_0
  try clear hcz12_1
  try clear hcz12_2
  try clear hcz12_3
  try clear hcz12_4
  try clear hcz15_0
  try clear hcz15_1
  try clear hcz15_2
  try clear hcz15_3
  try clear hcz15_4
  try clear hcz21_0
  try clear hcz21_1
  try clear hcz21_2
  try clear hcz21_3
  try clear hcz21_4
  try clear hcz22_0
  try clear hcz22_1
  try clear hcz22_2
  try clear hcz22_3
  try clear hcz22_4
  try clear hcz24_0
  try clear hcz24_1
  try clear hcz24_2
  try clear hcz24_3
  try clear hcz24_4
  try clear hfz10_0
  try clear hfz10_1
  try clear hfz10_2
  try clear hfz10_3
  try clear hfz10_4
  try clear hfz12_0
  try clear hfz12_1
  try clear hfz12_2
  try clear hfz12_3
  try clear hfz12_4
  try clear hfz15_0
  try clear hfz15_1
  try clear hfz15_2
  try clear hfz15_3
  try clear hfz15_4
  try clear hfz21_0
  try clear hfz21_1
  try clear hfz21_2
  try clear hfz21_3
  try clear hfz21_4
  try clear hfz22_0
  try clear hfz22_1
  try clear hfz22_2
  try clear hfz22_3
  try clear hfz22_4
  try clear hfz24_0
  try clear hfz24_1
  try clear hfz24_2
  try clear hfz24_3
  try clear hfz24_4
  try clear p2
  obtain ⟨kq, x20_17, rfl, HA, HJ17, BK535, BK536, HB⟩ := hcut
  rcases kq with _ | kj17
  · exact absurd HA.out (by simp [impl_Compare.j1])
  have H := HA.out
  clear HA
  simp only [impl_Compare.j1] at H
  by_cases c25 : x20_17 = true
  focus
   subst c25
   have H1 : (if (Op.bytesLess a0_3.toList a1_3.toList) = true then (some (-1)) else (if (Op.bytesLess a1_3.toList a0_3.toList) = true then (some 1) else (some 0))) = some r := by rw [if_pos rfl] at H; exact H
   clear H
   have H := H1
   clear H1
   by_cases c26 : (Op.bytesLess a0_3.toList a1_3.toList) = true
   focus
    rw [if_pos c26] at H
    have c26b0 : (Op.bytesLess a0_3.toList a1_3.toList) = true := c26
    clear c26
    obtain rfl := Option.some.inj H
    have hnb27 := NB535_536.out
    have hnc27 := NB536_535.out
    obtain ⟨hcz28_0, hcz28_1, hcz28_2, hcz28_3, hcz28_4, hfz28_0, hfz28_1, hfz28_2, hfz28_3, hfz28_4⟩ := cells5 BK535.out
    obtain ⟨hcz29_0, hcz29_1, hcz29_2, hcz29_3, hcz29_4, hfz29_0, hfz29_1, hfz29_2, hfz29_3, hfz29_4⟩ := cells5 BK536.out
   rotate_left 1
   focus
    rw [if_neg c26] at H
    have c26b0 : (Op.bytesLess a0_3.toList a1_3.toList) = false := by simpa using c26
    clear c26
    by_cases c30 : (Op.bytesLess a1_3.toList a0_3.toList) = true
    focus
     rw [if_pos c30] at H
     have c30b0 : (Op.bytesLess a1_3.toList a0_3.toList) = true := c30
     clear c30
     obtain rfl := Option.some.inj H
     have hnb31 := NB535_536.out
     have hnc31 := NB536_535.out
     obtain ⟨hcz32_0, hcz32_1, hcz32_2, hcz32_3, hcz32_4, hfz32_0, hfz32_1, hfz32_2, hfz32_3, hfz32_4⟩ := cells5 BK535.out
     obtain ⟨hcz33_0, hcz33_1, hcz33_2, hcz33_3, hcz33_4, hfz33_0, hfz33_1, hfz33_2, hfz33_3, hfz33_4⟩ := cells5 BK536.out
    rotate_left 1
    focus
     rw [if_neg c30] at H
     have c30b0 : (Op.bytesLess a1_3.toList a0_3.toList) = false := by simpa using c30
     clear c30
     obtain rfl := Option.some.inj H
     have hnb34 := NB535_536.out
     have hnc34 := NB536_535.out
     obtain ⟨hcz35_0, hcz35_1, hcz35_2, hcz35_3, hcz35_4, hfz35_0, hfz35_1, hfz35_2, hfz35_3, hfz35_4⟩ := cells5 BK535.out
     obtain ⟨hcz36_0, hcz36_1, hcz36_2, hcz36_3, hcz36_4, hfz36_0, hfz36_1, hfz36_2, hfz36_3, hfz36_4⟩ := cells5 BK536.out
  rotate_left 3
  · replace c25 := Bool.eq_false_iff.mpr c25
    subst c25
    have H1 : ((impl_number.f a0_0 a0_1 a0_2 a0_3 a0_4).bind fun t539 => (if t539 = true then ((impl_number.f a1_0 a1_1 a1_2 a1_3 a1_4).bind fun t540 => (impl_Compare.j2 kj17 (!t540) a0_0 a0_1 a0_2 a0_3 a0_4 a1_0 a1_1 a1_2 a1_3 a1_4)) else (impl_Compare.j2 kj17 true a0_0 a0_1 a0_2 a0_3 a0_4 a1_0 a1_1 a1_2 a1_3 a1_4))) = some r := by rw [if_neg (show ¬ (false = true) by decide)] at H; exact H
    clear H
    have H := H1
    clear H1
    have HC37 := Aside0.mk H
    clear H
    go_upto_region 9 with (fail)
    go_cut [38] (fun v38 wc => ∃ (kq : Nat) (x38_36 : Bool), v38 = .bool x38_36 ∧ Aside0 (impl_Compare.j2 kq x38_36 a0_0 a0_1 a0_2 a0_3 a0_4 a1_0 a1_1 a1_2 a1_3 a1_4 = some r) ∧ Aside0 (kq ≤ kj17) ∧ Aside0 (wc.heap[gb535]? = some (.cells #[.int .i64 a0_0, .int .i64 a0_1, .float .f64 a0_2, .string a0_3, .int .i64 a0_4] 28 (0, 0))) ∧ Aside0 (wc.heap[gb536]? = some (.cells #[.int .i64 a1_0, .int .i64 a1_1, .float .f64 a1_2, .string a1_3, .int .i64 a1_4] 28 (0, 0))) ∧ Aside0 (Below w.heap.size w wc))
    case first =>
      have H := HC37.out
      clear HC37
      replace H := Option.bind_eq_some_iff.mp H
      obtain ⟨t539, A380, H⟩ := H
      replace H : (if t539 = true then ((impl_number.f a1_0 a1_1 a1_2 a1_3 a1_4).bind fun t540 => (impl_Compare.j2 kj17 (!t540) a0_0 a0_1 a0_2 a0_3 a0_4 a1_0 a1_1 a1_2 a1_3 a1_4)) else (impl_Compare.j2 kj17 true a0_0 a0_1 a0_2 a0_3 a0_4 a1_0 a1_1 a1_2 a1_3 a1_4)) = some r := H
      have A38 := Aside0.mk A380
      clear A380
      by_cases c39 : t539 = true
      rotate_left 1
      · replace c39 := Bool.eq_false_iff.mpr c39
        subst c39
        have H1 : (impl_Compare.j2 kj17 true a0_0 a0_1 a0_2 a0_3 a0_4 a1_0 a1_1 a1_2 a1_3 a1_4) = some r := by rw [if_neg (show ¬ (false = true) by decide)] at H; exact H
        clear H
        have H := H1
        clear H1
        have H' := Aside0.mk H
        clear H
        have hnb46 := NB535_536.out
        have hnc46 := NB536_535.out
        obtain ⟨hcz47_0, hcz47_1, hcz47_2, hcz47_3, hcz47_4, hfz47_0, hfz47_1, hfz47_2, hfz47_3, hfz47_4⟩ := cells5 BK535.out
        go_wp2_with (first | ((with_reducible refine gate_callee (f := 74) rfl ?_); refine goesS (some 32) rfl Try.func74 #[.agg #[.int .i64 a0_0, .int .i64 a0_1, .float .f64 a0_2, .string a0_3, .int .i64 a0_4]] rfl ?_; (with_reducible refine (impl_number.calls a0_0 a0_1 a0_2 a0_3 a0_4 false _ A38.out).mono ?_); rintro e w48 ⟨rfl, hb⟩; refine ⟨_, rfl, ?_⟩; replace BK535 := bku BK535.out hb; replace BK536 := bku BK536.out hb; replace HB := hbs2 HB.out GE535.out GE536.out hb; (try clear hb); (try clear hb2); (try clear hk); (try clear hi)))
        go_meet
        case rel => exact ⟨_, (true), (by first | rfl | (simp; done) | (simp [*]; done)), H', ⟨by have := HJ2.out; have := HJ17.out; first | omega | exact Nat.le_refl _⟩, ⟨by (with_reducible repeat (first | refine blk_drewN ?_ _ | refine blk_drew ?_ | refine blk_alloc ?_ _)); exact BK535.out⟩, ⟨by (with_reducible repeat (first | refine blk_drewN ?_ _ | refine blk_drew ?_ | refine blk_alloc ?_ _)); exact BK536.out⟩, ⟨by repeat (first | (with_reducible first | exact HB.out | apply below_alloc | apply pw_below_drewN | apply below_drew1 | refine below_set ?_ GE535.out | refine below_set ?_ GE536.out) | exact HB.out)⟩⟩
      subst c39
      have H1 : ((impl_number.f a1_0 a1_1 a1_2 a1_3 a1_4).bind fun t540 => (impl_Compare.j2 kj17 (!t540) a0_0 a0_1 a0_2 a0_3 a0_4 a1_0 a1_1 a1_2 a1_3 a1_4)) = some r := by rw [if_pos rfl] at H; exact H
      clear H
      have H := H1
      clear H1
      replace H := Option.bind_eq_some_iff.mp H
      obtain ⟨t540, A400, H⟩ := H
      replace H : (impl_Compare.j2 kj17 (!t540) a0_0 a0_1 a0_2 a0_3 a0_4 a1_0 a1_1 a1_2 a1_3 a1_4) = some r := H
      have A40 := Aside0.mk A400
      clear A400
      have H' := Aside0.mk H
      clear H
      have hnb41 := NB535_536.out
      have hnc41 := NB536_535.out
      obtain ⟨hcz42_0, hcz42_1, hcz42_2, hcz42_3, hcz42_4, hfz42_0, hfz42_1, hfz42_2, hfz42_3, hfz42_4⟩ := cells5 BK535.out
      go_wp2_with (first | ((with_reducible refine gate_callee (f := 74) rfl ?_); refine goesS (some 32) rfl Try.func74 #[.agg #[.int .i64 a0_0, .int .i64 a0_1, .float .f64 a0_2, .string a0_3, .int .i64 a0_4]] rfl ?_; (with_reducible refine (impl_number.calls a0_0 a0_1 a0_2 a0_3 a0_4 true _ A38.out).mono ?_); rintro e w43 ⟨rfl, hb⟩; refine ⟨_, rfl, ?_⟩; replace BK535 := bku BK535.out hb; replace BK536 := bku BK536.out hb; replace HB := hbs2 HB.out GE535.out GE536.out hb; (try clear hb); (try clear hb2); (try clear hk); (try clear hi); obtain ⟨hcz44_0, hcz44_1, hcz44_2, hcz44_3, hcz44_4, hfz44_0, hfz44_1, hfz44_2, hfz44_3, hfz44_4⟩ := cells5 BK536.out) | (go_at_call 74; (with_reducible refine (impl_number.calls a1_0 a1_1 a1_2 a1_3 a1_4 t540 _ A40.out).mono ?_); rintro e w45 ⟨rfl, hb⟩; replace BK535 := bku BK535.out hb; replace BK536 := bku BK536.out hb; replace HB := hbs2 HB.out GE535.out GE536.out hb; (try clear hb); (try clear hb2); (try clear hk); (try clear hi)))
      go_meet
      case rel => exact ⟨_, (!t540), (by first | rfl | (simp; done) | (simp [*]; done)), H', ⟨by have := HJ2.out; have := HJ17.out; first | omega | exact Nat.le_refl _⟩, ⟨by (with_reducible repeat (first | refine blk_drewN ?_ _ | refine blk_drew ?_ | refine blk_alloc ?_ _)); exact BK535.out⟩, ⟨by (with_reducible repeat (first | refine blk_drewN ?_ _ | refine blk_drew ?_ | refine blk_alloc ?_ _)); exact BK536.out⟩, ⟨by repeat (first | (with_reducible first | exact HB.out | apply below_alloc | apply pw_below_drewN | apply below_drew1 | refine below_set ?_ GE535.out | refine below_set ?_ GE536.out) | exact HB.out)⟩⟩
    clear HC37
    try clear c25
    obtain ⟨kq, x38_36, rfl, HA, HJ36, BK535, BK536, HB⟩ := hcut
    rcases kq with _ | kj36
    · exact absurd HA.out (by simp [impl_Compare.j2])
    have H := HA.out
    clear HA
    simp only [impl_Compare.j2] at H
    by_cases c49 : x38_36 = true
    · subst c49
      have H1 : (some 3) = some r := by rw [if_pos rfl] at H; exact H
      clear H
      have H := H1
      clear H1
      obtain rfl := Option.some.inj H
      go_wp2
      go_ret
      exact ⟨by first | rfl | (simp <;> rfl) | (simp [*] <;> rfl), hbe2 HB.out GE535.out GE536.out⟩
    replace c49 := Bool.eq_false_iff.mpr c49
    subst c49
    have H1 : (if a0_0 = 3 then (if (fne a0_2 a0_2) = true then (impl_Compare.j3 kj36 true a0_0 a0_1 a0_2 a0_3 a0_4 a1_0 a1_1 a1_2 a1_3 a1_4) else (if a1_0 = 3 then (impl_Compare.j3 kj36 (fne a1_2 a1_2) a0_0 a0_1 a0_2 a0_3 a0_4 a1_0 a1_1 a1_2 a1_3 a1_4) else (impl_Compare.j3 kj36 false a0_0 a0_1 a0_2 a0_3 a0_4 a1_0 a1_1 a1_2 a1_3 a1_4))) else (if a1_0 = 3 then (impl_Compare.j3 kj36 (fne a1_2 a1_2) a0_0 a0_1 a0_2 a0_3 a0_4 a1_0 a1_1 a1_2 a1_3 a1_4) else (impl_Compare.j3 kj36 false a0_0 a0_1 a0_2 a0_3 a0_4 a1_0 a1_1 a1_2 a1_3 a1_4))) = some r := by rw [if_neg (show ¬ (false = true) by decide)] at H; exact H
    clear H
    have H := H1
    clear H1
    have HC50 := Aside0.mk H
    clear H
    go_upto_region 11 with (fail)
    go_cut [60] (fun v60 wc => ∃ (kq : Nat) (x60_49 : Bool), v60 = .bool x60_49 ∧ Aside0 (impl_Compare.j3 kq x60_49 a0_0 a0_1 a0_2 a0_3 a0_4 a1_0 a1_1 a1_2 a1_3 a1_4 = some r) ∧ Aside0 (kq ≤ kj36) ∧ Aside0 (wc.heap[gb535]? = some (.cells #[.int .i64 a0_0, .int .i64 a0_1, .float .f64 a0_2, .string a0_3, .int .i64 a0_4] 28 (0, 0))) ∧ Aside0 (wc.heap[gb536]? = some (.cells #[.int .i64 a1_0, .int .i64 a1_1, .float .f64 a1_2, .string a1_3, .int .i64 a1_4] 28 (0, 0))) ∧ Aside0 (Below w.heap.size w wc))
    case first =>
      have H := HC50.out
      clear HC50
      by_cases c51 : a0_0 = 3
      focus
       rw [if_pos c51] at H
       have c51b0 : (a0_0 == 3) = true := beq_iff_eq.mpr c51
       have c51b1 : (a0_0 != 3) = false := bne_eq_false_iff_eq.mpr c51
       clear c51
       (first | rw [c51b0] | (simp only [i64_w, i32_w]; rw [c51b0]) | skip)
       by_cases c52 : (fne a0_2 a0_2) = true
       · rw [if_pos c52] at H
         have c52b0 : (fne a0_2 a0_2) = true := c52
         clear c52
         have H' := Aside0.mk H
         clear H
         have hnb53 := NB535_536.out
         have hnc53 := NB536_535.out
         obtain ⟨hcz54_0, hcz54_1, hcz54_2, hcz54_3, hcz54_4, hfz54_0, hfz54_1, hfz54_2, hfz54_3, hfz54_4⟩ := cells5 BK535.out
         go_wp2
         go_meet
         case rel => exact ⟨_, (true), (by first | rfl | (simp; done) | (simp [*]; done)), H', ⟨by have := HJ2.out; have := HJ17.out; have := HJ36.out; first | omega | exact Nat.le_refl _⟩, ⟨by (with_reducible repeat (first | refine blk_drewN ?_ _ | refine blk_drew ?_ | refine blk_alloc ?_ _)); exact BK535.out⟩, ⟨by (with_reducible repeat (first | refine blk_drewN ?_ _ | refine blk_drew ?_ | refine blk_alloc ?_ _)); exact BK536.out⟩, ⟨by repeat (first | (with_reducible first | exact HB.out | apply below_alloc | apply pw_below_drewN | apply below_drew1 | refine below_set ?_ GE535.out | refine below_set ?_ GE536.out) | exact HB.out)⟩⟩
       focus
        rw [if_neg c52] at H
        have c52b0 : (fne a0_2 a0_2) = false := by simpa using c52
        clear c52
        by_cases c55 : a1_0 = 3
        focus
         rw [if_pos c55] at H
         have c55b0 : (a1_0 == 3) = true := beq_iff_eq.mpr c55
         have c55b1 : (a1_0 != 3) = false := bne_eq_false_iff_eq.mpr c55
         clear c55
         have H' := Aside0.mk H
         clear H
         have hnb56 := NB535_536.out
         have hnc56 := NB536_535.out
         obtain ⟨hcz57_0, hcz57_1, hcz57_2, hcz57_3, hcz57_4, hfz57_0, hfz57_1, hfz57_2, hfz57_3, hfz57_4⟩ := cells5 BK535.out
         obtain ⟨hcz58_0, hcz58_1, hcz58_2, hcz58_3, hcz58_4, hfz58_0, hfz58_1, hfz58_2, hfz58_3, hfz58_4⟩ := cells5 BK536.out
        rotate_left 1
        · rw [if_neg c55] at H
          have c55b0 : (a1_0 == 3) = false := beq_eq_false_iff_ne.mpr c55
          have c55b1 : (a1_0 != 3) = true := bne_iff_ne.mpr c55
          have H' := Aside0.mk H
          clear H
          have hnb59 := NB535_536.out
          have hnc59 := NB536_535.out
          obtain ⟨hcz60_0, hcz60_1, hcz60_2, hcz60_3, hcz60_4, hfz60_0, hfz60_1, hfz60_2, hfz60_3, hfz60_4⟩ := cells5 BK535.out
          obtain ⟨hcz61_0, hcz61_1, hcz61_2, hcz61_3, hcz61_4, hfz61_0, hfz61_1, hfz61_2, hfz61_3, hfz61_4⟩ := cells5 BK536.out
          go_wp2
          go_meet
          case rel => exact ⟨_, (false), (by first | rfl | (simp; done) | (simp [*]; done)), H', ⟨by have := HJ2.out; have := HJ17.out; have := HJ36.out; first | omega | exact Nat.le_refl _⟩, ⟨by (with_reducible repeat (first | refine blk_drewN ?_ _ | refine blk_drew ?_ | refine blk_alloc ?_ _)); exact BK535.out⟩, ⟨by (with_reducible repeat (first | refine blk_drewN ?_ _ | refine blk_drew ?_ | refine blk_alloc ?_ _)); exact BK536.out⟩, ⟨by repeat (first | (with_reducible first | exact HB.out | apply below_alloc | apply pw_below_drewN | apply below_drew1 | refine below_set ?_ GE535.out | refine below_set ?_ GE536.out) | exact HB.out)⟩⟩
      rotate_left 1
      focus
       rw [if_neg c51] at H
       have c51b0 : (a0_0 == 3) = false := beq_eq_false_iff_ne.mpr c51
       have c51b1 : (a0_0 != 3) = true := bne_iff_ne.mpr c51
       (first | rw [c51b0] | (simp only [i64_w, i32_w]; rw [c51b0]) | skip)
       by_cases c62 : a1_0 = 3
       focus
        rw [if_pos c62] at H
        have c62b0 : (a1_0 == 3) = true := beq_iff_eq.mpr c62
        have c62b1 : (a1_0 != 3) = false := bne_eq_false_iff_eq.mpr c62
        clear c62
        have H' := Aside0.mk H
        clear H
        have hnb63 := NB535_536.out
        have hnc63 := NB536_535.out
        obtain ⟨hcz64_0, hcz64_1, hcz64_2, hcz64_3, hcz64_4, hfz64_0, hfz64_1, hfz64_2, hfz64_3, hfz64_4⟩ := cells5 BK535.out
        obtain ⟨hcz65_0, hcz65_1, hcz65_2, hcz65_3, hcz65_4, hfz65_0, hfz65_1, hfz65_2, hfz65_3, hfz65_4⟩ := cells5 BK536.out
       rotate_left 1
       · rw [if_neg c62] at H
         have c62b0 : (a1_0 == 3) = false := beq_eq_false_iff_ne.mpr c62
         have c62b1 : (a1_0 != 3) = true := bne_iff_ne.mpr c62
         have H' := Aside0.mk H
         clear H
         have hnb66 := NB535_536.out
         have hnc66 := NB536_535.out
         obtain ⟨hcz67_0, hcz67_1, hcz67_2, hcz67_3, hcz67_4, hfz67_0, hfz67_1, hfz67_2, hfz67_3, hfz67_4⟩ := cells5 BK535.out
         obtain ⟨hcz68_0, hcz68_1, hcz68_2, hcz68_3, hcz68_4, hfz68_0, hfz68_1, hfz68_2, hfz68_3, hfz68_4⟩ := cells5 BK536.out
         go_wp2
         go_meet
         case rel => exact ⟨_, (false), (by first | rfl | (simp; done) | (simp [*]; done)), H', ⟨by have := HJ2.out; have := HJ17.out; have := HJ36.out; first | omega | exact Nat.le_refl _⟩, ⟨by (with_reducible repeat (first | refine blk_drewN ?_ _ | refine blk_drew ?_ | refine blk_alloc ?_ _)); exact BK535.out⟩, ⟨by (with_reducible repeat (first | refine blk_drewN ?_ _ | refine blk_drew ?_ | refine blk_alloc ?_ _)); exact BK536.out⟩, ⟨by repeat (first | (with_reducible first | exact HB.out | apply below_alloc | apply pw_below_drewN | apply below_drew1 | refine below_set ?_ GE535.out | refine below_set ?_ GE536.out) | exact HB.out)⟩⟩
      all_goals
       go_wp2
       go_meet
       case rel => exact ⟨_, ((fne a1_2 a1_2)), (by first | rfl | (simp; done) | (simp [*]; done)), H', ⟨by have := HJ2.out; have := HJ17.out; have := HJ36.out; first | omega | exact Nat.le_refl _⟩, ⟨by (with_reducible repeat (first | refine blk_drewN ?_ _ | refine blk_drew ?_ | refine blk_alloc ?_ _)); exact BK535.out⟩, ⟨by (with_reducible repeat (first | refine blk_drewN ?_ _ | refine blk_drew ?_ | refine blk_alloc ?_ _)); exact BK536.out⟩, ⟨by repeat (first | (with_reducible first | exact HB.out | apply below_alloc | apply pw_below_drewN | apply below_drew1 | refine below_set ?_ GE535.out | refine below_set ?_ GE536.out) | exact HB.out)⟩⟩
    clear HC50
    try clear c25
    try clear c49
    obtain ⟨kq, x60_49, rfl, HA, HJ49, BK535, BK536, HB⟩ := hcut
    rcases kq with _ | kj49
    · exact absurd HA.out (by simp [impl_Compare.j3])
    have H := HA.out
    clear HA
    simp only [impl_Compare.j3] at H
    by_cases c69 : x60_49 = true
    · subst c69
      have H1 : (some 2) = some r := by rw [if_pos rfl] at H; exact H
      clear H
      have H := H1
      clear H1
      obtain rfl := Option.some.inj H
      go_wp2
      go_ret
      exact ⟨by first | rfl | (simp <;> rfl) | (simp [*] <;> rfl), hbe2 HB.out GE535.out GE536.out⟩
    replace c69 := Bool.eq_false_iff.mpr c69
    subst c69
    have H1 : (if a0_0 = 2 then (impl_Compare.j4 kj49 (a1_0 == 2) a0_0 a0_1 a0_2 a0_3 a0_4 a1_0 a1_1 a1_2 a1_3 a1_4) else (impl_Compare.j4 kj49 false a0_0 a0_1 a0_2 a0_3 a0_4 a1_0 a1_1 a1_2 a1_3 a1_4)) = some r := by rw [if_neg (show ¬ (false = true) by decide)] at H; exact H
    clear H
    have H := H1
    clear H1
    have HC70 := Aside0.mk H
    clear H
    go_upto_region 13 with (fail)
    go_cut [61] (fun v61 wc => ∃ (kq : Nat) (x61_69 : Bool), v61 = .bool x61_69 ∧ Aside0 (impl_Compare.j4 kq x61_69 a0_0 a0_1 a0_2 a0_3 a0_4 a1_0 a1_1 a1_2 a1_3 a1_4 = some r) ∧ Aside0 (kq ≤ kj49) ∧ Aside0 (wc.heap[gb535]? = some (.cells #[.int .i64 a0_0, .int .i64 a0_1, .float .f64 a0_2, .string a0_3, .int .i64 a0_4] 28 (0, 0))) ∧ Aside0 (wc.heap[gb536]? = some (.cells #[.int .i64 a1_0, .int .i64 a1_1, .float .f64 a1_2, .string a1_3, .int .i64 a1_4] 28 (0, 0))) ∧ Aside0 (Below w.heap.size w wc))
    case first =>
      have H := HC70.out
      clear HC70
      by_cases c71 : a0_0 = 2
      rotate_left 1
      · rw [if_neg c71] at H
        have c71b0 : (a0_0 == 2) = false := beq_eq_false_iff_ne.mpr c71
        have c71b1 : (a0_0 != 2) = true := bne_iff_ne.mpr c71
        (first | rw [c71b0] | (simp only [i64_w, i32_w]; rw [c71b0]) | skip)
        have H' := Aside0.mk H
        clear H
        have hnb75 := NB535_536.out
        have hnc75 := NB536_535.out
        obtain ⟨hcz76_0, hcz76_1, hcz76_2, hcz76_3, hcz76_4, hfz76_0, hfz76_1, hfz76_2, hfz76_3, hfz76_4⟩ := cells5 BK535.out
        go_wp2
        go_meet
        case rel => exact ⟨_, (false), (by first | rfl | (simp; done) | (simp [*]; done)), H', ⟨by have := HJ2.out; have := HJ17.out; have := HJ36.out; have := HJ49.out; first | omega | exact Nat.le_refl _⟩, ⟨by (with_reducible repeat (first | refine blk_drewN ?_ _ | refine blk_drew ?_ | refine blk_alloc ?_ _)); exact BK535.out⟩, ⟨by (with_reducible repeat (first | refine blk_drewN ?_ _ | refine blk_drew ?_ | refine blk_alloc ?_ _)); exact BK536.out⟩, ⟨by repeat (first | (with_reducible first | exact HB.out | apply below_alloc | apply pw_below_drewN | apply below_drew1 | refine below_set ?_ GE535.out | refine below_set ?_ GE536.out) | exact HB.out)⟩⟩
      rw [if_pos c71] at H
      have c71b0 : (a0_0 == 2) = true := beq_iff_eq.mpr c71
      have c71b1 : (a0_0 != 2) = false := bne_eq_false_iff_eq.mpr c71
      clear c71
      (first | rw [c71b0] | (simp only [i64_w, i32_w]; rw [c71b0]) | skip)
      have H' := Aside0.mk H
      clear H
      have hnb72 := NB535_536.out
      have hnc72 := NB536_535.out
      obtain ⟨hcz73_0, hcz73_1, hcz73_2, hcz73_3, hcz73_4, hfz73_0, hfz73_1, hfz73_2, hfz73_3, hfz73_4⟩ := cells5 BK535.out
      obtain ⟨hcz74_0, hcz74_1, hcz74_2, hcz74_3, hcz74_4, hfz74_0, hfz74_1, hfz74_2, hfz74_3, hfz74_4⟩ := cells5 BK536.out
      go_wp2
      go_meet
      case rel => exact ⟨_, ((a1_0 == 2)), (by first | rfl | (simp; done) | (simp [*]; done)), H', ⟨by have := HJ2.out; have := HJ17.out; have := HJ36.out; have := HJ49.out; first | omega | exact Nat.le_refl _⟩, ⟨by (with_reducible repeat (first | refine blk_drewN ?_ _ | refine blk_drew ?_ | refine blk_alloc ?_ _)); exact BK535.out⟩, ⟨by (with_reducible repeat (first | refine blk_drewN ?_ _ | refine blk_drew ?_ | refine blk_alloc ?_ _)); exact BK536.out⟩, ⟨by repeat (first | (with_reducible first | exact HB.out | apply below_alloc | apply pw_below_drewN | apply below_drew1 | refine below_set ?_ GE535.out | refine below_set ?_ GE536.out) | exact HB.out)⟩⟩
    clear HC70
    try clear c1
    try clear c2
    try clear p2
    try clear c3
    try clear c4
    try clear c5
    try clear c6
    try clear c7
    try clear c9
    try clear c14
    try clear c17
    try clear c19
    try clear c19b0
    try clear c19b1
    try clear c20
    try clear c23
    try clear c25
    try clear c26
    try clear c26b0
    try clear c27
    try clear c30
    try clear c30b0
    try clear c31
    try clear c33
    try clear c34
    try clear c39
    try clear c41
    try clear c46
    try clear c49
    try clear c51
    try clear c51b0
    try clear c51b1
    try clear c52
    try clear c52b0
    try clear c53
    try clear c55
    try clear c55b0
    try clear c55b1
    try clear c56
    try clear c59
    try clear c62
    try clear c62b0
    try clear c62b1
    try clear c63
    try clear c66
    try clear c69
    try clear c71
    try clear c71b0
    try clear c71b1
    try clear c72
    try clear c75
    try clear hcz10_0
    try clear hcz10_1
    try clear hcz10_2
    try clear hcz10_3
    try clear hcz10_4
    try clear hcz12_0
    try clear hcz12_1
    try clear hcz12_2
    try clear hcz12_3
    try clear hcz12_4
    try clear hcz15_0
    try clear hcz15_1
    try clear hcz15_2
    try clear hcz15_3
    try clear hcz15_4
    try clear hcz21_0
    try clear hcz21_1
    try clear hcz21_2
    try clear hcz21_3
    try clear hcz21_4
    try clear hcz22_0
    try clear hcz22_1
    try clear hcz22_2
    try clear hcz22_3
    try clear hcz22_4
    try clear hcz24_0
    try clear hcz24_1
    try clear hcz24_2
    try clear hcz24_3
    try clear hcz24_4
    try clear hcz28_0
    try clear hcz28_1
    try clear hcz28_2
    try clear hcz28_3
    try clear hcz28_4
    try clear hcz29_0
    try clear hcz29_1
    try clear hcz29_2
    try clear hcz29_3
    try clear hcz29_4
    try clear hcz32_0
    try clear hcz32_1
    try clear hcz32_2
    try clear hcz32_3
    try clear hcz32_4
    try clear hcz33_0
    try clear hcz33_1
    try clear hcz33_2
    try clear hcz33_3
    try clear hcz33_4
    try clear hcz35_0
    try clear hcz35_1
    try clear hcz35_2
    try clear hcz35_3
    try clear hcz35_4
    try clear hcz36_0
    try clear hcz36_1
    try clear hcz36_2
    try clear hcz36_3
    try clear hcz36_4
    try clear hcz42_0
    try clear hcz42_1
    try clear hcz42_2
    try clear hcz42_3
    try clear hcz42_4
    try clear hcz44_0
    try clear hcz44_1
    try clear hcz44_2
    try clear hcz44_3
    try clear hcz44_4
    try clear hcz47_0
    try clear hcz47_1
    try clear hcz47_2
    try clear hcz47_3
    try clear hcz47_4
    try clear hcz54_0
    try clear hcz54_1
    try clear hcz54_2
    try clear hcz54_3
    try clear hcz54_4
    try clear hcz57_0
    try clear hcz57_1
    try clear hcz57_2
    try clear hcz57_3
    try clear hcz57_4
    try clear hcz58_0
    try clear hcz58_1
    try clear hcz58_2
    try clear hcz58_3
    try clear hcz58_4
    try clear hcz60_0
    try clear hcz60_1
    try clear hcz60_2
    try clear hcz60_3
    try clear hcz60_4
    try clear hcz61_0
    try clear hcz61_1
    try clear hcz61_2
    try clear hcz61_3
    try clear hcz61_4
    try clear hcz64_0
    try clear hcz64_1
    try clear hcz64_2
    try clear hcz64_3
    try clear hcz64_4
    try clear hcz65_0
    try clear hcz65_1
    try clear hcz65_2
    try clear hcz65_3
    try clear hcz65_4
    try clear hcz67_0
    try clear hcz67_1
    try clear hcz67_2
    try clear hcz67_3
    try clear hcz67_4
    try clear hcz68_0
    try clear hcz68_1
    try clear hcz68_2
    try clear hcz68_3
    try clear hcz68_4
    try clear hcz73_0
    try clear hcz73_1
    try clear hcz73_2
    try clear hcz73_3
    try clear hcz73_4
    try clear hcz74_0
    try clear hcz74_1
    try clear hcz74_2
    try clear hcz74_3
    try clear hcz74_4
    try clear hcz76_0
    try clear hcz76_1
    try clear hcz76_2
    try clear hcz76_3
    try clear hcz76_4
    try clear hfz10_0
    try clear hfz10_1
    try clear hfz10_2
    try clear hfz10_3
    try clear hfz10_4
    try clear hfz12_0
    try clear hfz12_1
    try clear hfz12_2
    try clear hfz12_3
    try clear hfz12_4
    try clear hfz15_0
    try clear hfz15_1
    try clear hfz15_2
    try clear hfz15_3
    try clear hfz15_4
    try clear hfz21_0
    try clear hfz21_1
    try clear hfz21_2
    try clear hfz21_3
    try clear hfz21_4
    try clear hfz22_0
    try clear hfz22_1
    try clear hfz22_2
    try clear hfz22_3
    try clear hfz22_4
    try clear hfz24_0
    try clear hfz24_1
    try clear hfz24_2
    try clear hfz24_3
    try clear hfz24_4
    try clear hfz28_0
    try clear hfz28_1
    try clear hfz28_2
    try clear hfz28_3
    try clear hfz28_4
    try clear hfz29_0
    try clear hfz29_1
    try clear hfz29_2
    try clear hfz29_3
    try clear hfz29_4
    try clear hfz32_0
    try clear hfz32_1
    try clear hfz32_2
    try clear hfz32_3
    try clear hfz32_4
    try clear hfz33_0
    try clear hfz33_1
    try clear hfz33_2
    try clear hfz33_3
    try clear hfz33_4
    try clear hfz35_0
    try clear hfz35_1
    try clear hfz35_2
    try clear hfz35_3
    try clear hfz35_4
    try clear hfz36_0
    try clear hfz36_1
    try clear hfz36_2
    try clear hfz36_3
    try clear hfz36_4
    try clear hfz42_0
    try clear hfz42_1
    try clear hfz42_2
    try clear hfz42_3
    try clear hfz42_4
    try clear hfz44_0
    try clear hfz44_1
    try clear hfz44_2
    try clear hfz44_3
    try clear hfz44_4
    try clear hfz47_0
    try clear hfz47_1
    try clear hfz47_2
    try clear hfz47_3
    try clear hfz47_4
    try clear hfz54_0
    try clear hfz54_1
    try clear hfz54_2
    try clear hfz54_3
    try clear hfz54_4
    try clear hfz57_0
    try clear hfz57_1
    try clear hfz57_2
    try clear hfz57_3
    try clear hfz57_4
    try clear hfz58_0
    try clear hfz58_1
    try clear hfz58_2
    try clear hfz58_3
    try clear hfz58_4
    try clear hfz60_0
    try clear hfz60_1
    try clear hfz60_2
    try clear hfz60_3
    try clear hfz60_4
    try clear hfz61_0
    try clear hfz61_1
    try clear hfz61_2
    try clear hfz61_3
    try clear hfz61_4
    try clear hfz64_0
    try clear hfz64_1
    try clear hfz64_2
    try clear hfz64_3
    try clear hfz64_4
    try clear hfz65_0
    try clear hfz65_1
    try clear hfz65_2
    try clear hfz65_3
    try clear hfz65_4
    try clear hfz67_0
    try clear hfz67_1
    try clear hfz67_2
    try clear hfz67_3
    try clear hfz67_4
    try clear hfz68_0
    try clear hfz68_1
    try clear hfz68_2
    try clear hfz68_3
    try clear hfz68_4
    try clear hfz73_0
    try clear hfz73_1
    try clear hfz73_2
    try clear hfz73_3
    try clear hfz73_4
    try clear hfz74_0
    try clear hfz74_1
    try clear hfz74_2
    try clear hfz74_3
    try clear hfz74_4
    try clear hfz76_0
    try clear hfz76_1
    try clear hfz76_2
    try clear hfz76_3
    try clear hfz76_4
    try clear p2
    obtain ⟨kq, x61_69, rfl, HA, HJ69, BK535, BK536, HB⟩ := hcut
    rcases kq with _ | kj69
    · exact absurd HA.out (by simp [impl_Compare.j4])
    have H := HA.out
    clear HA
    simp only [impl_Compare.j4] at H
    by_cases c77 : x61_69 = true
    · subst c77
      have H1 : ((impl_order64.f a0_1 a1_1).bind fun t541 => (some t541)) = some r := by rw [if_pos rfl] at H; exact H
      clear H
      have H := H1
      clear H1
      replace H := Option.bind_eq_some_iff.mp H
      obtain ⟨t541, A780, H⟩ := H
      replace H : (some t541) = some r := H
      have A78 := Aside0.mk A780
      clear A780
      obtain rfl := Option.some.inj H
      have hnb79 := NB535_536.out
      have hnc79 := NB536_535.out
      obtain ⟨hcz80_0, hcz80_1, hcz80_2, hcz80_3, hcz80_4, hfz80_0, hfz80_1, hfz80_2, hfz80_3, hfz80_4⟩ := cells5 BK535.out
      obtain ⟨hcz81_0, hcz81_1, hcz81_2, hcz81_3, hcz81_4, hfz81_0, hfz81_1, hfz81_2, hfz81_3, hfz81_4⟩ := cells5 BK536.out
      go_wp2_with (first | ((with_reducible refine gate_callee (f := 75) rfl ?_); refine goesS (some 74) rfl Try.func75 #[.int .i64 a0_1, .int .i64 a1_1] rfl ?_; (with_reducible refine (impl_order64.calls a0_1 a1_1 t541 _ A78.out).mono ?_); rintro e w' ⟨rfl, ⟨nd, rfl⟩⟩; refine ⟨_, rfl, ?_⟩))
      go_ret
      exact ⟨by first | rfl | (simp <;> rfl) | (simp [*] <;> rfl), hbe2 HB.out GE535.out GE536.out⟩
    focus
     replace c77 := Bool.eq_false_iff.mpr c77
     subst c77
     have H1 : (if a0_0 = 2 then ((impl_intFloat.f a0_1 a1_2).bind fun t542 => (some t542)) else (if a1_0 = 2 then ((impl_intFloat.f a1_1 a0_2).bind fun t543 => (some (wrap64 (-t543)))) else (if (flss a0_2 a1_2) = true then (some (-1)) else (if (fgtr a0_2 a1_2) = true then (some 1) else (some 0))))) = some r := by rw [if_neg (show ¬ (false = true) by decide)] at H; exact H
     clear H
     have H := H1
     clear H1
     by_cases c82 : a0_0 = 2
     · rw [if_pos c82] at H
       have c82b0 : (a0_0 == 2) = true := beq_iff_eq.mpr c82
       have c82b1 : (a0_0 != 2) = false := bne_eq_false_iff_eq.mpr c82
       clear c82
       replace H := Option.bind_eq_some_iff.mp H
       obtain ⟨t542, A830, H⟩ := H
       replace H : (some t542) = some r := H
       have A83 := Aside0.mk A830
       clear A830
       obtain rfl := Option.some.inj H
       have hnb84 := NB535_536.out
       have hnc84 := NB536_535.out
       obtain ⟨hcz85_0, hcz85_1, hcz85_2, hcz85_3, hcz85_4, hfz85_0, hfz85_1, hfz85_2, hfz85_3, hfz85_4⟩ := cells5 BK535.out
       obtain ⟨hcz86_0, hcz86_1, hcz86_2, hcz86_3, hcz86_4, hfz86_0, hfz86_1, hfz86_2, hfz86_3, hfz86_4⟩ := cells5 BK536.out
       go_wp2_with (first | ((with_reducible refine gate_callee (f := 76) rfl ?_); refine goesS (some 83) rfl Try.func76 #[.int .i64 a0_1, .float .f64 a1_2] rfl ?_; (with_reducible refine (impl_intFloat.calls a0_1 a1_2 t542 _ A83.out).mono ?_); rintro e w' ⟨rfl, ⟨nd, rfl⟩⟩; refine ⟨_, rfl, ?_⟩))
       go_ret
       exact ⟨by first | rfl | (simp <;> rfl) | (simp [*] <;> rfl), hbe2 HB.out GE535.out GE536.out⟩
     focus
      rw [if_neg c82] at H
      have c82b0 : (a0_0 == 2) = false := beq_eq_false_iff_ne.mpr c82
      have c82b1 : (a0_0 != 2) = true := bne_iff_ne.mpr c82
      by_cases c87 : a1_0 = 2
      · rw [if_pos c87] at H
        have c87b0 : (a1_0 == 2) = true := beq_iff_eq.mpr c87
        have c87b1 : (a1_0 != 2) = false := bne_eq_false_iff_eq.mpr c87
        clear c87
        replace H := Option.bind_eq_some_iff.mp H
        obtain ⟨t543, A880, H⟩ := H
        replace H : (some (wrap64 (-t543))) = some r := H
        have A88 := Aside0.mk A880
        clear A880
        obtain rfl := Option.some.inj H
        have hnb89 := NB535_536.out
        have hnc89 := NB536_535.out
        obtain ⟨hcz90_0, hcz90_1, hcz90_2, hcz90_3, hcz90_4, hfz90_0, hfz90_1, hfz90_2, hfz90_3, hfz90_4⟩ := cells5 BK535.out
        obtain ⟨hcz91_0, hcz91_1, hcz91_2, hcz91_3, hcz91_4, hfz91_0, hfz91_1, hfz91_2, hfz91_3, hfz91_4⟩ := cells5 BK536.out
        go_wp2_with (first | ((with_reducible refine gate_callee (f := 76) rfl ?_); refine goesS (some 92) rfl Try.func76 #[.int .i64 a1_1, .float .f64 a0_2] rfl ?_; (with_reducible refine (impl_intFloat.calls a1_1 a0_2 t543 _ A88.out).mono ?_); rintro e w' ⟨rfl, ⟨nd, rfl⟩⟩; refine ⟨_, rfl, ?_⟩))
        go_ret
        exact ⟨by first | rfl | (simp <;> rfl) | (simp [*] <;> rfl), hbe2 HB.out GE535.out GE536.out⟩
      focus
       rw [if_neg c87] at H
       have c87b0 : (a1_0 == 2) = false := beq_eq_false_iff_ne.mpr c87
       have c87b1 : (a1_0 != 2) = true := bne_iff_ne.mpr c87
       by_cases c92 : (flss a0_2 a1_2) = true
       focus
        rw [if_pos c92] at H
        have c92b0 : (flss a0_2 a1_2) = true := c92
        clear c92
        obtain rfl := Option.some.inj H
        have hnb93 := NB535_536.out
        have hnc93 := NB536_535.out
        obtain ⟨hcz94_0, hcz94_1, hcz94_2, hcz94_3, hcz94_4, hfz94_0, hfz94_1, hfz94_2, hfz94_3, hfz94_4⟩ := cells5 BK535.out
        obtain ⟨hcz95_0, hcz95_1, hcz95_2, hcz95_3, hcz95_4, hfz95_0, hfz95_1, hfz95_2, hfz95_3, hfz95_4⟩ := cells5 BK536.out
       rotate_left 1
       focus
        rw [if_neg c92] at H
        have c92b0 : (flss a0_2 a1_2) = false := by simpa using c92
        clear c92
        by_cases c96 : (fgtr a0_2 a1_2) = true
        focus
         rw [if_pos c96] at H
         have c96b0 : (fgtr a0_2 a1_2) = true := c96
         clear c96
         obtain rfl := Option.some.inj H
         have hnb97 := NB535_536.out
         have hnc97 := NB536_535.out
         obtain ⟨hcz98_0, hcz98_1, hcz98_2, hcz98_3, hcz98_4, hfz98_0, hfz98_1, hfz98_2, hfz98_3, hfz98_4⟩ := cells5 BK535.out
         obtain ⟨hcz99_0, hcz99_1, hcz99_2, hcz99_3, hcz99_4, hfz99_0, hfz99_1, hfz99_2, hfz99_3, hfz99_4⟩ := cells5 BK536.out
        rotate_left 1
        focus
         rw [if_neg c96] at H
         have c96b0 : (fgtr a0_2 a1_2) = false := by simpa using c96
         clear c96
         obtain rfl := Option.some.inj H
         have hnb100 := NB535_536.out
         have hnc100 := NB536_535.out
         obtain ⟨hcz101_0, hcz101_1, hcz101_2, hcz101_3, hcz101_4, hfz101_0, hfz101_1, hfz101_2, hfz101_3, hfz101_4⟩ := cells5 BK535.out
         obtain ⟨hcz102_0, hcz102_1, hcz102_2, hcz102_3, hcz102_4, hfz102_0, hfz102_1, hfz102_2, hfz102_3, hfz102_4⟩ := cells5 BK536.out
    all_goals
     go_wp2
     go_ret
     exact ⟨by first | rfl | (simp <;> rfl) | (simp [*] <;> rfl), hbe2 HB.out GE535.out GE536.out⟩
  all_goals
   go_wp2
   go_ret
   exact ⟨by first | rfl | (simp <;> rfl) | (simp [*] <;> rfl), hbe2 HB.out GE535.out GE536.out⟩
end Go.Proofs.Ytdjlbfaiccdbfaa.PAll
