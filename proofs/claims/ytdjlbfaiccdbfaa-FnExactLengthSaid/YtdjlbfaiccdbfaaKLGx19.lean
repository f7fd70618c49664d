/- Cut down from the texts of the same job by wip/shake.py to what this claim reaches. -/
import Derived.Test.YtdjlbfaiccdbfaaKLGx0
import Derived.Test.YtdjlbfaiccdbfaaKLGx2
import Derived.Test.YtdjlbfaiccdbfaaKLGx16
import Derived.Test.YtdjlbfaiccdbfaaKLGx18
namespace Go.Proofs.Ytdjlbfaiccdbfaa.PAll
open Go.RowKit Go.Proofs.YtdjlbfaiccdbfaaW.PrintWords Go.Proofs.YtdjlbfaiccdbfaaW.PrintLast Go.Proofs.YtdjlbfaiccdbfaaW.PrintMore
attribute [local go_sem] max2_int min2_int max_two min_two max_three min_three max_four min_four   -- for this text's walks alone
set_option linter.unusedVariables false
set_option linter.unusedSimpArgs false
mutual
def spec_TableOk.j0 : Nat → Bool → List (S61) → Int → Option (Bool)
  | 0, _, _, _ => none
  | k + 1, x20, x626000, x626001 => if x20 = true then (some false) else (spec_TableOk.l0 k 0 x626000 (x626000.length : Int) 0 x626000 x626001)
def spec_TableOk.l0 : Nat → Int → List (S61) → Int → Int → List (S61) → Int → Option (Bool)
  | 0, _, _, _, _, _, _ => none
  | k + 1, x3, x22, x23, x24, x626000, x626001 => if x24 < x23 then (if 0 ≤ x24 then (if x24 < (x22.length : Int) then ((spec_l2keyOk.f k ((rd_T61 x22 x24).f0.f0) ((rd_T61 x22 x24).f0.f1) ((rd_T61 x22 x24).f0.f2) ((rd_T61 x22 x24).f0.f3) ((rd_T61 x22 x24).f0.f4)).bind fun t628 => (if t628 = true then ((spec_ValueOk.f k ((rd_T61 x22 x24).f1.f0) ((rd_T61 x22 x24).f1.f1) ((rd_T61 x22 x24).f1.f2) ((rd_T61 x22 x24).f1.f3) ((rd_T61 x22 x24).f1.f4)).bind fun t629 => (if t629 = true then (if ((rd_T61 x22 x24).f1.f0) = 0 then (spec_TableOk.j2 k x24 x22 x23 x24 true x626000 x626001 ((rd_T61 x22 x24).f0.f0) ((rd_T61 x22 x24).f0.f1) ((rd_T61 x22 x24).f0.f2) ((rd_T61 x22 x24).f0.f3) ((rd_T61 x22 x24).f0.f4) ((rd_T61 x22 x24).f1.f0) ((rd_T61 x22 x24).f1.f1) ((rd_T61 x22 x24).f1.f2) ((rd_T61 x22 x24).f1.f3) ((rd_T61 x22 x24).f1.f4) ((rd_T61 x22 x24).f2)) else (if ((rd_T61 x22 x24).f2) ≤ x3 then (spec_TableOk.j2 k x24 x22 x23 x24 true x626000 x626001 ((rd_T61 x22 x24).f0.f0) ((rd_T61 x22 x24).f0.f1) ((rd_T61 x22 x24).f0.f2) ((rd_T61 x22 x24).f0.f3) ((rd_T61 x22 x24).f0.f4) ((rd_T61 x22 x24).f1.f0) ((rd_T61 x22 x24).f1.f1) ((rd_T61 x22 x24).f1.f2) ((rd_T61 x22 x24).f1.f3) ((rd_T61 x22 x24).f1.f4) ((rd_T61 x22 x24).f2)) else (spec_TableOk.j2 k x24 x22 x23 x24 (decide (((rd_T61 x22 x24).f2) > x626001)) x626000 x626001 ((rd_T61 x22 x24).f0.f0) ((rd_T61 x22 x24).f0.f1) ((rd_T61 x22 x24).f0.f2) ((rd_T61 x22 x24).f0.f3) ((rd_T61 x22 x24).f0.f4) ((rd_T61 x22 x24).f1.f0) ((rd_T61 x22 x24).f1.f1) ((rd_T61 x22 x24).f1.f2) ((rd_T61 x22 x24).f1.f3) ((rd_T61 x22 x24).f1.f4) ((rd_T61 x22 x24).f2)))) else (spec_TableOk.j2 k x24 x22 x23 x24 true x626000 x626001 ((rd_T61 x22 x24).f0.f0) ((rd_T61 x22 x24).f0.f1) ((rd_T61 x22 x24).f0.f2) ((rd_T61 x22 x24).f0.f3) ((rd_T61 x22 x24).f0.f4) ((rd_T61 x22 x24).f1.f0) ((rd_T61 x22 x24).f1.f1) ((rd_T61 x22 x24).f1.f2) ((rd_T61 x22 x24).f1.f3) ((rd_T61 x22 x24).f1.f4) ((rd_T61 x22 x24).f2)))) else (spec_TableOk.j2 k x24 x22 x23 x24 true x626000 x626001 ((rd_T61 x22 x24).f0.f0) ((rd_T61 x22 x24).f0.f1) ((rd_T61 x22 x24).f0.f2) ((rd_T61 x22 x24).f0.f3) ((rd_T61 x22 x24).f0.f4) ((rd_T61 x22 x24).f1.f0) ((rd_T61 x22 x24).f1.f1) ((rd_T61 x22 x24).f1.f2) ((rd_T61 x22 x24).f1.f3) ((rd_T61 x22 x24).f1.f4) ((rd_T61 x22 x24).f2)))) else (none)) else (none)) else (some true)
def spec_TableOk.j2 : Nat → Int → List (S61) → Int → Int → Bool → List (S61) → Int → Int → Int → Nat → ByteArray → Int → Int → Int → Nat → ByteArray → Int → Int → Option (Bool)
  | 0, _, _, _, _, _, _, _, _, _, _, _, _, _, _, _, _, _, _ => none
  | k + 1, x4, x22, x23, x24, x57, x626000, x626001, x628000, x628001, x628002, x628003, x628004, x628005, x628006, x628007, x628008, x628009, x628010 => if x57 = true then (some false) else (spec_TableOk.l1 k x628010 x4 0 x22 x23 x24 x626000 x626001 x628000 x628001 x628002 x628003 x628004 x628005 x628006 x628007 x628008 x628009 x628010)
def spec_TableOk.l1 : Nat → Int → Int → Int → List (S61) → Int → Int → List (S61) → Int → Int → Int → Nat → ByteArray → Int → Int → Int → Nat → ByteArray → Int → Int → Option (Bool)
  | 0, _, _, _, _, _, _, _, _, _, _, _, _, _, _, _, _, _, _, _ => none
  | k + 1, x3, x4, x6, x22, x23, x24, x626000, x626001, x628000, x628001, x628002, x628003, x628004, x628005, x628006, x628007, x628008, x628009, x628010 => if x6 < x4 then (if 0 ≤ x6 then (if x6 < (x626000.length : Int) then ((spec_Same.f k ((rd_T61 x626000 x6).f0.f0) ((rd_T61 x626000 x6).f0.f1) ((rd_T61 x626000 x6).f0.f2) ((rd_T61 x626000 x6).f0.f3) ((rd_T61 x626000 x6).f0.f4) x628000 x628001 x628002 x628003 x628004).bind fun t631 => (if t631 = true then (some false) else (spec_TableOk.l1 k x3 x4 (wrap64 (x6 + 1)) x22 x23 x24 x626000 x626001 x628000 x628001 x628002 x628003 x628004 x628005 x628006 x628007 x628008 x628009 x628010))) else (none)) else (none)) else (spec_TableOk.l0 k x3 x22 x23 (wrap64 (x24 + 1)) x626000 x626001)
end
def spec_TableOk.f (k : Nat) (l0_0 : List (S61)) (a0_1 : Int) : Option (Bool) := if (l0_0.length : Int) > 500 then (spec_TableOk.j0 k true l0_0 a0_1) else (if a0_1 < 0 then (spec_TableOk.j0 k true l0_0 a0_1) else (spec_TableOk.j0 k (decide (a0_1 > 1000000000000)) l0_0 a0_1))
def spec_TableOk.T13 : Bool × List (List Nat × List Nat) := (true, [([], []), ([0], [0]), ([], []), ([1, 2], [1, 2]), ([3], [3]), ([4], [4]), ([], []), ([6], [6]), ([5, 7], [5, 7])])
def spec_TableOk.B13 : List Nat := [0, 1, 0, 7, 15, 31, 0, 64, 255]
theorem spec_TableOk.tab13 : rtab .any (opsOf Try.f37 13) = spec_TableOk.T13 := by kernel_rfl
theorem spec_TableOk.bits13 : waitsOk spec_TableOk.T13.2 spec_TableOk.B13 = true := by kernel_rfl
set_option maxHeartbeats 8000000 in
set_option maxRecDepth 100000 in
theorem spec_TableOk.calls (k : Nat) (A0_0 : Option Addr) (c0_0 : Nat) (l0_0 : List (S61)) (a0_1 : Int) (r : Bool) (w : World) (hr0_0 : Kd.C k61 w A0_0 l0_0.length l0_0) (hc0_0 : l0_0.length ≤ c0_0) (h : spec_TableOk.f k l0_0 a0_1 = some r) :
    Calls Try.prog 37 #[.agg #[.slice A0_0 l0_0.length c0_0, .int .i64 a0_1]] w fun e w' => e = .returned (.bool r) ∧ Below w.heap.size w w' := by
  have hu56 := Try.underlying56
  have hu61 := Try.underlying61
  have hu28 := Try.underlying28
  have HR0_0 := Aside0.mk hr0_0
  have HC0_0 := Aside0.mk hc0_0
  clear hr0_0 hc0_0
  have HB := Aside0.mk (Below.refl w.heap.size w)
  have H : (if (l0_0.length : Int) > 500 then (spec_TableOk.j0 k true l0_0 a0_1) else (if a0_1 < 0 then (spec_TableOk.j0 k true l0_0 a0_1) else (spec_TableOk.j0 k (decide (a0_1 > 1000000000000)) l0_0 a0_1))) = some r := h
  clear h
  have HC2 := Aside0.mk H
  clear H
  go_enter Try.func37, Try.ntmps37
  go_upto_region 1 with (first | ((with_reducible refine gate_dst (N := 1) rfl ?_); refine box_event rfl (N := 1) rfl (cs := #[.slice A0_0 l0_0.length c0_0, .int .i64 a0_1]) (t := 56) (by first | (go_simp; done) | (go_simp; rfl)) ?_; intro gb625 hg w3 hbox hb; have BK625 := Aside0.mk (hbox); have GW625 := (gws hg (hbe HB.out) : Aside0 (w.heap.size ≤ gb625)); have GE625 := (gws hg (hbe HB.out) : Aside0 (w.heap.size ≤ gb625)); replace HB := hbs HB.out hb; clear hb hbox hg))
  (try simp only [Act.put, List.setIfInBounds_toArray, List.set_cons_zero, List.set_cons_succ])
  go_cut [20] (fun v20 wc => ∃ (kq : Nat) (x20_1 : Bool), v20 = .bool x20_1 ∧ Aside0 (spec_TableOk.j0 kq x20_1 l0_0 a0_1 = some r) ∧ Aside0 (kq ≤ k) ∧ Aside0 (wc.heap[gb625]? = some (.cells #[(.slice A0_0 l0_0.length c0_0), .int .i64 a0_1] 56 (0, 0))) ∧ Aside0 (Below w.heap.size w wc))
  case first =>
    have H := HC2.out
    clear HC2
    by_cases c4 : (l0_0.length : Int) > 500
    focus
     rw [if_pos c4] at H
     have c4b0 : decide (500 < (l0_0.length : Int)) = true := decide_eq_true c4
     have c4b1 : decide (500 < l0_0.length) = true := decide_eq_true (by omega)
     clear c4
     (first | rw [c4b0] | (simp only [i64_w, i32_w]; rw [c4b0]) | skip)
     have H' := Aside0.mk H
     clear H
     obtain ⟨hcz5_0, hcz5_1, hfz5_0, hfz5_1⟩ := cells2 BK625.out
    rotate_left 1
    focus
     rw [if_neg c4] at H
     have c4b0 : decide (500 < (l0_0.length : Int)) = false := decide_eq_false c4
     have c4b1 : decide (500 < l0_0.length) = false := decide_eq_false (by omega)
     clear c4
     (first | rw [c4b0] | (simp only [i64_w, i32_w]; rw [c4b0]) | skip)
     by_cases c6 : a0_1 < 0
     focus
      rw [if_pos c6] at H
      have c6b0 : decide (a0_1 < 0) = true := decide_eq_true c6
      clear c6
      have H' := Aside0.mk H
      clear H
      obtain ⟨hcz7_0, hcz7_1, hfz7_0, hfz7_1⟩ := cells2 BK625.out
     rotate_left 1
     · rw [if_neg c6] at H
       have c6b0 : decide (a0_1 < 0) = false := decide_eq_false c6
       clear c6
       have H' := Aside0.mk H
       clear H
       obtain ⟨hcz8_0, hcz8_1, hfz8_0, hfz8_1⟩ := cells2 BK625.out
       go_wp2
       go_meet
       case rel => exact ⟨_, (decide (a0_1 > 1000000000000)), (by first | rfl | (simp; done) | (simp [*]; done)), H', ⟨by first | omega | exact Nat.le_refl _⟩, ⟨by (with_reducible repeat (first | refine blk_drewN ?_ _ | refine blk_drew ?_ | refine blk_alloc ?_ _)); exact BK625.out⟩, ⟨by repeat (first | (with_reducible first | exact HB.out | apply below_alloc | apply pw_below_drewN | apply below_drew1 | refine below_set ?_ GE625.out) | exact HB.out)⟩⟩
    all_goals
     go_wp2
     go_meet
     case rel => exact ⟨_, (true), (by first | rfl | (simp; done) | (simp [*]; done)), H', ⟨by first | omega | exact Nat.le_refl _⟩, ⟨by (with_reducible repeat (first | refine blk_drewN ?_ _ | refine blk_drew ?_ | refine blk_alloc ?_ _)); exact BK625.out⟩, ⟨by repeat (first | (with_reducible first | exact HB.out | apply below_alloc | apply pw_below_drewN | apply below_drew1 | refine below_set ?_ GE625.out) | exact HB.out)⟩⟩
  clear HC2
  obtain ⟨kq, x20_1, rfl, HA, HJ1, BK625, HB⟩ := hcut
  rcases kq with _ | kj1
  · exact absurd HA.out (by simp [spec_TableOk.j0])
  have H := HA.out
  clear HA
  simp only [spec_TableOk.j0] at H
  by_cases c9 : x20_1 = true
  · subst c9
    have H1 : (some false) = some r := by rw [if_pos rfl] at H; exact H
    clear H
    have H := H1
    clear H1
    obtain rfl := Option.some.inj H
    go_wp2
    go_ret
    exact ⟨by first | rfl | (simp <;> rfl) | (simp [*] <;> rfl), hbe1 HB.out GE625.out⟩
  replace c9 := Bool.eq_false_iff.mpr c9
  subst c9
  have H1 : (spec_TableOk.l0 kj1 0 l0_0 (l0_0.length : Int) 0 l0_0 a0_1) = some r := by rw [if_neg (show ¬ (false = true) by decide)] at H; exact H
  clear H
  have H := H1
  clear H1
  have H' := Aside0.mk H
  clear H
  obtain ⟨hcz10_0, hcz10_1, hfz10_0, hfz10_1⟩ := cells2 BK625.out
  go_wp2
  go_loopg [3, 24] kj1 (fun kq v3 v24 w' => ∃ (x3_2 : Int) (x24_2 : Int), v3 = .int .i64 x3_2 ∧ v24 = .int .i64 x24_2 ∧ Aside0 (spec_TableOk.l0 kq x3_2 l0_0 (l0_0.length : Int) x24_2 l0_0 a0_1 = some r) ∧ Aside0 (kq ≤ kj1) ∧ Aside0 (w'.heap[gb625]? = some (.cells #[(.slice A0_0 l0_0.length c0_0), .int .i64 a0_1] 56 (0, 0))) ∧ Aside0 (Below w.heap.size w w'))
  case atStart => exact ⟨(0), (0), (by first | rfl | (simp; done) | (simp [*]; done)), (by first | rfl | (simp; done) | (simp [*]; done)), H', ⟨Nat.le_refl _⟩, ⟨by (with_reducible repeat (first | refine blk_drewN ?_ _ | refine blk_drew ?_ | refine blk_alloc ?_ _)); exact BK625.out⟩, ⟨by repeat (first | (with_reducible first | exact HB.out | apply below_alloc | apply pw_below_drewN | apply below_drew1 | refine below_set ?_ GE625.out) | exact HB.out)⟩⟩
  case round =>
    clear H'
    try clear c9
    try clear hcz10_0
    try clear hcz10_1
    try clear hfz10_0
    try clear hfz10_1
    obtain ⟨x3_2, x24_2, rfl, rfl, HA, HK2, BK625, HB⟩ := hrel
    rcases gk with _ | k2
    · exact absurd HA.out (by simp [spec_TableOk.l0])
    have H := HA.out
    clear HA
    simp only [spec_TableOk.l0] at H
    by_cases c11 : x24_2 < (l0_0.length : Int)
    rotate_left 1
    · rw [if_neg c11] at H
      have c11b0 : decide (x24_2 < (l0_0.length : Int)) = false := decide_eq_false c11
      clear c11
      obtain rfl := Option.some.inj H
      go_wp2
      go_ret
      exact ⟨by first | rfl | (simp <;> rfl) | (simp [*] <;> rfl), hbe1 HB.out GE625.out⟩
    rw [if_pos c11] at H
    have c11b0 : decide (x24_2 < (l0_0.length : Int)) = true := decide_eq_true c11
    clear c11
    by_cases c12 : 0 ≤ x24_2
    rotate_left 1
    · rw [if_neg c12] at H
      exact absurd H (by simp)
    rw [if_pos c12] at H
    have c12b0 : decide (0 ≤ x24_2) = true := decide_eq_true c12
    clear c12
    by_cases c13 : x24_2 < (l0_0.length : Int)
    rotate_left 1
    · rw [if_neg c13] at H
      exact absurd H (by simp)
    rw [if_pos c13] at H
    have c13b0 : decide (x24_2 < (l0_0.length : Int)) = true := decide_eq_true c13
    clear c13
    have HC14 := Aside0.mk H
    clear H
    have p626 : 0 ≤ (x24_2 : Int) := of_decide_eq_true (by first | (with_reducible assumption) | assumption)
    have q626 : x24_2 < (l0_0.length : Int) := of_decide_eq_true (by first | (with_reducible assumption) | assumption)
    obtain ⟨ad626, e626, hx626_0, hx626_1, hx626_2, hx626_3, hx626_4, hx626_5, hx626_6, hx626_7, hx626_8, hx626_9, hx626_10⟩ := at_T61 HR0_0.out x24_2 p626 q626
    cases e626
    (first | replace hx626_0 := (HB.out.cell (World.block_lt_of_cell? w _ hx626_0)).trans hx626_0 | skip)
    (first | replace hx626_1 := (HB.out.cell (World.block_lt_of_cell? w _ hx626_1)).trans hx626_1 | skip)
    (first | replace hx626_2 := (HB.out.cell (World.block_lt_of_cell? w _ hx626_2)).trans hx626_2 | skip)
    (first | replace hx626_3 := (HB.out.cell (World.block_lt_of_cell? w _ hx626_3)).trans hx626_3 | skip)
    (first | replace hx626_4 := (HB.out.cell (World.block_lt_of_cell? w _ hx626_4)).trans hx626_4 | skip)
    (first | replace hx626_5 := (HB.out.cell (World.block_lt_of_cell? w _ hx626_5)).trans hx626_5 | skip)
    (first | replace hx626_6 := (HB.out.cell (World.block_lt_of_cell? w _ hx626_6)).trans hx626_6 | skip)
    (first | replace hx626_7 := (HB.out.cell (World.block_lt_of_cell? w _ hx626_7)).trans hx626_7 | skip)
    (first | replace hx626_8 := (HB.out.cell (World.block_lt_of_cell? w _ hx626_8)).trans hx626_8 | skip)
    (first | replace hx626_9 := (HB.out.cell (World.block_lt_of_cell? w _ hx626_9)).trans hx626_9 | skip)
    (first | replace hx626_10 := (HB.out.cell (World.block_lt_of_cell? w _ hx626_10)).trans hx626_10 | skip)
    replace p626 := eq_true p626
    replace q626 := eq_true q626
    go_upto_region 7 with (first | ((with_reducible refine gate_dst (N := 5) rfl ?_); refine box_event rfl (N := 5) rfl (cs := #[.int .i64 0, .int .i64 0, .float .f64 0, .string (⟨#[]⟩ : ByteArray), .int .i64 0, .int .i64 0, .int .i64 0, .float .f64 0, .string (⟨#[]⟩ : ByteArray), .int .i64 0, .int .i64 0]) (t := 61) (by first | (go_simp; done) | (go_simp; rfl)) ?_; intro gb627 hg w15 hbox hb; have BK627 := Aside0.mk (hbox); have GW627 := (gws hg (hbe1 HB.out GE625.out) : Aside0 (w.heap.size ≤ gb627)); have GE627 := (gws hg (hbe1 HB.out GE625.out) : Aside0 (w.heap.size ≤ gb627)); replace HB := hbs1 HB.out GE625.out hb; have NB625_627 := nlt hg BK625.out; have NB627_625 := ngt hg BK625.out; replace BK625 := bku BK625.out hb; clear hb hbox hg; have hnb16 := NB627_625.out; have hnc16 := NB625_627.out; obtain ⟨hcz17_0, hcz17_1, hcz17_2, hcz17_3, hcz17_4, hcz17_5, hcz17_6, hcz17_7, hcz17_8, hcz17_9, hcz17_10, hfz17_0, hfz17_1, hfz17_2, hfz17_3, hfz17_4, hfz17_5, hfz17_6, hfz17_7, hfz17_8, hfz17_9, hfz17_10⟩ := cells11 BK627.out))
    (try simp only [Act.put, List.setIfInBounds_toArray, List.set_cons_zero, List.set_cons_succ])
    go_cut [57] (fun v57 wc => ∃ (kq : Nat) (x57_13 : Bool), v57 = .bool x57_13 ∧ Aside0 (spec_TableOk.j2 kq x24_2 l0_0 (l0_0.length : Int) x24_2 x57_13 l0_0 a0_1 ((rd_T61 l0_0 x24_2).f0.f0) ((rd_T61 l0_0 x24_2).f0.f1) ((rd_T61 l0_0 x24_2).f0.f2) ((rd_T61 l0_0 x24_2).f0.f3) ((rd_T61 l0_0 x24_2).f0.f4) ((rd_T61 l0_0 x24_2).f1.f0) ((rd_T61 l0_0 x24_2).f1.f1) ((rd_T61 l0_0 x24_2).f1.f2) ((rd_T61 l0_0 x24_2).f1.f3) ((rd_T61 l0_0 x24_2).f1.f4) ((rd_T61 l0_0 x24_2).f2) = some r) ∧ Aside0 (kq ≤ k2) ∧ Aside0 (wc.heap[gb625]? = some (.cells #[(.slice (some ad626) l0_0.length c0_0), .int .i64 a0_1] 56 (0, 0))) ∧ Aside0 (wc.heap[gb627]? = some (.cells #[.int .i64 ((rd_T61 l0_0 x24_2).f0.f0), .int .i64 ((rd_T61 l0_0 x24_2).f0.f1), .float .f64 ((rd_T61 l0_0 x24_2).f0.f2), .string ((rd_T61 l0_0 x24_2).f0.f3), .int .i64 ((rd_T61 l0_0 x24_2).f0.f4), .int .i64 ((rd_T61 l0_0 x24_2).f1.f0), .int .i64 ((rd_T61 l0_0 x24_2).f1.f1), .float .f64 ((rd_T61 l0_0 x24_2).f1.f2), .string ((rd_T61 l0_0 x24_2).f1.f3), .int .i64 ((rd_T61 l0_0 x24_2).f1.f4), .int .i64 ((rd_T61 l0_0 x24_2).f2)] 61 (0, 0))) ∧ Aside0 (Below w.heap.size w wc))
    case first =>
      have H := HC14.out
      clear HC14
      replace H := Option.bind_eq_some_iff.mp H
      obtain ⟨t628, A180, H⟩ := H
      replace H : (if t628 = true then ((spec_ValueOk.f k2 ((rd_T61 l0_0 x24_2).f1.f0) ((rd_T61 l0_0 x24_2).f1.f1) ((rd_T61 l0_0 x24_2).f1.f2) ((rd_T61 l0_0 x24_2).f1.f3) ((rd_T61 l0_0 x24_2).f1.f4)).bind fun t629 => (if t629 = true then (if ((rd_T61 l0_0 x24_2).f1.f0) = 0 then (spec_TableOk.j2 k2 x24_2 l0_0 (l0_0.length : Int) x24_2 true l0_0 a0_1 ((rd_T61 l0_0 x24_2).f0.f0) ((rd_T61 l0_0 x24_2).f0.f1) ((rd_T61 l0_0 x24_2).f0.f2) ((rd_T61 l0_0 x24_2).f0.f3) ((rd_T61 l0_0 x24_2).f0.f4) ((rd_T61 l0_0 x24_2).f1.f0) ((rd_T61 l0_0 x24_2).f1.f1) ((rd_T61 l0_0 x24_2).f1.f2) ((rd_T61 l0_0 x24_2).f1.f3) ((rd_T61 l0_0 x24_2).f1.f4) ((rd_T61 l0_0 x24_2).f2)) else (if ((rd_T61 l0_0 x24_2).f2) ≤ x3_2 then (spec_TableOk.j2 k2 x24_2 l0_0 (l0_0.length : Int) x24_2 true l0_0 a0_1 ((rd_T61 l0_0 x24_2).f0.f0) ((rd_T61 l0_0 x24_2).f0.f1) ((rd_T61 l0_0 x24_2).f0.f2) ((rd_T61 l0_0 x24_2).f0.f3) ((rd_T61 l0_0 x24_2).f0.f4) ((rd_T61 l0_0 x24_2).f1.f0) ((rd_T61 l0_0 x24_2).f1.f1) ((rd_T61 l0_0 x24_2).f1.f2) ((rd_T61 l0_0 x24_2).f1.f3) ((rd_T61 l0_0 x24_2).f1.f4) ((rd_T61 l0_0 x24_2).f2)) else (spec_TableOk.j2 k2 x24_2 l0_0 (l0_0.length : Int) x24_2 (decide (((rd_T61 l0_0 x24_2).f2) > a0_1)) l0_0 a0_1 ((rd_T61 l0_0 x24_2).f0.f0) ((rd_T61 l0_0 x24_2).f0.f1) ((rd_T61 l0_0 x24_2).f0.f2) ((rd_T61 l0_0 x24_2).f0.f3) ((rd_T61 l0_0 x24_2).f0.f4) ((rd_T61 l0_0 x24_2).f1.f0) ((rd_T61 l0_0 x24_2).f1.f1) ((rd_T61 l0_0 x24_2).f1.f2) ((rd_T61 l0_0 x24_2).f1.f3) ((rd_T61 l0_0 x24_2).f1.f4) ((rd_T61 l0_0 x24_2).f2)))) else (spec_TableOk.j2 k2 x24_2 l0_0 (l0_0.length : Int) x24_2 true l0_0 a0_1 ((rd_T61 l0_0 x24_2).f0.f0) ((rd_T61 l0_0 x24_2).f0.f1) ((rd_T61 l0_0 x24_2).f0.f2) ((rd_T61 l0_0 x24_2).f0.f3) ((rd_T61 l0_0 x24_2).f0.f4) ((rd_T61 l0_0 x24_2).f1.f0) ((rd_T61 l0_0 x24_2).f1.f1) ((rd_T61 l0_0 x24_2).f1.f2) ((rd_T61 l0_0 x24_2).f1.f3) ((rd_T61 l0_0 x24_2).f1.f4) ((rd_T61 l0_0 x24_2).f2)))) else (spec_TableOk.j2 k2 x24_2 l0_0 (l0_0.length : Int) x24_2 true l0_0 a0_1 ((rd_T61 l0_0 x24_2).f0.f0) ((rd_T61 l0_0 x24_2).f0.f1) ((rd_T61 l0_0 x24_2).f0.f2) ((rd_T61 l0_0 x24_2).f0.f3) ((rd_T61 l0_0 x24_2).f0.f4) ((rd_T61 l0_0 x24_2).f1.f0) ((rd_T61 l0_0 x24_2).f1.f1) ((rd_T61 l0_0 x24_2).f1.f2) ((rd_T61 l0_0 x24_2).f1.f3) ((rd_T61 l0_0 x24_2).f1.f4) ((rd_T61 l0_0 x24_2).f2))) = some r := H
      have A18 := Aside0.mk A180
      clear A180
      by_cases c19 : t628 = true
      focus
       subst c19
       have H1 : ((spec_ValueOk.f k2 ((rd_T61 l0_0 x24_2).f1.f0) ((rd_T61 l0_0 x24_2).f1.f1) ((rd_T61 l0_0 x24_2).f1.f2) ((rd_T61 l0_0 x24_2).f1.f3) ((rd_T61 l0_0 x24_2).f1.f4)).bind fun t629 => (if t629 = true then (if ((rd_T61 l0_0 x24_2).f1.f0) = 0 then (spec_TableOk.j2 k2 x24_2 l0_0 (l0_0.length : Int) x24_2 true l0_0 a0_1 ((rd_T61 l0_0 x24_2).f0.f0) ((rd_T61 l0_0 x24_2).f0.f1) ((rd_T61 l0_0 x24_2).f0.f2) ((rd_T61 l0_0 x24_2).f0.f3) ((rd_T61 l0_0 x24_2).f0.f4) ((rd_T61 l0_0 x24_2).f1.f0) ((rd_T61 l0_0 x24_2).f1.f1) ((rd_T61 l0_0 x24_2).f1.f2) ((rd_T61 l0_0 x24_2).f1.f3) ((rd_T61 l0_0 x24_2).f1.f4) ((rd_T61 l0_0 x24_2).f2)) else (if ((rd_T61 l0_0 x24_2).f2) ≤ x3_2 then (spec_TableOk.j2 k2 x24_2 l0_0 (l0_0.length : Int) x24_2 true l0_0 a0_1 ((rd_T61 l0_0 x24_2).f0.f0) ((rd_T61 l0_0 x24_2).f0.f1) ((rd_T61 l0_0 x24_2).f0.f2) ((rd_T61 l0_0 x24_2).f0.f3) ((rd_T61 l0_0 x24_2).f0.f4) ((rd_T61 l0_0 x24_2).f1.f0) ((rd_T61 l0_0 x24_2).f1.f1) ((rd_T61 l0_0 x24_2).f1.f2) ((rd_T61 l0_0 x24_2).f1.f3) ((rd_T61 l0_0 x24_2).f1.f4) ((rd_T61 l0_0 x24_2).f2)) else (spec_TableOk.j2 k2 x24_2 l0_0 (l0_0.length : Int) x24_2 (decide (((rd_T61 l0_0 x24_2).f2) > a0_1)) l0_0 a0_1 ((rd_T61 l0_0 x24_2).f0.f0) ((rd_T61 l0_0 x24_2).f0.f1) ((rd_T61 l0_0 x24_2).f0.f2) ((rd_T61 l0_0 x24_2).f0.f3) ((rd_T61 l0_0 x24_2).f0.f4) ((rd_T61 l0_0 x24_2).f1.f0) ((rd_T61 l0_0 x24_2).f1.f1) ((rd_T61 l0_0 x24_2).f1.f2) ((rd_T61 l0_0 x24_2).f1.f3) ((rd_T61 l0_0 x24_2).f1.f4) ((rd_T61 l0_0 x24_2).f2)))) else (spec_TableOk.j2 k2 x24_2 l0_0 (l0_0.length : Int) x24_2 true l0_0 a0_1 ((rd_T61 l0_0 x24_2).f0.f0) ((rd_T61 l0_0 x24_2).f0.f1) ((rd_T61 l0_0 x24_2).f0.f2) ((rd_T61 l0_0 x24_2).f0.f3) ((rd_T61 l0_0 x24_2).f0.f4) ((rd_T61 l0_0 x24_2).f1.f0) ((rd_T61 l0_0 x24_2).f1.f1) ((rd_T61 l0_0 x24_2).f1.f2) ((rd_T61 l0_0 x24_2).f1.f3) ((rd_T61 l0_0 x24_2).f1.f4) ((rd_T61 l0_0 x24_2).f2)))) = some r := by rw [if_pos rfl] at H; exact H
       clear H
       have H := H1
       clear H1
       replace H := Option.bind_eq_some_iff.mp H
       obtain ⟨t629, A200, H⟩ := H
       replace H : (if t629 = true then (if ((rd_T61 l0_0 x24_2).f1.f0) = 0 then (spec_TableOk.j2 k2 x24_2 l0_0 (l0_0.length : Int) x24_2 true l0_0 a0_1 ((rd_T61 l0_0 x24_2).f0.f0) ((rd_T61 l0_0 x24_2).f0.f1) ((rd_T61 l0_0 x24_2).f0.f2) ((rd_T61 l0_0 x24_2).f0.f3) ((rd_T61 l0_0 x24_2).f0.f4) ((rd_T61 l0_0 x24_2).f1.f0) ((rd_T61 l0_0 x24_2).f1.f1) ((rd_T61 l0_0 x24_2).f1.f2) ((rd_T61 l0_0 x24_2).f1.f3) ((rd_T61 l0_0 x24_2).f1.f4) ((rd_T61 l0_0 x24_2).f2)) else (if ((rd_T61 l0_0 x24_2).f2) ≤ x3_2 then (spec_TableOk.j2 k2 x24_2 l0_0 (l0_0.length : Int) x24_2 true l0_0 a0_1 ((rd_T61 l0_0 x24_2).f0.f0) ((rd_T61 l0_0 x24_2).f0.f1) ((rd_T61 l0_0 x24_2).f0.f2) ((rd_T61 l0_0 x24_2).f0.f3) ((rd_T61 l0_0 x24_2).f0.f4) ((rd_T61 l0_0 x24_2).f1.f0) ((rd_T61 l0_0 x24_2).f1.f1) ((rd_T61 l0_0 x24_2).f1.f2) ((rd_T61 l0_0 x24_2).f1.f3) ((rd_T61 l0_0 x24_2).f1.f4) ((rd_T61 l0_0 x24_2).f2)) else (spec_TableOk.j2 k2 x24_2 l0_0 (l0_0.length : Int) x24_2 (decide (((rd_T61 l0_0 x24_2).f2) > a0_1)) l0_0 a0_1 ((rd_T61 l0_0 x24_2).f0.f0) ((rd_T61 l0_0 x24_2).f0.f1) ((rd_T61 l0_0 x24_2).f0.f2) ((rd_T61 l0_0 x24_2).f0.f3) ((rd_T61 l0_0 x24_2).f0.f4) ((rd_T61 l0_0 x24_2).f1.f0) ((rd_T61 l0_0 x24_2).f1.f1) ((rd_T61 l0_0 x24_2).f1.f2) ((rd_T61 l0_0 x24_2).f1.f3) ((rd_T61 l0_0 x24_2).f1.f4) ((rd_T61 l0_0 x24_2).f2)))) else (spec_TableOk.j2 k2 x24_2 l0_0 (l0_0.length : Int) x24_2 true l0_0 a0_1 ((rd_T61 l0_0 x24_2).f0.f0) ((rd_T61 l0_0 x24_2).f0.f1) ((rd_T61 l0_0 x24_2).f0.f2) ((rd_T61 l0_0 x24_2).f0.f3) ((rd_T61 l0_0 x24_2).f0.f4) ((rd_T61 l0_0 x24_2).f1.f0) ((rd_T61 l0_0 x24_2).f1.f1) ((rd_T61 l0_0 x24_2).f1.f2) ((rd_T61 l0_0 x24_2).f1.f3) ((rd_T61 l0_0 x24_2).f1.f4) ((rd_T61 l0_0 x24_2).f2))) = some r := H
       have A20 := Aside0.mk A200
       clear A200
       by_cases c21 : t629 = true
       focus
        subst c21
        have H1 : (if ((rd_T61 l0_0 x24_2).f1.f0) = 0 then (spec_TableOk.j2 k2 x24_2 l0_0 (l0_0.length : Int) x24_2 true l0_0 a0_1 ((rd_T61 l0_0 x24_2).f0.f0) ((rd_T61 l0_0 x24_2).f0.f1) ((rd_T61 l0_0 x24_2).f0.f2) ((rd_T61 l0_0 x24_2).f0.f3) ((rd_T61 l0_0 x24_2).f0.f4) ((rd_T61 l0_0 x24_2).f1.f0) ((rd_T61 l0_0 x24_2).f1.f1) ((rd_T61 l0_0 x24_2).f1.f2) ((rd_T61 l0_0 x24_2).f1.f3) ((rd_T61 l0_0 x24_2).f1.f4) ((rd_T61 l0_0 x24_2).f2)) else (if ((rd_T61 l0_0 x24_2).f2) ≤ x3_2 then (spec_TableOk.j2 k2 x24_2 l0_0 (l0_0.length : Int) x24_2 true l0_0 a0_1 ((rd_T61 l0_0 x24_2).f0.f0) ((rd_T61 l0_0 x24_2).f0.f1) ((rd_T61 l0_0 x24_2).f0.f2) ((rd_T61 l0_0 x24_2).f0.f3) ((rd_T61 l0_0 x24_2).f0.f4) ((rd_T61 l0_0 x24_2).f1.f0) ((rd_T61 l0_0 x24_2).f1.f1) ((rd_T61 l0_0 x24_2).f1.f2) ((rd_T61 l0_0 x24_2).f1.f3) ((rd_T61 l0_0 x24_2).f1.f4) ((rd_T61 l0_0 x24_2).f2)) else (spec_TableOk.j2 k2 x24_2 l0_0 (l0_0.length : Int) x24_2 (decide (((rd_T61 l0_0 x24_2).f2) > a0_1)) l0_0 a0_1 ((rd_T61 l0_0 x24_2).f0.f0) ((rd_T61 l0_0 x24_2).f0.f1) ((rd_T61 l0_0 x24_2).f0.f2) ((rd_T61 l0_0 x24_2).f0.f3) ((rd_T61 l0_0 x24_2).f0.f4) ((rd_T61 l0_0 x24_2).f1.f0) ((rd_T61 l0_0 x24_2).f1.f1) ((rd_T61 l0_0 x24_2).f1.f2) ((rd_T61 l0_0 x24_2).f1.f3) ((rd_T61 l0_0 x24_2).f1.f4) ((rd_T61 l0_0 x24_2).f2)))) = some r := by rw [if_pos rfl] at H; exact H
        clear H
        have H := H1
        clear H1
        by_cases c22 : ((rd_T61 l0_0 x24_2).f1.f0) = 0
        focus
         rw [if_pos c22] at H
         have c22b0 : (((rd_T61 l0_0 x24_2).f1.f0) == 0) = true := beq_iff_eq.mpr c22
         have c22b1 : (((rd_T61 l0_0 x24_2).f1.f0) != 0) = false := bne_eq_false_iff_eq.mpr c22
         clear c22
         (first | rw [c22b0] | (simp only [i64_w, i32_w]; rw [c22b0]) | skip)
         have H' := Aside0.mk H
         clear H
         have hnb23 := NB627_625.out
         have hnc23 := NB625_627.out
         obtain ⟨hcz24_0, hcz24_1, hcz24_2, hcz24_3, hcz24_4, hcz24_5, hcz24_6, hcz24_7, hcz24_8, hcz24_9, hcz24_10, hfz24_0, hfz24_1, hfz24_2, hfz24_3, hfz24_4, hfz24_5, hfz24_6, hfz24_7, hfz24_8, hfz24_9, hfz24_10⟩ := cells11 BK627.out
        rotate_left 1
        focus
         rw [if_neg c22] at H
         have c22b0 : (((rd_T61 l0_0 x24_2).f1.f0) == 0) = false := beq_eq_false_iff_ne.mpr c22
         have c22b1 : (((rd_T61 l0_0 x24_2).f1.f0) != 0) = true := bne_iff_ne.mpr c22
         (first | rw [c22b0] | (simp only [i64_w, i32_w]; rw [c22b0]) | skip)
         by_cases c29 : ((rd_T61 l0_0 x24_2).f2) ≤ x3_2
         focus
          rw [if_pos c29] at H
          have c29b0 : decide (((rd_T61 l0_0 x24_2).f2) ≤ x3_2) = true := decide_eq_true c29
          clear c29
          have H' := Aside0.mk H
          clear H
          have hnb30 := NB627_625.out
          have hnc30 := NB625_627.out
          obtain ⟨hcz31_0, hcz31_1, hcz31_2, hcz31_3, hcz31_4, hcz31_5, hcz31_6, hcz31_7, hcz31_8, hcz31_9, hcz31_10, hfz31_0, hfz31_1, hfz31_2, hfz31_3, hfz31_4, hfz31_5, hfz31_6, hfz31_7, hfz31_8, hfz31_9, hfz31_10⟩ := cells11 BK627.out
         rotate_left 1
         · rw [if_neg c29] at H
           have c29b0 : decide (((rd_T61 l0_0 x24_2).f2) ≤ x3_2) = false := decide_eq_false c29
           clear c29
           have H' := Aside0.mk H
           clear H
           have hnb36 := NB627_625.out
           have hnc36 := NB625_627.out
           obtain ⟨hcz37_0, hcz37_1, hcz37_2, hcz37_3, hcz37_4, hcz37_5, hcz37_6, hcz37_7, hcz37_8, hcz37_9, hcz37_10, hfz37_0, hfz37_1, hfz37_2, hfz37_3, hfz37_4, hfz37_5, hfz37_6, hfz37_7, hfz37_8, hfz37_9, hfz37_10⟩ := cells11 BK627.out
           go_wp2_with (first | ((with_reducible refine gate_callee (f := 78) rfl ?_); refine goesS (some 31) rfl Try.func78 #[.agg #[.int .i64 ((rd_T61 l0_0 x24_2).f0.f0), .int .i64 ((rd_T61 l0_0 x24_2).f0.f1), .float .f64 ((rd_T61 l0_0 x24_2).f0.f2), .string ((rd_T61 l0_0 x24_2).f0.f3), .int .i64 ((rd_T61 l0_0 x24_2).f0.f4)]] rfl ?_; (with_reducible refine (spec_l2keyOk.calls k2 ((rd_T61 l0_0 x24_2).f0.f0) ((rd_T61 l0_0 x24_2).f0.f1) ((rd_T61 l0_0 x24_2).f0.f2) ((rd_T61 l0_0 x24_2).f0.f3) ((rd_T61 l0_0 x24_2).f0.f4) true _ A18.out).mono ?_); rintro e w38 ⟨rfl, hb⟩; refine ⟨_, rfl, ?_⟩; replace BK625 := Aside0.mk (blk_below (g := gb625) (o := .cells #[.slice (some ad626) l0_0.length c0_0, .int .i64 a0_1] 56 (0, 0)) (by (with_reducible repeat (first | refine blk_drewN ?_ _ | refine blk_drew ?_ | refine blk_alloc ?_ _)); refine blk_far ?_ NB625_627.out _; (with_reducible repeat (first | refine blk_drewN ?_ _ | refine blk_drew ?_ | refine blk_alloc ?_ _)); refine blk_far ?_ NB625_627.out _; (with_reducible repeat (first | refine blk_drewN ?_ _ | refine blk_drew ?_ | refine blk_alloc ?_ _)); refine blk_far ?_ NB625_627.out _; (with_reducible repeat (first | refine blk_drewN ?_ _ | refine blk_drew ?_ | refine blk_alloc ?_ _)); refine blk_far ?_ NB625_627.out _; (with_reducible repeat (first | refine blk_drewN ?_ _ | refine blk_drew ?_ | refine blk_alloc ?_ _)); refine blk_far ?_ NB625_627.out _; (with_reducible repeat (first | refine blk_drewN ?_ _ | refine blk_drew ?_ | refine blk_alloc ?_ _)); refine blk_far ?_ NB625_627.out _; (with_reducible repeat (first | refine blk_drewN ?_ _ | refine blk_drew ?_ | refine blk_alloc ?_ _)); refine blk_far ?_ NB625_627.out _; (with_reducible repeat (first | refine blk_drewN ?_ _ | refine blk_drew ?_ | refine blk_alloc ?_ _)); refine blk_far ?_ NB625_627.out _; (with_reducible repeat (first | refine blk_drewN ?_ _ | refine blk_drew ?_ | refine blk_alloc ?_ _)); refine blk_far ?_ NB625_627.out _; (with_reducible repeat (first | refine blk_drewN ?_ _ | refine blk_drew ?_ | refine blk_alloc ?_ _)); refine blk_far ?_ NB625_627.out _; (with_reducible repeat (first | refine blk_drewN ?_ _ | refine blk_drew ?_ | refine blk_alloc ?_ _)); refine blk_far ?_ NB625_627.out _; (with_reducible repeat (first | refine blk_drewN ?_ _ | refine blk_drew ?_ | refine blk_alloc ?_ _)); exact BK625.out) hb); replace BK627 := Aside0.mk (blk_below (g := gb627) (o := .cells #[.int .i64 ((rd_T61 l0_0 x24_2).f0.f0), .int .i64 ((rd_T61 l0_0 x24_2).f0.f1), .float .f64 ((rd_T61 l0_0 x24_2).f0.f2), .string ((rd_T61 l0_0 x24_2).f0.f3), .int .i64 ((rd_T61 l0_0 x24_2).f0.f4), .int .i64 ((rd_T61 l0_0 x24_2).f1.f0), .int .i64 ((rd_T61 l0_0 x24_2).f1.f1), .float .f64 ((rd_T61 l0_0 x24_2).f1.f2), .string ((rd_T61 l0_0 x24_2).f1.f3), .int .i64 ((rd_T61 l0_0 x24_2).f1.f4), .int .i64 ((rd_T61 l0_0 x24_2).f2)] 61 (0, 0)) (by (with_reducible repeat (first | refine blk_drewN ?_ _ | refine blk_drew ?_ | refine blk_alloc ?_ _)); refine blk_put (cs := #[.int .i64 ((rd_T61 l0_0 x24_2).f0.f0), .int .i64 ((rd_T61 l0_0 x24_2).f0.f1), .float .f64 ((rd_T61 l0_0 x24_2).f0.f2), .string ((rd_T61 l0_0 x24_2).f0.f3), .int .i64 ((rd_T61 l0_0 x24_2).f0.f4), .int .i64 ((rd_T61 l0_0 x24_2).f1.f0), .int .i64 ((rd_T61 l0_0 x24_2).f1.f1), .float .f64 ((rd_T61 l0_0 x24_2).f1.f2), .string ((rd_T61 l0_0 x24_2).f1.f3), .int .i64 ((rd_T61 l0_0 x24_2).f1.f4), .int .i64 0]) ?_ 10 _ rfl; (with_reducible repeat (first | refine blk_drewN ?_ _ | refine blk_drew ?_ | refine blk_alloc ?_ _)); refine blk_put (cs := #[.int .i64 ((rd_T61 l0_0 x24_2).f0.f0), .int .i64 ((rd_T61 l0_0 x24_2).f0.f1), .float .f64 ((rd_T61 l0_0 x24_2).f0.f2), .string ((rd_T61 l0_0 x24_2).f0.f3), .int .i64 ((rd_T61 l0_0 x24_2).f0.f4), .int .i64 ((rd_T61 l0_0 x24_2).f1.f0), .int .i64 ((rd_T61 l0_0 x24_2).f1.f1), .float .f64 ((rd_T61 l0_0 x24_2).f1.f2), .string ((rd_T61 l0_0 x24_2).f1.f3), .int .i64 0, .int .i64 0]) ?_ 9 _ rfl; (with_reducible repeat (first | refine blk_drewN ?_ _ | refine blk_drew ?_ | refine blk_alloc ?_ _)); refine blk_put (cs := #[.int .i64 ((rd_T61 l0_0 x24_2).f0.f0), .int .i64 ((rd_T61 l0_0 x24_2).f0.f1), .float .f64 ((rd_T61 l0_0 x24_2).f0.f2), .string ((rd_T61 l0_0 x24_2).f0.f3), .int .i64 ((rd_T61 l0_0 x24_2).f0.f4), .int .i64 ((rd_T61 l0_0 x24_2).f1.f0), .int .i64 ((rd_T61 l0_0 x24_2).f1.f1), .float .f64 ((rd_T61 l0_0 x24_2).f1.f2), .string (⟨#[]⟩ : ByteArray), .int .i64 0, .int .i64 0]) ?_ 8 _ rfl; (with_reducible repeat (first | refine blk_drewN ?_ _ | refine blk_drew ?_ | refine blk_alloc ?_ _)); refine blk_put (cs := #[.int .i64 ((rd_T61 l0_0 x24_2).f0.f0), .int .i64 ((rd_T61 l0_0 x24_2).f0.f1), .float .f64 ((rd_T61 l0_0 x24_2).f0.f2), .string ((rd_T61 l0_0 x24_2).f0.f3), .int .i64 ((rd_T61 l0_0 x24_2).f0.f4), .int .i64 ((rd_T61 l0_0 x24_2).f1.f0), .int .i64 ((rd_T61 l0_0 x24_2).f1.f1), .float .f64 0, .string (⟨#[]⟩ : ByteArray), .int .i64 0, .int .i64 0]) ?_ 7 _ rfl; (with_reducible repeat (first | refine blk_drewN ?_ _ | refine blk_drew ?_ | refine blk_alloc ?_ _)); refine blk_put (cs := #[.int .i64 ((rd_T61 l0_0 x24_2).f0.f0), .int .i64 ((rd_T61 l0_0 x24_2).f0.f1), .float .f64 ((rd_T61 l0_0 x24_2).f0.f2), .string ((rd_T61 l0_0 x24_2).f0.f3), .int .i64 ((rd_T61 l0_0 x24_2).f0.f4), .int .i64 ((rd_T61 l0_0 x24_2).f1.f0), .int .i64 0, .float .f64 0, .string (⟨#[]⟩ : ByteArray), .int .i64 0, .int .i64 0]) ?_ 6 _ rfl; (with_reducible repeat (first | refine blk_drewN ?_ _ | refine blk_drew ?_ | refine blk_alloc ?_ _)); refine blk_put (cs := #[.int .i64 ((rd_T61 l0_0 x24_2).f0.f0), .int .i64 ((rd_T61 l0_0 x24_2).f0.f1), .float .f64 ((rd_T61 l0_0 x24_2).f0.f2), .string ((rd_T61 l0_0 x24_2).f0.f3), .int .i64 ((rd_T61 l0_0 x24_2).f0.f4), .int .i64 0, .int .i64 0, .float .f64 0, .string (⟨#[]⟩ : ByteArray), .int .i64 0, .int .i64 0]) ?_ 5 _ rfl; (with_reducible repeat (first | refine blk_drewN ?_ _ | refine blk_drew ?_ | refine blk_alloc ?_ _)); refine blk_put (cs := #[.int .i64 ((rd_T61 l0_0 x24_2).f0.f0), .int .i64 ((rd_T61 l0_0 x24_2).f0.f1), .float .f64 ((rd_T61 l0_0 x24_2).f0.f2), .string ((rd_T61 l0_0 x24_2).f0.f3), .int .i64 0, .int .i64 0, .int .i64 0, .float .f64 0, .string (⟨#[]⟩ : ByteArray), .int .i64 0, .int .i64 0]) ?_ 4 _ rfl; (with_reducible repeat (first | refine blk_drewN ?_ _ | refine blk_drew ?_ | refine blk_alloc ?_ _)); refine blk_put (cs := #[.int .i64 ((rd_T61 l0_0 x24_2).f0.f0), .int .i64 ((rd_T61 l0_0 x24_2).f0.f1), .float .f64 ((rd_T61 l0_0 x24_2).f0.f2), .string (⟨#[]⟩ : ByteArray), .int .i64 0, .int .i64 0, .int .i64 0, .float .f64 0, .string (⟨#[]⟩ : ByteArray), .int .i64 0, .int .i64 0]) ?_ 3 _ rfl; (with_reducible repeat (first | refine blk_drewN ?_ _ | refine blk_drew ?_ | refine blk_alloc ?_ _)); refine blk_put (cs := #[.int .i64 ((rd_T61 l0_0 x24_2).f0.f0), .int .i64 ((rd_T61 l0_0 x24_2).f0.f1), .float .f64 0, .string (⟨#[]⟩ : ByteArray), .int .i64 0, .int .i64 0, .int .i64 0, .float .f64 0, .string (⟨#[]⟩ : ByteArray), .int .i64 0, .int .i64 0]) ?_ 2 _ rfl; (with_reducible repeat (first | refine blk_drewN ?_ _ | refine blk_drew ?_ | refine blk_alloc ?_ _)); refine blk_put (cs := #[.int .i64 ((rd_T61 l0_0 x24_2).f0.f0), .int .i64 0, .float .f64 0, .string (⟨#[]⟩ : ByteArray), .int .i64 0, .int .i64 0, .int .i64 0, .float .f64 0, .string (⟨#[]⟩ : ByteArray), .int .i64 0, .int .i64 0]) ?_ 1 _ rfl; (with_reducible repeat (first | refine blk_drewN ?_ _ | refine blk_drew ?_ | refine blk_alloc ?_ _)); refine blk_put (cs := #[.int .i64 0, .int .i64 0, .float .f64 0, .string (⟨#[]⟩ : ByteArray), .int .i64 0, .int .i64 0, .int .i64 0, .float .f64 0, .string (⟨#[]⟩ : ByteArray), .int .i64 0, .int .i64 0]) ?_ 0 _ rfl; (with_reducible repeat (first | refine blk_drewN ?_ _ | refine blk_drew ?_ | refine blk_alloc ?_ _)); exact BK627.out) hb); replace HB := hbs2 HB.out GE625.out GE627.out hb; (try clear hb); (try clear hb2); (try clear hk); (try clear hi); obtain ⟨hcz39_0, hcz39_1, hcz39_2, hcz39_3, hcz39_4, hcz39_5, hcz39_6, hcz39_7, hcz39_8, hcz39_9, hcz39_10, hfz39_0, hfz39_1, hfz39_2, hfz39_3, hfz39_4, hfz39_5, hfz39_6, hfz39_7, hfz39_8, hfz39_9, hfz39_10⟩ := cells11 BK627.out) | (go_at_call 17; (with_reducible refine (spec_ValueOk.calls k2 ((rd_T61 l0_0 x24_2).f1.f0) ((rd_T61 l0_0 x24_2).f1.f1) ((rd_T61 l0_0 x24_2).f1.f2) ((rd_T61 l0_0 x24_2).f1.f3) ((rd_T61 l0_0 x24_2).f1.f4) true _ A20.out).mono ?_); rintro e w40 ⟨rfl, hb⟩; replace BK625 := bku BK625.out hb; replace BK627 := bku BK627.out hb; replace HB := hbs2 HB.out GE625.out GE627.out hb; (try clear hb); (try clear hb2); (try clear hk); (try clear hi); obtain ⟨hcz41_0, hcz41_1, hcz41_2, hcz41_3, hcz41_4, hcz41_5, hcz41_6, hcz41_7, hcz41_8, hcz41_9, hcz41_10, hfz41_0, hfz41_1, hfz41_2, hfz41_3, hfz41_4, hfz41_5, hfz41_6, hfz41_7, hfz41_8, hfz41_9, hfz41_10⟩ := cells11 BK627.out; obtain ⟨hcz42_0, hcz42_1, hfz42_0, hfz42_1⟩ := cells2 BK625.out))
           go_meet
           case rel => exact ⟨_, (decide (((rd_T61 l0_0 x24_2).f2) > a0_1)), (by first | rfl | (simp; done) | (simp [*]; done)), H', ⟨by have := HJ1.out; have := HK2.out; first | omega | exact Nat.le_refl _⟩, ⟨by (with_reducible repeat (first | refine blk_drewN ?_ _ | refine blk_drew ?_ | refine blk_alloc ?_ _)); exact BK625.out⟩, ⟨by (with_reducible repeat (first | refine blk_drewN ?_ _ | refine blk_drew ?_ | refine blk_alloc ?_ _)); exact BK627.out⟩, ⟨by repeat (first | (with_reducible first | exact HB.out | apply below_alloc | apply pw_below_drewN | apply below_drew1 | refine below_set ?_ GE625.out | refine below_set ?_ GE627.out) | exact HB.out)⟩⟩
       rotate_left 2
       · replace c21 := Bool.eq_false_iff.mpr c21
         subst c21
         have H1 : (spec_TableOk.j2 k2 x24_2 l0_0 (l0_0.length : Int) x24_2 true l0_0 a0_1 ((rd_T61 l0_0 x24_2).f0.f0) ((rd_T61 l0_0 x24_2).f0.f1) ((rd_T61 l0_0 x24_2).f0.f2) ((rd_T61 l0_0 x24_2).f0.f3) ((rd_T61 l0_0 x24_2).f0.f4) ((rd_T61 l0_0 x24_2).f1.f0) ((rd_T61 l0_0 x24_2).f1.f1) ((rd_T61 l0_0 x24_2).f1.f2) ((rd_T61 l0_0 x24_2).f1.f3) ((rd_T61 l0_0 x24_2).f1.f4) ((rd_T61 l0_0 x24_2).f2)) = some r := by rw [if_neg (show ¬ (false = true) by decide)] at H; exact H
         clear H
         have H := H1
         clear H1
         have H' := Aside0.mk H
         clear H
         have hnb43 := NB627_625.out
         have hnc43 := NB625_627.out
         obtain ⟨hcz44_0, hcz44_1, hcz44_2, hcz44_3, hcz44_4, hcz44_5, hcz44_6, hcz44_7, hcz44_8, hcz44_9, hcz44_10, hfz44_0, hfz44_1, hfz44_2, hfz44_3, hfz44_4, hfz44_5, hfz44_6, hfz44_7, hfz44_8, hfz44_9, hfz44_10⟩ := cells11 BK627.out
         go_wp2_with (first | ((with_reducible refine gate_callee (f := 78) rfl ?_); refine goesS (some 31) rfl Try.func78 #[.agg #[.int .i64 ((rd_T61 l0_0 x24_2).f0.f0), .int .i64 ((rd_T61 l0_0 x24_2).f0.f1), .float .f64 ((rd_T61 l0_0 x24_2).f0.f2), .string ((rd_T61 l0_0 x24_2).f0.f3), .int .i64 ((rd_T61 l0_0 x24_2).f0.f4)]] rfl ?_; (with_reducible refine (spec_l2keyOk.calls k2 ((rd_T61 l0_0 x24_2).f0.f0) ((rd_T61 l0_0 x24_2).f0.f1) ((rd_T61 l0_0 x24_2).f0.f2) ((rd_T61 l0_0 x24_2).f0.f3) ((rd_T61 l0_0 x24_2).f0.f4) true _ A18.out).mono ?_); rintro e w45 ⟨rfl, hb⟩; refine ⟨_, rfl, ?_⟩; replace BK625 := Aside0.mk (blk_below (g := gb625) (o := .cells #[.slice (some ad626) l0_0.length c0_0, .int .i64 a0_1] 56 (0, 0)) (by (with_reducible repeat (first | refine blk_drewN ?_ _ | refine blk_drew ?_ | refine blk_alloc ?_ _)); refine blk_far ?_ NB625_627.out _; (with_reducible repeat (first | refine blk_drewN ?_ _ | refine blk_drew ?_ | refine blk_alloc ?_ _)); refine blk_far ?_ NB625_627.out _; (with_reducible repeat (first | refine blk_drewN ?_ _ | refine blk_drew ?_ | refine blk_alloc ?_ _)); refine blk_far ?_ NB625_627.out _; (with_reducible repeat (first | refine blk_drewN ?_ _ | refine blk_drew ?_ | refine blk_alloc ?_ _)); refine blk_far ?_ NB625_627.out _; (with_reducible repeat (first | refine blk_drewN ?_ _ | refine blk_drew ?_ | refine blk_alloc ?_ _)); refine blk_far ?_ NB625_627.out _; (with_reducible repeat (first | refine blk_drewN ?_ _ | refine blk_drew ?_ | refine blk_alloc ?_ _)); refine blk_far ?_ NB625_627.out _; (with_reducible repeat (first | refine blk_drewN ?_ _ | refine blk_drew ?_ | refine blk_alloc ?_ _)); refine blk_far ?_ NB625_627.out _; (with_reducible repeat (first | refine blk_drewN ?_ _ | refine blk_drew ?_ | refine blk_alloc ?_ _)); refine blk_far ?_ NB625_627.out _; (with_reducible repeat (first | refine blk_drewN ?_ _ | refine blk_drew ?_ | refine blk_alloc ?_ _)); refine blk_far ?_ NB625_627.out _; (with_reducible repeat (first | refine blk_drewN ?_ _ | refine blk_drew ?_ | refine blk_alloc ?_ _)); refine blk_far ?_ NB625_627.out _; (with_reducible repeat (first | refine blk_drewN ?_ _ | refine blk_drew ?_ | refine blk_alloc ?_ _)); refine blk_far ?_ NB625_627.out _; (with_reducible repeat (first | refine blk_drewN ?_ _ | refine blk_drew ?_ | refine blk_alloc ?_ _)); exact BK625.out) hb); replace BK627 := Aside0.mk (blk_below (g := gb627) (o := .cells #[.int .i64 ((rd_T61 l0_0 x24_2).f0.f0), .int .i64 ((rd_T61 l0_0 x24_2).f0.f1), .float .f64 ((rd_T61 l0_0 x24_2).f0.f2), .string ((rd_T61 l0_0 x24_2).f0.f3), .int .i64 ((rd_T61 l0_0 x24_2).f0.f4), .int .i64 ((rd_T61 l0_0 x24_2).f1.f0), .int .i64 ((rd_T61 l0_0 x24_2).f1.f1), .float .f64 ((rd_T61 l0_0 x24_2).f1.f2), .string ((rd_T61 l0_0 x24_2).f1.f3), .int .i64 ((rd_T61 l0_0 x24_2).f1.f4), .int .i64 ((rd_T61 l0_0 x24_2).f2)] 61 (0, 0)) (by (with_reducible repeat (first | refine blk_drewN ?_ _ | refine blk_drew ?_ | refine blk_alloc ?_ _)); refine blk_put (cs := #[.int .i64 ((rd_T61 l0_0 x24_2).f0.f0), .int .i64 ((rd_T61 l0_0 x24_2).f0.f1), .float .f64 ((rd_T61 l0_0 x24_2).f0.f2), .string ((rd_T61 l0_0 x24_2).f0.f3), .int .i64 ((rd_T61 l0_0 x24_2).f0.f4), .int .i64 ((rd_T61 l0_0 x24_2).f1.f0), .int .i64 ((rd_T61 l0_0 x24_2).f1.f1), .float .f64 ((rd_T61 l0_0 x24_2).f1.f2), .string ((rd_T61 l0_0 x24_2).f1.f3), .int .i64 ((rd_T61 l0_0 x24_2).f1.f4), .int .i64 0]) ?_ 10 _ rfl; (with_reducible repeat (first | refine blk_drewN ?_ _ | refine blk_drew ?_ | refine blk_alloc ?_ _)); refine blk_put (cs := #[.int .i64 ((rd_T61 l0_0 x24_2).f0.f0), .int .i64 ((rd_T61 l0_0 x24_2).f0.f1), .float .f64 ((rd_T61 l0_0 x24_2).f0.f2), .string ((rd_T61 l0_0 x24_2).f0.f3), .int .i64 ((rd_T61 l0_0 x24_2).f0.f4), .int .i64 ((rd_T61 l0_0 x24_2).f1.f0), .int .i64 ((rd_T61 l0_0 x24_2).f1.f1), .float .f64 ((rd_T61 l0_0 x24_2).f1.f2), .string ((rd_T61 l0_0 x24_2).f1.f3), .int .i64 0, .int .i64 0]) ?_ 9 _ rfl; (with_reducible repeat (first | refine blk_drewN ?_ _ | refine blk_drew ?_ | refine blk_alloc ?_ _)); refine blk_put (cs := #[.int .i64 ((rd_T61 l0_0 x24_2).f0.f0), .int .i64 ((rd_T61 l0_0 x24_2).f0.f1), .float .f64 ((rd_T61 l0_0 x24_2).f0.f2), .string ((rd_T61 l0_0 x24_2).f0.f3), .int .i64 ((rd_T61 l0_0 x24_2).f0.f4), .int .i64 ((rd_T61 l0_0 x24_2).f1.f0), .int .i64 ((rd_T61 l0_0 x24_2).f1.f1), .float .f64 ((rd_T61 l0_0 x24_2).f1.f2), .string (⟨#[]⟩ : ByteArray), .int .i64 0, .int .i64 0]) ?_ 8 _ rfl; (with_reducible repeat (first | refine blk_drewN ?_ _ | refine blk_drew ?_ | refine blk_alloc ?_ _)); refine blk_put (cs := #[.int .i64 ((rd_T61 l0_0 x24_2).f0.f0), .int .i64 ((rd_T61 l0_0 x24_2).f0.f1), .float .f64 ((rd_T61 l0_0 x24_2).f0.f2), .string ((rd_T61 l0_0 x24_2).f0.f3), .int .i64 ((rd_T61 l0_0 x24_2).f0.f4), .int .i64 ((rd_T61 l0_0 x24_2).f1.f0), .int .i64 ((rd_T61 l0_0 x24_2).f1.f1), .float .f64 0, .string (⟨#[]⟩ : ByteArray), .int .i64 0, .int .i64 0]) ?_ 7 _ rfl; (with_reducible repeat (first | refine blk_drewN ?_ _ | refine blk_drew ?_ | refine blk_alloc ?_ _)); refine blk_put (cs := #[.int .i64 ((rd_T61 l0_0 x24_2).f0.f0), .int .i64 ((rd_T61 l0_0 x24_2).f0.f1), .float .f64 ((rd_T61 l0_0 x24_2).f0.f2), .string ((rd_T61 l0_0 x24_2).f0.f3), .int .i64 ((rd_T61 l0_0 x24_2).f0.f4), .int .i64 ((rd_T61 l0_0 x24_2).f1.f0), .int .i64 0, .float .f64 0, .string (⟨#[]⟩ : ByteArray), .int .i64 0, .int .i64 0]) ?_ 6 _ rfl; (with_reducible repeat (first | refine blk_drewN ?_ _ | refine blk_drew ?_ | refine blk_alloc ?_ _)); refine blk_put (cs := #[.int .i64 ((rd_T61 l0_0 x24_2).f0.f0), .int .i64 ((rd_T61 l0_0 x24_2).f0.f1), .float .f64 ((rd_T61 l0_0 x24_2).f0.f2), .string ((rd_T61 l0_0 x24_2).f0.f3), .int .i64 ((rd_T61 l0_0 x24_2).f0.f4), .int .i64 0, .int .i64 0, .float .f64 0, .string (⟨#[]⟩ : ByteArray), .int .i64 0, .int .i64 0]) ?_ 5 _ rfl; (with_reducible repeat (first | refine blk_drewN ?_ _ | refine blk_drew ?_ | refine blk_alloc ?_ _)); refine blk_put (cs := #[.int .i64 ((rd_T61 l0_0 x24_2).f0.f0), .int .i64 ((rd_T61 l0_0 x24_2).f0.f1), .float .f64 ((rd_T61 l0_0 x24_2).f0.f2), .string ((rd_T61 l0_0 x24_2).f0.f3), .int .i64 0, .int .i64 0, .int .i64 0, .float .f64 0, .string (⟨#[]⟩ : ByteArray), .int .i64 0, .int .i64 0]) ?_ 4 _ rfl; (with_reducible repeat (first | refine blk_drewN ?_ _ | refine blk_drew ?_ | refine blk_alloc ?_ _)); refine blk_put (cs := #[.int .i64 ((rd_T61 l0_0 x24_2).f0.f0), .int .i64 ((rd_T61 l0_0 x24_2).f0.f1), .float .f64 ((rd_T61 l0_0 x24_2).f0.f2), .string (⟨#[]⟩ : ByteArray), .int .i64 0, .int .i64 0, .int .i64 0, .float .f64 0, .string (⟨#[]⟩ : ByteArray), .int .i64 0, .int .i64 0]) ?_ 3 _ rfl; (with_reducible repeat (first | refine blk_drewN ?_ _ | refine blk_drew ?_ | refine blk_alloc ?_ _)); refine blk_put (cs := #[.int .i64 ((rd_T61 l0_0 x24_2).f0.f0), .int .i64 ((rd_T61 l0_0 x24_2).f0.f1), .float .f64 0, .string (⟨#[]⟩ : ByteArray), .int .i64 0, .int .i64 0, .int .i64 0, .float .f64 0, .string (⟨#[]⟩ : ByteArray), .int .i64 0, .int .i64 0]) ?_ 2 _ rfl; (with_reducible repeat (first | refine blk_drewN ?_ _ | refine blk_drew ?_ | refine blk_alloc ?_ _)); refine blk_put (cs := #[.int .i64 ((rd_T61 l0_0 x24_2).f0.f0), .int .i64 0, .float .f64 0, .string (⟨#[]⟩ : ByteArray), .int .i64 0, .int .i64 0, .int .i64 0, .float .f64 0, .string (⟨#[]⟩ : ByteArray), .int .i64 0, .int .i64 0]) ?_ 1 _ rfl; (with_reducible repeat (first | refine blk_drewN ?_ _ | refine blk_drew ?_ | refine blk_alloc ?_ _)); refine blk_put (cs := #[.int .i64 0, .int .i64 0, .float .f64 0, .string (⟨#[]⟩ : ByteArray), .int .i64 0, .int .i64 0, .int .i64 0, .float .f64 0, .string (⟨#[]⟩ : ByteArray), .int .i64 0, .int .i64 0]) ?_ 0 _ rfl; (with_reducible repeat (first | refine blk_drewN ?_ _ | refine blk_drew ?_ | refine blk_alloc ?_ _)); exact BK627.out) hb); replace HB := hbs2 HB.out GE625.out GE627.out hb; (try clear hb); (try clear hb2); (try clear hk); (try clear hi); obtain ⟨hcz46_0, hcz46_1, hcz46_2, hcz46_3, hcz46_4, hcz46_5, hcz46_6, hcz46_7, hcz46_8, hcz46_9, hcz46_10, hfz46_0, hfz46_1, hfz46_2, hfz46_3, hfz46_4, hfz46_5, hfz46_6, hfz46_7, hfz46_8, hfz46_9, hfz46_10⟩ := cells11 BK627.out) | (go_at_call 17; (with_reducible refine (spec_ValueOk.calls k2 ((rd_T61 l0_0 x24_2).f1.f0) ((rd_T61 l0_0 x24_2).f1.f1) ((rd_T61 l0_0 x24_2).f1.f2) ((rd_T61 l0_0 x24_2).f1.f3) ((rd_T61 l0_0 x24_2).f1.f4) false _ A20.out).mono ?_); rintro e w47 ⟨rfl, hb⟩; replace BK625 := bku BK625.out hb; replace BK627 := bku BK627.out hb; replace HB := hbs2 HB.out GE625.out GE627.out hb; (try clear hb); (try clear hb2); (try clear hk); (try clear hi)))
         go_meet
         case rel => exact ⟨_, (true), (by first | rfl | (simp; done) | (simp [*]; done)), H', ⟨by have := HJ1.out; have := HK2.out; first | omega | exact Nat.le_refl _⟩, ⟨by (with_reducible repeat (first | refine blk_drewN ?_ _ | refine blk_drew ?_ | refine blk_alloc ?_ _)); exact BK625.out⟩, ⟨by (with_reducible repeat (first | refine blk_drewN ?_ _ | refine blk_drew ?_ | refine blk_alloc ?_ _)); exact BK627.out⟩, ⟨by repeat (first | (with_reducible first | exact HB.out | apply below_alloc | apply pw_below_drewN | apply below_drew1 | refine below_set ?_ GE625.out | refine below_set ?_ GE627.out) | exact HB.out)⟩⟩
      rotate_left 2
      · replace c19 := Bool.eq_false_iff.mpr c19
        subst c19
        have H1 : (spec_TableOk.j2 k2 x24_2 l0_0 (l0_0.length : Int) x24_2 true l0_0 a0_1 ((rd_T61 l0_0 x24_2).f0.f0) ((rd_T61 l0_0 x24_2).f0.f1) ((rd_T61 l0_0 x24_2).f0.f2) ((rd_T61 l0_0 x24_2).f0.f3) ((rd_T61 l0_0 x24_2).f0.f4) ((rd_T61 l0_0 x24_2).f1.f0) ((rd_T61 l0_0 x24_2).f1.f1) ((rd_T61 l0_0 x24_2).f1.f2) ((rd_T61 l0_0 x24_2).f1.f3) ((rd_T61 l0_0 x24_2).f1.f4) ((rd_T61 l0_0 x24_2).f2)) = some r := by rw [if_neg (show ¬ (false = true) by decide)] at H; exact H
        clear H
        have H := H1
        clear H1
        have H' := Aside0.mk H
        clear H
        have hnb48 := NB627_625.out
        have hnc48 := NB625_627.out
        obtain ⟨hcz49_0, hcz49_1, hcz49_2, hcz49_3, hcz49_4, hcz49_5, hcz49_6, hcz49_7, hcz49_8, hcz49_9, hcz49_10, hfz49_0, hfz49_1, hfz49_2, hfz49_3, hfz49_4, hfz49_5, hfz49_6, hfz49_7, hfz49_8, hfz49_9, hfz49_10⟩ := cells11 BK627.out
        go_wp2_with (first | ((with_reducible refine gate_callee (f := 78) rfl ?_); refine goesS (some 31) rfl Try.func78 #[.agg #[.int .i64 ((rd_T61 l0_0 x24_2).f0.f0), .int .i64 ((rd_T61 l0_0 x24_2).f0.f1), .float .f64 ((rd_T61 l0_0 x24_2).f0.f2), .string ((rd_T61 l0_0 x24_2).f0.f3), .int .i64 ((rd_T61 l0_0 x24_2).f0.f4)]] rfl ?_; (with_reducible refine (spec_l2keyOk.calls k2 ((rd_T61 l0_0 x24_2).f0.f0) ((rd_T61 l0_0 x24_2).f0.f1) ((rd_T61 l0_0 x24_2).f0.f2) ((rd_T61 l0_0 x24_2).f0.f3) ((rd_T61 l0_0 x24_2).f0.f4) false _ A18.out).mono ?_); rintro e w50 ⟨rfl, hb⟩; refine ⟨_, rfl, ?_⟩; replace BK625 := Aside0.mk (blk_below (g := gb625) (o := .cells #[.slice (some ad626) l0_0.length c0_0, .int .i64 a0_1] 56 (0, 0)) (by (with_reducible repeat (first | refine blk_drewN ?_ _ | refine blk_drew ?_ | refine blk_alloc ?_ _)); refine blk_far ?_ NB625_627.out _; (with_reducible repeat (first | refine blk_drewN ?_ _ | refine blk_drew ?_ | refine blk_alloc ?_ _)); refine blk_far ?_ NB625_627.out _; (with_reducible repeat (first | refine blk_drewN ?_ _ | refine blk_drew ?_ | refine blk_alloc ?_ _)); refine blk_far ?_ NB625_627.out _; (with_reducible repeat (first | refine blk_drewN ?_ _ | refine blk_drew ?_ | refine blk_alloc ?_ _)); refine blk_far ?_ NB625_627.out _; (with_reducible repeat (first | refine blk_drewN ?_ _ | refine blk_drew ?_ | refine blk_alloc ?_ _)); refine blk_far ?_ NB625_627.out _; (with_reducible repeat (first | refine blk_drewN ?_ _ | refine blk_drew ?_ | refine blk_alloc ?_ _)); refine blk_far ?_ NB625_627.out _; (with_reducible repeat (first | refine blk_drewN ?_ _ | refine blk_drew ?_ | refine blk_alloc ?_ _)); refine blk_far ?_ NB625_627.out _; (with_reducible repeat (first | refine blk_drewN ?_ _ | refine blk_drew ?_ | refine blk_alloc ?_ _)); refine blk_far ?_ NB625_627.out _; (with_reducible repeat (first | refine blk_drewN ?_ _ | refine blk_drew ?_ | refine blk_alloc ?_ _)); refine blk_far ?_ NB625_627.out _; (with_reducible repeat (first | refine blk_drewN ?_ _ | refine blk_drew ?_ | refine blk_alloc ?_ _)); refine blk_far ?_ NB625_627.out _; (with_reducible repeat (first | refine blk_drewN ?_ _ | refine blk_drew ?_ | refine blk_alloc ?_ _)); refine blk_far ?_ NB625_627.out _; (with_reducible repeat (first | refine blk_drewN ?_ _ | refine blk_drew ?_ | refine blk_alloc ?_ _)); exact BK625.out) hb); replace BK627 := Aside0.mk (blk_below (g := gb627) (o := .cells #[.int .i64 ((rd_T61 l0_0 x24_2).f0.f0), .int .i64 ((rd_T61 l0_0 x24_2).f0.f1), .float .f64 ((rd_T61 l0_0 x24_2).f0.f2), .string ((rd_T61 l0_0 x24_2).f0.f3), .int .i64 ((rd_T61 l0_0 x24_2).f0.f4), .int .i64 ((rd_T61 l0_0 x24_2).f1.f0), .int .i64 ((rd_T61 l0_0 x24_2).f1.f1), .float .f64 ((rd_T61 l0_0 x24_2).f1.f2), .string ((rd_T61 l0_0 x24_2).f1.f3), .int .i64 ((rd_T61 l0_0 x24_2).f1.f4), .int .i64 ((rd_T61 l0_0 x24_2).f2)] 61 (0, 0)) (by (with_reducible repeat (first | refine blk_drewN ?_ _ | refine blk_drew ?_ | refine blk_alloc ?_ _)); refine blk_put (cs := #[.int .i64 ((rd_T61 l0_0 x24_2).f0.f0), .int .i64 ((rd_T61 l0_0 x24_2).f0.f1), .float .f64 ((rd_T61 l0_0 x24_2).f0.f2), .string ((rd_T61 l0_0 x24_2).f0.f3), .int .i64 ((rd_T61 l0_0 x24_2).f0.f4), .int .i64 ((rd_T61 l0_0 x24_2).f1.f0), .int .i64 ((rd_T61 l0_0 x24_2).f1.f1), .float .f64 ((rd_T61 l0_0 x24_2).f1.f2), .string ((rd_T61 l0_0 x24_2).f1.f3), .int .i64 ((rd_T61 l0_0 x24_2).f1.f4), .int .i64 0]) ?_ 10 _ rfl; (with_reducible repeat (first | refine blk_drewN ?_ _ | refine blk_drew ?_ | refine blk_alloc ?_ _)); refine blk_put (cs := #[.int .i64 ((rd_T61 l0_0 x24_2).f0.f0), .int .i64 ((rd_T61 l0_0 x24_2).f0.f1), .float .f64 ((rd_T61 l0_0 x24_2).f0.f2), .string ((rd_T61 l0_0 x24_2).f0.f3), .int .i64 ((rd_T61 l0_0 x24_2).f0.f4), .int .i64 ((rd_T61 l0_0 x24_2).f1.f0), .int .i64 ((rd_T61 l0_0 x24_2).f1.f1), .float .f64 ((rd_T61 l0_0 x24_2).f1.f2), .string ((rd_T61 l0_0 x24_2).f1.f3), .int .i64 0, .int .i64 0]) ?_ 9 _ rfl; (with_reducible repeat (first | refine blk_drewN ?_ _ | refine blk_drew ?_ | refine blk_alloc ?_ _)); refine blk_put (cs := #[.int .i64 ((rd_T61 l0_0 x24_2).f0.f0), .int .i64 ((rd_T61 l0_0 x24_2).f0.f1), .float .f64 ((rd_T61 l0_0 x24_2).f0.f2), .string ((rd_T61 l0_0 x24_2).f0.f3), .int .i64 ((rd_T61 l0_0 x24_2).f0.f4), .int .i64 ((rd_T61 l0_0 x24_2).f1.f0), .int .i64 ((rd_T61 l0_0 x24_2).f1.f1), .float .f64 ((rd_T61 l0_0 x24_2).f1.f2), .string (⟨#[]⟩ : ByteArray), .int .i64 0, .int .i64 0]) ?_ 8 _ rfl; (with_reducible repeat (first | refine blk_drewN ?_ _ | refine blk_drew ?_ | refine blk_alloc ?_ _)); refine blk_put (cs := #[.int .i64 ((rd_T61 l0_0 x24_2).f0.f0), .int .i64 ((rd_T61 l0_0 x24_2).f0.f1), .float .f64 ((rd_T61 l0_0 x24_2).f0.f2), .string ((rd_T61 l0_0 x24_2).f0.f3), .int .i64 ((rd_T61 l0_0 x24_2).f0.f4), .int .i64 ((rd_T61 l0_0 x24_2).f1.f0), .int .i64 ((rd_T61 l0_0 x24_2).f1.f1), .float .f64 0, .string (⟨#[]⟩ : ByteArray), .int .i64 0, .int .i64 0]) ?_ 7 _ rfl; (with_reducible repeat (first | refine blk_drewN ?_ _ | refine blk_drew ?_ | refine blk_alloc ?_ _)); refine blk_put (cs := #[.int .i64 ((rd_T61 l0_0 x24_2).f0.f0), .int .i64 ((rd_T61 l0_0 x24_2).f0.f1), .float .f64 ((rd_T61 l0_0 x24_2).f0.f2), .string ((rd_T61 l0_0 x24_2).f0.f3), .int .i64 ((rd_T61 l0_0 x24_2).f0.f4), .int .i64 ((rd_T61 l0_0 x24_2).f1.f0), .int .i64 0, .float .f64 0, .string (⟨#[]⟩ : ByteArray), .int .i64 0, .int .i64 0]) ?_ 6 _ rfl; (with_reducible repeat (first | refine blk_drewN ?_ _ | refine blk_drew ?_ | refine blk_alloc ?_ _)); refine blk_put (cs := #[.int .i64 ((rd_T61 l0_0 x24_2).f0.f0), .int .i64 ((rd_T61 l0_0 x24_2).f0.f1), .float .f64 ((rd_T61 l0_0 x24_2).f0.f2), .string ((rd_T61 l0_0 x24_2).f0.f3), .int .i64 ((rd_T61 l0_0 x24_2).f0.f4), .int .i64 0, .int .i64 0, .float .f64 0, .string (⟨#[]⟩ : ByteArray), .int .i64 0, .int .i64 0]) ?_ 5 _ rfl; (with_reducible repeat (first | refine blk_drewN ?_ _ | refine blk_drew ?_ | refine blk_alloc ?_ _)); refine blk_put (cs := #[.int .i64 ((rd_T61 l0_0 x24_2).f0.f0), .int .i64 ((rd_T61 l0_0 x24_2).f0.f1), .float .f64 ((rd_T61 l0_0 x24_2).f0.f2), .string ((rd_T61 l0_0 x24_2).f0.f3), .int .i64 0, .int .i64 0, .int .i64 0, .float .f64 0, .string (⟨#[]⟩ : ByteArray), .int .i64 0, .int .i64 0]) ?_ 4 _ rfl; (with_reducible repeat (first | refine blk_drewN ?_ _ | refine blk_drew ?_ | refine blk_alloc ?_ _)); refine blk_put (cs := #[.int .i64 ((rd_T61 l0_0 x24_2).f0.f0), .int .i64 ((rd_T61 l0_0 x24_2).f0.f1), .float .f64 ((rd_T61 l0_0 x24_2).f0.f2), .string (⟨#[]⟩ : ByteArray), .int .i64 0, .int .i64 0, .int .i64 0, .float .f64 0, .string (⟨#[]⟩ : ByteArray), .int .i64 0, .int .i64 0]) ?_ 3 _ rfl; (with_reducible repeat (first | refine blk_drewN ?_ _ | refine blk_drew ?_ | refine blk_alloc ?_ _)); refine blk_put (cs := #[.int .i64 ((rd_T61 l0_0 x24_2).f0.f0), .int .i64 ((rd_T61 l0_0 x24_2).f0.f1), .float .f64 0, .string (⟨#[]⟩ : ByteArray), .int .i64 0, .int .i64 0, .int .i64 0, .float .f64 0, .string (⟨#[]⟩ : ByteArray), .int .i64 0, .int .i64 0]) ?_ 2 _ rfl; (with_reducible repeat (first | refine blk_drewN ?_ _ | refine blk_drew ?_ | refine blk_alloc ?_ _)); refine blk_put (cs := #[.int .i64 ((rd_T61 l0_0 x24_2).f0.f0), .int .i64 0, .float .f64 0, .string (⟨#[]⟩ : ByteArray), .int .i64 0, .int .i64 0, .int .i64 0, .float .f64 0, .string (⟨#[]⟩ : ByteArray), .int .i64 0, .int .i64 0]) ?_ 1 _ rfl; (with_reducible repeat (first | refine blk_drewN ?_ _ | refine blk_drew ?_ | refine blk_alloc ?_ _)); refine blk_put (cs := #[.int .i64 0, .int .i64 0, .float .f64 0, .string (⟨#[]⟩ : ByteArray), .int .i64 0, .int .i64 0, .int .i64 0, .float .f64 0, .string (⟨#[]⟩ : ByteArray), .int .i64 0, .int .i64 0]) ?_ 0 _ rfl; (with_reducible repeat (first | refine blk_drewN ?_ _ | refine blk_drew ?_ | refine blk_alloc ?_ _)); exact BK627.out) hb); replace HB := hbs2 HB.out GE625.out GE627.out hb; (try clear hb); (try clear hb2); (try clear hk); (try clear hi)))
        go_meet
        case rel => exact ⟨_, (true), (by first | rfl | (simp; done) | (simp [*]; done)), H', ⟨by have := HJ1.out; have := HK2.out; first | omega | exact Nat.le_refl _⟩, ⟨by (with_reducible repeat (first | refine blk_drewN ?_ _ | refine blk_drew ?_ | refine blk_alloc ?_ _)); exact BK625.out⟩, ⟨by (with_reducible repeat (first | refine blk_drewN ?_ _ | refine blk_drew ?_ | refine blk_alloc ?_ _)); exact BK627.out⟩, ⟨by repeat (first | (with_reducible first | exact HB.out | apply below_alloc | apply pw_below_drewN | apply below_drew1 | refine below_set ?_ GE625.out | refine below_set ?_ GE627.out) | exact HB.out)⟩⟩
      all_goals
       go_wp2_with (first | ((with_reducible refine gate_callee (f := 78) rfl ?_); refine goesS (some 31) rfl Try.func78 #[.agg #[.int .i64 ((rd_T61 l0_0 x24_2).f0.f0), .int .i64 ((rd_T61 l0_0 x24_2).f0.f1), .float .f64 ((rd_T61 l0_0 x24_2).f0.f2), .string ((rd_T61 l0_0 x24_2).f0.f3), .int .i64 ((rd_T61 l0_0 x24_2).f0.f4)]] rfl ?_; (with_reducible refine (spec_l2keyOk.calls k2 ((rd_T61 l0_0 x24_2).f0.f0) ((rd_T61 l0_0 x24_2).f0.f1) ((rd_T61 l0_0 x24_2).f0.f2) ((rd_T61 l0_0 x24_2).f0.f3) ((rd_T61 l0_0 x24_2).f0.f4) true _ A18.out).mono ?_); rintro e wz0_ ⟨rfl, hb⟩; refine ⟨_, rfl, ?_⟩; replace BK625 := Aside0.mk (blk_below (g := gb625) (o := .cells #[.slice (some ad626) l0_0.length c0_0, .int .i64 a0_1] 56 (0, 0)) (by (with_reducible repeat (first | refine blk_drewN ?_ _ | refine blk_drew ?_ | refine blk_alloc ?_ _)); refine blk_far ?_ NB625_627.out _; (with_reducible repeat (first | refine blk_drewN ?_ _ | refine blk_drew ?_ | refine blk_alloc ?_ _)); refine blk_far ?_ NB625_627.out _; (with_reducible repeat (first | refine blk_drewN ?_ _ | refine blk_drew ?_ | refine blk_alloc ?_ _)); refine blk_far ?_ NB625_627.out _; (with_reducible repeat (first | refine blk_drewN ?_ _ | refine blk_drew ?_ | refine blk_alloc ?_ _)); refine blk_far ?_ NB625_627.out _; (with_reducible repeat (first | refine blk_drewN ?_ _ | refine blk_drew ?_ | refine blk_alloc ?_ _)); refine blk_far ?_ NB625_627.out _; (with_reducible repeat (first | refine blk_drewN ?_ _ | refine blk_drew ?_ | refine blk_alloc ?_ _)); refine blk_far ?_ NB625_627.out _; (with_reducible repeat (first | refine blk_drewN ?_ _ | refine blk_drew ?_ | refine blk_alloc ?_ _)); refine blk_far ?_ NB625_627.out _; (with_reducible repeat (first | refine blk_drewN ?_ _ | refine blk_drew ?_ | refine blk_alloc ?_ _)); refine blk_far ?_ NB625_627.out _; (with_reducible repeat (first | refine blk_drewN ?_ _ | refine blk_drew ?_ | refine blk_alloc ?_ _)); refine blk_far ?_ NB625_627.out _; (with_reducible repeat (first | refine blk_drewN ?_ _ | refine blk_drew ?_ | refine blk_alloc ?_ _)); refine blk_far ?_ NB625_627.out _; (with_reducible repeat (first | refine blk_drewN ?_ _ | refine blk_drew ?_ | refine blk_alloc ?_ _)); refine blk_far ?_ NB625_627.out _; (with_reducible repeat (first | refine blk_drewN ?_ _ | refine blk_drew ?_ | refine blk_alloc ?_ _)); exact BK625.out) hb); replace BK627 := Aside0.mk (blk_below (g := gb627) (o := .cells #[.int .i64 ((rd_T61 l0_0 x24_2).f0.f0), .int .i64 ((rd_T61 l0_0 x24_2).f0.f1), .float .f64 ((rd_T61 l0_0 x24_2).f0.f2), .string ((rd_T61 l0_0 x24_2).f0.f3), .int .i64 ((rd_T61 l0_0 x24_2).f0.f4), .int .i64 ((rd_T61 l0_0 x24_2).f1.f0), .int .i64 ((rd_T61 l0_0 x24_2).f1.f1), .float .f64 ((rd_T61 l0_0 x24_2).f1.f2), .string ((rd_T61 l0_0 x24_2).f1.f3), .int .i64 ((rd_T61 l0_0 x24_2).f1.f4), .int .i64 ((rd_T61 l0_0 x24_2).f2)] 61 (0, 0)) (by (with_reducible repeat (first | refine blk_drewN ?_ _ | refine blk_drew ?_ | refine blk_alloc ?_ _)); refine blk_put (cs := #[.int .i64 ((rd_T61 l0_0 x24_2).f0.f0), .int .i64 ((rd_T61 l0_0 x24_2).f0.f1), .float .f64 ((rd_T61 l0_0 x24_2).f0.f2), .string ((rd_T61 l0_0 x24_2).f0.f3), .int .i64 ((rd_T61 l0_0 x24_2).f0.f4), .int .i64 ((rd_T61 l0_0 x24_2).f1.f0), .int .i64 ((rd_T61 l0_0 x24_2).f1.f1), .float .f64 ((rd_T61 l0_0 x24_2).f1.f2), .string ((rd_T61 l0_0 x24_2).f1.f3), .int .i64 ((rd_T61 l0_0 x24_2).f1.f4), .int .i64 0]) ?_ 10 _ rfl; (with_reducible repeat (first | refine blk_drewN ?_ _ | refine blk_drew ?_ | refine blk_alloc ?_ _)); refine blk_put (cs := #[.int .i64 ((rd_T61 l0_0 x24_2).f0.f0), .int .i64 ((rd_T61 l0_0 x24_2).f0.f1), .float .f64 ((rd_T61 l0_0 x24_2).f0.f2), .string ((rd_T61 l0_0 x24_2).f0.f3), .int .i64 ((rd_T61 l0_0 x24_2).f0.f4), .int .i64 ((rd_T61 l0_0 x24_2).f1.f0), .int .i64 ((rd_T61 l0_0 x24_2).f1.f1), .float .f64 ((rd_T61 l0_0 x24_2).f1.f2), .string ((rd_T61 l0_0 x24_2).f1.f3), .int .i64 0, .int .i64 0]) ?_ 9 _ rfl; (with_reducible repeat (first | refine blk_drewN ?_ _ | refine blk_drew ?_ | refine blk_alloc ?_ _)); refine blk_put (cs := #[.int .i64 ((rd_T61 l0_0 x24_2).f0.f0), .int .i64 ((rd_T61 l0_0 x24_2).f0.f1), .float .f64 ((rd_T61 l0_0 x24_2).f0.f2), .string ((rd_T61 l0_0 x24_2).f0.f3), .int .i64 ((rd_T61 l0_0 x24_2).f0.f4), .int .i64 ((rd_T61 l0_0 x24_2).f1.f0), .int .i64 ((rd_T61 l0_0 x24_2).f1.f1), .float .f64 ((rd_T61 l0_0 x24_2).f1.f2), .string (⟨#[]⟩ : ByteArray), .int .i64 0, .int .i64 0]) ?_ 8 _ rfl; (with_reducible repeat (first | refine blk_drewN ?_ _ | refine blk_drew ?_ | refine blk_alloc ?_ _)); refine blk_put (cs := #[.int .i64 ((rd_T61 l0_0 x24_2).f0.f0), .int .i64 ((rd_T61 l0_0 x24_2).f0.f1), .float .f64 ((rd_T61 l0_0 x24_2).f0.f2), .string ((rd_T61 l0_0 x24_2).f0.f3), .int .i64 ((rd_T61 l0_0 x24_2).f0.f4), .int .i64 ((rd_T61 l0_0 x24_2).f1.f0), .int .i64 ((rd_T61 l0_0 x24_2).f1.f1), .float .f64 0, .string (⟨#[]⟩ : ByteArray), .int .i64 0, .int .i64 0]) ?_ 7 _ rfl; (with_reducible repeat (first | refine blk_drewN ?_ _ | refine blk_drew ?_ | refine blk_alloc ?_ _)); refine blk_put (cs := #[.int .i64 ((rd_T61 l0_0 x24_2).f0.f0), .int .i64 ((rd_T61 l0_0 x24_2).f0.f1), .float .f64 ((rd_T61 l0_0 x24_2).f0.f2), .string ((rd_T61 l0_0 x24_2).f0.f3), .int .i64 ((rd_T61 l0_0 x24_2).f0.f4), .int .i64 ((rd_T61 l0_0 x24_2).f1.f0), .int .i64 0, .float .f64 0, .string (⟨#[]⟩ : ByteArray), .int .i64 0, .int .i64 0]) ?_ 6 _ rfl; (with_reducible repeat (first | refine blk_drewN ?_ _ | refine blk_drew ?_ | refine blk_alloc ?_ _)); refine blk_put (cs := #[.int .i64 ((rd_T61 l0_0 x24_2).f0.f0), .int .i64 ((rd_T61 l0_0 x24_2).f0.f1), .float .f64 ((rd_T61 l0_0 x24_2).f0.f2), .string ((rd_T61 l0_0 x24_2).f0.f3), .int .i64 ((rd_T61 l0_0 x24_2).f0.f4), .int .i64 0, .int .i64 0, .float .f64 0, .string (⟨#[]⟩ : ByteArray), .int .i64 0, .int .i64 0]) ?_ 5 _ rfl; (with_reducible repeat (first | refine blk_drewN ?_ _ | refine blk_drew ?_ | refine blk_alloc ?_ _)); refine blk_put (cs := #[.int .i64 ((rd_T61 l0_0 x24_2).f0.f0), .int .i64 ((rd_T61 l0_0 x24_2).f0.f1), .float .f64 ((rd_T61 l0_0 x24_2).f0.f2), .string ((rd_T61 l0_0 x24_2).f0.f3), .int .i64 0, .int .i64 0, .int .i64 0, .float .f64 0, .string (⟨#[]⟩ : ByteArray), .int .i64 0, .int .i64 0]) ?_ 4 _ rfl; (with_reducible repeat (first | refine blk_drewN ?_ _ | refine blk_drew ?_ | refine blk_alloc ?_ _)); refine blk_put (cs := #[.int .i64 ((rd_T61 l0_0 x24_2).f0.f0), .int .i64 ((rd_T61 l0_0 x24_2).f0.f1), .float .f64 ((rd_T61 l0_0 x24_2).f0.f2), .string (⟨#[]⟩ : ByteArray), .int .i64 0, .int .i64 0, .int .i64 0, .float .f64 0, .string (⟨#[]⟩ : ByteArray), .int .i64 0, .int .i64 0]) ?_ 3 _ rfl; (with_reducible repeat (first | refine blk_drewN ?_ _ | refine blk_drew ?_ | refine blk_alloc ?_ _)); refine blk_put (cs := #[.int .i64 ((rd_T61 l0_0 x24_2).f0.f0), .int .i64 ((rd_T61 l0_0 x24_2).f0.f1), .float .f64 0, .string (⟨#[]⟩ : ByteArray), .int .i64 0, .int .i64 0, .int .i64 0, .float .f64 0, .string (⟨#[]⟩ : ByteArray), .int .i64 0, .int .i64 0]) ?_ 2 _ rfl; (with_reducible repeat (first | refine blk_drewN ?_ _ | refine blk_drew ?_ | refine blk_alloc ?_ _)); refine blk_put (cs := #[.int .i64 ((rd_T61 l0_0 x24_2).f0.f0), .int .i64 0, .float .f64 0, .string (⟨#[]⟩ : ByteArray), .int .i64 0, .int .i64 0, .int .i64 0, .float .f64 0, .string (⟨#[]⟩ : ByteArray), .int .i64 0, .int .i64 0]) ?_ 1 _ rfl; (with_reducible repeat (first | refine blk_drewN ?_ _ | refine blk_drew ?_ | refine blk_alloc ?_ _)); refine blk_put (cs := #[.int .i64 0, .int .i64 0, .float .f64 0, .string (⟨#[]⟩ : ByteArray), .int .i64 0, .int .i64 0, .int .i64 0, .float .f64 0, .string (⟨#[]⟩ : ByteArray), .int .i64 0, .int .i64 0]) ?_ 0 _ rfl; (with_reducible repeat (first | refine blk_drewN ?_ _ | refine blk_drew ?_ | refine blk_alloc ?_ _)); exact BK627.out) hb); replace HB := hbs2 HB.out GE625.out GE627.out hb; (try clear hb); (try clear hb2); (try clear hk); (try clear hi); have hczz1_ : wz0_.cell? ⟨gb627, 0, none⟩ = some (.int .i64 ((rd_T61 l0_0 x24_2).f0.f0)) := (blk_cell BK627.out 0).trans rfl; have hczz2_ : wz0_.cell? ⟨gb627, 1, none⟩ = some (.int .i64 ((rd_T61 l0_0 x24_2).f0.f1)) := (blk_cell BK627.out 1).trans rfl; have hczz3_ : wz0_.cell? ⟨gb627, 2, none⟩ = some (.float .f64 ((rd_T61 l0_0 x24_2).f0.f2)) := (blk_cell BK627.out 2).trans rfl; have hczz4_ : wz0_.cell? ⟨gb627, 3, none⟩ = some (.string ((rd_T61 l0_0 x24_2).f0.f3)) := (blk_cell BK627.out 3).trans rfl; have hczz5_ : wz0_.cell? ⟨gb627, 4, none⟩ = some (.int .i64 ((rd_T61 l0_0 x24_2).f0.f4)) := (blk_cell BK627.out 4).trans rfl; have hczz6_ : wz0_.cell? ⟨gb627, 5, none⟩ = some (.int .i64 ((rd_T61 l0_0 x24_2).f1.f0)) := (blk_cell BK627.out 5).trans rfl; have hczz7_ : wz0_.cell? ⟨gb627, 6, none⟩ = some (.int .i64 ((rd_T61 l0_0 x24_2).f1.f1)) := (blk_cell BK627.out 6).trans rfl; have hczz8_ : wz0_.cell? ⟨gb627, 7, none⟩ = some (.float .f64 ((rd_T61 l0_0 x24_2).f1.f2)) := (blk_cell BK627.out 7).trans rfl; have hczz9_ : wz0_.cell? ⟨gb627, 8, none⟩ = some (.string ((rd_T61 l0_0 x24_2).f1.f3)) := (blk_cell BK627.out 8).trans rfl; have hczz10_ : wz0_.cell? ⟨gb627, 9, none⟩ = some (.int .i64 ((rd_T61 l0_0 x24_2).f1.f4)) := (blk_cell BK627.out 9).trans rfl; have hczz11_ : wz0_.cell? ⟨gb627, 10, none⟩ = some (.int .i64 ((rd_T61 l0_0 x24_2).f2)) := (blk_cell BK627.out 10).trans rfl; have hfzz12_ := blk_frozen BK627.out 0; have hfzz13_ := blk_frozen BK627.out 1; have hfzz14_ := blk_frozen BK627.out 2; have hfzz15_ := blk_frozen BK627.out 3; have hfzz16_ := blk_frozen BK627.out 4; have hfzz17_ := blk_frozen BK627.out 5; have hfzz18_ := blk_frozen BK627.out 6; have hfzz19_ := blk_frozen BK627.out 7; have hfzz20_ := blk_frozen BK627.out 8; have hfzz21_ := blk_frozen BK627.out 9; have hfzz22_ := blk_frozen BK627.out 10) | (go_at_call 17; (with_reducible refine (spec_ValueOk.calls k2 ((rd_T61 l0_0 x24_2).f1.f0) ((rd_T61 l0_0 x24_2).f1.f1) ((rd_T61 l0_0 x24_2).f1.f2) ((rd_T61 l0_0 x24_2).f1.f3) ((rd_T61 l0_0 x24_2).f1.f4) true _ A20.out).mono ?_); rintro e wz23_ ⟨rfl, hb⟩; replace BK625 := bku BK625.out hb; replace BK627 := bku BK627.out hb; replace HB := hbs2 HB.out GE625.out GE627.out hb; (try clear hb); (try clear hb2); (try clear hk); (try clear hi); have hczz24_ : wz23_.cell? ⟨gb627, 0, none⟩ = some (.int .i64 ((rd_T61 l0_0 x24_2).f0.f0)) := (blk_cell BK627.out 0).trans rfl; have hczz25_ : wz23_.cell? ⟨gb627, 1, none⟩ = some (.int .i64 ((rd_T61 l0_0 x24_2).f0.f1)) := (blk_cell BK627.out 1).trans rfl; have hczz26_ : wz23_.cell? ⟨gb627, 2, none⟩ = some (.float .f64 ((rd_T61 l0_0 x24_2).f0.f2)) := (blk_cell BK627.out 2).trans rfl; have hczz27_ : wz23_.cell? ⟨gb627, 3, none⟩ = some (.string ((rd_T61 l0_0 x24_2).f0.f3)) := (blk_cell BK627.out 3).trans rfl; have hczz28_ : wz23_.cell? ⟨gb627, 4, none⟩ = some (.int .i64 ((rd_T61 l0_0 x24_2).f0.f4)) := (blk_cell BK627.out 4).trans rfl; have hczz29_ : wz23_.cell? ⟨gb627, 5, none⟩ = some (.int .i64 ((rd_T61 l0_0 x24_2).f1.f0)) := (blk_cell BK627.out 5).trans rfl; have hczz30_ : wz23_.cell? ⟨gb627, 6, none⟩ = some (.int .i64 ((rd_T61 l0_0 x24_2).f1.f1)) := (blk_cell BK627.out 6).trans rfl; have hczz31_ : wz23_.cell? ⟨gb627, 7, none⟩ = some (.float .f64 ((rd_T61 l0_0 x24_2).f1.f2)) := (blk_cell BK627.out 7).trans rfl; have hczz32_ : wz23_.cell? ⟨gb627, 8, none⟩ = some (.string ((rd_T61 l0_0 x24_2).f1.f3)) := (blk_cell BK627.out 8).trans rfl; have hczz33_ : wz23_.cell? ⟨gb627, 9, none⟩ = some (.int .i64 ((rd_T61 l0_0 x24_2).f1.f4)) := (blk_cell BK627.out 9).trans rfl; have hczz34_ : wz23_.cell? ⟨gb627, 10, none⟩ = some (.int .i64 ((rd_T61 l0_0 x24_2).f2)) := (blk_cell BK627.out 10).trans rfl; have hfzz35_ := blk_frozen BK627.out 0; have hfzz36_ := blk_frozen BK627.out 1; have hfzz37_ := blk_frozen BK627.out 2; have hfzz38_ := blk_frozen BK627.out 3; have hfzz39_ := blk_frozen BK627.out 4; have hfzz40_ := blk_frozen BK627.out 5; have hfzz41_ := blk_frozen BK627.out 6; have hfzz42_ := blk_frozen BK627.out 7; have hfzz43_ := blk_frozen BK627.out 8; have hfzz44_ := blk_frozen BK627.out 9; have hfzz45_ := blk_frozen BK627.out 10))
       go_meet
       case rel => exact ⟨_, (true), (by first | rfl | (simp; done) | (simp [*]; done)), H', ⟨by have := HJ1.out; have := HK2.out; first | omega | exact Nat.le_refl _⟩, ⟨by (with_reducible repeat (first | refine blk_drewN ?_ _ | refine blk_drew ?_ | refine blk_alloc ?_ _)); exact BK625.out⟩, ⟨by (with_reducible repeat (first | refine blk_drewN ?_ _ | refine blk_drew ?_ | refine blk_alloc ?_ _)); exact BK627.out⟩, ⟨by repeat (first | (with_reducible first | exact HB.out | apply below_alloc | apply pw_below_drewN | apply below_drew1 | refine below_set ?_ GE625.out | refine below_set ?_ GE627.out) | exact HB.out)⟩⟩
    clear HC14
    try clear c9
    try clear c11
    try clear c11b0
    try clear c12
    try clear c12b0
    try clear c13
    try clear c13b0
    try clear hcz10_0
    try clear hcz10_1
    try clear hcz17_0
    try clear hcz17_1
    try clear hcz17_10
    try clear hcz17_2
    try clear hcz17_3
    try clear hcz17_4
    try clear hcz17_5
    try clear hcz17_6
    try clear hcz17_7
    try clear hcz17_8
    try clear hcz17_9
    try clear hfz10_0
    try clear hfz10_1
    try clear hfz17_0
    try clear hfz17_1
    try clear hfz17_10
    try clear hfz17_2
    try clear hfz17_3
    try clear hfz17_4
    try clear hfz17_5
    try clear hfz17_6
    try clear hfz17_7
    try clear hfz17_8
    try clear hfz17_9
    try clear hx626_0
    try clear hx626_1
    try clear hx626_10
    try clear hx626_2
    try clear hx626_3
    try clear hx626_4
    try clear hx626_5
    try clear hx626_6
    try clear hx626_7
    try clear hx626_8
    try clear hx626_9
    try clear p626
    try clear q626
    obtain ⟨kq, x57_13, rfl, HA, HJ13, BK625, BK627, HB⟩ := hcut
    rcases kq with _ | kj13
    · exact absurd HA.out (by simp [spec_TableOk.j2])
    have H := HA.out
    clear HA
    simp only [spec_TableOk.j2] at H
    by_cases c51 : x57_13 = true
    · subst c51
      have H1 : (some false) = some r := by rw [if_pos rfl] at H; exact H
      clear H
      have H := H1
      clear H1
      obtain rfl := Option.some.inj H
      go_wp2
      go_ret
      exact ⟨by first | rfl | (simp <;> rfl) | (simp [*] <;> rfl), hbe2 HB.out GE625.out GE627.out⟩
    replace c51 := Bool.eq_false_iff.mpr c51
    subst c51
    have H1 : (spec_TableOk.l1 kj13 ((rd_T61 l0_0 x24_2).f2) x24_2 0 l0_0 (l0_0.length : Int) x24_2 l0_0 a0_1 ((rd_T61 l0_0 x24_2).f0.f0) ((rd_T61 l0_0 x24_2).f0.f1) ((rd_T61 l0_0 x24_2).f0.f2) ((rd_T61 l0_0 x24_2).f0.f3) ((rd_T61 l0_0 x24_2).f0.f4) ((rd_T61 l0_0 x24_2).f1.f0) ((rd_T61 l0_0 x24_2).f1.f1) ((rd_T61 l0_0 x24_2).f1.f2) ((rd_T61 l0_0 x24_2).f1.f3) ((rd_T61 l0_0 x24_2).f1.f4) ((rd_T61 l0_0 x24_2).f2)) = some r := by rw [if_neg (show ¬ (false = true) by decide)] at H; exact H
    clear H
    have H := H1
    clear H1
    have H' := Aside0.mk H
    clear H
    have hnb52 := NB627_625.out
    have hnc52 := NB625_627.out
    obtain ⟨hcz53_0, hcz53_1, hcz53_2, hcz53_3, hcz53_4, hcz53_5, hcz53_6, hcz53_7, hcz53_8, hcz53_9, hcz53_10, hfz53_0, hfz53_1, hfz53_2, hfz53_3, hfz53_4, hfz53_5, hfz53_6, hfz53_7, hfz53_8, hfz53_9, hfz53_10⟩ := cells11 BK627.out
    go_wp2
    go_loopg [6] kj13 (fun kq v6 w' => ∃ (x6_4 : Int), v6 = .int .i64 x6_4 ∧ Aside0 (spec_TableOk.l1 kq ((rd_T61 l0_0 x24_2).f2) x24_2 x6_4 l0_0 (l0_0.length : Int) x24_2 l0_0 a0_1 ((rd_T61 l0_0 x24_2).f0.f0) ((rd_T61 l0_0 x24_2).f0.f1) ((rd_T61 l0_0 x24_2).f0.f2) ((rd_T61 l0_0 x24_2).f0.f3) ((rd_T61 l0_0 x24_2).f0.f4) ((rd_T61 l0_0 x24_2).f1.f0) ((rd_T61 l0_0 x24_2).f1.f1) ((rd_T61 l0_0 x24_2).f1.f2) ((rd_T61 l0_0 x24_2).f1.f3) ((rd_T61 l0_0 x24_2).f1.f4) ((rd_T61 l0_0 x24_2).f2) = some r) ∧ Aside0 (kq ≤ kj13) ∧ Aside0 (w'.heap[gb625]? = some (.cells #[(.slice (some ad626) l0_0.length c0_0), .int .i64 a0_1] 56 (0, 0))) ∧ Aside0 (w'.heap[gb627]? = some (.cells #[.int .i64 ((rd_T61 l0_0 x24_2).f0.f0), .int .i64 ((rd_T61 l0_0 x24_2).f0.f1), .float .f64 ((rd_T61 l0_0 x24_2).f0.f2), .string ((rd_T61 l0_0 x24_2).f0.f3), .int .i64 ((rd_T61 l0_0 x24_2).f0.f4), .int .i64 ((rd_T61 l0_0 x24_2).f1.f0), .int .i64 ((rd_T61 l0_0 x24_2).f1.f1), .float .f64 ((rd_T61 l0_0 x24_2).f1.f2), .string ((rd_T61 l0_0 x24_2).f1.f3), .int .i64 ((rd_T61 l0_0 x24_2).f1.f4), .int .i64 ((rd_T61 l0_0 x24_2).f2)] 61 (0, 0))) ∧ Aside0 (Below w.heap.size w w'))
    case atStart => exact ⟨(0), (by first | rfl | (simp; done) | (simp [*]; done)), H', ⟨Nat.le_refl _⟩, ⟨by (with_reducible repeat (first | refine blk_drewN ?_ _ | refine blk_drew ?_ | refine blk_alloc ?_ _)); exact BK625.out⟩, ⟨by (with_reducible repeat (first | refine blk_drewN ?_ _ | refine blk_drew ?_ | refine blk_alloc ?_ _)); exact BK627.out⟩, ⟨by repeat (first | (with_reducible first | exact HB.out | apply below_alloc | apply pw_below_drewN | apply below_drew1 | refine below_set ?_ GE625.out | refine below_set ?_ GE627.out) | exact HB.out)⟩⟩
    case round =>
      clear H'
      try clear c9
      try clear c11
      try clear c11b0
      try clear c12
      try clear c12b0
      try clear c13
      try clear c13b0
      try clear c51
      try clear hcz10_0
      try clear hcz10_1
      try clear hcz17_0
      try clear hcz17_1
      try clear hcz17_10
      try clear hcz17_2
      try clear hcz17_3
      try clear hcz17_4
      try clear hcz17_5
      try clear hcz17_6
      try clear hcz17_7
      try clear hcz17_8
      try clear hcz17_9
      try clear hcz53_0
      try clear hcz53_1
      try clear hcz53_10
      try clear hcz53_2
      try clear hcz53_3
      try clear hcz53_4
      try clear hcz53_5
      try clear hcz53_6
      try clear hcz53_7
      try clear hcz53_8
      try clear hcz53_9
      try clear hfz10_0
      try clear hfz10_1
      try clear hfz17_0
      try clear hfz17_1
      try clear hfz17_10
      try clear hfz17_2
      try clear hfz17_3
      try clear hfz17_4
      try clear hfz17_5
      try clear hfz17_6
      try clear hfz17_7
      try clear hfz17_8
      try clear hfz17_9
      try clear hfz53_0
      try clear hfz53_1
      try clear hfz53_10
      try clear hfz53_2
      try clear hfz53_3
      try clear hfz53_4
      try clear hfz53_5
      try clear hfz53_6
      try clear hfz53_7
      try clear hfz53_8
      try clear hfz53_9
      try clear hx626_0
      try clear hx626_1
      try clear hx626_10
      try clear hx626_2
      try clear hx626_3
      try clear hx626_4
      try clear hx626_5
      try clear hx626_6
      try clear hx626_7
      try clear hx626_8
      try clear hx626_9
      try clear p626
      try clear q626
      obtain ⟨x6_4, rfl, HA, HK4, BK625, BK627, HB⟩ := hrel
      rcases gk with _ | k4
      · exact absurd HA.out (by simp [spec_TableOk.l1])
      have H := HA.out
      clear HA
      simp only [spec_TableOk.l1] at H
      by_cases c54 : x6_4 < x24_2
      rotate_left 1
      · rw [if_neg c54] at H
        have c54b0 : decide (x6_4 < x24_2) = false := decide_eq_false c54
        clear c54
        have H' := Aside0.mk H
        clear H
        go_wp2
        go_roundg k4
        case measure => have := HJ1.out; have := HK2.out; have := HJ13.out; have := HK4.out; omega
        case rel => exact ⟨(((rd_T61 l0_0 x24_2).f2)), (wrap64 (x24_2 + 1)), (by first | rfl | (simp; done) | (simp [*]; done)), (by first | rfl | (simp; done) | (simp [*]; done)), H', ⟨by have := HJ1.out; have := HK2.out; have := HJ13.out; have := HK4.out; omega⟩, ⟨by (with_reducible repeat (first | refine blk_drewN ?_ _ | refine blk_drew ?_ | refine blk_alloc ?_ _)); exact BK625.out⟩, ⟨by repeat (first | (with_reducible first | exact HB.out | apply below_alloc | apply pw_below_drewN | apply below_drew1 | refine below_set ?_ GE625.out | refine below_set ?_ GE627.out) | exact HB.out)⟩⟩
      rw [if_pos c54] at H
      have c54b0 : decide (x6_4 < x24_2) = true := decide_eq_true c54
      clear c54
      by_cases c55 : 0 ≤ x6_4
      rotate_left 1
      · rw [if_neg c55] at H
        exact absurd H (by simp)
      rw [if_pos c55] at H
      have c55b0 : decide (0 ≤ x6_4) = true := decide_eq_true c55
      clear c55
      by_cases c56 : x6_4 < (l0_0.length : Int)
      rotate_left 1
      · rw [if_neg c56] at H
        exact absurd H (by simp)
      rw [if_pos c56] at H
      have c56b0 : decide (x6_4 < (l0_0.length : Int)) = true := decide_eq_true c56
      clear c56
      replace H := Option.bind_eq_some_iff.mp H
      obtain ⟨t631, A570, H⟩ := H
      replace H : (if t631 = true then (some false) else (spec_TableOk.l1 k4 ((rd_T61 l0_0 x24_2).f2) x24_2 (wrap64 (x6_4 + 1)) l0_0 (l0_0.length : Int) x24_2 l0_0 a0_1 ((rd_T61 l0_0 x24_2).f0.f0) ((rd_T61 l0_0 x24_2).f0.f1) ((rd_T61 l0_0 x24_2).f0.f2) ((rd_T61 l0_0 x24_2).f0.f3) ((rd_T61 l0_0 x24_2).f0.f4) ((rd_T61 l0_0 x24_2).f1.f0) ((rd_T61 l0_0 x24_2).f1.f1) ((rd_T61 l0_0 x24_2).f1.f2) ((rd_T61 l0_0 x24_2).f1.f3) ((rd_T61 l0_0 x24_2).f1.f4) ((rd_T61 l0_0 x24_2).f2))) = some r := H
      have A57 := Aside0.mk A570
      clear A570
      by_cases c58 : t631 = true
      · subst c58
        have H1 : (some false) = some r := by rw [if_pos rfl] at H; exact H
        clear H
        have H := H1
        clear H1
        obtain rfl := Option.some.inj H
        try go_wp2
        replace BK625 := Aside0.mk (blk_drew BK625.out)
        replace BK627 := Aside0.mk (blk_drew BK627.out)
        replace HB := Aside0.mk (below_drew1 HB.out)
        have p630 : 0 ≤ (x6_4 : Int) := of_decide_eq_true (by first | (with_reducible assumption) | assumption)
        have q630 : x6_4 < (l0_0.length : Int) := of_decide_eq_true (by first | (with_reducible assumption) | assumption)
        obtain ⟨ad630, e630, hx630_0, hx630_1, hx630_2, hx630_3, hx630_4, hx630_5, hx630_6, hx630_7, hx630_8, hx630_9, hx630_10⟩ := at_T61 HR0_0.out x6_4 p630 q630
        have hw630_10 := hx630_10
        have hw630_9 := hx630_9
        have hw630_8 := hx630_8
        have hw630_7 := hx630_7
        have hw630_6 := hx630_6
        have hw630_5 := hx630_5
        have hw630_4 := hx630_4
        have hw630_3 := hx630_3
        have hw630_2 := hx630_2
        have hw630_1 := hx630_1
        have hw630_0 := hx630_0
        obtain rfl : ad626 = ad630 := (by injection e630)
        (first | replace hx630_0 := (HB.out.cell (World.block_lt_of_cell? w _ hx630_0)).trans hx630_0 | skip)
        (first | replace hx630_1 := (HB.out.cell (World.block_lt_of_cell? w _ hx630_1)).trans hx630_1 | skip)
        (first | replace hx630_2 := (HB.out.cell (World.block_lt_of_cell? w _ hx630_2)).trans hx630_2 | skip)
        (first | replace hx630_3 := (HB.out.cell (World.block_lt_of_cell? w _ hx630_3)).trans hx630_3 | skip)
        (first | replace hx630_4 := (HB.out.cell (World.block_lt_of_cell? w _ hx630_4)).trans hx630_4 | skip)
        (first | replace hx630_5 := (HB.out.cell (World.block_lt_of_cell? w _ hx630_5)).trans hx630_5 | skip)
        (first | replace hx630_6 := (HB.out.cell (World.block_lt_of_cell? w _ hx630_6)).trans hx630_6 | skip)
        (first | replace hx630_7 := (HB.out.cell (World.block_lt_of_cell? w _ hx630_7)).trans hx630_7 | skip)
        (first | replace hx630_8 := (HB.out.cell (World.block_lt_of_cell? w _ hx630_8)).trans hx630_8 | skip)
        (first | replace hx630_9 := (HB.out.cell (World.block_lt_of_cell? w _ hx630_9)).trans hx630_9 | skip)
        (first | replace hx630_10 := (HB.out.cell (World.block_lt_of_cell? w _ hx630_10)).trans hx630_10 | skip)
        replace p630 := eq_true p630
        replace q630 := eq_true q630
        refine start_ (n := 9) (S := fun w' => w'.cell? ⟨gb625, 0, none⟩ = some (.slice (some ad626) l0_0.length c0_0) ∧ w'.cell? ⟨gb625, 1, none⟩ = some (.int .i64 a0_1) ∧ w'.cell? ⟨gb627, 0, none⟩ = some (.int .i64 ((rd_T61 l0_0 x24_2).f0.f0)) ∧ w'.cell? ⟨gb627, 1, none⟩ = some (.int .i64 ((rd_T61 l0_0 x24_2).f0.f1)) ∧ w'.cell? ⟨gb627, 2, none⟩ = some (.float .f64 ((rd_T61 l0_0 x24_2).f0.f2)) ∧ w'.cell? ⟨gb627, 3, none⟩ = some (.string ((rd_T61 l0_0 x24_2).f0.f3)) ∧ w'.cell? ⟨gb627, 4, none⟩ = some (.int .i64 ((rd_T61 l0_0 x24_2).f0.f4)) ∧ w'.cell? ⟨gb627, 5, none⟩ = some (.int .i64 ((rd_T61 l0_0 x24_2).f1.f0)) ∧ w'.cell? ⟨gb627, 6, none⟩ = some (.int .i64 ((rd_T61 l0_0 x24_2).f1.f1)) ∧ w'.cell? ⟨gb627, 7, none⟩ = some (.float .f64 ((rd_T61 l0_0 x24_2).f1.f2)) ∧ w'.cell? ⟨gb627, 8, none⟩ = some (.string ((rd_T61 l0_0 x24_2).f1.f3)) ∧ w'.cell? ⟨gb627, 9, none⟩ = some (.int .i64 ((rd_T61 l0_0 x24_2).f1.f4)) ∧ w'.cell? ⟨gb627, 10, none⟩ = some (.int .i64 ((rd_T61 l0_0 x24_2).f2)) ∧ w'.cell? (ad626.add ((x6_4).toNat * 11)) = some (.int .i64 ((rd_T61 l0_0 x6_4).f0.f0)) ∧ w'.cell? ⟨(ad626.add ((x6_4).toNat * 11)).block, (ad626.add ((x6_4).toNat * 11)).off + 1, none⟩ = some (.int .i64 ((rd_T61 l0_0 x6_4).f0.f1)) ∧ w'.cell? ⟨(ad626.add ((x6_4).toNat * 11)).block, (ad626.add ((x6_4).toNat * 11)).off + 2, none⟩ = some (.float .f64 ((rd_T61 l0_0 x6_4).f0.f2)) ∧ w'.cell? ⟨(ad626.add ((x6_4).toNat * 11)).block, (ad626.add ((x6_4).toNat * 11)).off + 3, none⟩ = some (.string ((rd_T61 l0_0 x6_4).f0.f3)) ∧ w'.cell? ⟨(ad626.add ((x6_4).toNat * 11)).block, (ad626.add ((x6_4).toNat * 11)).off + 4, none⟩ = some (.int .i64 ((rd_T61 l0_0 x6_4).f0.f4)) ∧ w'.cell? ⟨(ad626.add ((x6_4).toNat * 11)).block, (ad626.add ((x6_4).toNat * 11)).off + 5, none⟩ = some (.int .i64 ((rd_T61 l0_0 x6_4).f1.f0)) ∧ w'.cell? ⟨(ad626.add ((x6_4).toNat * 11)).block, (ad626.add ((x6_4).toNat * 11)).off + 6, none⟩ = some (.int .i64 ((rd_T61 l0_0 x6_4).f1.f1)) ∧ w'.cell? ⟨(ad626.add ((x6_4).toNat * 11)).block, (ad626.add ((x6_4).toNat * 11)).off + 7, none⟩ = some (.float .f64 ((rd_T61 l0_0 x6_4).f1.f2)) ∧ w'.cell? ⟨(ad626.add ((x6_4).toNat * 11)).block, (ad626.add ((x6_4).toNat * 11)).off + 8, none⟩ = some (.string ((rd_T61 l0_0 x6_4).f1.f3)) ∧ w'.cell? ⟨(ad626.add ((x6_4).toNat * 11)).block, (ad626.add ((x6_4).toNat * 11)).off + 9, none⟩ = some (.int .i64 ((rd_T61 l0_0 x6_4).f1.f4)) ∧ w'.cell? ⟨(ad626.add ((x6_4).toNat * 11)).block, (ad626.add ((x6_4).toNat * 11)).off + 10, none⟩ = some (.int .i64 ((rd_T61 l0_0 x6_4).f2))) (ds := []) #[false, false, false, false, false, false, false, false, false] (by kernel_rfl) rfl rfl ⟨(blk_cell BK625.out 0).trans rfl, (blk_cell BK625.out 1).trans rfl, (blk_cell BK627.out 0).trans rfl, (blk_cell BK627.out 1).trans rfl, (blk_cell BK627.out 2).trans rfl, (blk_cell BK627.out 3).trans rfl, (blk_cell BK627.out 4).trans rfl, (blk_cell BK627.out 5).trans rfl, (blk_cell BK627.out 6).trans rfl, (blk_cell BK627.out 7).trans rfl, (blk_cell BK627.out 8).trans rfl, (blk_cell BK627.out 9).trans rfl, (blk_cell BK627.out 10).trans rfl, ((HB.out.cell (World.block_lt_of_cell? w _ hw630_0)).trans hw630_0), ((HB.out.cell (World.block_lt_of_cell? w _ hw630_1)).trans hw630_1), ((HB.out.cell (World.block_lt_of_cell? w _ hw630_2)).trans hw630_2), ((HB.out.cell (World.block_lt_of_cell? w _ hw630_3)).trans hw630_3), ((HB.out.cell (World.block_lt_of_cell? w _ hw630_4)).trans hw630_4), ((HB.out.cell (World.block_lt_of_cell? w _ hw630_5)).trans hw630_5), ((HB.out.cell (World.block_lt_of_cell? w _ hw630_6)).trans hw630_6), ((HB.out.cell (World.block_lt_of_cell? w _ hw630_7)).trans hw630_7), ((HB.out.cell (World.block_lt_of_cell? w _ hw630_8)).trans hw630_8), ((HB.out.cell (World.block_lt_of_cell? w _ hw630_9)).trans hw630_9), ((HB.out.cell (World.block_lt_of_cell? w _ hw630_10)).trans hw630_10)⟩ (fun hHeld => ?_); refine with_tabW spec_TableOk.tab13 spec_TableOk.bits13 (fun HT_ HW_ => ?_)
        generalize wr.drew = w59 at BK625 BK627 HB hx630_0 hx630_1 hx630_10 hx630_2 hx630_3 hx630_4 hx630_5 hx630_6 hx630_7 hx630_8 hx630_9 hHeld ⊢
        refine pure_ (i := 0) (N := some 65) (v := ?_) (a' := ?_) #[true, false, false, false, false, false, false, false, false] rfl rfl (any_of HT_.out (by kernel_rfl)) (fun _ _ _ h => h) (Or.inl ⟨by rfl, ?_⟩) ?_ ?_
        rotate_left
        · intro w'
          go_simp
          with_reducible rfl
        rotate_left
        · simp only [Act.put, List.setIfInBounds_toArray, List.set_cons_zero, List.set_cons_succ, i64_w, i32_w]
          rfl
        refine pure_ (i := 2) (N := some 67) (v := ?_) (a' := ?_) #[true, false, true, false, false, false, false, false, false] rfl rfl (any_of HT_.out (by kernel_rfl)) (fun _ _ _ h => h) (Or.inl ⟨by rfl, ?_⟩) ?_ ?_
        rotate_left
        · intro w'
          go_simp
          with_reducible rfl
        rotate_left
        · simp only [Act.put, List.setIfInBounds_toArray, List.set_cons_zero, List.set_cons_succ, i64_w, i32_w]
          rfl
        refine pure_ (i := 6) (N := some 71) (v := ?_) (a' := ?_) #[true, false, true, false, false, false, true, false, false] rfl rfl (any_of HT_.out (by kernel_rfl)) (fun _ _ _ h => h) (Or.inl ⟨by rfl, ?_⟩) ?_ ?_
        rotate_left
        · intro w'
          go_simp
          with_reducible rfl
        rotate_left
        · simp only [Act.put, List.setIfInBounds_toArray, List.set_cons_zero, List.set_cons_succ, i64_w, i32_w]
          rfl
        refine take_ (i := 1) (N := some 66) (v := ?_) (a' := ?_) #[true, true, true, false, false, false, true, false, false] rfl rfl (take_ofW HT_.out HW_.out (by kernel_rfl)) (fun _ _ _ h => h) (Or.inl ⟨by rfl, ?_⟩) hHeld ?_ ?_
        rotate_left
        · rintro w' ⟨s0, s1, s2, s3, s4, s5, s6, s7, s8, s9, s10, s11, s12, s13, s14, s15, s16, s17, s18, s19, s20, s21, s22, s23⟩
          go_simp
          with_reducible rfl
        rotate_left
        · simp only [Act.put, List.setIfInBounds_toArray, List.set_cons_zero, List.set_cons_succ, i64_w, i32_w]
          rfl
        refine pure_ (i := 3) (N := some 68) (v := ?_) (a' := ?_) #[true, true, true, true, false, false, true, false, false] rfl rfl (any_of HT_.out (by kernel_rfl)) (fun _ _ _ h => h) (Or.inl ⟨by rfl, ?_⟩) ?_ ?_
        rotate_left
        · intro w'
          go_simp
          with_reducible rfl
        rotate_left
        · simp only [Act.put, List.setIfInBounds_toArray, List.set_cons_zero, List.set_cons_succ, i64_w, i32_w]
          rfl
        refine pure_ (i := 4) (N := some 69) (v := ?_) (a' := ?_) #[true, true, true, true, true, false, true, false, false] rfl rfl (any_of HT_.out (by kernel_rfl)) (fun _ _ _ h => h) (Or.inl ⟨by rfl, ?_⟩) ?_ ?_
        rotate_left
        · intro w'
          go_simp
          with_reducible rfl
        rotate_left
        · simp only [Act.put, List.setIfInBounds_toArray, List.set_cons_zero, List.set_cons_succ, i64_w, i32_w]
          rfl
        refine take_ (i := 5) (N := some 70) (v := ?_) (a' := ?_) #[true, true, true, true, true, true, true, false, false] rfl rfl (take_ofW HT_.out HW_.out (by kernel_rfl)) (fun _ _ _ h => h) (Or.inl ⟨by rfl, ?_⟩) hHeld ?_ ?_
        rotate_left
        · rintro w' ⟨s0, s1, s2, s3, s4, s5, s6, s7, s8, s9, s10, s11, s12, s13, s14, s15, s16, s17, s18, s19, s20, s21, s22, s23⟩
          go_simp
          with_reducible rfl
        rotate_left
        · simp only [Act.put, List.setIfInBounds_toArray, List.set_cons_zero, List.set_cons_succ, i64_w, i32_w]
          rfl
        refine take_ (i := 7) (N := some 72) (v := ?_) (a' := ?_) #[true, true, true, true, true, true, true, true, false] rfl rfl (take_ofW HT_.out HW_.out (by kernel_rfl)) (fun _ _ _ h => h) (Or.inl ⟨by rfl, ?_⟩) hHeld ?_ ?_
        rotate_left
        · rintro w' ⟨s0, s1, s2, s3, s4, s5, s6, s7, s8, s9, s10, s11, s12, s13, s14, s15, s16, s17, s18, s19, s20, s21, s22, s23⟩
          go_simp
          with_reducible rfl
        rotate_left
        · simp only [Act.put, List.setIfInBounds_toArray, List.set_cons_zero, List.set_cons_succ, i64_w, i32_w]
          rfl
        refine one_ (i := 8) (N := some 73) #[true, true, true, true, true, true, true, true, true] rfl rfl (one_of HT_.out (by kernel_rfl)) (by decide) (fun K hK => ?_)
        refine goes_ Try.func34 (by kernel_rfl) rfl #[.agg #[.int .i64 ((rd_T61 l0_0 x6_4).f0.f0), .int .i64 ((rd_T61 l0_0 x6_4).f0.f1), .float .f64 ((rd_T61 l0_0 x6_4).f0.f2), .string ((rd_T61 l0_0 x6_4).f0.f3), .int .i64 ((rd_T61 l0_0 x6_4).f0.f4)], .agg #[.int .i64 ((rd_T61 l0_0 x24_2).f0.f0), .int .i64 ((rd_T61 l0_0 x24_2).f0.f1), .float .f64 ((rd_T61 l0_0 x24_2).f0.f2), .string ((rd_T61 l0_0 x24_2).f0.f3), .int .i64 ((rd_T61 l0_0 x24_2).f0.f4)]] (by rfl) rfl rfl (by (try simp only [List.map_toArray, List.map_cons, List.map_nil]); first | done | rfl | (simp only [List.length_drop, List.length_take]; rfl)) ?_
        with_reducible refine (spec_Same.calls k4 ((rd_T61 l0_0 x6_4).f0.f0) ((rd_T61 l0_0 x6_4).f0.f1) ((rd_T61 l0_0 x6_4).f0.f2) ((rd_T61 l0_0 x6_4).f0.f3) ((rd_T61 l0_0 x6_4).f0.f4) ((rd_T61 l0_0 x24_2).f0.f0) ((rd_T61 l0_0 x24_2).f0.f1) ((rd_T61 l0_0 x24_2).f0.f2) ((rd_T61 l0_0 x24_2).f0.f3) ((rd_T61 l0_0 x24_2).f0.f4) true _ A57.out).mono ?_
        rintro e w60 ⟨rfl, hb⟩
        refine ⟨_, rfl, ?_⟩
        replace BK625 := bku BK625.out hb
        replace BK627 := bku BK627.out hb
        replace HB := hbs2 HB.out GE625.out GE627.out hb
        (try clear hb)
        refine hK.out _ _ ⟨(blk_cell BK625.out 0).trans rfl, (blk_cell BK625.out 1).trans rfl, (blk_cell BK627.out 0).trans rfl, (blk_cell BK627.out 1).trans rfl, (blk_cell BK627.out 2).trans rfl, (blk_cell BK627.out 3).trans rfl, (blk_cell BK627.out 4).trans rfl, (blk_cell BK627.out 5).trans rfl, (blk_cell BK627.out 6).trans rfl, (blk_cell BK627.out 7).trans rfl, (blk_cell BK627.out 8).trans rfl, (blk_cell BK627.out 9).trans rfl, (blk_cell BK627.out 10).trans rfl, ((HB.out.cell (World.block_lt_of_cell? w _ hw630_0)).trans hw630_0), ((HB.out.cell (World.block_lt_of_cell? w _ hw630_1)).trans hw630_1), ((HB.out.cell (World.block_lt_of_cell? w _ hw630_2)).trans hw630_2), ((HB.out.cell (World.block_lt_of_cell? w _ hw630_3)).trans hw630_3), ((HB.out.cell (World.block_lt_of_cell? w _ hw630_4)).trans hw630_4), ((HB.out.cell (World.block_lt_of_cell? w _ hw630_5)).trans hw630_5), ((HB.out.cell (World.block_lt_of_cell? w _ hw630_6)).trans hw630_6), ((HB.out.cell (World.block_lt_of_cell? w _ hw630_7)).trans hw630_7), ((HB.out.cell (World.block_lt_of_cell? w _ hw630_8)).trans hw630_8), ((HB.out.cell (World.block_lt_of_cell? w _ hw630_9)).trans hw630_9), ((HB.out.cell (World.block_lt_of_cell? w _ hw630_10)).trans hw630_10)⟩ (fun hHeld => ?_)
        clear hK K
        refine norm_ (a' := ?_) ?_ ?_
        rotate_left
        · show Act.put _ (some 73) _ = _
          simp only [Act.put, List.setIfInBounds_toArray, List.set_cons_zero, List.set_cons_succ, i64_w, i32_w]
          rfl
        refine done_ (done_of HT_.out (by kernel_rfl)) ?_
        try go_wp2
        go_ret
        exact ⟨by first | rfl | (simp <;> rfl) | (simp [*] <;> rfl), hbe2 HB.out GE625.out GE627.out⟩
      replace c58 := Bool.eq_false_iff.mpr c58
      subst c58
      have H1 : (spec_TableOk.l1 k4 ((rd_T61 l0_0 x24_2).f2) x24_2 (wrap64 (x6_4 + 1)) l0_0 (l0_0.length : Int) x24_2 l0_0 a0_1 ((rd_T61 l0_0 x24_2).f0.f0) ((rd_T61 l0_0 x24_2).f0.f1) ((rd_T61 l0_0 x24_2).f0.f2) ((rd_T61 l0_0 x24_2).f0.f3) ((rd_T61 l0_0 x24_2).f0.f4) ((rd_T61 l0_0 x24_2).f1.f0) ((rd_T61 l0_0 x24_2).f1.f1) ((rd_T61 l0_0 x24_2).f1.f2) ((rd_T61 l0_0 x24_2).f1.f3) ((rd_T61 l0_0 x24_2).f1.f4) ((rd_T61 l0_0 x24_2).f2)) = some r := by rw [if_neg (show ¬ (false = true) by decide)] at H; exact H
      clear H
      have H := H1
      clear H1
      have H' := Aside0.mk H
      clear H
      try go_wp2
      replace BK625 := Aside0.mk (blk_drew BK625.out)
      replace BK627 := Aside0.mk (blk_drew BK627.out)
      replace HB := Aside0.mk (below_drew1 HB.out)
      have p630 : 0 ≤ (x6_4 : Int) := of_decide_eq_true (by first | (with_reducible assumption) | assumption)
      have q630 : x6_4 < (l0_0.length : Int) := of_decide_eq_true (by first | (with_reducible assumption) | assumption)
      obtain ⟨ad630, e630, hx630_0, hx630_1, hx630_2, hx630_3, hx630_4, hx630_5, hx630_6, hx630_7, hx630_8, hx630_9, hx630_10⟩ := at_T61 HR0_0.out x6_4 p630 q630
      have hw630_10 := hx630_10
      have hw630_9 := hx630_9
      have hw630_8 := hx630_8
      have hw630_7 := hx630_7
      have hw630_6 := hx630_6
      have hw630_5 := hx630_5
      have hw630_4 := hx630_4
      have hw630_3 := hx630_3
      have hw630_2 := hx630_2
      have hw630_1 := hx630_1
      have hw630_0 := hx630_0
      obtain rfl : ad626 = ad630 := (by injection e630)
      (first | replace hx630_0 := (HB.out.cell (World.block_lt_of_cell? w _ hx630_0)).trans hx630_0 | skip)
      (first | replace hx630_1 := (HB.out.cell (World.block_lt_of_cell? w _ hx630_1)).trans hx630_1 | skip)
      (first | replace hx630_2 := (HB.out.cell (World.block_lt_of_cell? w _ hx630_2)).trans hx630_2 | skip)
      (first | replace hx630_3 := (HB.out.cell (World.block_lt_of_cell? w _ hx630_3)).trans hx630_3 | skip)
      (first | replace hx630_4 := (HB.out.cell (World.block_lt_of_cell? w _ hx630_4)).trans hx630_4 | skip)
      (first | replace hx630_5 := (HB.out.cell (World.block_lt_of_cell? w _ hx630_5)).trans hx630_5 | skip)
      (first | replace hx630_6 := (HB.out.cell (World.block_lt_of_cell? w _ hx630_6)).trans hx630_6 | skip)
      (first | replace hx630_7 := (HB.out.cell (World.block_lt_of_cell? w _ hx630_7)).trans hx630_7 | skip)
      (first | replace hx630_8 := (HB.out.cell (World.block_lt_of_cell? w _ hx630_8)).trans hx630_8 | skip)
      (first | replace hx630_9 := (HB.out.cell (World.block_lt_of_cell? w _ hx630_9)).trans hx630_9 | skip)
      (first | replace hx630_10 := (HB.out.cell (World.block_lt_of_cell? w _ hx630_10)).trans hx630_10 | skip)
      replace p630 := eq_true p630
      replace q630 := eq_true q630
      refine start_ (n := 9) (S := fun w' => w'.cell? ⟨gb625, 0, none⟩ = some (.slice (some ad626) l0_0.length c0_0) ∧ w'.cell? ⟨gb625, 1, none⟩ = some (.int .i64 a0_1) ∧ w'.cell? ⟨gb627, 0, none⟩ = some (.int .i64 ((rd_T61 l0_0 x24_2).f0.f0)) ∧ w'.cell? ⟨gb627, 1, none⟩ = some (.int .i64 ((rd_T61 l0_0 x24_2).f0.f1)) ∧ w'.cell? ⟨gb627, 2, none⟩ = some (.float .f64 ((rd_T61 l0_0 x24_2).f0.f2)) ∧ w'.cell? ⟨gb627, 3, none⟩ = some (.string ((rd_T61 l0_0 x24_2).f0.f3)) ∧ w'.cell? ⟨gb627, 4, none⟩ = some (.int .i64 ((rd_T61 l0_0 x24_2).f0.f4)) ∧ w'.cell? ⟨gb627, 5, none⟩ = some (.int .i64 ((rd_T61 l0_0 x24_2).f1.f0)) ∧ w'.cell? ⟨gb627, 6, none⟩ = some (.int .i64 ((rd_T61 l0_0 x24_2).f1.f1)) ∧ w'.cell? ⟨gb627, 7, none⟩ = some (.float .f64 ((rd_T61 l0_0 x24_2).f1.f2)) ∧ w'.cell? ⟨gb627, 8, none⟩ = some (.string ((rd_T61 l0_0 x24_2).f1.f3)) ∧ w'.cell? ⟨gb627, 9, none⟩ = some (.int .i64 ((rd_T61 l0_0 x24_2).f1.f4)) ∧ w'.cell? ⟨gb627, 10, none⟩ = some (.int .i64 ((rd_T61 l0_0 x24_2).f2)) ∧ w'.cell? (ad626.add ((x6_4).toNat * 11)) = some (.int .i64 ((rd_T61 l0_0 x6_4).f0.f0)) ∧ w'.cell? ⟨(ad626.add ((x6_4).toNat * 11)).block, (ad626.add ((x6_4).toNat * 11)).off + 1, none⟩ = some (.int .i64 ((rd_T61 l0_0 x6_4).f0.f1)) ∧ w'.cell? ⟨(ad626.add ((x6_4).toNat * 11)).block, (ad626.add ((x6_4).toNat * 11)).off + 2, none⟩ = some (.float .f64 ((rd_T61 l0_0 x6_4).f0.f2)) ∧ w'.cell? ⟨(ad626.add ((x6_4).toNat * 11)).block, (ad626.add ((x6_4).toNat * 11)).off + 3, none⟩ = some (.string ((rd_T61 l0_0 x6_4).f0.f3)) ∧ w'.cell? ⟨(ad626.add ((x6_4).toNat * 11)).block, (ad626.add ((x6_4).toNat * 11)).off + 4, none⟩ = some (.int .i64 ((rd_T61 l0_0 x6_4).f0.f4)) ∧ w'.cell? ⟨(ad626.add ((x6_4).toNat * 11)).block, (ad626.add ((x6_4).toNat * 11)).off + 5, none⟩ = some (.int .i64 ((rd_T61 l0_0 x6_4).f1.f0)) ∧ w'.cell? ⟨(ad626.add ((x6_4).toNat * 11)).block, (ad626.add ((x6_4).toNat * 11)).off + 6, none⟩ = some (.int .i64 ((rd_T61 l0_0 x6_4).f1.f1)) ∧ w'.cell? ⟨(ad626.add ((x6_4).toNat * 11)).block, (ad626.add ((x6_4).toNat * 11)).off + 7, none⟩ = some (.float .f64 ((rd_T61 l0_0 x6_4).f1.f2)) ∧ w'.cell? ⟨(ad626.add ((x6_4).toNat * 11)).block, (ad626.add ((x6_4).toNat * 11)).off + 8, none⟩ = some (.string ((rd_T61 l0_0 x6_4).f1.f3)) ∧ w'.cell? ⟨(ad626.add ((x6_4).toNat * 11)).block, (ad626.add ((x6_4).toNat * 11)).off + 9, none⟩ = some (.int .i64 ((rd_T61 l0_0 x6_4).f1.f4)) ∧ w'.cell? ⟨(ad626.add ((x6_4).toNat * 11)).block, (ad626.add ((x6_4).toNat * 11)).off + 10, none⟩ = some (.int .i64 ((rd_T61 l0_0 x6_4).f2))) (ds := []) #[false, false, false, false, false, false, false, false, false] (by kernel_rfl) rfl rfl ⟨(blk_cell BK625.out 0).trans rfl, (blk_cell BK625.out 1).trans rfl, (blk_cell BK627.out 0).trans rfl, (blk_cell BK627.out 1).trans rfl, (blk_cell BK627.out 2).trans rfl, (blk_cell BK627.out 3).trans rfl, (blk_cell BK627.out 4).trans rfl, (blk_cell BK627.out 5).trans rfl, (blk_cell BK627.out 6).trans rfl, (blk_cell BK627.out 7).trans rfl, (blk_cell BK627.out 8).trans rfl, (blk_cell BK627.out 9).trans rfl, (blk_cell BK627.out 10).trans rfl, ((HB.out.cell (World.block_lt_of_cell? w _ hw630_0)).trans hw630_0), ((HB.out.cell (World.block_lt_of_cell? w _ hw630_1)).trans hw630_1), ((HB.out.cell (World.block_lt_of_cell? w _ hw630_2)).trans hw630_2), ((HB.out.cell (World.block_lt_of_cell? w _ hw630_3)).trans hw630_3), ((HB.out.cell (World.block_lt_of_cell? w _ hw630_4)).trans hw630_4), ((HB.out.cell (World.block_lt_of_cell? w _ hw630_5)).trans hw630_5), ((HB.out.cell (World.block_lt_of_cell? w _ hw630_6)).trans hw630_6), ((HB.out.cell (World.block_lt_of_cell? w _ hw630_7)).trans hw630_7), ((HB.out.cell (World.block_lt_of_cell? w _ hw630_8)).trans hw630_8), ((HB.out.cell (World.block_lt_of_cell? w _ hw630_9)).trans hw630_9), ((HB.out.cell (World.block_lt_of_cell? w _ hw630_10)).trans hw630_10)⟩ (fun hHeld => ?_); refine with_tabW spec_TableOk.tab13 spec_TableOk.bits13 (fun HT_ HW_ => ?_)
      generalize wr.drew = w61 at BK625 BK627 HB hx630_0 hx630_1 hx630_10 hx630_2 hx630_3 hx630_4 hx630_5 hx630_6 hx630_7 hx630_8 hx630_9 hHeld ⊢
      refine pure_ (i := 0) (N := some 65) (v := ?_) (a' := ?_) #[true, false, false, false, false, false, false, false, false] rfl rfl (any_of HT_.out (by kernel_rfl)) (fun _ _ _ h => h) (Or.inl ⟨by rfl, ?_⟩) ?_ ?_
      rotate_left
      · intro w'
        go_simp
        with_reducible rfl
      rotate_left
      · simp only [Act.put, List.setIfInBounds_toArray, List.set_cons_zero, List.set_cons_succ, i64_w, i32_w]
        rfl
      refine pure_ (i := 2) (N := some 67) (v := ?_) (a' := ?_) #[true, false, true, false, false, false, false, false, false] rfl rfl (any_of HT_.out (by kernel_rfl)) (fun _ _ _ h => h) (Or.inl ⟨by rfl, ?_⟩) ?_ ?_
      rotate_left
      · intro w'
        go_simp
        with_reducible rfl
      rotate_left
      · simp only [Act.put, List.setIfInBounds_toArray, List.set_cons_zero, List.set_cons_succ, i64_w, i32_w]
        rfl
      refine pure_ (i := 6) (N := some 71) (v := ?_) (a' := ?_) #[true, false, true, false, false, false, true, false, false] rfl rfl (any_of HT_.out (by kernel_rfl)) (fun _ _ _ h => h) (Or.inl ⟨by rfl, ?_⟩) ?_ ?_
      rotate_left
      · intro w'
        go_simp
        with_reducible rfl
      rotate_left
      · simp only [Act.put, List.setIfInBounds_toArray, List.set_cons_zero, List.set_cons_succ, i64_w, i32_w]
        rfl
      refine take_ (i := 1) (N := some 66) (v := ?_) (a' := ?_) #[true, true, true, false, false, false, true, false, false] rfl rfl (take_ofW HT_.out HW_.out (by kernel_rfl)) (fun _ _ _ h => h) (Or.inl ⟨by rfl, ?_⟩) hHeld ?_ ?_
      rotate_left
      · rintro w' ⟨s0, s1, s2, s3, s4, s5, s6, s7, s8, s9, s10, s11, s12, s13, s14, s15, s16, s17, s18, s19, s20, s21, s22, s23⟩
        go_simp
        with_reducible rfl
      rotate_left
      · simp only [Act.put, List.setIfInBounds_toArray, List.set_cons_zero, List.set_cons_succ, i64_w, i32_w]
        rfl
      refine pure_ (i := 3) (N := some 68) (v := ?_) (a' := ?_) #[true, true, true, true, false, false, true, false, false] rfl rfl (any_of HT_.out (by kernel_rfl)) (fun _ _ _ h => h) (Or.inl ⟨by rfl, ?_⟩) ?_ ?_
      rotate_left
      · intro w'
        go_simp
        with_reducible rfl
      rotate_left
      · simp only [Act.put, List.setIfInBounds_toArray, List.set_cons_zero, List.set_cons_succ, i64_w, i32_w]
        rfl
      refine pure_ (i := 4) (N := some 69) (v := ?_) (a' := ?_) #[true, true, true, true, true, false, true, false, false] rfl rfl (any_of HT_.out (by kernel_rfl)) (fun _ _ _ h => h) (Or.inl ⟨by rfl, ?_⟩) ?_ ?_
      rotate_left
      · intro w'
        go_simp
        with_reducible rfl
      rotate_left
      · simp only [Act.put, List.setIfInBounds_toArray, List.set_cons_zero, List.set_cons_succ, i64_w, i32_w]
        rfl
      refine take_ (i := 5) (N := some 70) (v := ?_) (a' := ?_) #[true, true, true, true, true, true, true, false, false] rfl rfl (take_ofW HT_.out HW_.out (by kernel_rfl)) (fun _ _ _ h => h) (Or.inl ⟨by rfl, ?_⟩) hHeld ?_ ?_
      rotate_left
      · rintro w' ⟨s0, s1, s2, s3, s4, s5, s6, s7, s8, s9, s10, s11, s12, s13, s14, s15, s16, s17, s18, s19, s20, s21, s22, s23⟩
        go_simp
        with_reducible rfl
      rotate_left
      · simp only [Act.put, List.setIfInBounds_toArray, List.set_cons_zero, List.set_cons_succ, i64_w, i32_w]
        rfl
      refine take_ (i := 7) (N := some 72) (v := ?_) (a' := ?_) #[true, true, true, true, true, true, true, true, false] rfl rfl (take_ofW HT_.out HW_.out (by kernel_rfl)) (fun _ _ _ h => h) (Or.inl ⟨by rfl, ?_⟩) hHeld ?_ ?_
      rotate_left
      · rintro w' ⟨s0, s1, s2, s3, s4, s5, s6, s7, s8, s9, s10, s11, s12, s13, s14, s15, s16, s17, s18, s19, s20, s21, s22, s23⟩
        go_simp
        with_reducible rfl
      rotate_left
      · simp only [Act.put, List.setIfInBounds_toArray, List.set_cons_zero, List.set_cons_succ, i64_w, i32_w]
        rfl
      refine one_ (i := 8) (N := some 73) #[true, true, true, true, true, true, true, true, true] rfl rfl (one_of HT_.out (by kernel_rfl)) (by decide) (fun K hK => ?_)
      refine goes_ Try.func34 (by kernel_rfl) rfl #[.agg #[.int .i64 ((rd_T61 l0_0 x6_4).f0.f0), .int .i64 ((rd_T61 l0_0 x6_4).f0.f1), .float .f64 ((rd_T61 l0_0 x6_4).f0.f2), .string ((rd_T61 l0_0 x6_4).f0.f3), .int .i64 ((rd_T61 l0_0 x6_4).f0.f4)], .agg #[.int .i64 ((rd_T61 l0_0 x24_2).f0.f0), .int .i64 ((rd_T61 l0_0 x24_2).f0.f1), .float .f64 ((rd_T61 l0_0 x24_2).f0.f2), .string ((rd_T61 l0_0 x24_2).f0.f3), .int .i64 ((rd_T61 l0_0 x24_2).f0.f4)]] (by rfl) rfl rfl (by (try simp only [List.map_toArray, List.map_cons, List.map_nil]); first | done | rfl | (simp only [List.length_drop, List.length_take]; rfl)) ?_
      with_reducible refine (spec_Same.calls k4 ((rd_T61 l0_0 x6_4).f0.f0) ((rd_T61 l0_0 x6_4).f0.f1) ((rd_T61 l0_0 x6_4).f0.f2) ((rd_T61 l0_0 x6_4).f0.f3) ((rd_T61 l0_0 x6_4).f0.f4) ((rd_T61 l0_0 x24_2).f0.f0) ((rd_T61 l0_0 x24_2).f0.f1) ((rd_T61 l0_0 x24_2).f0.f2) ((rd_T61 l0_0 x24_2).f0.f3) ((rd_T61 l0_0 x24_2).f0.f4) false _ A57.out).mono ?_
      rintro e w62 ⟨rfl, hb⟩
      refine ⟨_, rfl, ?_⟩
      replace BK625 := bku BK625.out hb
      replace BK627 := bku BK627.out hb
      replace HB := hbs2 HB.out GE625.out GE627.out hb
      (try clear hb)
      refine hK.out _ _ ⟨(blk_cell BK625.out 0).trans rfl, (blk_cell BK625.out 1).trans rfl, (blk_cell BK627.out 0).trans rfl, (blk_cell BK627.out 1).trans rfl, (blk_cell BK627.out 2).trans rfl, (blk_cell BK627.out 3).trans rfl, (blk_cell BK627.out 4).trans rfl, (blk_cell BK627.out 5).trans rfl, (blk_cell BK627.out 6).trans rfl, (blk_cell BK627.out 7).trans rfl, (blk_cell BK627.out 8).trans rfl, (blk_cell BK627.out 9).trans rfl, (blk_cell BK627.out 10).trans rfl, ((HB.out.cell (World.block_lt_of_cell? w _ hw630_0)).trans hw630_0), ((HB.out.cell (World.block_lt_of_cell? w _ hw630_1)).trans hw630_1), ((HB.out.cell (World.block_lt_of_cell? w _ hw630_2)).trans hw630_2), ((HB.out.cell (World.block_lt_of_cell? w _ hw630_3)).trans hw630_3), ((HB.out.cell (World.block_lt_of_cell? w _ hw630_4)).trans hw630_4), ((HB.out.cell (World.block_lt_of_cell? w _ hw630_5)).trans hw630_5), ((HB.out.cell (World.block_lt_of_cell? w _ hw630_6)).trans hw630_6), ((HB.out.cell (World.block_lt_of_cell? w _ hw630_7)).trans hw630_7), ((HB.out.cell (World.block_lt_of_cell? w _ hw630_8)).trans hw630_8), ((HB.out.cell (World.block_lt_of_cell? w _ hw630_9)).trans hw630_9), ((HB.out.cell (World.block_lt_of_cell? w _ hw630_10)).trans hw630_10)⟩ (fun hHeld => ?_)
      clear hK K
      refine norm_ (a' := ?_) ?_ ?_
      rotate_left
      · show Act.put _ (some 73) _ = _
        simp only [Act.put, List.setIfInBounds_toArray, List.set_cons_zero, List.set_cons_succ, i64_w, i32_w]
        rfl
      refine done_ (done_of HT_.out (by kernel_rfl)) ?_
      try go_wp2
      go_roundg k4
      case measure => have := HJ1.out; have := HK2.out; have := HJ13.out; have := HK4.out; omega
      case rel => exact ⟨(wrap64 (x6_4 + 1)), (by first | rfl | (simp; done) | (simp [*]; done)), H', ⟨by have := HJ1.out; have := HK2.out; have := HJ13.out; have := HK4.out; omega⟩, ⟨by (with_reducible repeat (first | refine blk_drewN ?_ _ | refine blk_drew ?_ | refine blk_alloc ?_ _)); exact BK625.out⟩, ⟨by (with_reducible repeat (first | refine blk_drewN ?_ _ | refine blk_drew ?_ | refine blk_alloc ?_ _)); exact BK627.out⟩, ⟨by repeat (first | (with_reducible first | exact HB.out | apply below_alloc | apply pw_below_drewN | apply below_drew1 | refine below_set ?_ GE625.out | refine below_set ?_ GE627.out) | exact HB.out)⟩⟩
end Go.Proofs.Ytdjlbfaiccdbfaa.PAll
