/- Cut down from the texts of the same job by wip/shake.py to what this claim reaches. -/
import Derived.Test.YtdjlbfaiccdbfaaKLGx0
import Derived.Test.YtdjlbfaiccdbfaaKLGx7
import Derived.Test.YtdjlbfaiccdbfaaKLGx16
import Derived.Test.YtdjlbfaiccdbfaaKLGx17
import Derived.Test.YtdjlbfaiccdbfaaKLGx19
namespace Go.Proofs.Ytdjlbfaiccdbfaa.PAll
open Go.RowKit Go.Proofs.YtdjlbfaiccdbfaaW.PrintWords Go.Proofs.YtdjlbfaiccdbfaaW.PrintLast Go.Proofs.YtdjlbfaiccdbfaaW.PrintMore
attribute [local go_sem] max2_int min2_int max_two min_two max_three min_three max_four min_four   -- for this text's walks alone
set_option linter.unusedVariables false
set_option linter.unusedSimpArgs false
def spec_l2at.l0 : Nat → Int → Int → List (S61) → Int → Int → Int → Nat → ByteArray → Int → Option (Int)
  | 0, _, _, _, _, _, _, _, _, _ => none
  | k + 1, x8, x9, x793000, x793001, x794000, x794001, x794002, x794003, x794004 => if x9 < x8 then (if 0 ≤ x9 then (if x9 < (x793000.length : Int) then ((spec_Same.f k ((rd_T61 x793000 x9).f0.f0) ((rd_T61 x793000 x9).f0.f1) ((rd_T61 x793000 x9).f0.f2) ((rd_T61 x793000 x9).f0.f3) ((rd_T61 x793000 x9).f0.f4) x794000 x794001 x794002 x794003 x794004).bind fun t795 => (if t795 = true then (some x9) else (spec_l2at.l0 k x8 (wrap64 (x9 + 1)) x793000 x793001 x794000 x794001 x794002 x794003 x794004))) else (none)) else (none)) else (some (-1))
def spec_l2at.f (k : Nat) (l0_0 : List (S61)) (a0_1 : Int) (a1_0 : Int) (a1_1 : Int) (a1_2 : Nat) (a1_3 : ByteArray) (a1_4 : Int) : Option (Int) := spec_l2at.l0 k (l0_0.length : Int) 0 l0_0 a0_1 a1_0 a1_1 a1_2 a1_3 a1_4
def spec_l2at.T4 : Bool × List (List Nat × List Nat) := (true, [([], []), ([0], [0]), ([], []), ([1, 2], [1, 2]), ([3], [3]), ([4], [4]), ([], []), ([5, 6], [5, 6])])
def spec_l2at.B4 : List Nat := [0, 1, 0, 7, 15, 31, 0, 127]
theorem spec_l2at.tab4 : rtab .any (opsOf Try.f97 4) = spec_l2at.T4 := by kernel_rfl
theorem spec_l2at.bits4 : waitsOk spec_l2at.T4.2 spec_l2at.B4 = true := by kernel_rfl
set_option maxHeartbeats 8000000 in
set_option maxRecDepth 100000 in
theorem spec_l2at.calls (k : Nat) (A0_0 : Option Addr) (c0_0 : Nat) (l0_0 : List (S61)) (a0_1 : Int) (a1_0 : Int) (a1_1 : Int) (a1_2 : Nat) (a1_3 : ByteArray) (a1_4 : Int) (r : Int) (w : World) (hr0_0 : Kd.C k61 w A0_0 l0_0.length l0_0) (hc0_0 : l0_0.length ≤ c0_0) (h : spec_l2at.f k l0_0 a0_1 a1_0 a1_1 a1_2 a1_3 a1_4 = some r) :
    Calls Try.prog 97 #[.agg #[.slice A0_0 l0_0.length c0_0, .int .i64 a0_1], .agg #[.int .i64 a1_0, .int .i64 a1_1, .float .f64 a1_2, .string a1_3, .int .i64 a1_4]] w fun e w' => e = .returned (.int .i64 r) ∧ Below w.heap.size w w' := by
  have hu56 := Try.underlying56
  have hu28 := Try.underlying28
  have HR0_0 := Aside0.mk hr0_0
  have HC0_0 := Aside0.mk hc0_0
  clear hr0_0 hc0_0
  have HB := Aside0.mk (Below.refl w.heap.size w)
  have H : (spec_l2at.l0 k (l0_0.length : Int) 0 l0_0 a0_1 a1_0 a1_1 a1_2 a1_3 a1_4) = some r := h
  clear h
  have H' := Aside0.mk H
  clear H
  go_enter Try.func97, Try.ntmps97
  go_wp2_with (first | ((with_reducible refine gate_dst (N := 2) rfl ?_); refine box_event rfl (N := 2) rfl (cs := #[.slice A0_0 l0_0.length c0_0, .int .i64 a0_1]) (t := 56) (by first | (go_simp; done) | (go_simp; rfl)) ?_; intro gb792 hg w3 hbox hb; have BK792 := Aside0.mk (hbox); have GW792 := (gws hg (hbe HB.out) : Aside0 (w.heap.size ≤ gb792)); have GE792 := (gws hg (hbe HB.out) : Aside0 (w.heap.size ≤ gb792)); replace HB := hbs HB.out hb; clear hb hbox hg) | ((with_reducible refine gate_dst (N := 3) rfl ?_); refine box_event rfl (N := 3) rfl (cs := #[.int .i64 a1_0, .int .i64 a1_1, .float .f64 a1_2, .string a1_3, .int .i64 a1_4]) (t := 28) (by first | (go_simp; done) | (go_simp; rfl)) ?_; intro gb793 hg w4 hbox hb; have BK793 := Aside0.mk (hbox); have GW793 := (gws hg (hbe1 HB.out GE792.out) : Aside0 (w.heap.size ≤ gb793)); have GE793 := (gws hg (hbe1 HB.out GE792.out) : Aside0 (w.heap.size ≤ gb793)); replace HB := hbs1 HB.out GE792.out hb; have NB792_793 := nlt hg BK792.out; have NB793_792 := ngt hg BK792.out; replace BK792 := bku BK792.out hb; clear hb hbox hg; have hnb5 := NB792_793.out; have hnc5 := NB793_792.out; obtain ⟨hcz6_0, hcz6_1, hfz6_0, hfz6_1⟩ := cells2 BK792.out))
  go_loopg [9] k (fun kq v9 w' => ∃ (x9_1 : Int), v9 = .int .i64 x9_1 ∧ Aside0 (spec_l2at.l0 kq (l0_0.length : Int) x9_1 l0_0 a0_1 a1_0 a1_1 a1_2 a1_3 a1_4 = some r) ∧ Aside0 (kq ≤ k) ∧ Aside0 (w'.heap[gb792]? = some (.cells #[(.slice A0_0 l0_0.length c0_0), .int .i64 a0_1] 56 (0, 0))) ∧ Aside0 (w'.heap[gb793]? = some (.cells #[.int .i64 a1_0, .int .i64 a1_1, .float .f64 a1_2, .string a1_3, .int .i64 a1_4] 28 (0, 0))) ∧ Aside0 (Below w.heap.size w w'))
  case atStart => exact ⟨(0), (by first | rfl | (simp; done) | (simp [*]; done)), H', ⟨Nat.le_refl _⟩, ⟨by (with_reducible repeat (first | refine blk_drewN ?_ _ | refine blk_drew ?_ | refine blk_alloc ?_ _)); exact BK792.out⟩, ⟨by (with_reducible repeat (first | refine blk_drewN ?_ _ | refine blk_drew ?_ | refine blk_alloc ?_ _)); exact BK793.out⟩, ⟨by repeat (first | (with_reducible first | exact HB.out | apply below_alloc | apply pw_below_drewN | apply below_drew1 | refine below_set ?_ GE792.out | refine below_set ?_ GE793.out) | exact HB.out)⟩⟩
  case round =>
    clear H'
    try clear hcz6_0
    try clear hcz6_1
    try clear hfz6_0
    try clear hfz6_1
    obtain ⟨x9_1, rfl, HA, HK1, BK792, BK793, HB⟩ := hrel
    rcases gk with _ | k1
    · exact absurd HA.out (by simp [spec_l2at.l0])
    have H := HA.out
    clear HA
    simp only [spec_l2at.l0] at H
    by_cases c7 : x9_1 < (l0_0.length : Int)
    rotate_left 1
    · rw [if_neg c7] at H
      have c7b0 : decide (x9_1 < (l0_0.length : Int)) = false := decide_eq_false c7
      clear c7
      obtain rfl := Option.some.inj H
      go_wp2
      go_ret
      exact ⟨by first | rfl | (simp <;> rfl) | (simp [*] <;> rfl), hbe2 HB.out GE792.out GE793.out⟩
    rw [if_pos c7] at H
    have c7b0 : decide (x9_1 < (l0_0.length : Int)) = true := decide_eq_true c7
    clear c7
    by_cases c8 : 0 ≤ x9_1
    rotate_left 1
    · rw [if_neg c8] at H
      exact absurd H (by simp)
    rw [if_pos c8] at H
    have c8b0 : decide (0 ≤ x9_1) = true := decide_eq_true c8
    clear c8
    by_cases c9 : x9_1 < (l0_0.length : Int)
    rotate_left 1
    · rw [if_neg c9] at H
      exact absurd H (by simp)
    rw [if_pos c9] at H
    have c9b0 : decide (x9_1 < (l0_0.length : Int)) = true := decide_eq_true c9
    clear c9
    replace H := Option.bind_eq_some_iff.mp H
    obtain ⟨t795, A100, H⟩ := H
    replace H : (if t795 = true then (some x9_1) else (spec_l2at.l0 k1 (l0_0.length : Int) (wrap64 (x9_1 + 1)) l0_0 a0_1 a1_0 a1_1 a1_2 a1_3 a1_4)) = some r := H
    have A10 := Aside0.mk A100
    clear A100
    by_cases c11 : t795 = true
    · subst c11
      have H1 : (some x9_1) = some r := by rw [if_pos rfl] at H; exact H
      clear H
      have H := H1
      clear H1
      obtain rfl := Option.some.inj H
      try go_wp2
      replace BK792 := Aside0.mk (blk_drew BK792.out)
      replace BK793 := Aside0.mk (blk_drew BK793.out)
      replace HB := Aside0.mk (below_drew1 HB.out)
      have p794 : 0 ≤ (x9_1 : Int) := of_decide_eq_true (by first | (with_reducible assumption) | assumption)
      have q794 : x9_1 < (l0_0.length : Int) := of_decide_eq_true (by first | (with_reducible assumption) | assumption)
      obtain ⟨ad794, e794, hx794_0, hx794_1, hx794_2, hx794_3, hx794_4, hx794_5, hx794_6, hx794_7, hx794_8, hx794_9, hx794_10⟩ := at_T61 HR0_0.out x9_1 p794 q794
      have hw794_10 := hx794_10
      have hw794_9 := hx794_9
      have hw794_8 := hx794_8
      have hw794_7 := hx794_7
      have hw794_6 := hx794_6
      have hw794_5 := hx794_5
      have hw794_4 := hx794_4
      have hw794_3 := hx794_3
      have hw794_2 := hx794_2
      have hw794_1 := hx794_1
      have hw794_0 := hx794_0
      cases e794
      (first | replace hx794_0 := (HB.out.cell (World.block_lt_of_cell? w _ hx794_0)).trans hx794_0 | skip)
      (first | replace hx794_1 := (HB.out.cell (World.block_lt_of_cell? w _ hx794_1)).trans hx794_1 | skip)
      (first | replace hx794_2 := (HB.out.cell (World.block_lt_of_cell? w _ hx794_2)).trans hx794_2 | skip)
      (first | replace hx794_3 := (HB.out.cell (World.block_lt_of_cell? w _ hx794_3)).trans hx794_3 | skip)
      (first | replace hx794_4 := (HB.out.cell (World.block_lt_of_cell? w _ hx794_4)).trans hx794_4 | skip)
      (first | replace hx794_5 := (HB.out.cell (World.block_lt_of_cell? w _ hx794_5)).trans hx794_5 | skip)
      (first | replace hx794_6 := (HB.out.cell (World.block_lt_of_cell? w _ hx794_6)).trans hx794_6 | skip)
      (first | replace hx794_7 := (HB.out.cell (World.block_lt_of_cell? w _ hx794_7)).trans hx794_7 | skip)
      (first | replace hx794_8 := (HB.out.cell (World.block_lt_of_cell? w _ hx794_8)).trans hx794_8 | skip)
      (first | replace hx794_9 := (HB.out.cell (World.block_lt_of_cell? w _ hx794_9)).trans hx794_9 | skip)
      (first | replace hx794_10 := (HB.out.cell (World.block_lt_of_cell? w _ hx794_10)).trans hx794_10 | skip)
      replace p794 := eq_true p794
      replace q794 := eq_true q794
      refine start_ (n := 8) (S := fun w' => w'.cell? ⟨gb792, 0, none⟩ = some (.slice (some ad794) l0_0.length c0_0) ∧ w'.cell? ⟨gb792, 1, none⟩ = some (.int .i64 a0_1) ∧ w'.cell? ⟨gb793, 0, none⟩ = some (.int .i64 a1_0) ∧ w'.cell? ⟨gb793, 1, none⟩ = some (.int .i64 a1_1) ∧ w'.cell? ⟨gb793, 2, none⟩ = some (.float .f64 a1_2) ∧ w'.cell? ⟨gb793, 3, none⟩ = some (.string a1_3) ∧ w'.cell? ⟨gb793, 4, none⟩ = some (.int .i64 a1_4) ∧ w'.cell? (ad794.add ((x9_1).toNat * 11)) = some (.int .i64 ((rd_T61 l0_0 x9_1).f0.f0)) ∧ w'.cell? ⟨(ad794.add ((x9_1).toNat * 11)).block, (ad794.add ((x9_1).toNat * 11)).off + 1, none⟩ = some (.int .i64 ((rd_T61 l0_0 x9_1).f0.f1)) ∧ w'.cell? ⟨(ad794.add ((x9_1).toNat * 11)).block, (ad794.add ((x9_1).toNat * 11)).off + 2, none⟩ = some (.float .f64 ((rd_T61 l0_0 x9_1).f0.f2)) ∧ w'.cell? ⟨(ad794.add ((x9_1).toNat * 11)).block, (ad794.add ((x9_1).toNat * 11)).off + 3, none⟩ = some (.string ((rd_T61 l0_0 x9_1).f0.f3)) ∧ w'.cell? ⟨(ad794.add ((x9_1).toNat * 11)).block, (ad794.add ((x9_1).toNat * 11)).off + 4, none⟩ = some (.int .i64 ((rd_T61 l0_0 x9_1).f0.f4)) ∧ w'.cell? ⟨(ad794.add ((x9_1).toNat * 11)).block, (ad794.add ((x9_1).toNat * 11)).off + 5, none⟩ = some (.int .i64 ((rd_T61 l0_0 x9_1).f1.f0)) ∧ w'.cell? ⟨(ad794.add ((x9_1).toNat * 11)).block, (ad794.add ((x9_1).toNat * 11)).off + 6, none⟩ = some (.int .i64 ((rd_T61 l0_0 x9_1).f1.f1)) ∧ w'.cell? ⟨(ad794.add ((x9_1).toNat * 11)).block, (ad794.add ((x9_1).toNat * 11)).off + 7, none⟩ = some (.float .f64 ((rd_T61 l0_0 x9_1).f1.f2)) ∧ w'.cell? ⟨(ad794.add ((x9_1).toNat * 11)).block, (ad794.add ((x9_1).toNat * 11)).off + 8, none⟩ = some (.string ((rd_T61 l0_0 x9_1).f1.f3)) ∧ w'.cell? ⟨(ad794.add ((x9_1).toNat * 11)).block, (ad794.add ((x9_1).toNat * 11)).off + 9, none⟩ = some (.int .i64 ((rd_T61 l0_0 x9_1).f1.f4)) ∧ w'.cell? ⟨(ad794.add ((x9_1).toNat * 11)).block, (ad794.add ((x9_1).toNat * 11)).off + 10, none⟩ = some (.int .i64 ((rd_T61 l0_0 x9_1).f2))) (ds := []) #[false, false, false, false, false, false, false, false] (by kernel_rfl) rfl rfl ⟨(blk_cell BK792.out 0).trans rfl, (blk_cell BK792.out 1).trans rfl, (blk_cell BK793.out 0).trans rfl, (blk_cell BK793.out 1).trans rfl, (blk_cell BK793.out 2).trans rfl, (blk_cell BK793.out 3).trans rfl, (blk_cell BK793.out 4).trans rfl, ((HB.out.cell (World.block_lt_of_cell? w _ hw794_0)).trans hw794_0), ((HB.out.cell (World.block_lt_of_cell? w _ hw794_1)).trans hw794_1), ((HB.out.cell (World.block_lt_of_cell? w _ hw794_2)).trans hw794_2), ((HB.out.cell (World.block_lt_of_cell? w _ hw794_3)).trans hw794_3), ((HB.out.cell (World.block_lt_of_cell? w _ hw794_4)).trans hw794_4), ((HB.out.cell (World.block_lt_of_cell? w _ hw794_5)).trans hw794_5), ((HB.out.cell (World.block_lt_of_cell? w _ hw794_6)).trans hw794_6), ((HB.out.cell (World.block_lt_of_cell? w _ hw794_7)).trans hw794_7), ((HB.out.cell (World.block_lt_of_cell? w _ hw794_8)).trans hw794_8), ((HB.out.cell (World.block_lt_of_cell? w _ hw794_9)).trans hw794_9), ((HB.out.cell (World.block_lt_of_cell? w _ hw794_10)).trans hw794_10)⟩ (fun hHeld => ?_); refine with_tabW spec_l2at.tab4 spec_l2at.bits4 (fun HT_ HW_ => ?_)
      generalize wr.drew = w12 at BK792 BK793 HB hx794_0 hx794_1 hx794_10 hx794_2 hx794_3 hx794_4 hx794_5 hx794_6 hx794_7 hx794_8 hx794_9 hHeld ⊢
      refine pure_ (i := 0) (N := some 12) (v := ?_) (a' := ?_) #[true, false, false, false, false, false, false, false] rfl rfl (any_of HT_.out (by kernel_rfl)) (fun _ _ _ h => h) (Or.inl ⟨by rfl, ?_⟩) ?_ ?_
      rotate_left
      · intro w'
        go_simp
        with_reducible rfl
      rotate_left
      · simp only [Act.put, List.setIfInBounds_toArray, List.set_cons_zero, List.set_cons_succ, i64_w, i32_w]
        rfl
      refine pure_ (i := 2) (N := some 14) (v := ?_) (a' := ?_) #[true, false, true, false, false, false, false, false] rfl rfl (any_of HT_.out (by kernel_rfl)) (fun _ _ _ h => h) (Or.inl ⟨by rfl, ?_⟩) ?_ ?_
      rotate_left
      · intro w'
        go_simp
        with_reducible rfl
      rotate_left
      · simp only [Act.put, List.setIfInBounds_toArray, List.set_cons_zero, List.set_cons_succ, i64_w, i32_w]
        rfl
      refine take_ (i := 1) (N := some 13) (v := ?_) (a' := ?_) #[true, true, true, false, false, false, false, false] rfl rfl (take_ofW HT_.out HW_.out (by kernel_rfl)) (fun _ _ _ h => h) (Or.inl ⟨by rfl, ?_⟩) hHeld ?_ ?_
      rotate_left
      · rintro w' ⟨s0, s1, s2, s3, s4, s5, s6, s7, s8, s9, s10, s11, s12, s13, s14, s15, s16, s17⟩
        go_simp
        with_reducible rfl
      rotate_left
      · simp only [Act.put, List.setIfInBounds_toArray, List.set_cons_zero, List.set_cons_succ, i64_w, i32_w]
        rfl
      refine pure_ (i := 3) (N := some 15) (v := ?_) (a' := ?_) #[true, true, true, true, false, false, false, false] rfl rfl (any_of HT_.out (by kernel_rfl)) (fun _ _ _ h => h) (Or.inl ⟨by rfl, ?_⟩) ?_ ?_
      rotate_left
      · intro w'
        go_simp
        with_reducible rfl
      rotate_left
      · simp only [Act.put, List.setIfInBounds_toArray, List.set_cons_zero, List.set_cons_succ, i64_w, i32_w]
        rfl
      refine pure_ (i := 4) (N := some 16) (v := ?_) (a' := ?_) #[true, true, true, true, true, false, false, false] rfl rfl (any_of HT_.out (by kernel_rfl)) (fun _ _ _ h => h) (Or.inl ⟨by rfl, ?_⟩) ?_ ?_
      rotate_left
      · intro w'
        go_simp
        with_reducible rfl
      rotate_left
      · simp only [Act.put, List.setIfInBounds_toArray, List.set_cons_zero, List.set_cons_succ, i64_w, i32_w]
        rfl
      refine take_ (i := 5) (N := some 17) (v := ?_) (a' := ?_) #[true, true, true, true, true, true, false, false] rfl rfl (take_ofW HT_.out HW_.out (by kernel_rfl)) (fun _ _ _ h => h) (Or.inl ⟨by rfl, ?_⟩) hHeld ?_ ?_
      rotate_left
      · rintro w' ⟨s0, s1, s2, s3, s4, s5, s6, s7, s8, s9, s10, s11, s12, s13, s14, s15, s16, s17⟩
        go_simp
        with_reducible rfl
      rotate_left
      · simp only [Act.put, List.setIfInBounds_toArray, List.set_cons_zero, List.set_cons_succ, i64_w, i32_w]
        rfl
      refine take_ (i := 6) (N := some 18) (v := ?_) (a' := ?_) #[true, true, true, true, true, true, true, false] rfl rfl (take_ofW HT_.out HW_.out (by kernel_rfl)) (fun _ _ _ h => h) (Or.inl ⟨by rfl, ?_⟩) hHeld ?_ ?_
      rotate_left
      · rintro w' ⟨s0, s1, s2, s3, s4, s5, s6, s7, s8, s9, s10, s11, s12, s13, s14, s15, s16, s17⟩
        go_simp
        with_reducible rfl
      rotate_left
      · simp only [Act.put, List.setIfInBounds_toArray, List.set_cons_zero, List.set_cons_succ, i64_w, i32_w]
        rfl
      refine one_ (i := 7) (N := some 19) #[true, true, true, true, true, true, true, true] rfl rfl (one_of HT_.out (by kernel_rfl)) (by decide) (fun K hK => ?_)
      refine goes_ Try.func34 (by kernel_rfl) rfl #[.agg #[.int .i64 ((rd_T61 l0_0 x9_1).f0.f0), .int .i64 ((rd_T61 l0_0 x9_1).f0.f1), .float .f64 ((rd_T61 l0_0 x9_1).f0.f2), .string ((rd_T61 l0_0 x9_1).f0.f3), .int .i64 ((rd_T61 l0_0 x9_1).f0.f4)], .agg #[.int .i64 a1_0, .int .i64 a1_1, .float .f64 a1_2, .string a1_3, .int .i64 a1_4]] (by rfl) rfl rfl (by (try simp only [List.map_toArray, List.map_cons, List.map_nil]); first | done | rfl | (simp only [List.length_drop, List.length_take]; rfl)) ?_
      with_reducible refine (spec_Same.calls k1 ((rd_T61 l0_0 x9_1).f0.f0) ((rd_T61 l0_0 x9_1).f0.f1) ((rd_T61 l0_0 x9_1).f0.f2) ((rd_T61 l0_0 x9_1).f0.f3) ((rd_T61 l0_0 x9_1).f0.f4) a1_0 a1_1 a1_2 a1_3 a1_4 true _ A10.out).mono ?_
      rintro e w13 ⟨rfl, hb⟩
      refine ⟨_, rfl, ?_⟩
      replace BK792 := bku BK792.out hb
      replace BK793 := bku BK793.out hb
      replace HB := hbs2 HB.out GE792.out GE793.out hb
      (try clear hb)
      refine hK.out _ _ ⟨(blk_cell BK792.out 0).trans rfl, (blk_cell BK792.out 1).trans rfl, (blk_cell BK793.out 0).trans rfl, (blk_cell BK793.out 1).trans rfl, (blk_cell BK793.out 2).trans rfl, (blk_cell BK793.out 3).trans rfl, (blk_cell BK793.out 4).trans rfl, ((HB.out.cell (World.block_lt_of_cell? w _ hw794_0)).trans hw794_0), ((HB.out.cell (World.block_lt_of_cell? w _ hw794_1)).trans hw794_1), ((HB.out.cell (World.block_lt_of_cell? w _ hw794_2)).trans hw794_2), ((HB.out.cell (World.block_lt_of_cell? w _ hw794_3)).trans hw794_3), ((HB.out.cell (World.block_lt_of_cell? w _ hw794_4)).trans hw794_4), ((HB.out.cell (World.block_lt_of_cell? w _ hw794_5)).trans hw794_5), ((HB.out.cell (World.block_lt_of_cell? w _ hw794_6)).trans hw794_6), ((HB.out.cell (World.block_lt_of_cell? w _ hw794_7)).trans hw794_7), ((HB.out.cell (World.block_lt_of_cell? w _ hw794_8)).trans hw794_8), ((HB.out.cell (World.block_lt_of_cell? w _ hw794_9)).trans hw794_9), ((HB.out.cell (World.block_lt_of_cell? w _ hw794_10)).trans hw794_10)⟩ (fun hHeld => ?_)
      clear hK K
      refine norm_ (a' := ?_) ?_ ?_
      rotate_left
      · show Act.put _ (some 19) _ = _
        simp only [Act.put, List.setIfInBounds_toArray, List.set_cons_zero, List.set_cons_succ, i64_w, i32_w]
        rfl
      refine done_ (done_of HT_.out (by kernel_rfl)) ?_
      try go_wp2
      go_ret
      exact ⟨by first | rfl | (simp <;> rfl) | (simp [*] <;> rfl), hbe2 HB.out GE792.out GE793.out⟩
    replace c11 := Bool.eq_false_iff.mpr c11
    subst c11
    have H1 : (spec_l2at.l0 k1 (l0_0.length : Int) (wrap64 (x9_1 + 1)) l0_0 a0_1 a1_0 a1_1 a1_2 a1_3 a1_4) = some r := by rw [if_neg (show ¬ (false = true) by decide)] at H; exact H
    clear H
    have H := H1
    clear H1
    have H' := Aside0.mk H
    clear H
    try go_wp2
    replace BK792 := Aside0.mk (blk_drew BK792.out)
    replace BK793 := Aside0.mk (blk_drew BK793.out)
    replace HB := Aside0.mk (below_drew1 HB.out)
    have p794 : 0 ≤ (x9_1 : Int) := of_decide_eq_true (by first | (with_reducible assumption) | assumption)
    have q794 : x9_1 < (l0_0.length : Int) := of_decide_eq_true (by first | (with_reducible assumption) | assumption)
    obtain ⟨ad794, e794, hx794_0, hx794_1, hx794_2, hx794_3, hx794_4, hx794_5, hx794_6, hx794_7, hx794_8, hx794_9, hx794_10⟩ := at_T61 HR0_0.out x9_1 p794 q794
    have hw794_10 := hx794_10
    have hw794_9 := hx794_9
    have hw794_8 := hx794_8
    have hw794_7 := hx794_7
    have hw794_6 := hx794_6
    have hw794_5 := hx794_5
    have hw794_4 := hx794_4
    have hw794_3 := hx794_3
    have hw794_2 := hx794_2
    have hw794_1 := hx794_1
    have hw794_0 := hx794_0
    cases e794
    (first | replace hx794_0 := (HB.out.cell (World.block_lt_of_cell? w _ hx794_0)).trans hx794_0 | skip)
    (first | replace hx794_1 := (HB.out.cell (World.block_lt_of_cell? w _ hx794_1)).trans hx794_1 | skip)
    (first | replace hx794_2 := (HB.out.cell (World.block_lt_of_cell? w _ hx794_2)).trans hx794_2 | skip)
    (first | replace hx794_3 := (HB.out.cell (World.block_lt_of_cell? w _ hx794_3)).trans hx794_3 | skip)
    (first | replace hx794_4 := (HB.out.cell (World.block_lt_of_cell? w _ hx794_4)).trans hx794_4 | skip)
    (first | replace hx794_5 := (HB.out.cell (World.block_lt_of_cell? w _ hx794_5)).trans hx794_5 | skip)
    (first | replace hx794_6 := (HB.out.cell (World.block_lt_of_cell? w _ hx794_6)).trans hx794_6 | skip)
    (first | replace hx794_7 := (HB.out.cell (World.block_lt_of_cell? w _ hx794_7)).trans hx794_7 | skip)
    (first | replace hx794_8 := (HB.out.cell (World.block_lt_of_cell? w _ hx794_8)).trans hx794_8 | skip)
    (first | replace hx794_9 := (HB.out.cell (World.block_lt_of_cell? w _ hx794_9)).trans hx794_9 | skip)
    (first | replace hx794_10 := (HB.out.cell (World.block_lt_of_cell? w _ hx794_10)).trans hx794_10 | skip)
    replace p794 := eq_true p794
    replace q794 := eq_true q794
    refine start_ (n := 8) (S := fun w' => w'.cell? ⟨gb792, 0, none⟩ = some (.slice (some ad794) l0_0.length c0_0) ∧ w'.cell? ⟨gb792, 1, none⟩ = some (.int .i64 a0_1) ∧ w'.cell? ⟨gb793, 0, none⟩ = some (.int .i64 a1_0) ∧ w'.cell? ⟨gb793, 1, none⟩ = some (.int .i64 a1_1) ∧ w'.cell? ⟨gb793, 2, none⟩ = some (.float .f64 a1_2) ∧ w'.cell? ⟨gb793, 3, none⟩ = some (.string a1_3) ∧ w'.cell? ⟨gb793, 4, none⟩ = some (.int .i64 a1_4) ∧ w'.cell? (ad794.add ((x9_1).toNat * 11)) = some (.int .i64 ((rd_T61 l0_0 x9_1).f0.f0)) ∧ w'.cell? ⟨(ad794.add ((x9_1).toNat * 11)).block, (ad794.add ((x9_1).toNat * 11)).off + 1, none⟩ = some (.int .i64 ((rd_T61 l0_0 x9_1).f0.f1)) ∧ w'.cell? ⟨(ad794.add ((x9_1).toNat * 11)).block, (ad794.add ((x9_1).toNat * 11)).off + 2, none⟩ = some (.float .f64 ((rd_T61 l0_0 x9_1).f0.f2)) ∧ w'.cell? ⟨(ad794.add ((x9_1).toNat * 11)).block, (ad794.add ((x9_1).toNat * 11)).off + 3, none⟩ = some (.string ((rd_T61 l0_0 x9_1).f0.f3)) ∧ w'.cell? ⟨(ad794.add ((x9_1).toNat * 11)).block, (ad794.add ((x9_1).toNat * 11)).off + 4, none⟩ = some (.int .i64 ((rd_T61 l0_0 x9_1).f0.f4)) ∧ w'.cell? ⟨(ad794.add ((x9_1).toNat * 11)).block, (ad794.add ((x9_1).toNat * 11)).off + 5, none⟩ = some (.int .i64 ((rd_T61 l0_0 x9_1).f1.f0)) ∧ w'.cell? ⟨(ad794.add ((x9_1).toNat * 11)).block, (ad794.add ((x9_1).toNat * 11)).off + 6, none⟩ = some (.int .i64 ((rd_T61 l0_0 x9_1).f1.f1)) ∧ w'.cell? ⟨(ad794.add ((x9_1).toNat * 11)).block, (ad794.add ((x9_1).toNat * 11)).off + 7, none⟩ = some (.float .f64 ((rd_T61 l0_0 x9_1).f1.f2)) ∧ w'.cell? ⟨(ad794.add ((x9_1).toNat * 11)).block, (ad794.add ((x9_1).toNat * 11)).off + 8, none⟩ = some (.string ((rd_T61 l0_0 x9_1).f1.f3)) ∧ w'.cell? ⟨(ad794.add ((x9_1).toNat * 11)).block, (ad794.add ((x9_1).toNat * 11)).off + 9, none⟩ = some (.int .i64 ((rd_T61 l0_0 x9_1).f1.f4)) ∧ w'.cell? ⟨(ad794.add ((x9_1).toNat * 11)).block, (ad794.add ((x9_1).toNat * 11)).off + 10, none⟩ = some (.int .i64 ((rd_T61 l0_0 x9_1).f2))) (ds := []) #[false, false, false, false, false, false, false, false] (by kernel_rfl) rfl rfl ⟨(blk_cell BK792.out 0).trans rfl, (blk_cell BK792.out 1).trans rfl, (blk_cell BK793.out 0).trans rfl, (blk_cell BK793.out 1).trans rfl, (blk_cell BK793.out 2).trans rfl, (blk_cell BK793.out 3).trans rfl, (blk_cell BK793.out 4).trans rfl, ((HB.out.cell (World.block_lt_of_cell? w _ hw794_0)).trans hw794_0), ((HB.out.cell (World.block_lt_of_cell? w _ hw794_1)).trans hw794_1), ((HB.out.cell (World.block_lt_of_cell? w _ hw794_2)).trans hw794_2), ((HB.out.cell (World.block_lt_of_cell? w _ hw794_3)).trans hw794_3), ((HB.out.cell (World.block_lt_of_cell? w _ hw794_4)).trans hw794_4), ((HB.out.cell (World.block_lt_of_cell? w _ hw794_5)).trans hw794_5), ((HB.out.cell (World.block_lt_of_cell? w _ hw794_6)).trans hw794_6), ((HB.out.cell (World.block_lt_of_cell? w _ hw794_7)).trans hw794_7), ((HB.out.cell (World.block_lt_of_cell? w _ hw794_8)).trans hw794_8), ((HB.out.cell (World.block_lt_of_cell? w _ hw794_9)).trans hw794_9), ((HB.out.cell (World.block_lt_of_cell? w _ hw794_10)).trans hw794_10)⟩ (fun hHeld => ?_); refine with_tabW spec_l2at.tab4 spec_l2at.bits4 (fun HT_ HW_ => ?_)
    generalize wr.drew = w14 at BK792 BK793 HB hx794_0 hx794_1 hx794_10 hx794_2 hx794_3 hx794_4 hx794_5 hx794_6 hx794_7 hx794_8 hx794_9 hHeld ⊢
    refine pure_ (i := 0) (N := some 12) (v := ?_) (a' := ?_) #[true, false, false, false, false, false, false, false] rfl rfl (any_of HT_.out (by kernel_rfl)) (fun _ _ _ h => h) (Or.inl ⟨by rfl, ?_⟩) ?_ ?_
    rotate_left
    · intro w'
      go_simp
      with_reducible rfl
    rotate_left
    · simp only [Act.put, List.setIfInBounds_toArray, List.set_cons_zero, List.set_cons_succ, i64_w, i32_w]
      rfl
    refine pure_ (i := 2) (N := some 14) (v := ?_) (a' := ?_) #[true, false, true, false, false, false, false, false] rfl rfl (any_of HT_.out (by kernel_rfl)) (fun _ _ _ h => h) (Or.inl ⟨by rfl, ?_⟩) ?_ ?_
    rotate_left
    · intro w'
      go_simp
      with_reducible rfl
    rotate_left
    · simp only [Act.put, List.setIfInBounds_toArray, List.set_cons_zero, List.set_cons_succ, i64_w, i32_w]
      rfl
    refine take_ (i := 1) (N := some 13) (v := ?_) (a' := ?_) #[true, true, true, false, false, false, false, false] rfl rfl (take_ofW HT_.out HW_.out (by kernel_rfl)) (fun _ _ _ h => h) (Or.inl ⟨by rfl, ?_⟩) hHeld ?_ ?_
    rotate_left
    · rintro w' ⟨s0, s1, s2, s3, s4, s5, s6, s7, s8, s9, s10, s11, s12, s13, s14, s15, s16, s17⟩
      go_simp
      with_reducible rfl
    rotate_left
    · simp only [Act.put, List.setIfInBounds_toArray, List.set_cons_zero, List.set_cons_succ, i64_w, i32_w]
      rfl
    refine pure_ (i := 3) (N := some 15) (v := ?_) (a' := ?_) #[true, true, true, true, false, false, false, false] rfl rfl (any_of HT_.out (by kernel_rfl)) (fun _ _ _ h => h) (Or.inl ⟨by rfl, ?_⟩) ?_ ?_
    rotate_left
    · intro w'
      go_simp
      with_reducible rfl
    rotate_left
    · simp only [Act.put, List.setIfInBounds_toArray, List.set_cons_zero, List.set_cons_succ, i64_w, i32_w]
      rfl
    refine pure_ (i := 4) (N := some 16) (v := ?_) (a' := ?_) #[true, true, true, true, true, false, false, false] rfl rfl (any_of HT_.out (by kernel_rfl)) (fun _ _ _ h => h) (Or.inl ⟨by rfl, ?_⟩) ?_ ?_
    rotate_left
    · intro w'
      go_simp
      with_reducible rfl
    rotate_left
    · simp only [Act.put, List.setIfInBounds_toArray, List.set_cons_zero, List.set_cons_succ, i64_w, i32_w]
      rfl
    refine take_ (i := 5) (N := some 17) (v := ?_) (a' := ?_) #[true, true, true, true, true, true, false, false] rfl rfl (take_ofW HT_.out HW_.out (by kernel_rfl)) (fun _ _ _ h => h) (Or.inl ⟨by rfl, ?_⟩) hHeld ?_ ?_
    rotate_left
    · rintro w' ⟨s0, s1, s2, s3, s4, s5, s6, s7, s8, s9, s10, s11, s12, s13, s14, s15, s16, s17⟩
      go_simp
      with_reducible rfl
    rotate_left
    · simp only [Act.put, List.setIfInBounds_toArray, List.set_cons_zero, List.set_cons_succ, i64_w, i32_w]
      rfl
    refine take_ (i := 6) (N := some 18) (v := ?_) (a' := ?_) #[true, true, true, true, true, true, true, false] rfl rfl (take_ofW HT_.out HW_.out (by kernel_rfl)) (fun _ _ _ h => h) (Or.inl ⟨by rfl, ?_⟩) hHeld ?_ ?_
    rotate_left
    · rintro w' ⟨s0, s1, s2, s3, s4, s5, s6, s7, s8, s9, s10, s11, s12, s13, s14, s15, s16, s17⟩
      go_simp
      with_reducible rfl
    rotate_left
    · simp only [Act.put, List.setIfInBounds_toArray, List.set_cons_zero, List.set_cons_succ, i64_w, i32_w]
      rfl
    refine one_ (i := 7) (N := some 19) #[true, true, true, true, true, true, true, true] rfl rfl (one_of HT_.out (by kernel_rfl)) (by decide) (fun K hK => ?_)
    refine goes_ Try.func34 (by kernel_rfl) rfl #[.agg #[.int .i64 ((rd_T61 l0_0 x9_1).f0.f0), .int .i64 ((rd_T61 l0_0 x9_1).f0.f1), .float .f64 ((rd_T61 l0_0 x9_1).f0.f2), .string ((rd_T61 l0_0 x9_1).f0.f3), .int .i64 ((rd_T61 l0_0 x9_1).f0.f4)], .agg #[.int .i64 a1_0, .int .i64 a1_1, .float .f64 a1_2, .string a1_3, .int .i64 a1_4]] (by rfl) rfl rfl (by (try simp only [List.map_toArray, List.map_cons, List.map_nil]); first | done | rfl | (simp only [List.length_drop, List.length_take]; rfl)) ?_
    with_reducible refine (spec_Same.calls k1 ((rd_T61 l0_0 x9_1).f0.f0) ((rd_T61 l0_0 x9_1).f0.f1) ((rd_T61 l0_0 x9_1).f0.f2) ((rd_T61 l0_0 x9_1).f0.f3) ((rd_T61 l0_0 x9_1).f0.f4) a1_0 a1_1 a1_2 a1_3 a1_4 false _ A10.out).mono ?_
    rintro e w15 ⟨rfl, hb⟩
    refine ⟨_, rfl, ?_⟩
    replace BK792 := bku BK792.out hb
    replace BK793 := bku BK793.out hb
    replace HB := hbs2 HB.out GE792.out GE793.out hb
    (try clear hb)
    refine hK.out _ _ ⟨(blk_cell BK792.out 0).trans rfl, (blk_cell BK792.out 1).trans rfl, (blk_cell BK793.out 0).trans rfl, (blk_cell BK793.out 1).trans rfl, (blk_cell BK793.out 2).trans rfl, (blk_cell BK793.out 3).trans rfl, (blk_cell BK793.out 4).trans rfl, ((HB.out.cell (World.block_lt_of_cell? w _ hw794_0)).trans hw794_0), ((HB.out.cell (World.block_lt_of_cell? w _ hw794_1)).trans hw794_1), ((HB.out.cell (World.block_lt_of_cell? w _ hw794_2)).trans hw794_2), ((HB.out.cell (World.block_lt_of_cell? w _ hw794_3)).trans hw794_3), ((HB.out.cell (World.block_lt_of_cell? w _ hw794_4)).trans hw794_4), ((HB.out.cell (World.block_lt_of_cell? w _ hw794_5)).trans hw794_5), ((HB.out.cell (World.block_lt_of_cell? w _ hw794_6)).trans hw794_6), ((HB.out.cell (World.block_lt_of_cell? w _ hw794_7)).trans hw794_7), ((HB.out.cell (World.block_lt_of_cell? w _ hw794_8)).trans hw794_8), ((HB.out.cell (World.block_lt_of_cell? w _ hw794_9)).trans hw794_9), ((HB.out.cell (World.block_lt_of_cell? w _ hw794_10)).trans hw794_10)⟩ (fun hHeld => ?_)
    clear hK K
    refine norm_ (a' := ?_) ?_ ?_
    rotate_left
    · show Act.put _ (some 19) _ = _
      simp only [Act.put, List.setIfInBounds_toArray, List.set_cons_zero, List.set_cons_succ, i64_w, i32_w]
      rfl
    refine done_ (done_of HT_.out (by kernel_rfl)) ?_
    try go_wp2
    go_roundg k1
    case measure => have := HK1.out; omega
    case rel => exact ⟨(wrap64 (x9_1 + 1)), (by first | rfl | (simp; done) | (simp [*]; done)), H', ⟨by have := HK1.out; omega⟩, ⟨by (with_reducible repeat (first | refine blk_drewN ?_ _ | refine blk_drew ?_ | refine blk_alloc ?_ _)); exact BK792.out⟩, ⟨by (with_reducible repeat (first | refine blk_drewN ?_ _ | refine blk_drew ?_ | refine blk_alloc ?_ _)); exact BK793.out⟩, ⟨by repeat (first | (with_reducible first | exact HB.out | apply below_alloc | apply pw_below_drewN | apply below_drew1 | refine below_set ?_ GE792.out | refine below_set ?_ GE793.out) | exact HB.out)⟩⟩
def spec_l2length.l0 : Nat → Int → List (S61) → Int → Option (Int)
  | 0, _, _, _ => none
  | k + 1, x3, x797000, x797001 => (spec_l1int.f (wrap64 (x3 + 1))).bind fun bt797 => ((spec_l2at.f k x797000 x797001 bt797.1 bt797.2.1 bt797.2.2.1 bt797.2.2.2.1 bt797.2.2.2.2).bind fun t802 => (if t802 ≥ 0 then (spec_l2length.l0 k (wrap64 (x3 + 1)) x797000 x797001) else (some x3)))
def spec_l2length.f (k : Nat) (l0_0 : List (S61)) (a0_1 : Int) : Option (Int) := spec_l2length.l0 k 0 l0_0 a0_1
set_option maxHeartbeats 8000000 in
set_option maxRecDepth 100000 in
theorem spec_l2length.calls (k : Nat) (A0_0 : Option Addr) (c0_0 : Nat) (l0_0 : List (S61)) (a0_1 : Int) (r : Int) (w : World) (hr0_0 : Kd.C k61 w A0_0 l0_0.length l0_0) (hc0_0 : l0_0.length ≤ c0_0) (h : spec_l2length.f k l0_0 a0_1 = some r) :
    Calls Try.prog 84 #[.agg #[.slice A0_0 l0_0.length c0_0, .int .i64 a0_1]] w fun e w' => e = .returned (.int .i64 r) ∧ Below w.heap.size w w' := by
  have hu56 := Try.underlying56
  have HR0_0 := Aside0.mk hr0_0
  have HC0_0 := Aside0.mk hc0_0
  clear hr0_0 hc0_0
  have HB := Aside0.mk (Below.refl w.heap.size w)
  have H : (spec_l2length.l0 k 0 l0_0 a0_1) = some r := h
  clear h
  have H' := Aside0.mk H
  clear H
  go_enter Try.func84, Try.ntmps84
  go_wp2_with (first | ((with_reducible refine gate_dst (N := 1) rfl ?_); refine box_event rfl (N := 1) rfl (cs := #[.slice A0_0 l0_0.length c0_0, .int .i64 a0_1]) (t := 56) (by first | (go_simp; done) | (go_simp; rfl)) ?_; intro gb796 hg w2 hbox hb; have BK796 := Aside0.mk (hbox); have GW796 := (gws hg (hbe HB.out) : Aside0 (w.heap.size ≤ gb796)); have GE796 := (gws hg (hbe HB.out) : Aside0 (w.heap.size ≤ gb796)); replace HB := hbs HB.out hb; clear hb hbox hg))
  go_loopg [3] k (fun kq v3 w' => ∃ (x3_1 : Int), v3 = .int .i64 x3_1 ∧ Aside0 (spec_l2length.l0 kq x3_1 l0_0 a0_1 = some r) ∧ Aside0 (kq ≤ k) ∧ Aside0 (w'.heap[gb796]? = some (.cells #[(.slice A0_0 l0_0.length c0_0), .int .i64 a0_1] 56 (0, 0))) ∧ Aside0 (Below w.heap.size w w'))
  case atStart => exact ⟨(0), (by first | rfl | (simp; done) | (simp [*]; done)), H', ⟨Nat.le_refl _⟩, ⟨by (with_reducible repeat (first | refine blk_drewN ?_ _ | refine blk_drew ?_ | refine blk_alloc ?_ _)); exact BK796.out⟩, ⟨by repeat (first | (with_reducible first | exact HB.out | apply below_alloc | apply pw_below_drewN | apply below_drew1 | refine below_set ?_ GE796.out) | exact HB.out)⟩⟩
  case round =>
    clear H'
    obtain ⟨x3_1, rfl, HA, HK1, BK796, HB⟩ := hrel
    rcases gk with _ | k1
    · exact absurd HA.out (by simp [spec_l2length.l0])
    have H := HA.out
    clear HA
    simp only [spec_l2length.l0] at H
    replace H := Option.bind_eq_some_iff.mp H
    obtain ⟨⟨t797, t798, t799, t800, t801⟩, A30, H⟩ := H
    replace H : ((spec_l2at.f k1 l0_0 a0_1 t797 t798 t799 t800 t801).bind fun t802 => (if t802 ≥ 0 then (spec_l2length.l0 k1 (wrap64 (x3_1 + 1)) l0_0 a0_1) else (some x3_1))) = some r := H
    have A3 := Aside0.mk A30
    clear A30
    replace H := Option.bind_eq_some_iff.mp H
    obtain ⟨t802, A40, H⟩ := H
    replace H : (if t802 ≥ 0 then (spec_l2length.l0 k1 (wrap64 (x3_1 + 1)) l0_0 a0_1) else (some x3_1)) = some r := H
    have A4 := Aside0.mk A40
    clear A40
    by_cases c5 : t802 ≥ 0
    rotate_left 1
    · rw [if_neg c5] at H
      have c5b0 : decide (0 ≤ t802) = false := decide_eq_false c5
      clear c5
      obtain rfl := Option.some.inj H
      try go_wp2
      replace BK796 := Aside0.mk (blk_drew BK796.out)
      replace HB := Aside0.mk (below_drew1 HB.out)
      refine start_ (n := 6) (S := fun w' => w'.cell? ⟨gb796, 0, none⟩ = some (.slice A0_0 l0_0.length c0_0) ∧ w'.cell? ⟨gb796, 1, none⟩ = some (.int .i64 a0_1)) (ds := []) #[false, false, false, false, false, false] (by kernel_rfl) rfl rfl ⟨(blk_cell BK796.out 0).trans rfl, (blk_cell BK796.out 1).trans rfl⟩ (fun hHeld => ?_)
      generalize wr.drew = w9 at BK796 HB hHeld ⊢
      refine pure_ (i := 1) (N := some 5) (v := ?_) (a' := ?_) #[false, true, false, false, false, false] rfl rfl (by kernel_rfl) (fun _ _ _ h => h) (Or.inl ⟨by rfl, ?_⟩) ?_ ?_
      rotate_left
      · intro w'
        go_simp
        with_reducible rfl
      rotate_left
      · simp only [Act.put, List.setIfInBounds_toArray, List.set_cons_zero, List.set_cons_succ, i64_w, i32_w]
        rfl
      refine pure_ (i := 2) (N := some 6) (v := ?_) (a' := ?_) #[false, true, true, false, false, false] rfl rfl (by kernel_rfl) (fun _ _ _ h => h) (Or.inl ⟨by rfl, ?_⟩) ?_ ?_
      rotate_left
      · intro w'
        go_simp
        with_reducible rfl
      rotate_left
      · simp only [Act.put, List.setIfInBounds_toArray, List.set_cons_zero, List.set_cons_succ, i64_w, i32_w]
        rfl
      refine take_ (i := 0) (N := some 4) (v := ?_) (a' := ?_) #[true, true, true, false, false, false] rfl rfl (by kernel_rfl) (fun _ _ _ h => h) (Or.inl ⟨by rfl, ?_⟩) hHeld ?_ ?_
      rotate_left
      · rintro w' ⟨s0, s1⟩
        go_simp
        with_reducible rfl
      rotate_left
      · simp only [Act.put, List.setIfInBounds_toArray, List.set_cons_zero, List.set_cons_succ, i64_w, i32_w]
        rfl
      refine one_ (i := 3) (N := some 7) #[true, true, true, true, false, false] rfl rfl (by kernel_rfl) (by decide) (fun K hK => ?_)
      refine goes_ Try.func62 (by kernel_rfl) rfl #[.int .i64 (wrap64 (x3_1 + 1))] (by rfl) rfl rfl (by (try simp only [List.map_toArray, List.map_cons, List.map_nil]); first | done | rfl | (simp only [List.length_drop, List.length_take]; rfl)) ?_
      with_reducible refine (spec_l1int.calls (wrap64 (x3_1 + 1)) t797 t798 t799 t800 t801 _ A3.out).mono ?_
      rintro e w10 ⟨rfl, hb⟩
      refine ⟨_, rfl, ?_⟩
      replace BK796 := bku BK796.out hb
      replace HB := hbs1 HB.out GE796.out hb
      (try clear hb)
      refine hK.out _ _ ⟨(blk_cell BK796.out 0).trans rfl, (blk_cell BK796.out 1).trans rfl⟩ (fun hHeld => ?_)
      clear hK K
      refine norm_ (a' := ?_) ?_ ?_
      rotate_left
      · show Act.put _ (some 7) _ = _
        simp only [Act.put, List.setIfInBounds_toArray, List.set_cons_zero, List.set_cons_succ, i64_w, i32_w]
        rfl
      refine one_ (i := 4) (N := some 8) #[true, true, true, true, true, false] rfl rfl (by kernel_rfl) (by decide) (fun K hK => ?_)
      refine goes_ Try.func97 (by kernel_rfl) rfl #[.agg #[.slice A0_0 l0_0.length c0_0, .int .i64 a0_1], .agg #[.int .i64 t797, .int .i64 t798, .float .f64 t799, .string t800, .int .i64 t801]] (by rfl) rfl rfl (by (try simp only [List.map_toArray, List.map_cons, List.map_nil]); first | done | rfl | (simp only [List.length_drop, List.length_take]; rfl)) ?_
      with_reducible refine (spec_l2at.calls k1 _ _ l0_0 a0_1 t797 t798 t799 t800 t801 t802 _ ?side1 ?side2 A4.out).mono ?_
      (case side1 => exact csd (Kd.C_below HR0_0.out HB.out))
      (case side2 => exact HC0_0.out)
      rintro e w11 ⟨rfl, hb⟩
      refine ⟨_, rfl, ?_⟩
      replace BK796 := bku BK796.out hb
      replace HB := hbs1 HB.out GE796.out hb
      (try clear hb)
      refine hK.out _ _ ⟨(blk_cell BK796.out 0).trans rfl, (blk_cell BK796.out 1).trans rfl⟩ (fun hHeld => ?_)
      clear hK K
      refine norm_ (a' := ?_) ?_ ?_
      rotate_left
      · show Act.put _ (some 8) _ = _
        simp only [Act.put, List.setIfInBounds_toArray, List.set_cons_zero, List.set_cons_succ, i64_w, i32_w]
        rfl
      refine pure_ (i := 5) (N := some 9) (v := ?_) (a' := ?_) #[true, true, true, true, true, true] rfl rfl (by kernel_rfl) (fun _ _ _ h => h) (Or.inl ⟨by rfl, ?_⟩) ?_ ?_
      rotate_left
      · intro w'
        go_simp
        with_reducible rfl
      rotate_left
      · simp only [Act.put, List.setIfInBounds_toArray, List.set_cons_zero, List.set_cons_succ, i64_w, i32_w]
        rfl
      refine done_ (by kernel_rfl) ?_
      try go_wp2
      go_ret
      exact ⟨by first | rfl | (simp <;> rfl) | (simp [*] <;> rfl), hbe1 HB.out GE796.out⟩
    rw [if_pos c5] at H
    have c5b0 : decide (0 ≤ t802) = true := decide_eq_true c5
    clear c5
    have H' := Aside0.mk H
    clear H
    try go_wp2
    replace BK796 := Aside0.mk (blk_drew BK796.out)
    replace HB := Aside0.mk (below_drew1 HB.out)
    refine start_ (n := 6) (S := fun w' => w'.cell? ⟨gb796, 0, none⟩ = some (.slice A0_0 l0_0.length c0_0) ∧ w'.cell? ⟨gb796, 1, none⟩ = some (.int .i64 a0_1)) (ds := []) #[false, false, false, false, false, false] (by kernel_rfl) rfl rfl ⟨(blk_cell BK796.out 0).trans rfl, (blk_cell BK796.out 1).trans rfl⟩ (fun hHeld => ?_)
    generalize wr.drew = w6 at BK796 HB hHeld ⊢
    refine pure_ (i := 1) (N := some 5) (v := ?_) (a' := ?_) #[false, true, false, false, false, false] rfl rfl (by kernel_rfl) (fun _ _ _ h => h) (Or.inl ⟨by rfl, ?_⟩) ?_ ?_
    rotate_left
    · intro w'
      go_simp
      with_reducible rfl
    rotate_left
    · simp only [Act.put, List.setIfInBounds_toArray, List.set_cons_zero, List.set_cons_succ, i64_w, i32_w]
      rfl
    refine pure_ (i := 2) (N := some 6) (v := ?_) (a' := ?_) #[false, true, true, false, false, false] rfl rfl (by kernel_rfl) (fun _ _ _ h => h) (Or.inl ⟨by rfl, ?_⟩) ?_ ?_
    rotate_left
    · intro w'
      go_simp
      with_reducible rfl
    rotate_left
    · simp only [Act.put, List.setIfInBounds_toArray, List.set_cons_zero, List.set_cons_succ, i64_w, i32_w]
      rfl
    refine take_ (i := 0) (N := some 4) (v := ?_) (a' := ?_) #[true, true, true, false, false, false] rfl rfl (by kernel_rfl) (fun _ _ _ h => h) (Or.inl ⟨by rfl, ?_⟩) hHeld ?_ ?_
    rotate_left
    · rintro w' ⟨s0, s1⟩
      go_simp
      with_reducible rfl
    rotate_left
    · simp only [Act.put, List.setIfInBounds_toArray, List.set_cons_zero, List.set_cons_succ, i64_w, i32_w]
      rfl
    refine one_ (i := 3) (N := some 7) #[true, true, true, true, false, false] rfl rfl (by kernel_rfl) (by decide) (fun K hK => ?_)
    refine goes_ Try.func62 (by kernel_rfl) rfl #[.int .i64 (wrap64 (x3_1 + 1))] (by rfl) rfl rfl (by (try simp only [List.map_toArray, List.map_cons, List.map_nil]); first | done | rfl | (simp only [List.length_drop, List.length_take]; rfl)) ?_
    with_reducible refine (spec_l1int.calls (wrap64 (x3_1 + 1)) t797 t798 t799 t800 t801 _ A3.out).mono ?_
    rintro e w7 ⟨rfl, hb⟩
    refine ⟨_, rfl, ?_⟩
    replace BK796 := bku BK796.out hb
    replace HB := hbs1 HB.out GE796.out hb
    (try clear hb)
    refine hK.out _ _ ⟨(blk_cell BK796.out 0).trans rfl, (blk_cell BK796.out 1).trans rfl⟩ (fun hHeld => ?_)
    clear hK K
    refine norm_ (a' := ?_) ?_ ?_
    rotate_left
    · show Act.put _ (some 7) _ = _
      simp only [Act.put, List.setIfInBounds_toArray, List.set_cons_zero, List.set_cons_succ, i64_w, i32_w]
      rfl
    refine one_ (i := 4) (N := some 8) #[true, true, true, true, true, false] rfl rfl (by kernel_rfl) (by decide) (fun K hK => ?_)
    refine goes_ Try.func97 (by kernel_rfl) rfl #[.agg #[.slice A0_0 l0_0.length c0_0, .int .i64 a0_1], .agg #[.int .i64 t797, .int .i64 t798, .float .f64 t799, .string t800, .int .i64 t801]] (by rfl) rfl rfl (by (try simp only [List.map_toArray, List.map_cons, List.map_nil]); first | done | rfl | (simp only [List.length_drop, List.length_take]; rfl)) ?_
    with_reducible refine (spec_l2at.calls k1 _ _ l0_0 a0_1 t797 t798 t799 t800 t801 t802 _ ?side1 ?side2 A4.out).mono ?_
    (case side1 => exact csd (Kd.C_below HR0_0.out HB.out))
    (case side2 => exact HC0_0.out)
    rintro e w8 ⟨rfl, hb⟩
    refine ⟨_, rfl, ?_⟩
    replace BK796 := bku BK796.out hb
    replace HB := hbs1 HB.out GE796.out hb
    (try clear hb)
    refine hK.out _ _ ⟨(blk_cell BK796.out 0).trans rfl, (blk_cell BK796.out 1).trans rfl⟩ (fun hHeld => ?_)
    clear hK K
    refine norm_ (a' := ?_) ?_ ?_
    rotate_left
    · show Act.put _ (some 8) _ = _
      simp only [Act.put, List.setIfInBounds_toArray, List.set_cons_zero, List.set_cons_succ, i64_w, i32_w]
      rfl
    refine pure_ (i := 5) (N := some 9) (v := ?_) (a' := ?_) #[true, true, true, true, true, true] rfl rfl (by kernel_rfl) (fun _ _ _ h => h) (Or.inl ⟨by rfl, ?_⟩) ?_ ?_
    rotate_left
    · intro w'
      go_simp
      with_reducible rfl
    rotate_left
    · simp only [Act.put, List.setIfInBounds_toArray, List.set_cons_zero, List.set_cons_succ, i64_w, i32_w]
      rfl
    refine done_ (by kernel_rfl) ?_
    try go_wp2
    go_roundg k1
    case measure => have := HK1.out; omega
    case rel => exact ⟨(wrap64 (x3_1 + 1)), (by first | rfl | (simp; done) | (simp [*]; done)), H', ⟨by have := HK1.out; omega⟩, ⟨by (with_reducible repeat (first | refine blk_drewN ?_ _ | refine blk_drew ?_ | refine blk_alloc ?_ _)); exact BK796.out⟩, ⟨by repeat (first | (with_reducible first | exact HB.out | apply below_alloc | apply pw_below_drewN | apply below_drew1 | refine below_set ?_ GE796.out) | exact HB.out)⟩⟩
def spec_Length.f (k : Nat) (l0_0 : List (S61)) (a0_1 : Int) : Option (Int) := (spec_TableOk.f k l0_0 a0_1).bind fun t804 => (if t804 = true then ((spec_l2length.f k l0_0 a0_1).bind fun t805 => (some t805)) else (some 0))
set_option maxHeartbeats 8000000 in
set_option maxRecDepth 100000 in
theorem spec_Length.calls (k : Nat) (A0_0 : Option Addr) (c0_0 : Nat) (l0_0 : List (S61)) (a0_1 : Int) (r : Int) (w : World) (hr0_0 : Kd.C k61 w A0_0 l0_0.length l0_0) (hc0_0 : l0_0.length ≤ c0_0) (h : spec_Length.f k l0_0 a0_1 = some r) :
    Calls Try.prog 44 #[.agg #[.slice A0_0 l0_0.length c0_0, .int .i64 a0_1]] w fun e w' => e = .returned (.int .i64 r) ∧ Below w.heap.size w w' := by
  have hu56 := Try.underlying56
  have HR0_0 := Aside0.mk hr0_0
  have HC0_0 := Aside0.mk hc0_0
  clear hr0_0 hc0_0
  have HB := Aside0.mk (Below.refl w.heap.size w)
  have H : ((spec_TableOk.f k l0_0 a0_1).bind fun t804 => (if t804 = true then ((spec_l2length.f k l0_0 a0_1).bind fun t805 => (some t805)) else (some 0))) = some r := h
  clear h
  replace H := Option.bind_eq_some_iff.mp H
  obtain ⟨t804, A20, H⟩ := H
  replace H : (if t804 = true then ((spec_l2length.f k l0_0 a0_1).bind fun t805 => (some t805)) else (some 0)) = some r := H
  have A2 := Aside0.mk A20
  clear A20
  by_cases c3 : t804 = true
  rotate_left 1
  · replace c3 := Bool.eq_false_iff.mpr c3
    subst c3
    have H1 : (some 0) = some r := by rw [if_neg (show ¬ (false = true) by decide)] at H; exact H
    clear H
    have H := H1
    clear H1
    obtain rfl := Option.some.inj H
    go_enter Try.func44, Try.ntmps44
    go_wp2_with (first | ((with_reducible refine gate_dst (N := 1) rfl ?_); refine box_event rfl (N := 1) rfl (cs := #[.slice A0_0 l0_0.length c0_0, .int .i64 a0_1]) (t := 56) (by first | (go_simp; done) | (go_simp; rfl)) ?_; intro gb803 hg w10 hbox hb; have BK803 := Aside0.mk (hbox); have GW803 := (gws hg (hbe HB.out) : Aside0 (w.heap.size ≤ gb803)); have GE803 := (gws hg (hbe HB.out) : Aside0 (w.heap.size ≤ gb803)); replace HB := hbs HB.out hb; clear hb hbox hg; obtain ⟨hcz11_0, hcz11_1, hfz11_0, hfz11_1⟩ := cells2 BK803.out) | ((with_reducible refine gate_callee (f := 37) rfl ?_); refine goesS (some 4) rfl Try.func37 #[.agg #[.slice A0_0 l0_0.length c0_0, .int .i64 a0_1]] rfl ?_; (with_reducible refine (spec_TableOk.calls k _ _ l0_0 a0_1 false _ ?side1 ?side2 A2.out).mono ?_); (case side1 => exact csd (Kd.C_below HR0_0.out HB.out)); (case side2 => exact HC0_0.out); rintro e w12 ⟨rfl, hb⟩; refine ⟨_, rfl, ?_⟩; replace BK803 := bku BK803.out hb; replace HB := hbs1 HB.out GE803.out hb; (try clear hb); (try clear hb2); (try clear hk); (try clear hi)))
    go_ret
    exact ⟨by first | rfl | (simp <;> rfl) | (simp [*] <;> rfl), hbe1 HB.out GE803.out⟩
  subst c3
  have H1 : ((spec_l2length.f k l0_0 a0_1).bind fun t805 => (some t805)) = some r := by rw [if_pos rfl] at H; exact H
  clear H
  have H := H1
  clear H1
  replace H := Option.bind_eq_some_iff.mp H
  obtain ⟨t805, A40, H⟩ := H
  replace H : (some t805) = some r := H
  have A4 := Aside0.mk A40
  clear A40
  obtain rfl := Option.some.inj H
  go_enter Try.func44, Try.ntmps44
  go_wp2_with (first | ((with_reducible refine gate_dst (N := 1) rfl ?_); refine box_event rfl (N := 1) rfl (cs := #[.slice A0_0 l0_0.length c0_0, .int .i64 a0_1]) (t := 56) (by first | (go_simp; done) | (go_simp; rfl)) ?_; intro gb803 hg w5 hbox hb; have BK803 := Aside0.mk (hbox); have GW803 := (gws hg (hbe HB.out) : Aside0 (w.heap.size ≤ gb803)); have GE803 := (gws hg (hbe HB.out) : Aside0 (w.heap.size ≤ gb803)); replace HB := hbs HB.out hb; clear hb hbox hg; obtain ⟨hcz6_0, hcz6_1, hfz6_0, hfz6_1⟩ := cells2 BK803.out) | ((with_reducible refine gate_callee (f := 37) rfl ?_); refine goesS (some 4) rfl Try.func37 #[.agg #[.slice A0_0 l0_0.length c0_0, .int .i64 a0_1]] rfl ?_; (with_reducible refine (spec_TableOk.calls k _ _ l0_0 a0_1 true _ ?side1 ?side2 A2.out).mono ?_); (case side1 => exact csd (Kd.C_below HR0_0.out HB.out)); (case side2 => exact HC0_0.out); rintro e w7 ⟨rfl, hb⟩; refine ⟨_, rfl, ?_⟩; replace BK803 := bku BK803.out hb; replace HB := hbs1 HB.out GE803.out hb; (try clear hb); (try clear hb2); (try clear hk); (try clear hi); obtain ⟨hcz8_0, hcz8_1, hfz8_0, hfz8_1⟩ := cells2 BK803.out) | ((with_reducible refine gate_callee (f := 84) rfl ?_); refine goesS (some 7) rfl Try.func84 #[.agg #[.slice A0_0 l0_0.length c0_0, .int .i64 a0_1]] rfl ?_; (with_reducible refine (spec_l2length.calls k _ _ l0_0 a0_1 t805 _ ?side1 ?side2 A4.out).mono ?_); (case side1 => exact csd (Kd.C_below HR0_0.out HB.out)); (case side2 => exact HC0_0.out); rintro e w9 ⟨rfl, hb⟩; refine ⟨_, rfl, ?_⟩; replace BK803 := bku BK803.out hb; replace HB := hbs1 HB.out GE803.out hb; (try clear hb); (try clear hb2); (try clear hk); (try clear hi)))
  go_ret
  exact ⟨by first | rfl | (simp <;> rfl) | (simp [*] <;> rfl), hbe1 HB.out GE803.out⟩
def impl_place.l0 : Nat → List (S61) → Int → Int → Int → Int → Nat → ByteArray → Int → Option (Int)
  | 0, _, _, _, _, _, _, _, _ => none
  | k + 1, x8, x9, x10, x808000, x808001, x808002, x808003, x808004 => if x10 < x9 then (if 0 ≤ x10 then (if x10 < (x8.length : Int) then ((impl_Same.f k ((rd_T61 x8 x10).f0.f0) ((rd_T61 x8 x10).f0.f1) ((rd_T61 x8 x10).f0.f2) ((rd_T61 x8 x10).f0.f3) ((rd_T61 x8 x10).f0.f4) x808000 x808001 x808002 x808003 x808004).bind fun t810 => (if t810 = true then (some x10) else (impl_place.l0 k x8 x9 (wrap64 (x10 + 1)) x808000 x808001 x808002 x808003 x808004))) else (none)) else (none)) else (some (-1))
def impl_place.f (k : Nat) (l0_0 : List (S61)) (a0_1 : Int) (a1_0 : Int) (a1_1 : Int) (a1_2 : Nat) (a1_3 : ByteArray) (a1_4 : Int) : Option (Int) := impl_place.l0 k l0_0 (l0_0.length : Int) 0 a1_0 a1_1 a1_2 a1_3 a1_4
set_option maxHeartbeats 8000000 in
set_option maxRecDepth 100000 in
theorem impl_place.calls (k : Nat) (A0_0 : Option Addr) (c0_0 : Nat) (l0_0 : List (S61)) (a0_1 : Int) (a1_0 : Int) (a1_1 : Int) (a1_2 : Nat) (a1_3 : ByteArray) (a1_4 : Int) (r : Int) (w : World) (hr0_0 : Kd.C k61 w A0_0 l0_0.length l0_0) (hc0_0 : l0_0.length ≤ c0_0) (h : impl_place.f k l0_0 a0_1 a1_0 a1_1 a1_2 a1_3 a1_4 = some r) :
    Calls Try.prog 98 #[.agg #[.slice A0_0 l0_0.length c0_0, .int .i64 a0_1], .agg #[.int .i64 a1_0, .int .i64 a1_1, .float .f64 a1_2, .string a1_3, .int .i64 a1_4]] w fun e w' => e = .returned (.int .i64 r) ∧ Below w.heap.size w w' := by
  have hu56 := Try.underlying56
  have hu28 := Try.underlying28
  have hu61 := Try.underlying61
  have HR0_0 := Aside0.mk hr0_0
  have HC0_0 := Aside0.mk hc0_0
  clear hr0_0 hc0_0
  have HB := Aside0.mk (Below.refl w.heap.size w)
  have H : (impl_place.l0 k l0_0 (l0_0.length : Int) 0 a1_0 a1_1 a1_2 a1_3 a1_4) = some r := h
  clear h
  have H' := Aside0.mk H
  clear H
  go_enter Try.func98, Try.ntmps98
  go_wp2_with (first | ((with_reducible refine gate_dst (N := 2) rfl ?_); refine box_event rfl (N := 2) rfl (cs := #[.slice A0_0 l0_0.length c0_0, .int .i64 a0_1]) (t := 56) (by first | (go_simp; done) | (go_simp; rfl)) ?_; intro gb806 hg w3 hbox hb; have BK806 := Aside0.mk (hbox); have GW806 := (gws hg (hbe HB.out) : Aside0 (w.heap.size ≤ gb806)); have GE806 := (gws hg (hbe HB.out) : Aside0 (w.heap.size ≤ gb806)); replace HB := hbs HB.out hb; clear hb hbox hg) | ((with_reducible refine gate_dst (N := 3) rfl ?_); refine box_event rfl (N := 3) rfl (cs := #[.int .i64 a1_0, .int .i64 a1_1, .float .f64 a1_2, .string a1_3, .int .i64 a1_4]) (t := 28) (by first | (go_simp; done) | (go_simp; rfl)) ?_; intro gb807 hg w4 hbox hb; have BK807 := Aside0.mk (hbox); have GW807 := (gws hg (hbe1 HB.out GE806.out) : Aside0 (w.heap.size ≤ gb807)); have GE807 := (gws hg (hbe1 HB.out GE806.out) : Aside0 (w.heap.size ≤ gb807)); replace HB := hbs1 HB.out GE806.out hb; have NB806_807 := nlt hg BK806.out; have NB807_806 := ngt hg BK806.out; replace BK806 := bku BK806.out hb; clear hb hbox hg; have hnb5 := NB806_807.out; have hnc5 := NB807_806.out; obtain ⟨hcz6_0, hcz6_1, hfz6_0, hfz6_1⟩ := cells2 BK806.out))
  go_loopg [10] k (fun kq v10 w' => ∃ (x10_1 : Int), v10 = .int .i64 x10_1 ∧ Aside0 (impl_place.l0 kq l0_0 (l0_0.length : Int) x10_1 a1_0 a1_1 a1_2 a1_3 a1_4 = some r) ∧ Aside0 (kq ≤ k) ∧ Aside0 (w'.heap[gb806]? = some (.cells #[(.slice A0_0 l0_0.length c0_0), .int .i64 a0_1] 56 (0, 0))) ∧ Aside0 (w'.heap[gb807]? = some (.cells #[.int .i64 a1_0, .int .i64 a1_1, .float .f64 a1_2, .string a1_3, .int .i64 a1_4] 28 (0, 0))) ∧ Aside0 (Below w.heap.size w w'))
  case atStart => exact ⟨(0), (by first | rfl | (simp; done) | (simp [*]; done)), H', ⟨Nat.le_refl _⟩, ⟨by (with_reducible repeat (first | refine blk_drewN ?_ _ | refine blk_drew ?_ | refine blk_alloc ?_ _)); exact BK806.out⟩, ⟨by (with_reducible repeat (first | refine blk_drewN ?_ _ | refine blk_drew ?_ | refine blk_alloc ?_ _)); exact BK807.out⟩, ⟨by repeat (first | (with_reducible first | exact HB.out | apply below_alloc | apply pw_below_drewN | apply below_drew1 | refine below_set ?_ GE806.out | refine below_set ?_ GE807.out) | exact HB.out)⟩⟩
  case round =>
    clear H'
    try clear hcz6_0
    try clear hcz6_1
    try clear hfz6_0
    try clear hfz6_1
    obtain ⟨x10_1, rfl, HA, HK1, BK806, BK807, HB⟩ := hrel
    rcases gk with _ | k1
    · exact absurd HA.out (by simp [impl_place.l0])
    have H := HA.out
    clear HA
    simp only [impl_place.l0] at H
    by_cases c7 : x10_1 < (l0_0.length : Int)
    rotate_left 1
    · rw [if_neg c7] at H
      have c7b0 : decide (x10_1 < (l0_0.length : Int)) = false := decide_eq_false c7
      clear c7
      obtain rfl := Option.some.inj H
      go_wp2
      go_ret
      exact ⟨by first | rfl | (simp <;> rfl) | (simp [*] <;> rfl), hbe2 HB.out GE806.out GE807.out⟩
    rw [if_pos c7] at H
    have c7b0 : decide (x10_1 < (l0_0.length : Int)) = true := decide_eq_true c7
    clear c7
    by_cases c8 : 0 ≤ x10_1
    rotate_left 1
    · rw [if_neg c8] at H
      exact absurd H (by simp)
    rw [if_pos c8] at H
    have c8b0 : decide (0 ≤ x10_1) = true := decide_eq_true c8
    clear c8
    by_cases c9 : x10_1 < (l0_0.length : Int)
    rotate_left 1
    · rw [if_neg c9] at H
      exact absurd H (by simp)
    rw [if_pos c9] at H
    have c9b0 : decide (x10_1 < (l0_0.length : Int)) = true := decide_eq_true c9
    clear c9
    replace H := Option.bind_eq_some_iff.mp H
    obtain ⟨t810, A100, H⟩ := H
    replace H : (if t810 = true then (some x10_1) else (impl_place.l0 k1 l0_0 (l0_0.length : Int) (wrap64 (x10_1 + 1)) a1_0 a1_1 a1_2 a1_3 a1_4)) = some r := H
    have A10 := Aside0.mk A100
    clear A100
    by_cases c11 : t810 = true
    · subst c11
      have H1 : (some x10_1) = some r := by rw [if_pos rfl] at H; exact H
      clear H
      have H := H1
      clear H1
      obtain rfl := Option.some.inj H
      have p808 : 0 ≤ (x10_1 : Int) := of_decide_eq_true (by first | (with_reducible assumption) | assumption)
      have q808 : x10_1 < (l0_0.length : Int) := of_decide_eq_true (by first | (with_reducible assumption) | assumption)
      obtain ⟨ad808, e808, hx808_0, hx808_1, hx808_2, hx808_3, hx808_4, hx808_5, hx808_6, hx808_7, hx808_8, hx808_9, hx808_10⟩ := at_T61 HR0_0.out x10_1 p808 q808
      cases e808
      (first | replace hx808_0 := (HB.out.cell (World.block_lt_of_cell? w _ hx808_0)).trans hx808_0 | skip)
      (first | replace hx808_1 := (HB.out.cell (World.block_lt_of_cell? w _ hx808_1)).trans hx808_1 | skip)
      (first | replace hx808_2 := (HB.out.cell (World.block_lt_of_cell? w _ hx808_2)).trans hx808_2 | skip)
      (first | replace hx808_3 := (HB.out.cell (World.block_lt_of_cell? w _ hx808_3)).trans hx808_3 | skip)
      (first | replace hx808_4 := (HB.out.cell (World.block_lt_of_cell? w _ hx808_4)).trans hx808_4 | skip)
      (first | replace hx808_5 := (HB.out.cell (World.block_lt_of_cell? w _ hx808_5)).trans hx808_5 | skip)
      (first | replace hx808_6 := (HB.out.cell (World.block_lt_of_cell? w _ hx808_6)).trans hx808_6 | skip)
      (first | replace hx808_7 := (HB.out.cell (World.block_lt_of_cell? w _ hx808_7)).trans hx808_7 | skip)
      (first | replace hx808_8 := (HB.out.cell (World.block_lt_of_cell? w _ hx808_8)).trans hx808_8 | skip)
      (first | replace hx808_9 := (HB.out.cell (World.block_lt_of_cell? w _ hx808_9)).trans hx808_9 | skip)
      (first | replace hx808_10 := (HB.out.cell (World.block_lt_of_cell? w _ hx808_10)).trans hx808_10 | skip)
      replace p808 := eq_true p808
      replace q808 := eq_true q808
      go_wp2_with (first | ((with_reducible refine gate_dst (N := 6) rfl ?_); refine box_event rfl (N := 6) rfl (cs := #[.int .i64 0, .int .i64 0, .float .f64 0, .string (⟨#[]⟩ : ByteArray), .int .i64 0, .int .i64 0, .int .i64 0, .float .f64 0, .string (⟨#[]⟩ : ByteArray), .int .i64 0, .int .i64 0]) (t := 61) (by first | (go_simp; done) | (go_simp; rfl)) ?_; intro gb809 hg w12 hbox hb; have BK809 := Aside0.mk (hbox); have GW809 := (gws hg (hbe2 HB.out GE806.out GE807.out) : Aside0 (w.heap.size ≤ gb809)); have GE809 := (gws hg (hbe2 HB.out GE806.out GE807.out) : Aside0 (w.heap.size ≤ gb809)); replace HB := hbs2 HB.out GE806.out GE807.out hb; have NB806_809 := nlt hg BK806.out; have NB809_806 := ngt hg BK806.out; replace BK806 := bku BK806.out hb; have NB807_809 := nlt hg BK807.out; have NB809_807 := ngt hg BK807.out; replace BK807 := bku BK807.out hb; clear hb hbox hg; have hnb13 := NB809_806.out; have hnc13 := NB806_809.out; have hnb14 := NB809_807.out; have hnc14 := NB807_809.out; obtain ⟨hcz15_0, hcz15_1, hcz15_2, hcz15_3, hcz15_4, hcz15_5, hcz15_6, hcz15_7, hcz15_8, hcz15_9, hcz15_10, hfz15_0, hfz15_1, hfz15_2, hfz15_3, hfz15_4, hfz15_5, hfz15_6, hfz15_7, hfz15_8, hfz15_9, hfz15_10⟩ := cells11 BK809.out; have hnb16 := NB807_806.out; have hnc16 := NB806_807.out; obtain ⟨hcz17_0, hcz17_1, hcz17_2, hcz17_3, hcz17_4, hfz17_0, hfz17_1, hfz17_2, hfz17_3, hfz17_4⟩ := cells5 BK807.out) | ((with_reducible refine gate_callee (f := 35) rfl ?_); refine goesS (some 18) rfl Try.func35 #[.agg #[.int .i64 ((rd_T61 l0_0 x10_1).f0.f0), .int .i64 ((rd_T61 l0_0 x10_1).f0.f1), .float .f64 ((rd_T61 l0_0 x10_1).f0.f2), .string ((rd_T61 l0_0 x10_1).f0.f3), .int .i64 ((rd_T61 l0_0 x10_1).f0.f4)], .agg #[.int .i64 a1_0, .int .i64 a1_1, .float .f64 a1_2, .string a1_3, .int .i64 a1_4]] rfl ?_; (with_reducible refine (impl_Same.calls k1 ((rd_T61 l0_0 x10_1).f0.f0) ((rd_T61 l0_0 x10_1).f0.f1) ((rd_T61 l0_0 x10_1).f0.f2) ((rd_T61 l0_0 x10_1).f0.f3) ((rd_T61 l0_0 x10_1).f0.f4) a1_0 a1_1 a1_2 a1_3 a1_4 true _ A10.out).mono ?_); rintro e w18 ⟨rfl, hb⟩; refine ⟨_, rfl, ?_⟩; replace BK806 := Aside0.mk (blk_below (g := gb806) (o := .cells #[.slice (some ad808) l0_0.length c0_0, .int .i64 a0_1] 56 (0, 0)) (by (with_reducible repeat (first | refine blk_drewN ?_ _ | refine blk_drew ?_ | refine blk_alloc ?_ _)); refine blk_far ?_ NB806_809.out _; (with_reducible repeat (first | refine blk_drewN ?_ _ | refine blk_drew ?_ | refine blk_alloc ?_ _)); refine blk_far ?_ NB806_809.out _; (with_reducible repeat (first | refine blk_drewN ?_ _ | refine blk_drew ?_ | refine blk_alloc ?_ _)); refine blk_far ?_ NB806_809.out _; (with_reducible repeat (first | refine blk_drewN ?_ _ | refine blk_drew ?_ | refine blk_alloc ?_ _)); refine blk_far ?_ NB806_809.out _; (with_reducible repeat (first | refine blk_drewN ?_ _ | refine blk_drew ?_ | refine blk_alloc ?_ _)); refine blk_far ?_ NB806_809.out _; (with_reducible repeat (first | refine blk_drewN ?_ _ | refine blk_drew ?_ | refine blk_alloc ?_ _)); refine blk_far ?_ NB806_809.out _; (with_reducible repeat (first | refine blk_drewN ?_ _ | refine blk_drew ?_ | refine blk_alloc ?_ _)); refine blk_far ?_ NB806_809.out _; (with_reducible repeat (first | refine blk_drewN ?_ _ | refine blk_drew ?_ | refine blk_alloc ?_ _)); refine blk_far ?_ NB806_809.out _; (with_reducible repeat (first | refine blk_drewN ?_ _ | refine blk_drew ?_ | refine blk_alloc ?_ _)); refine blk_far ?_ NB806_809.out _; (with_reducible repeat (first | refine blk_drewN ?_ _ | refine blk_drew ?_ | refine blk_alloc ?_ _)); refine blk_far ?_ NB806_809.out _; (with_reducible repeat (first | refine blk_drewN ?_ _ | refine blk_drew ?_ | refine blk_alloc ?_ _)); refine blk_far ?_ NB806_809.out _; (with_reducible repeat (first | refine blk_drewN ?_ _ | refine blk_drew ?_ | refine blk_alloc ?_ _)); exact BK806.out) hb); replace BK807 := Aside0.mk (blk_below (g := gb807) (o := .cells #[.int .i64 a1_0, .int .i64 a1_1, .float .f64 a1_2, .string a1_3, .int .i64 a1_4] 28 (0, 0)) (by (with_reducible repeat (first | refine blk_drewN ?_ _ | refine blk_drew ?_ | refine blk_alloc ?_ _)); refine blk_far ?_ NB807_809.out _; (with_reducible repeat (first | refine blk_drewN ?_ _ | refine blk_drew ?_ | refine blk_alloc ?_ _)); refine blk_far ?_ NB807_809.out _; (with_reducible repeat (first | refine blk_drewN ?_ _ | refine blk_drew ?_ | refine blk_alloc ?_ _)); refine blk_far ?_ NB807_809.out _; (with_reducible repeat (first | refine blk_drewN ?_ _ | refine blk_drew ?_ | refine blk_alloc ?_ _)); refine blk_far ?_ NB807_809.out _; (with_reducible repeat (first | refine blk_drewN ?_ _ | refine blk_drew ?_ | refine blk_alloc ?_ _)); refine blk_far ?_ NB807_809.out _; (with_reducible repeat (first | refine blk_drewN ?_ _ | refine blk_drew ?_ | refine blk_alloc ?_ _)); refine blk_far ?_ NB807_809.out _; (with_reducible repeat (first | refine blk_drewN ?_ _ | refine blk_drew ?_ | refine blk_alloc ?_ _)); refine blk_far ?_ NB807_809.out _; (with_reducible repeat (first | refine blk_drewN ?_ _ | refine blk_drew ?_ | refine blk_alloc ?_ _)); refine blk_far ?_ NB807_809.out _; (with_reducible repeat (first | refine blk_drewN ?_ _ | refine blk_drew ?_ | refine blk_alloc ?_ _)); refine blk_far ?_ NB807_809.out _; (with_reducible repeat (first | refine blk_drewN ?_ _ | refine blk_drew ?_ | refine blk_alloc ?_ _)); refine blk_far ?_ NB807_809.out _; (with_reducible repeat (first | refine blk_drewN ?_ _ | refine blk_drew ?_ | refine blk_alloc ?_ _)); refine blk_far ?_ NB807_809.out _; (with_reducible repeat (first | refine blk_drewN ?_ _ | refine blk_drew ?_ | refine blk_alloc ?_ _)); exact BK807.out) hb); replace BK809 := Aside0.mk (blk_below (g := gb809) (o := .cells #[.int .i64 ((rd_T61 l0_0 x10_1).f0.f0), .int .i64 ((rd_T61 l0_0 x10_1).f0.f1), .float .f64 ((rd_T61 l0_0 x10_1).f0.f2), .string ((rd_T61 l0_0 x10_1).f0.f3), .int .i64 ((rd_T61 l0_0 x10_1).f0.f4), .int .i64 ((rd_T61 l0_0 x10_1).f1.f0), .int .i64 ((rd_T61 l0_0 x10_1).f1.f1), .float .f64 ((rd_T61 l0_0 x10_1).f1.f2), .string ((rd_T61 l0_0 x10_1).f1.f3), .int .i64 ((rd_T61 l0_0 x10_1).f1.f4), .int .i64 ((rd_T61 l0_0 x10_1).f2)] 61 (0, 0)) (by (with_reducible repeat (first | refine blk_drewN ?_ _ | refine blk_drew ?_ | refine blk_alloc ?_ _)); refine blk_put (cs := #[.int .i64 ((rd_T61 l0_0 x10_1).f0.f0), .int .i64 ((rd_T61 l0_0 x10_1).f0.f1), .float .f64 ((rd_T61 l0_0 x10_1).f0.f2), .string ((rd_T61 l0_0 x10_1).f0.f3), .int .i64 ((rd_T61 l0_0 x10_1).f0.f4), .int .i64 ((rd_T61 l0_0 x10_1).f1.f0), .int .i64 ((rd_T61 l0_0 x10_1).f1.f1), .float .f64 ((rd_T61 l0_0 x10_1).f1.f2), .string ((rd_T61 l0_0 x10_1).f1.f3), .int .i64 ((rd_T61 l0_0 x10_1).f1.f4), .int .i64 0]) ?_ 10 _ rfl; (with_reducible repeat (first | refine blk_drewN ?_ _ | refine blk_drew ?_ | refine blk_alloc ?_ _)); refine blk_put (cs := #[.int .i64 ((rd_T61 l0_0 x10_1).f0.f0), .int .i64 ((rd_T61 l0_0 x10_1).f0.f1), .float .f64 ((rd_T61 l0_0 x10_1).f0.f2), .string ((rd_T61 l0_0 x10_1).f0.f3), .int .i64 ((rd_T61 l0_0 x10_1).f0.f4), .int .i64 ((rd_T61 l0_0 x10_1).f1.f0), .int .i64 ((rd_T61 l0_0 x10_1).f1.f1), .float .f64 ((rd_T61 l0_0 x10_1).f1.f2), .string ((rd_T61 l0_0 x10_1).f1.f3), .int .i64 0, .int .i64 0]) ?_ 9 _ rfl; (with_reducible repeat (first | refine blk_drewN ?_ _ | refine blk_drew ?_ | refine blk_alloc ?_ _)); refine blk_put (cs := #[.int .i64 ((rd_T61 l0_0 x10_1).f0.f0), .int .i64 ((rd_T61 l0_0 x10_1).f0.f1), .float .f64 ((rd_T61 l0_0 x10_1).f0.f2), .string ((rd_T61 l0_0 x10_1).f0.f3), .int .i64 ((rd_T61 l0_0 x10_1).f0.f4), .int .i64 ((rd_T61 l0_0 x10_1).f1.f0), .int .i64 ((rd_T61 l0_0 x10_1).f1.f1), .float .f64 ((rd_T61 l0_0 x10_1).f1.f2), .string (⟨#[]⟩ : ByteArray), .int .i64 0, .int .i64 0]) ?_ 8 _ rfl; (with_reducible repeat (first | refine blk_drewN ?_ _ | refine blk_drew ?_ | refine blk_alloc ?_ _)); refine blk_put (cs := #[.int .i64 ((rd_T61 l0_0 x10_1).f0.f0), .int .i64 ((rd_T61 l0_0 x10_1).f0.f1), .float .f64 ((rd_T61 l0_0 x10_1).f0.f2), .string ((rd_T61 l0_0 x10_1).f0.f3), .int .i64 ((rd_T61 l0_0 x10_1).f0.f4), .int .i64 ((rd_T61 l0_0 x10_1).f1.f0), .int .i64 ((rd_T61 l0_0 x10_1).f1.f1), .float .f64 0, .string (⟨#[]⟩ : ByteArray), .int .i64 0, .int .i64 0]) ?_ 7 _ rfl; (with_reducible repeat (first | refine blk_drewN ?_ _ | refine blk_drew ?_ | refine blk_alloc ?_ _)); refine blk_put (cs := #[.int .i64 ((rd_T61 l0_0 x10_1).f0.f0), .int .i64 ((rd_T61 l0_0 x10_1).f0.f1), .float .f64 ((rd_T61 l0_0 x10_1).f0.f2), .string ((rd_T61 l0_0 x10_1).f0.f3), .int .i64 ((rd_T61 l0_0 x10_1).f0.f4), .int .i64 ((rd_T61 l0_0 x10_1).f1.f0), .int .i64 0, .float .f64 0, .string (⟨#[]⟩ : ByteArray), .int .i64 0, .int .i64 0]) ?_ 6 _ rfl; (with_reducible repeat (first | refine blk_drewN ?_ _ | refine blk_drew ?_ | refine blk_alloc ?_ _)); refine blk_put (cs := #[.int .i64 ((rd_T61 l0_0 x10_1).f0.f0), .int .i64 ((rd_T61 l0_0 x10_1).f0.f1), .float .f64 ((rd_T61 l0_0 x10_1).f0.f2), .string ((rd_T61 l0_0 x10_1).f0.f3), .int .i64 ((rd_T61 l0_0 x10_1).f0.f4), .int .i64 0, .int .i64 0, .float .f64 0, .string (⟨#[]⟩ : ByteArray), .int .i64 0, .int .i64 0]) ?_ 5 _ rfl; (with_reducible repeat (first | refine blk_drewN ?_ _ | refine blk_drew ?_ | refine blk_alloc ?_ _)); refine blk_put (cs := #[.int .i64 ((rd_T61 l0_0 x10_1).f0.f0), .int .i64 ((rd_T61 l0_0 x10_1).f0.f1), .float .f64 ((rd_T61 l0_0 x10_1).f0.f2), .string ((rd_T61 l0_0 x10_1).f0.f3), .int .i64 0, .int .i64 0, .int .i64 0, .float .f64 0, .string (⟨#[]⟩ : ByteArray), .int .i64 0, .int .i64 0]) ?_ 4 _ rfl; (with_reducible repeat (first | refine blk_drewN ?_ _ | refine blk_drew ?_ | refine blk_alloc ?_ _)); refine blk_put (cs := #[.int .i64 ((rd_T61 l0_0 x10_1).f0.f0), .int .i64 ((rd_T61 l0_0 x10_1).f0.f1), .float .f64 ((rd_T61 l0_0 x10_1).f0.f2), .string (⟨#[]⟩ : ByteArray), .int .i64 0, .int .i64 0, .int .i64 0, .float .f64 0, .string (⟨#[]⟩ : ByteArray), .int .i64 0, .int .i64 0]) ?_ 3 _ rfl; (with_reducible repeat (first | refine blk_drewN ?_ _ | refine blk_drew ?_ | refine blk_alloc ?_ _)); refine blk_put (cs := #[.int .i64 ((rd_T61 l0_0 x10_1).f0.f0), .int .i64 ((rd_T61 l0_0 x10_1).f0.f1), .float .f64 0, .string (⟨#[]⟩ : ByteArray), .int .i64 0, .int .i64 0, .int .i64 0, .float .f64 0, .string (⟨#[]⟩ : ByteArray), .int .i64 0, .int .i64 0]) ?_ 2 _ rfl; (with_reducible repeat (first | refine blk_drewN ?_ _ | refine blk_drew ?_ | refine blk_alloc ?_ _)); refine blk_put (cs := #[.int .i64 ((rd_T61 l0_0 x10_1).f0.f0), .int .i64 0, .float .f64 0, .string (⟨#[]⟩ : ByteArray), .int .i64 0, .int .i64 0, .int .i64 0, .float .f64 0, .string (⟨#[]⟩ : ByteArray), .int .i64 0, .int .i64 0]) ?_ 1 _ rfl; (with_reducible repeat (first | refine blk_drewN ?_ _ | refine blk_drew ?_ | refine blk_alloc ?_ _)); refine blk_put (cs := #[.int .i64 0, .int .i64 0, .float .f64 0, .string (⟨#[]⟩ : ByteArray), .int .i64 0, .int .i64 0, .int .i64 0, .float .f64 0, .string (⟨#[]⟩ : ByteArray), .int .i64 0, .int .i64 0]) ?_ 0 _ rfl; (with_reducible repeat (first | refine blk_drewN ?_ _ | refine blk_drew ?_ | refine blk_alloc ?_ _)); exact BK809.out) hb); replace HB := hbs3 HB.out GE806.out GE807.out GE809.out hb; (try clear hb); (try clear hb2); (try clear hk); (try clear hi)))
      go_ret
      exact ⟨by first | rfl | (simp <;> rfl) | (simp [*] <;> rfl), hbe3 HB.out GE806.out GE807.out GE809.out⟩
    replace c11 := Bool.eq_false_iff.mpr c11
    subst c11
    have H1 : (impl_place.l0 k1 l0_0 (l0_0.length : Int) (wrap64 (x10_1 + 1)) a1_0 a1_1 a1_2 a1_3 a1_4) = some r := by rw [if_neg (show ¬ (false = true) by decide)] at H; exact H
    clear H
    have H := H1
    clear H1
    have H' := Aside0.mk H
    clear H
    have p808 : 0 ≤ (x10_1 : Int) := of_decide_eq_true (by first | (with_reducible assumption) | assumption)
    have q808 : x10_1 < (l0_0.length : Int) := of_decide_eq_true (by first | (with_reducible assumption) | assumption)
    obtain ⟨ad808, e808, hx808_0, hx808_1, hx808_2, hx808_3, hx808_4, hx808_5, hx808_6, hx808_7, hx808_8, hx808_9, hx808_10⟩ := at_T61 HR0_0.out x10_1 p808 q808
    cases e808
    (first | replace hx808_0 := (HB.out.cell (World.block_lt_of_cell? w _ hx808_0)).trans hx808_0 | skip)
    (first | replace hx808_1 := (HB.out.cell (World.block_lt_of_cell? w _ hx808_1)).trans hx808_1 | skip)
    (first | replace hx808_2 := (HB.out.cell (World.block_lt_of_cell? w _ hx808_2)).trans hx808_2 | skip)
    (first | replace hx808_3 := (HB.out.cell (World.block_lt_of_cell? w _ hx808_3)).trans hx808_3 | skip)
    (first | replace hx808_4 := (HB.out.cell (World.block_lt_of_cell? w _ hx808_4)).trans hx808_4 | skip)
    (first | replace hx808_5 := (HB.out.cell (World.block_lt_of_cell? w _ hx808_5)).trans hx808_5 | skip)
    (first | replace hx808_6 := (HB.out.cell (World.block_lt_of_cell? w _ hx808_6)).trans hx808_6 | skip)
    (first | replace hx808_7 := (HB.out.cell (World.block_lt_of_cell? w _ hx808_7)).trans hx808_7 | skip)
    (first | replace hx808_8 := (HB.out.cell (World.block_lt_of_cell? w _ hx808_8)).trans hx808_8 | skip)
    (first | replace hx808_9 := (HB.out.cell (World.block_lt_of_cell? w _ hx808_9)).trans hx808_9 | skip)
    (first | replace hx808_10 := (HB.out.cell (World.block_lt_of_cell? w _ hx808_10)).trans hx808_10 | skip)
    replace p808 := eq_true p808
    replace q808 := eq_true q808
    go_wp2_with (first | ((with_reducible refine gate_dst (N := 6) rfl ?_); refine box_event rfl (N := 6) rfl (cs := #[.int .i64 0, .int .i64 0, .float .f64 0, .string (⟨#[]⟩ : ByteArray), .int .i64 0, .int .i64 0, .int .i64 0, .float .f64 0, .string (⟨#[]⟩ : ByteArray), .int .i64 0, .int .i64 0]) (t := 61) (by first | (go_simp; done) | (go_simp; rfl)) ?_; intro gb809 hg w19 hbox hb; have BK809 := Aside0.mk (hbox); have GW809 := (gws hg (hbe2 HB.out GE806.out GE807.out) : Aside0 (w.heap.size ≤ gb809)); have GE809 := (gws hg (hbe2 HB.out GE806.out GE807.out) : Aside0 (w.heap.size ≤ gb809)); replace HB := hbs2 HB.out GE806.out GE807.out hb; have NB806_809 := nlt hg BK806.out; have NB809_806 := ngt hg BK806.out; replace BK806 := bku BK806.out hb; have NB807_809 := nlt hg BK807.out; have NB809_807 := ngt hg BK807.out; replace BK807 := bku BK807.out hb; clear hb hbox hg; have hnb20 := NB809_806.out; have hnc20 := NB806_809.out; have hnb21 := NB809_807.out; have hnc21 := NB807_809.out; obtain ⟨hcz22_0, hcz22_1, hcz22_2, hcz22_3, hcz22_4, hcz22_5, hcz22_6, hcz22_7, hcz22_8, hcz22_9, hcz22_10, hfz22_0, hfz22_1, hfz22_2, hfz22_3, hfz22_4, hfz22_5, hfz22_6, hfz22_7, hfz22_8, hfz22_9, hfz22_10⟩ := cells11 BK809.out; have hnb23 := NB807_806.out; have hnc23 := NB806_807.out; obtain ⟨hcz24_0, hcz24_1, hcz24_2, hcz24_3, hcz24_4, hfz24_0, hfz24_1, hfz24_2, hfz24_3, hfz24_4⟩ := cells5 BK807.out) | ((with_reducible refine gate_callee (f := 35) rfl ?_); refine goesS (some 18) rfl Try.func35 #[.agg #[.int .i64 ((rd_T61 l0_0 x10_1).f0.f0), .int .i64 ((rd_T61 l0_0 x10_1).f0.f1), .float .f64 ((rd_T61 l0_0 x10_1).f0.f2), .string ((rd_T61 l0_0 x10_1).f0.f3), .int .i64 ((rd_T61 l0_0 x10_1).f0.f4)], .agg #[.int .i64 a1_0, .int .i64 a1_1, .float .f64 a1_2, .string a1_3, .int .i64 a1_4]] rfl ?_; (with_reducible refine (impl_Same.calls k1 ((rd_T61 l0_0 x10_1).f0.f0) ((rd_T61 l0_0 x10_1).f0.f1) ((rd_T61 l0_0 x10_1).f0.f2) ((rd_T61 l0_0 x10_1).f0.f3) ((rd_T61 l0_0 x10_1).f0.f4) a1_0 a1_1 a1_2 a1_3 a1_4 false _ A10.out).mono ?_); rintro e w25 ⟨rfl, hb⟩; refine ⟨_, rfl, ?_⟩; replace BK806 := Aside0.mk (blk_below (g := gb806) (o := .cells #[.slice (some ad808) l0_0.length c0_0, .int .i64 a0_1] 56 (0, 0)) (by (with_reducible repeat (first | refine blk_drewN ?_ _ | refine blk_drew ?_ | refine blk_alloc ?_ _)); refine blk_far ?_ NB806_809.out _; (with_reducible repeat (first | refine blk_drewN ?_ _ | refine blk_drew ?_ | refine blk_alloc ?_ _)); refine blk_far ?_ NB806_809.out _; (with_reducible repeat (first | refine blk_drewN ?_ _ | refine blk_drew ?_ | refine blk_alloc ?_ _)); refine blk_far ?_ NB806_809.out _; (with_reducible repeat (first | refine blk_drewN ?_ _ | refine blk_drew ?_ | refine blk_alloc ?_ _)); refine blk_far ?_ NB806_809.out _; (with_reducible repeat (first | refine blk_drewN ?_ _ | refine blk_drew ?_ | refine blk_alloc ?_ _)); refine blk_far ?_ NB806_809.out _; (with_reducible repeat (first | refine blk_drewN ?_ _ | refine blk_drew ?_ | refine blk_alloc ?_ _)); refine blk_far ?_ NB806_809.out _; (with_reducible repeat (first | refine blk_drewN ?_ _ | refine blk_drew ?_ | refine blk_alloc ?_ _)); refine blk_far ?_ NB806_809.out _; (with_reducible repeat (first | refine blk_drewN ?_ _ | refine blk_drew ?_ | refine blk_alloc ?_ _)); refine blk_far ?_ NB806_809.out _; (with_reducible repeat (first | refine blk_drewN ?_ _ | refine blk_drew ?_ | refine blk_alloc ?_ _)); refine blk_far ?_ NB806_809.out _; (with_reducible repeat (first | refine blk_drewN ?_ _ | refine blk_drew ?_ | refine blk_alloc ?_ _)); refine blk_far ?_ NB806_809.out _; (with_reducible repeat (first | refine blk_drewN ?_ _ | refine blk_drew ?_ | refine blk_alloc ?_ _)); refine blk_far ?_ NB806_809.out _; (with_reducible repeat (first | refine blk_drewN ?_ _ | refine blk_drew ?_ | refine blk_alloc ?_ _)); exact BK806.out) hb); replace BK807 := Aside0.mk (blk_below (g := gb807) (o := .cells #[.int .i64 a1_0, .int .i64 a1_1, .float .f64 a1_2, .string a1_3, .int .i64 a1_4] 28 (0, 0)) (by (with_reducible repeat (first | refine blk_drewN ?_ _ | refine blk_drew ?_ | refine blk_alloc ?_ _)); refine blk_far ?_ NB807_809.out _; (with_reducible repeat (first | refine blk_drewN ?_ _ | refine blk_drew ?_ | refine blk_alloc ?_ _)); refine blk_far ?_ NB807_809.out _; (with_reducible repeat (first | refine blk_drewN ?_ _ | refine blk_drew ?_ | refine blk_alloc ?_ _)); refine blk_far ?_ NB807_809.out _; (with_reducible repeat (first | refine blk_drewN ?_ _ | refine blk_drew ?_ | refine blk_alloc ?_ _)); refine blk_far ?_ NB807_809.out _; (with_reducible repeat (first | refine blk_drewN ?_ _ | refine blk_drew ?_ | refine blk_alloc ?_ _)); refine blk_far ?_ NB807_809.out _; (with_reducible repeat (first | refine blk_drewN ?_ _ | refine blk_drew ?_ | refine blk_alloc ?_ _)); refine blk_far ?_ NB807_809.out _; (with_reducible repeat (first | refine blk_drewN ?_ _ | refine blk_drew ?_ | refine blk_alloc ?_ _)); refine blk_far ?_ NB807_809.out _; (with_reducible repeat (first | refine blk_drewN ?_ _ | refine blk_drew ?_ | refine blk_alloc ?_ _)); refine blk_far ?_ NB807_809.out _; (with_reducible repeat (first | refine blk_drewN ?_ _ | refine blk_drew ?_ | refine blk_alloc ?_ _)); refine blk_far ?_ NB807_809.out _; (with_reducible repeat (first | refine blk_drewN ?_ _ | refine blk_drew ?_ | refine blk_alloc ?_ _)); refine blk_far ?_ NB807_809.out _; (with_reducible repeat (first | refine blk_drewN ?_ _ | refine blk_drew ?_ | refine blk_alloc ?_ _)); refine blk_far ?_ NB807_809.out _; (with_reducible repeat (first | refine blk_drewN ?_ _ | refine blk_drew ?_ | refine blk_alloc ?_ _)); exact BK807.out) hb); replace BK809 := Aside0.mk (blk_below (g := gb809) (o := .cells #[.int .i64 ((rd_T61 l0_0 x10_1).f0.f0), .int .i64 ((rd_T61 l0_0 x10_1).f0.f1), .float .f64 ((rd_T61 l0_0 x10_1).f0.f2), .string ((rd_T61 l0_0 x10_1).f0.f3), .int .i64 ((rd_T61 l0_0 x10_1).f0.f4), .int .i64 ((rd_T61 l0_0 x10_1).f1.f0), .int .i64 ((rd_T61 l0_0 x10_1).f1.f1), .float .f64 ((rd_T61 l0_0 x10_1).f1.f2), .string ((rd_T61 l0_0 x10_1).f1.f3), .int .i64 ((rd_T61 l0_0 x10_1).f1.f4), .int .i64 ((rd_T61 l0_0 x10_1).f2)] 61 (0, 0)) (by (with_reducible repeat (first | refine blk_drewN ?_ _ | refine blk_drew ?_ | refine blk_alloc ?_ _)); refine blk_put (cs := #[.int .i64 ((rd_T61 l0_0 x10_1).f0.f0), .int .i64 ((rd_T61 l0_0 x10_1).f0.f1), .float .f64 ((rd_T61 l0_0 x10_1).f0.f2), .string ((rd_T61 l0_0 x10_1).f0.f3), .int .i64 ((rd_T61 l0_0 x10_1).f0.f4), .int .i64 ((rd_T61 l0_0 x10_1).f1.f0), .int .i64 ((rd_T61 l0_0 x10_1).f1.f1), .float .f64 ((rd_T61 l0_0 x10_1).f1.f2), .string ((rd_T61 l0_0 x10_1).f1.f3), .int .i64 ((rd_T61 l0_0 x10_1).f1.f4), .int .i64 0]) ?_ 10 _ rfl; (with_reducible repeat (first | refine blk_drewN ?_ _ | refine blk_drew ?_ | refine blk_alloc ?_ _)); refine blk_put (cs := #[.int .i64 ((rd_T61 l0_0 x10_1).f0.f0), .int .i64 ((rd_T61 l0_0 x10_1).f0.f1), .float .f64 ((rd_T61 l0_0 x10_1).f0.f2), .string ((rd_T61 l0_0 x10_1).f0.f3), .int .i64 ((rd_T61 l0_0 x10_1).f0.f4), .int .i64 ((rd_T61 l0_0 x10_1).f1.f0), .int .i64 ((rd_T61 l0_0 x10_1).f1.f1), .float .f64 ((rd_T61 l0_0 x10_1).f1.f2), .string ((rd_T61 l0_0 x10_1).f1.f3), .int .i64 0, .int .i64 0]) ?_ 9 _ rfl; (with_reducible repeat (first | refine blk_drewN ?_ _ | refine blk_drew ?_ | refine blk_alloc ?_ _)); refine blk_put (cs := #[.int .i64 ((rd_T61 l0_0 x10_1).f0.f0), .int .i64 ((rd_T61 l0_0 x10_1).f0.f1), .float .f64 ((rd_T61 l0_0 x10_1).f0.f2), .string ((rd_T61 l0_0 x10_1).f0.f3), .int .i64 ((rd_T61 l0_0 x10_1).f0.f4), .int .i64 ((rd_T61 l0_0 x10_1).f1.f0), .int .i64 ((rd_T61 l0_0 x10_1).f1.f1), .float .f64 ((rd_T61 l0_0 x10_1).f1.f2), .string (⟨#[]⟩ : ByteArray), .int .i64 0, .int .i64 0]) ?_ 8 _ rfl; (with_reducible repeat (first | refine blk_drewN ?_ _ | refine blk_drew ?_ | refine blk_alloc ?_ _)); refine blk_put (cs := #[.int .i64 ((rd_T61 l0_0 x10_1).f0.f0), .int .i64 ((rd_T61 l0_0 x10_1).f0.f1), .float .f64 ((rd_T61 l0_0 x10_1).f0.f2), .string ((rd_T61 l0_0 x10_1).f0.f3), .int .i64 ((rd_T61 l0_0 x10_1).f0.f4), .int .i64 ((rd_T61 l0_0 x10_1).f1.f0), .int .i64 ((rd_T61 l0_0 x10_1).f1.f1), .float .f64 0, .string (⟨#[]⟩ : ByteArray), .int .i64 0, .int .i64 0]) ?_ 7 _ rfl; (with_reducible repeat (first | refine blk_drewN ?_ _ | refine blk_drew ?_ | refine blk_alloc ?_ _)); refine blk_put (cs := #[.int .i64 ((rd_T61 l0_0 x10_1).f0.f0), .int .i64 ((rd_T61 l0_0 x10_1).f0.f1), .float .f64 ((rd_T61 l0_0 x10_1).f0.f2), .string ((rd_T61 l0_0 x10_1).f0.f3), .int .i64 ((rd_T61 l0_0 x10_1).f0.f4), .int .i64 ((rd_T61 l0_0 x10_1).f1.f0), .int .i64 0, .float .f64 0, .string (⟨#[]⟩ : ByteArray), .int .i64 0, .int .i64 0]) ?_ 6 _ rfl; (with_reducible repeat (first | refine blk_drewN ?_ _ | refine blk_drew ?_ | refine blk_alloc ?_ _)); refine blk_put (cs := #[.int .i64 ((rd_T61 l0_0 x10_1).f0.f0), .int .i64 ((rd_T61 l0_0 x10_1).f0.f1), .float .f64 ((rd_T61 l0_0 x10_1).f0.f2), .string ((rd_T61 l0_0 x10_1).f0.f3), .int .i64 ((rd_T61 l0_0 x10_1).f0.f4), .int .i64 0, .int .i64 0, .float .f64 0, .string (⟨#[]⟩ : ByteArray), .int .i64 0, .int .i64 0]) ?_ 5 _ rfl; (with_reducible repeat (first | refine blk_drewN ?_ _ | refine blk_drew ?_ | refine blk_alloc ?_ _)); refine blk_put (cs := #[.int .i64 ((rd_T61 l0_0 x10_1).f0.f0), .int .i64 ((rd_T61 l0_0 x10_1).f0.f1), .float .f64 ((rd_T61 l0_0 x10_1).f0.f2), .string ((rd_T61 l0_0 x10_1).f0.f3), .int .i64 0, .int .i64 0, .int .i64 0, .float .f64 0, .string (⟨#[]⟩ : ByteArray), .int .i64 0, .int .i64 0]) ?_ 4 _ rfl; (with_reducible repeat (first | refine blk_drewN ?_ _ | refine blk_drew ?_ | refine blk_alloc ?_ _)); refine blk_put (cs := #[.int .i64 ((rd_T61 l0_0 x10_1).f0.f0), .int .i64 ((rd_T61 l0_0 x10_1).f0.f1), .float .f64 ((rd_T61 l0_0 x10_1).f0.f2), .string (⟨#[]⟩ : ByteArray), .int .i64 0, .int .i64 0, .int .i64 0, .float .f64 0, .string (⟨#[]⟩ : ByteArray), .int .i64 0, .int .i64 0]) ?_ 3 _ rfl; (with_reducible repeat (first | refine blk_drewN ?_ _ | refine blk_drew ?_ | refine blk_alloc ?_ _)); refine blk_put (cs := #[.int .i64 ((rd_T61 l0_0 x10_1).f0.f0), .int .i64 ((rd_T61 l0_0 x10_1).f0.f1), .float .f64 0, .string (⟨#[]⟩ : ByteArray), .int .i64 0, .int .i64 0, .int .i64 0, .float .f64 0, .string (⟨#[]⟩ : ByteArray), .int .i64 0, .int .i64 0]) ?_ 2 _ rfl; (with_reducible repeat (first | refine blk_drewN ?_ _ | refine blk_drew ?_ | refine blk_alloc ?_ _)); refine blk_put (cs := #[.int .i64 ((rd_T61 l0_0 x10_1).f0.f0), .int .i64 0, .float .f64 0, .string (⟨#[]⟩ : ByteArray), .int .i64 0, .int .i64 0, .int .i64 0, .float .f64 0, .string (⟨#[]⟩ : ByteArray), .int .i64 0, .int .i64 0]) ?_ 1 _ rfl; (with_reducible repeat (first | refine blk_drewN ?_ _ | refine blk_drew ?_ | refine blk_alloc ?_ _)); refine blk_put (cs := #[.int .i64 0, .int .i64 0, .float .f64 0, .string (⟨#[]⟩ : ByteArray), .int .i64 0, .int .i64 0, .int .i64 0, .float .f64 0, .string (⟨#[]⟩ : ByteArray), .int .i64 0, .int .i64 0]) ?_ 0 _ rfl; (with_reducible repeat (first | refine blk_drewN ?_ _ | refine blk_drew ?_ | refine blk_alloc ?_ _)); exact BK809.out) hb); replace HB := hbs3 HB.out GE806.out GE807.out GE809.out hb; (try clear hb); (try clear hb2); (try clear hk); (try clear hi)))
    go_roundg k1
    case measure => have := HK1.out; omega
    case rel => exact ⟨(wrap64 (x10_1 + 1)), (by first | rfl | (simp; done) | (simp [*]; done)), H', ⟨by have := HK1.out; omega⟩, ⟨by (with_reducible repeat (first | refine blk_drewN ?_ _ | refine blk_drew ?_ | refine blk_alloc ?_ _)); exact BK806.out⟩, ⟨by (with_reducible repeat (first | refine blk_drewN ?_ _ | refine blk_drew ?_ | refine blk_alloc ?_ _)); exact BK807.out⟩, ⟨by repeat (first | (with_reducible first | exact HB.out | apply below_alloc | apply pw_below_drewN | apply below_drew1 | refine below_set ?_ GE806.out | refine below_set ?_ GE807.out | refine below_set ?_ GE809.out) | exact HB.out)⟩⟩
end Go.Proofs.Ytdjlbfaiccdbfaa.PAll
