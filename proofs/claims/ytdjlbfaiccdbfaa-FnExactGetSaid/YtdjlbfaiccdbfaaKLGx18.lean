/- Cut down from the texts of the same job by wip/shake.py to what this claim reaches. -/
import Derived.Test.YtdjlbfaiccdbfaaKLGx0
import Derived.Test.YtdjlbfaiccdbfaaKLGx8
import Derived.Test.YtdjlbfaiccdbfaaKLGx17
namespace Go.Proofs.Ytdjlbfaiccdbfaa.PAll
open Go.RowKit Go.Proofs.YtdjlbfaiccdbfaaW.PrintWords Go.Proofs.YtdjlbfaiccdbfaaW.PrintLast Go.Proofs.YtdjlbfaiccdbfaaW.PrintMore
attribute [local go_sem] max2_int min2_int max_two min_two max_three min_three max_four min_four   -- for this text's walks alone
set_option linter.unusedVariables false
set_option linter.unusedSimpArgs false
def laws_szPairS.l0 : Nat → List (S96) → Int → Int → Option (Int)
  | 0, _, _, _ => none
  | k + 1, x0, x1, x5 => if x5 < (x0.length : Int) then (if 0 ≤ x5 then ((laws_szPair.f ((rd_T96 x0 x5).f0.f0) ((rd_T96 x0 x5).f0.f1) ((rd_T96 x0 x5).f0.f2) ((rd_T96 x0 x5).f0.f3) ((rd_T96 x0 x5).f0.f4) ((rd_T96 x0 x5).f1.f0) ((rd_T96 x0 x5).f1.f1) ((rd_T96 x0 x5).f1.f2) ((rd_T96 x0 x5).f1.f3) ((rd_T96 x0 x5).f1.f4) ((rd_T96 x0 x5).f2) x1).bind fun t614 => (if t614 < 0 then (some (-1)) else (laws_szPairS.l0 k x0 t614 (wrap64 (x5 + 1))))) else (none)) else (some x1)
def laws_szPairS.f (k : Nat) (l0 : List (S96)) (a1 : Int) : Option (Int) := if (wrap64 (a1 - (l0.length : Int))) < 0 then (some (-1)) else (laws_szPairS.l0 k l0 (wrap64 (a1 - (l0.length : Int))) 0)
set_option maxHeartbeats 8000000 in
set_option maxRecDepth 100000 in
theorem laws_szPairS.calls (k : Nat) (A0 : Option Addr) (c0 : Nat) (l0 : List (S96)) (a1 : Int) (r : Int) (w : World) (hr0 : Kd.C k96 w A0 l0.length l0) (hc0 : l0.length ≤ c0) (h : laws_szPairS.f k l0 a1 = some r) :
    Calls Try.prog 77 #[.slice A0 l0.length c0, .int .i64 a1] w fun e w' => e = .returned (.int .i64 r) ∧ Below w.heap.size w w' := by
  have hu96 := Try.underlying96
  have HR0 := Aside0.mk hr0
  have HC0 := Aside0.mk hc0
  clear hr0 hc0
  have HB := Aside0.mk (Below.refl w.heap.size w)
  have H : (if (wrap64 (a1 - (l0.length : Int))) < 0 then (some (-1)) else (laws_szPairS.l0 k l0 (wrap64 (a1 - (l0.length : Int))) 0)) = some r := h
  clear h
  by_cases c3 : (wrap64 (a1 - (l0.length : Int))) < 0
  · rw [if_pos c3] at H
    have c3b0 : decide ((wrap64 (a1 - (l0.length : Int))) < 0) = true := decide_eq_true c3
    clear c3
    obtain rfl := Option.some.inj H
    go_enter Try.func77, Try.ntmps77
    go_wp2
    go_ret
    exact ⟨by first | rfl | (simp <;> rfl) | (simp [*] <;> rfl), hbe HB.out⟩
  rw [if_neg c3] at H
  have c3b0 : decide ((wrap64 (a1 - (l0.length : Int))) < 0) = false := decide_eq_false c3
  clear c3
  have H' := Aside0.mk H
  clear H
  go_enter Try.func77, Try.ntmps77
  go_wp2
  go_loopg [1, 5] k (fun kq v1 v5 w' => ∃ (x1_1 : Int) (x5_1 : Int), v1 = .int .i64 x1_1 ∧ v5 = .int .i64 x5_1 ∧ Aside0 (laws_szPairS.l0 kq l0 x1_1 x5_1 = some r) ∧ Aside0 (kq ≤ k) ∧ Aside0 (Below w.heap.size w w'))
  case atStart => exact ⟨(wrap64 (a1 - (l0.length : Int))), (0), (by first | rfl | (simp; done) | (simp [*]; done)), (by first | rfl | (simp; done) | (simp [*]; done)), H', ⟨Nat.le_refl _⟩, ⟨by repeat (first | (with_reducible first | exact HB.out | apply below_alloc | apply pw_below_drewN | apply below_drew1) | exact HB.out)⟩⟩
  case round =>
    clear H'
    try clear p2
    try clear c3
    try clear c3b0
    obtain ⟨x1_1, x5_1, rfl, rfl, HA, HK1, HB⟩ := hrel
    rcases gk with _ | k1
    · exact absurd HA.out (by simp [laws_szPairS.l0])
    have H := HA.out
    clear HA
    simp only [laws_szPairS.l0] at H
    by_cases c4 : x5_1 < (l0.length : Int)
    focus
     rw [if_pos c4] at H
     have c4b0 : decide (x5_1 < (l0.length : Int)) = true := decide_eq_true c4
     clear c4
     by_cases c5 : 0 ≤ x5_1
     focus
      rw [if_pos c5] at H
      have c5b0 : decide (0 ≤ x5_1) = true := decide_eq_true c5
      clear c5
      replace H := Option.bind_eq_some_iff.mp H
      obtain ⟨t614, A60, H⟩ := H
      replace H : (if t614 < 0 then (some (-1)) else (laws_szPairS.l0 k1 l0 t614 (wrap64 (x5_1 + 1)))) = some r := H
      have A6 := Aside0.mk A60
      clear A60
      by_cases c7 : t614 < 0
      focus
       rw [if_pos c7] at H
       have c7b0 : decide (t614 < 0) = true := decide_eq_true c7
       clear c7
       obtain rfl := Option.some.inj H
       have p613 : 0 ≤ (x5_1 : Int) := of_decide_eq_true (by first | (with_reducible assumption) | assumption)
       have q613 : x5_1 < (l0.length : Int) := of_decide_eq_true (by first | (with_reducible assumption) | assumption)
       obtain ⟨ad613, e613, hx613_0, hx613_1, hx613_2, hx613_3, hx613_4, hx613_5, hx613_6, hx613_7, hx613_8, hx613_9, hx613_10⟩ := at_T96 HR0.out x5_1 p613 q613
       cases e613
       (first | replace hx613_0 := (HB.out.cell (World.block_lt_of_cell? w _ hx613_0)).trans hx613_0 | skip)
       (first | replace hx613_1 := (HB.out.cell (World.block_lt_of_cell? w _ hx613_1)).trans hx613_1 | skip)
       (first | replace hx613_2 := (HB.out.cell (World.block_lt_of_cell? w _ hx613_2)).trans hx613_2 | skip)
       (first | replace hx613_3 := (HB.out.cell (World.block_lt_of_cell? w _ hx613_3)).trans hx613_3 | skip)
       (first | replace hx613_4 := (HB.out.cell (World.block_lt_of_cell? w _ hx613_4)).trans hx613_4 | skip)
       (first | replace hx613_5 := (HB.out.cell (World.block_lt_of_cell? w _ hx613_5)).trans hx613_5 | skip)
       (first | replace hx613_6 := (HB.out.cell (World.block_lt_of_cell? w _ hx613_6)).trans hx613_6 | skip)
       (first | replace hx613_7 := (HB.out.cell (World.block_lt_of_cell? w _ hx613_7)).trans hx613_7 | skip)
       (first | replace hx613_8 := (HB.out.cell (World.block_lt_of_cell? w _ hx613_8)).trans hx613_8 | skip)
       (first | replace hx613_9 := (HB.out.cell (World.block_lt_of_cell? w _ hx613_9)).trans hx613_9 | skip)
       (first | replace hx613_10 := (HB.out.cell (World.block_lt_of_cell? w _ hx613_10)).trans hx613_10 | skip)
       replace p613 := eq_true p613
       replace q613 := eq_true q613
      rotate_left 1
      focus
       rw [if_neg c7] at H
       have c7b0 : decide (t614 < 0) = false := decide_eq_false c7
       clear c7
       have H' := Aside0.mk H
       clear H
       have p613 : 0 ≤ (x5_1 : Int) := of_decide_eq_true (by first | (with_reducible assumption) | assumption)
       have q613 : x5_1 < (l0.length : Int) := of_decide_eq_true (by first | (with_reducible assumption) | assumption)
       obtain ⟨ad613, e613, hx613_0, hx613_1, hx613_2, hx613_3, hx613_4, hx613_5, hx613_6, hx613_7, hx613_8, hx613_9, hx613_10⟩ := at_T96 HR0.out x5_1 p613 q613
       cases e613
       (first | replace hx613_0 := (HB.out.cell (World.block_lt_of_cell? w _ hx613_0)).trans hx613_0 | skip)
       (first | replace hx613_1 := (HB.out.cell (World.block_lt_of_cell? w _ hx613_1)).trans hx613_1 | skip)
       (first | replace hx613_2 := (HB.out.cell (World.block_lt_of_cell? w _ hx613_2)).trans hx613_2 | skip)
       (first | replace hx613_3 := (HB.out.cell (World.block_lt_of_cell? w _ hx613_3)).trans hx613_3 | skip)
       (first | replace hx613_4 := (HB.out.cell (World.block_lt_of_cell? w _ hx613_4)).trans hx613_4 | skip)
       (first | replace hx613_5 := (HB.out.cell (World.block_lt_of_cell? w _ hx613_5)).trans hx613_5 | skip)
       (first | replace hx613_6 := (HB.out.cell (World.block_lt_of_cell? w _ hx613_6)).trans hx613_6 | skip)
       (first | replace hx613_7 := (HB.out.cell (World.block_lt_of_cell? w _ hx613_7)).trans hx613_7 | skip)
       (first | replace hx613_8 := (HB.out.cell (World.block_lt_of_cell? w _ hx613_8)).trans hx613_8 | skip)
       (first | replace hx613_9 := (HB.out.cell (World.block_lt_of_cell? w _ hx613_9)).trans hx613_9 | skip)
       (first | replace hx613_10 := (HB.out.cell (World.block_lt_of_cell? w _ hx613_10)).trans hx613_10 | skip)
       replace p613 := eq_true p613
       replace q613 := eq_true q613
     rotate_left 2
     · rw [if_neg c5] at H
       exact absurd H (by simp)
    rotate_left 2
    · rw [if_neg c4] at H
      have c4b0 : decide (x5_1 < (l0.length : Int)) = false := decide_eq_false c4
      clear c4
      obtain rfl := Option.some.inj H
      go_wp2
      go_ret
      exact ⟨by first | rfl | (simp <;> rfl) | (simp [*] <;> rfl), hbe HB.out⟩
    all_goals
     go_wp2_with (first | ((with_reducible refine gate_callee (f := 95) rfl ?_); refine goesS (some 23) rfl Try.func95 #[.agg #[.int .i64 ((rd_T96 l0 x5_1).f0.f0), .int .i64 ((rd_T96 l0 x5_1).f0.f1), .float .f64 ((rd_T96 l0 x5_1).f0.f2), .string ((rd_T96 l0 x5_1).f0.f3), .int .i64 ((rd_T96 l0 x5_1).f0.f4), .int .i64 ((rd_T96 l0 x5_1).f1.f0), .int .i64 ((rd_T96 l0 x5_1).f1.f1), .float .f64 ((rd_T96 l0 x5_1).f1.f2), .string ((rd_T96 l0 x5_1).f1.f3), .int .i64 ((rd_T96 l0 x5_1).f1.f4), .int .i64 ((rd_T96 l0 x5_1).f2)], .int .i64 x1_1] rfl ?_; (with_reducible refine (laws_szPair.calls ((rd_T96 l0 x5_1).f0.f0) ((rd_T96 l0 x5_1).f0.f1) ((rd_T96 l0 x5_1).f0.f2) ((rd_T96 l0 x5_1).f0.f3) ((rd_T96 l0 x5_1).f0.f4) ((rd_T96 l0 x5_1).f1.f0) ((rd_T96 l0 x5_1).f1.f1) ((rd_T96 l0 x5_1).f1.f2) ((rd_T96 l0 x5_1).f1.f3) ((rd_T96 l0 x5_1).f1.f4) ((rd_T96 l0 x5_1).f2) x1_1 t614 _ A6.out).mono ?_); rintro e wz0_ ⟨rfl, hb⟩; refine ⟨_, rfl, ?_⟩; have nz1_ := hbs HB.out hb; clear HB; have HB := nz1_; clear nz1_; (try clear hb); (try clear hb2); (try clear hk); (try clear hi)))
    · go_roundg k1
      case measure => have := HK1.out; omega
      case rel => exact ⟨(t614), (wrap64 (x5_1 + 1)), (by first | rfl | (simp; done) | (simp [*]; done)), (by first | rfl | (simp; done) | (simp [*]; done)), H', ⟨by have := HK1.out; omega⟩, ⟨by repeat (first | (with_reducible first | exact HB.out | apply below_alloc | apply pw_below_drewN | apply below_drew1) | exact HB.out)⟩⟩
    · go_ret
      exact ⟨by first | rfl | (simp <;> rfl) | (simp [*] <;> rfl), hbe HB.out⟩
def laws_szTable.f (k : Nat) (l0_0 : List (S96)) (a0_1 : Int) (a1 : Int) : Option (Int) := (laws_szPairS.f k l0_0 a1).bind fun t616 => (if t616 < 0 then (some (-1)) else (some t616))
set_option maxHeartbeats 8000000 in
set_option maxRecDepth 100000 in
theorem laws_szTable.calls (k : Nat) (A0_0 : Option Addr) (c0_0 : Nat) (l0_0 : List (S96)) (a0_1 : Int) (a1 : Int) (r : Int) (w : World) (hr0_0 : Kd.C k96 w A0_0 l0_0.length l0_0) (hc0_0 : l0_0.length ≤ c0_0) (h : laws_szTable.f k l0_0 a0_1 a1 = some r) :
    Calls Try.prog 36 #[.agg #[.slice A0_0 l0_0.length c0_0, .int .i64 a0_1], .int .i64 a1] w fun e w' => e = .returned (.int .i64 r) ∧ Below w.heap.size w w' := by
  have hu51 := Try.underlying51
  have HR0_0 := Aside0.mk hr0_0
  have HC0_0 := Aside0.mk hc0_0
  clear hr0_0 hc0_0
  have HB := Aside0.mk (Below.refl w.heap.size w)
  have H : ((laws_szPairS.f k l0_0 a1).bind fun t616 => (if t616 < 0 then (some (-1)) else (some t616))) = some r := h
  clear h
  replace H := Option.bind_eq_some_iff.mp H
  obtain ⟨t616, A30, H⟩ := H
  replace H : (if t616 < 0 then (some (-1)) else (some t616)) = some r := H
  have A3 := Aside0.mk A30
  clear A30
  by_cases c4 : t616 < 0
  focus
   rw [if_pos c4] at H
   have c4b0 : decide (t616 < 0) = true := decide_eq_true c4
   clear c4
   obtain rfl := Option.some.inj H
  rotate_left 1
  focus
   rw [if_neg c4] at H
   have c4b0 : decide (t616 < 0) = false := decide_eq_false c4
   clear c4
   obtain rfl := Option.some.inj H
  all_goals
   go_enter Try.func36, Try.ntmps36
   go_wp2_with (first | ((with_reducible refine gate_dst (N := 2) rfl ?_); refine box_event rfl (N := 2) rfl (cs := #[.slice A0_0 l0_0.length c0_0, .int .i64 a0_1]) (t := 51) (by first | (go_simp; done) | (go_simp; rfl)) ?_; intro gbz0_ hg wz1_ hbox hb; have nz2_ := hbs HB.out hb; have nz3_ := Aside0.mk (hbox); have nz4_ := (gws hg (hbe HB.out) : Aside0 (w.heap.size ≤ gbz0_)); have nz5_ := (gws hg (hbe HB.out) : Aside0 (w.heap.size ≤ gbz0_)); clear HB; have HB := nz2_; have BKz6_ := nz3_; have GWz7_ := nz4_; have GEz8_ := nz5_; clear nz2_ nz3_ nz4_ nz5_; clear hb hbox hg; have hczz9_ : wz1_.cell? ⟨gbz0_, 0, none⟩ = some (.slice A0_0 l0_0.length c0_0) := (blk_cell BKz6_.out 0).trans rfl; have hczz10_ : wz1_.cell? ⟨gbz0_, 1, none⟩ = some (.int .i64 a0_1) := (blk_cell BKz6_.out 1).trans rfl; have hfzz11_ := blk_frozen BKz6_.out 0; have hfzz12_ := blk_frozen BKz6_.out 1) | ((with_reducible refine gate_callee (f := 77) rfl ?_); refine goesS (some 8) rfl Try.func77 #[.slice A0_0 l0_0.length c0_0, .int .i64 a1] rfl ?_; (with_reducible refine (laws_szPairS.calls k _ _ l0_0 a1 t616 _ ?sidez13_ ?sidez14_ A3.out).mono ?_); (case sidez13_ => exact csd (Kd.C_below HR0_0.out HB.out)); (case sidez14_ => exact HC0_0.out); rintro e wz15_ ⟨rfl, hb⟩; refine ⟨_, rfl, ?_⟩; have nz2_ := bku BKz6_.out hb; have nz3_ := Aside0.mk (below_step (by repeat (first | (with_reducible first | exact HB.out | apply below_alloc | apply pw_below_drewN | apply below_drew1 | refine below_set ?_ GEz8_.out) | exact HB.out)) hb); clear BKz6_; clear HB; have BKz6_ := nz2_; have HB := nz3_; clear nz2_ nz3_; (try clear hb); (try clear hb2); (try clear hk); (try clear hi)))
   go_ret
   exact ⟨by first | rfl | (simp [errW_none, errW_some] <;> rfl) | (simp [*, errW_none, errW_some] <;> rfl), by repeat (first | (with_reducible first | exact HB.out | apply below_alloc | apply pw_below_drewN | apply below_drew1 | refine below_set ?_ GEz8_.out) | exact HB.out)⟩
def spec_l2keyOk.f (k : Nat) (a0_0 : Int) (a0_1 : Int) (a0_2 : Nat) (a0_3 : ByteArray) (a0_4 : Int) : Option (Bool) := (spec_Key.f k a0_0 a0_1 a0_2 a0_3 a0_4).bind fun bt618 => (if bt618.1 = 0 then (some (bt618.2.1 == a0_0)) else (some false))
set_option maxHeartbeats 8000000 in
set_option maxRecDepth 100000 in
theorem spec_l2keyOk.calls (k : Nat) (a0_0 : Int) (a0_1 : Int) (a0_2 : Nat) (a0_3 : ByteArray) (a0_4 : Int) (r : Bool) (w : World) (h : spec_l2keyOk.f k a0_0 a0_1 a0_2 a0_3 a0_4 = some r) :
    Calls Try.prog 78 #[.agg #[.int .i64 a0_0, .int .i64 a0_1, .float .f64 a0_2, .string a0_3, .int .i64 a0_4]] w fun e w' => e = .returned (.bool r) ∧ Below w.heap.size w w' := by
  have hu28 := Try.underlying28
  have hu41 := Try.underlying41
  have HB := Aside0.mk (Below.refl w.heap.size w)
  have H : ((spec_Key.f k a0_0 a0_1 a0_2 a0_3 a0_4).bind fun bt618 => (if bt618.1 = 0 then (some (bt618.2.1 == a0_0)) else (some false))) = some r := h
  clear h
  replace H := Option.bind_eq_some_iff.mp H
  obtain ⟨⟨t618, t619, t620, t621, t622, t623⟩, A20, H⟩ := H
  replace H : (if t618 = 0 then (some (t619 == a0_0)) else (some false)) = some r := H
  have A2 := Aside0.mk A20
  clear A20
  by_cases c3 : t618 = 0
  rotate_left 1
  · rw [if_neg c3] at H
    have c3b0 : (t618 == 0) = false := beq_eq_false_iff_ne.mpr c3
    have c3b1 : (t618 != 0) = true := bne_iff_ne.mpr c3
    obtain rfl := Option.some.inj H
    go_enter Try.func78, Try.ntmps78
    go_wp2_with (first | ((with_reducible refine gate_dst (N := 1) rfl ?_); refine box_event rfl (N := 1) rfl (cs := #[.int .i64 a0_0, .int .i64 a0_1, .float .f64 a0_2, .string a0_3, .int .i64 a0_4]) (t := 28) (by first | (go_simp; done) | (go_simp; rfl)) ?_; intro gb617 hg w11 hbox hb; have BK617 := Aside0.mk (hbox); have GW617 := (gws hg (hbe HB.out) : Aside0 (w.heap.size ≤ gb617)); have GE617 := (gws hg (hbe HB.out) : Aside0 (w.heap.size ≤ gb617)); replace HB := hbs HB.out hb; clear hb hbox hg; obtain ⟨hcz12_0, hcz12_1, hcz12_2, hcz12_3, hcz12_4, hfz12_0, hfz12_1, hfz12_2, hfz12_3, hfz12_4⟩ := cells5 BK617.out) | ((with_reducible refine gate_callee (f := 27) rfl ?_); refine goesS (some 5) rfl Try.func27 #[.agg #[.int .i64 a0_0, .int .i64 a0_1, .float .f64 a0_2, .string a0_3, .int .i64 a0_4]] rfl ?_; (with_reducible refine (spec_Key.calls k a0_0 a0_1 a0_2 a0_3 a0_4 t618 t619 t620 t621 t622 t623 _ A2.out).mono ?_); rintro e w13 ⟨rfl, hb⟩; refine ⟨_, rfl, ?_⟩; replace BK617 := bku BK617.out hb; replace HB := hbs1 HB.out GE617.out hb; (try clear hb); (try clear hb2); (try clear hk); (try clear hi)) | ((with_reducible refine gate_dst (N := 3) rfl ?_); refine box_event rfl (N := 3) rfl (cs := #[.int .i64 0, .int .i64 0, .int .i64 0, .float .f64 0, .string (⟨#[]⟩ : ByteArray), .int .i64 0]) (t := 41) (by first | (go_simp; done) | (go_simp; rfl)) ?_; intro gb624 hg w14 hbox hb; have BK624 := Aside0.mk (hbox); have GW624 := (gws hg (hbe1 HB.out GE617.out) : Aside0 (w.heap.size ≤ gb624)); have GE624 := (gws hg (hbe1 HB.out GE617.out) : Aside0 (w.heap.size ≤ gb624)); replace HB := hbs1 HB.out GE617.out hb; have NB617_624 := nlt hg BK617.out; have NB624_617 := ngt hg BK617.out; replace BK617 := bku BK617.out hb; clear hb hbox hg; have hnb15 := NB624_617.out; have hnc15 := NB617_624.out; obtain ⟨hcz16_0, hcz16_1, hcz16_2, hcz16_3, hcz16_4, hcz16_5, hfz16_0, hfz16_1, hfz16_2, hfz16_3, hfz16_4, hfz16_5⟩ := cells6 BK624.out))
    go_ret
    exact ⟨by first | rfl | (simp <;> rfl) | (simp [*] <;> rfl), hbe2 HB.out GE617.out GE624.out⟩
  rw [if_pos c3] at H
  have c3b0 : (t618 == 0) = true := beq_iff_eq.mpr c3
  have c3b1 : (t618 != 0) = false := bne_eq_false_iff_eq.mpr c3
  clear c3
  obtain rfl := Option.some.inj H
  go_enter Try.func78, Try.ntmps78
  go_wp2_with (first | ((with_reducible refine gate_dst (N := 1) rfl ?_); refine box_event rfl (N := 1) rfl (cs := #[.int .i64 a0_0, .int .i64 a0_1, .float .f64 a0_2, .string a0_3, .int .i64 a0_4]) (t := 28) (by first | (go_simp; done) | (go_simp; rfl)) ?_; intro gb617 hg w4 hbox hb; have BK617 := Aside0.mk (hbox); have GW617 := (gws hg (hbe HB.out) : Aside0 (w.heap.size ≤ gb617)); have GE617 := (gws hg (hbe HB.out) : Aside0 (w.heap.size ≤ gb617)); replace HB := hbs HB.out hb; clear hb hbox hg; obtain ⟨hcz5_0, hcz5_1, hcz5_2, hcz5_3, hcz5_4, hfz5_0, hfz5_1, hfz5_2, hfz5_3, hfz5_4⟩ := cells5 BK617.out) | ((with_reducible refine gate_callee (f := 27) rfl ?_); refine goesS (some 5) rfl Try.func27 #[.agg #[.int .i64 a0_0, .int .i64 a0_1, .float .f64 a0_2, .string a0_3, .int .i64 a0_4]] rfl ?_; (with_reducible refine (spec_Key.calls k a0_0 a0_1 a0_2 a0_3 a0_4 t618 t619 t620 t621 t622 t623 _ A2.out).mono ?_); rintro e w6 ⟨rfl, hb⟩; refine ⟨_, rfl, ?_⟩; replace BK617 := bku BK617.out hb; replace HB := hbs1 HB.out GE617.out hb; (try clear hb); (try clear hb2); (try clear hk); (try clear hi)) | ((with_reducible refine gate_dst (N := 3) rfl ?_); refine box_event rfl (N := 3) rfl (cs := #[.int .i64 0, .int .i64 0, .int .i64 0, .float .f64 0, .string (⟨#[]⟩ : ByteArray), .int .i64 0]) (t := 41) (by first | (go_simp; done) | (go_simp; rfl)) ?_; intro gb624 hg w7 hbox hb; have BK624 := Aside0.mk (hbox); have GW624 := (gws hg (hbe1 HB.out GE617.out) : Aside0 (w.heap.size ≤ gb624)); have GE624 := (gws hg (hbe1 HB.out GE617.out) : Aside0 (w.heap.size ≤ gb624)); replace HB := hbs1 HB.out GE617.out hb; have NB617_624 := nlt hg BK617.out; have NB624_617 := ngt hg BK617.out; replace BK617 := bku BK617.out hb; clear hb hbox hg; have hnb8 := NB624_617.out; have hnc8 := NB617_624.out; obtain ⟨hcz9_0, hcz9_1, hcz9_2, hcz9_3, hcz9_4, hcz9_5, hfz9_0, hfz9_1, hfz9_2, hfz9_3, hfz9_4, hfz9_5⟩ := cells6 BK624.out; obtain ⟨hcz10_0, hcz10_1, hcz10_2, hcz10_3, hcz10_4, hfz10_0, hfz10_1, hfz10_2, hfz10_3, hfz10_4⟩ := cells5 BK617.out))
  go_ret
  exact ⟨by first | rfl | (simp <;> rfl) | (simp [*] <;> rfl), hbe2 HB.out GE617.out GE624.out⟩
end Go.Proofs.Ytdjlbfaiccdbfaa.PAll
