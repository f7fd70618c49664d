/- Cut down from the texts of the same job by wip/shake.py to what this claim reaches. -/
import Derived.Test.YtdjlbfaiccdbfaaKLGx0
import Derived.Test.YtdjlbfaiccdbfaaKLGx9
import Derived.Test.YtdjlbfaiccdbfaaKLGx18
import Derived.Test.YtdjlbfaiccdbfaaKLGx19
import Derived.Test.YtdjlbfaiccdbfaaKLGx20
import Derived.Test.YtdjlbfaiccdbfaaKLGx21
namespace Go.Proofs.Ytdjlbfaiccdbfaa.PAll
open Go.RowKit Go.Proofs.YtdjlbfaiccdbfaaW.PrintWords Go.Proofs.YtdjlbfaiccdbfaaW.PrintLast Go.Proofs.YtdjlbfaiccdbfaaW.PrintMore
attribute [local go_sem] max2_int min2_int max_two min_two max_three min_three max_four min_four   -- for this text's walks alone
set_option linter.unusedVariables false
set_option linter.unusedSimpArgs false
def laws_eqPair.f (k : Nat) (a0_0 : Int) (a0_1 : Int) (a0_2 : Nat) (a0_3 : ByteArray) (a0_4 : Int) (a0_5 : Int) (a0_6 : Int) (a0_7 : Nat) (a0_8 : ByteArray) (a0_9 : Int) (a0_10 : Int) (a1_0 : Int) (a1_1 : Int) (a1_2 : Nat) (a1_3 : ByteArray) (a1_4 : Int) (a1_5 : Int) (a1_6 : Int) (a1_7 : Nat) (a1_8 : ByteArray) (a1_9 : Int) (a1_10 : Int) : Option (Bool) := (laws_eqValue.f k a0_0 a0_1 a0_2 a0_3 a0_4 a1_0 a1_1 a1_2 a1_3 a1_4).bind fun t682 => (if t682 = true then ((laws_eqValue.f k a0_5 a0_6 a0_7 a0_8 a0_9 a1_5 a1_6 a1_7 a1_8 a1_9).bind fun t683 => (if t683 = true then (if a0_10 = a1_10 then (some true) else (some false)) else (some false))) else (some false))
set_option maxHeartbeats 8000000 in
set_option maxRecDepth 100000 in
theorem laws_eqPair.calls (k : Nat) (a0_0 : Int) (a0_1 : Int) (a0_2 : Nat) (a0_3 : ByteArray) (a0_4 : Int) (a0_5 : Int) (a0_6 : Int) (a0_7 : Nat) (a0_8 : ByteArray) (a0_9 : Int) (a0_10 : Int) (a1_0 : Int) (a1_1 : Int) (a1_2 : Nat) (a1_3 : ByteArray) (a1_4 : Int) (a1_5 : Int) (a1_6 : Int) (a1_7 : Nat) (a1_8 : ByteArray) (a1_9 : Int) (a1_10 : Int) (r : Bool) (w : World) (h : laws_eqPair.f k a0_0 a0_1 a0_2 a0_3 a0_4 a0_5 a0_6 a0_7 a0_8 a0_9 a0_10 a1_0 a1_1 a1_2 a1_3 a1_4 a1_5 a1_6 a1_7 a1_8 a1_9 a1_10 = some r) :
    Calls Try.prog 83 #[.agg #[.int .i64 a0_0, .int .i64 a0_1, .float .f64 a0_2, .string a0_3, .int .i64 a0_4, .int .i64 a0_5, .int .i64 a0_6, .float .f64 a0_7, .string a0_8, .int .i64 a0_9, .int .i64 a0_10], .agg #[.int .i64 a1_0, .int .i64 a1_1, .float .f64 a1_2, .string a1_3, .int .i64 a1_4, .int .i64 a1_5, .int .i64 a1_6, .float .f64 a1_7, .string a1_8, .int .i64 a1_9, .int .i64 a1_10]] w fun e w' => e = .returned (.bool r) ∧ Below w.heap.size w w' := by
  have hu61 := Try.underlying61
  have hu28 := Try.underlying28
  have HB := Aside0.mk (Below.refl w.heap.size w)
  have H : ((laws_eqValue.f k a0_0 a0_1 a0_2 a0_3 a0_4 a1_0 a1_1 a1_2 a1_3 a1_4).bind fun t682 => (if t682 = true then ((laws_eqValue.f k a0_5 a0_6 a0_7 a0_8 a0_9 a1_5 a1_6 a1_7 a1_8 a1_9).bind fun t683 => (if t683 = true then (if a0_10 = a1_10 then (some true) else (some false)) else (some false))) else (some false))) = some r := h
  clear h
  replace H := Option.bind_eq_some_iff.mp H
  obtain ⟨t682, A30, H⟩ := H
  replace H : (if t682 = true then ((laws_eqValue.f k a0_5 a0_6 a0_7 a0_8 a0_9 a1_5 a1_6 a1_7 a1_8 a1_9).bind fun t683 => (if t683 = true then (if a0_10 = a1_10 then (some true) else (some false)) else (some false))) else (some false)) = some r := H
  have A3 := Aside0.mk A30
  clear A30
  by_cases c4 : t682 = true
  focus
   subst c4
   have H1 : ((laws_eqValue.f k a0_5 a0_6 a0_7 a0_8 a0_9 a1_5 a1_6 a1_7 a1_8 a1_9).bind fun t683 => (if t683 = true then (if a0_10 = a1_10 then (some true) else (some false)) else (some false))) = some r := by rw [if_pos rfl] at H; exact H
   clear H
   have H := H1
   clear H1
   replace H := Option.bind_eq_some_iff.mp H
   obtain ⟨t683, A50, H⟩ := H
   replace H : (if t683 = true then (if a0_10 = a1_10 then (some true) else (some false)) else (some false)) = some r := H
   have A5 := Aside0.mk A50
   clear A50
   by_cases c6 : t683 = true
   focus
    subst c6
    have H1 : (if a0_10 = a1_10 then (some true) else (some false)) = some r := by rw [if_pos rfl] at H; exact H
    clear H
    have H := H1
    clear H1
    by_cases c7 : a0_10 = a1_10
    focus
     rw [if_pos c7] at H
     have c7b0 : (a0_10 == a1_10) = true := beq_iff_eq.mpr c7
     have c7b1 : (a0_10 != a1_10) = false := bne_eq_false_iff_eq.mpr c7
     clear c7
     obtain rfl := Option.some.inj H
    rotate_left 1
    focus
     rw [if_neg c7] at H
     have c7b0 : (a0_10 == a1_10) = false := beq_eq_false_iff_ne.mpr c7
     have c7b1 : (a0_10 != a1_10) = true := bne_iff_ne.mpr c7
     obtain rfl := Option.some.inj H
   rotate_left 2
   · replace c6 := Bool.eq_false_iff.mpr c6
     subst c6
     have H1 : (some false) = some r := by rw [if_neg (show ¬ (false = true) by decide)] at H; exact H
     clear H
     have H := H1
     clear H1
     obtain rfl := Option.some.inj H
     go_enter Try.func83, Try.ntmps83
     go_wp2_with (first | ((with_reducible refine gate_dst (N := 2) rfl ?_); refine box_event rfl (N := 2) rfl (cs := #[.int .i64 a0_0, .int .i64 a0_1, .float .f64 a0_2, .string a0_3, .int .i64 a0_4, .int .i64 a0_5, .int .i64 a0_6, .float .f64 a0_7, .string a0_8, .int .i64 a0_9, .int .i64 a0_10]) (t := 61) (by first | (go_simp; done) | (go_simp; rfl)) ?_; intro gb680 hg w30 hbox hb; have BK680 := Aside0.mk (hbox); have GW680 := (gws hg (hbe HB.out) : Aside0 (w.heap.size ≤ gb680)); have GE680 := (gws hg (hbe HB.out) : Aside0 (w.heap.size ≤ gb680)); replace HB := hbs HB.out hb; clear hb hbox hg) | ((with_reducible refine gate_dst (N := 3) rfl ?_); refine box_event rfl (N := 3) rfl (cs := #[.int .i64 a1_0, .int .i64 a1_1, .float .f64 a1_2, .string a1_3, .int .i64 a1_4, .int .i64 a1_5, .int .i64 a1_6, .float .f64 a1_7, .string a1_8, .int .i64 a1_9, .int .i64 a1_10]) (t := 61) (by first | (go_simp; done) | (go_simp; rfl)) ?_; intro gb681 hg w31 hbox hb; have BK681 := Aside0.mk (hbox); have GW681 := (gws hg (hbe1 HB.out GE680.out) : Aside0 (w.heap.size ≤ gb681)); have GE681 := (gws hg (hbe1 HB.out GE680.out) : Aside0 (w.heap.size ≤ gb681)); replace HB := hbs1 HB.out GE680.out hb; have NB680_681 := nlt hg BK680.out; have NB681_680 := ngt hg BK680.out; replace BK680 := bku BK680.out hb; clear hb hbox hg; have hnb32 := NB680_681.out; have hnc32 := NB681_680.out; obtain ⟨hcz33_0, hcz33_1, hcz33_2, hcz33_3, hcz33_4, hcz33_5, hcz33_6, hcz33_7, hcz33_8, hcz33_9, hcz33_10, hfz33_0, hfz33_1, hfz33_2, hfz33_3, hfz33_4, hfz33_5, hfz33_6, hfz33_7, hfz33_8, hfz33_9, hfz33_10⟩ := cells11 BK680.out; obtain ⟨hcz34_0, hcz34_1, hcz34_2, hcz34_3, hcz34_4, hcz34_5, hcz34_6, hcz34_7, hcz34_8, hcz34_9, hcz34_10, hfz34_0, hfz34_1, hfz34_2, hfz34_3, hfz34_4, hfz34_5, hfz34_6, hfz34_7, hfz34_8, hfz34_9, hfz34_10⟩ := cells11 BK681.out) | ((with_reducible refine gate_callee (f := 48) rfl ?_); refine goesS (some 9) rfl Try.func48 #[.agg #[.int .i64 a0_0, .int .i64 a0_1, .float .f64 a0_2, .string a0_3, .int .i64 a0_4], .agg #[.int .i64 a1_0, .int .i64 a1_1, .float .f64 a1_2, .string a1_3, .int .i64 a1_4]] rfl ?_; (with_reducible refine (laws_eqValue.calls k a0_0 a0_1 a0_2 a0_3 a0_4 a1_0 a1_1 a1_2 a1_3 a1_4 true _ A3.out).mono ?_); rintro e w35 ⟨rfl, hb⟩; refine ⟨_, rfl, ?_⟩; replace BK680 := bku BK680.out hb; replace BK681 := bku BK681.out hb; replace HB := hbs2 HB.out GE680.out GE681.out hb; (try clear hb); (try clear hb2); (try clear hk); (try clear hi); obtain ⟨hcz36_0, hcz36_1, hcz36_2, hcz36_3, hcz36_4, hcz36_5, hcz36_6, hcz36_7, hcz36_8, hcz36_9, hcz36_10, hfz36_0, hfz36_1, hfz36_2, hfz36_3, hfz36_4, hfz36_5, hfz36_6, hfz36_7, hfz36_8, hfz36_9, hfz36_10⟩ := cells11 BK680.out; obtain ⟨hcz37_0, hcz37_1, hcz37_2, hcz37_3, hcz37_4, hcz37_5, hcz37_6, hcz37_7, hcz37_8, hcz37_9, hcz37_10, hfz37_0, hfz37_1, hfz37_2, hfz37_3, hfz37_4, hfz37_5, hfz37_6, hfz37_7, hfz37_8, hfz37_9, hfz37_10⟩ := cells11 BK681.out) | ((with_reducible refine gate_callee (f := 48) rfl ?_); refine goesS (some 15) rfl Try.func48 #[.agg #[.int .i64 a0_5, .int .i64 a0_6, .float .f64 a0_7, .string a0_8, .int .i64 a0_9], .agg #[.int .i64 a1_5, .int .i64 a1_6, .float .f64 a1_7, .string a1_8, .int .i64 a1_9]] rfl ?_; (with_reducible refine (laws_eqValue.calls k a0_5 a0_6 a0_7 a0_8 a0_9 a1_5 a1_6 a1_7 a1_8 a1_9 false _ A5.out).mono ?_); rintro e w38 ⟨rfl, hb⟩; refine ⟨_, rfl, ?_⟩; replace BK680 := bku BK680.out hb; replace BK681 := bku BK681.out hb; replace HB := hbs2 HB.out GE680.out GE681.out hb; (try clear hb); (try clear hb2); (try clear hk); (try clear hi)))
     go_ret
     exact ⟨by first | rfl | (simp <;> rfl) | (simp [*] <;> rfl), hbe2 HB.out GE680.out GE681.out⟩
  rotate_left 2
  · replace c4 := Bool.eq_false_iff.mpr c4
    subst c4
    have H1 : (some false) = some r := by rw [if_neg (show ¬ (false = true) by decide)] at H; exact H
    clear H
    have H := H1
    clear H1
    obtain rfl := Option.some.inj H
    go_enter Try.func83, Try.ntmps83
    go_wp2_with (first | ((with_reducible refine gate_dst (N := 2) rfl ?_); refine box_event rfl (N := 2) rfl (cs := #[.int .i64 a0_0, .int .i64 a0_1, .float .f64 a0_2, .string a0_3, .int .i64 a0_4, .int .i64 a0_5, .int .i64 a0_6, .float .f64 a0_7, .string a0_8, .int .i64 a0_9, .int .i64 a0_10]) (t := 61) (by first | (go_simp; done) | (go_simp; rfl)) ?_; intro gb680 hg w39 hbox hb; have BK680 := Aside0.mk (hbox); have GW680 := (gws hg (hbe HB.out) : Aside0 (w.heap.size ≤ gb680)); have GE680 := (gws hg (hbe HB.out) : Aside0 (w.heap.size ≤ gb680)); replace HB := hbs HB.out hb; clear hb hbox hg) | ((with_reducible refine gate_dst (N := 3) rfl ?_); refine box_event rfl (N := 3) rfl (cs := #[.int .i64 a1_0, .int .i64 a1_1, .float .f64 a1_2, .string a1_3, .int .i64 a1_4, .int .i64 a1_5, .int .i64 a1_6, .float .f64 a1_7, .string a1_8, .int .i64 a1_9, .int .i64 a1_10]) (t := 61) (by first | (go_simp; done) | (go_simp; rfl)) ?_; intro gb681 hg w40 hbox hb; have BK681 := Aside0.mk (hbox); have GW681 := (gws hg (hbe1 HB.out GE680.out) : Aside0 (w.heap.size ≤ gb681)); have GE681 := (gws hg (hbe1 HB.out GE680.out) : Aside0 (w.heap.size ≤ gb681)); replace HB := hbs1 HB.out GE680.out hb; have NB680_681 := nlt hg BK680.out; have NB681_680 := ngt hg BK680.out; replace BK680 := bku BK680.out hb; clear hb hbox hg; have hnb41 := NB680_681.out; have hnc41 := NB681_680.out; obtain ⟨hcz42_0, hcz42_1, hcz42_2, hcz42_3, hcz42_4, hcz42_5, hcz42_6, hcz42_7, hcz42_8, hcz42_9, hcz42_10, hfz42_0, hfz42_1, hfz42_2, hfz42_3, hfz42_4, hfz42_5, hfz42_6, hfz42_7, hfz42_8, hfz42_9, hfz42_10⟩ := cells11 BK680.out; obtain ⟨hcz43_0, hcz43_1, hcz43_2, hcz43_3, hcz43_4, hcz43_5, hcz43_6, hcz43_7, hcz43_8, hcz43_9, hcz43_10, hfz43_0, hfz43_1, hfz43_2, hfz43_3, hfz43_4, hfz43_5, hfz43_6, hfz43_7, hfz43_8, hfz43_9, hfz43_10⟩ := cells11 BK681.out) | ((with_reducible refine gate_callee (f := 48) rfl ?_); refine goesS (some 9) rfl Try.func48 #[.agg #[.int .i64 a0_0, .int .i64 a0_1, .float .f64 a0_2, .string a0_3, .int .i64 a0_4], .agg #[.int .i64 a1_0, .int .i64 a1_1, .float .f64 a1_2, .string a1_3, .int .i64 a1_4]] rfl ?_; (with_reducible refine (laws_eqValue.calls k a0_0 a0_1 a0_2 a0_3 a0_4 a1_0 a1_1 a1_2 a1_3 a1_4 false _ A3.out).mono ?_); rintro e w44 ⟨rfl, hb⟩; refine ⟨_, rfl, ?_⟩; replace BK680 := bku BK680.out hb; replace BK681 := bku BK681.out hb; replace HB := hbs2 HB.out GE680.out GE681.out hb; (try clear hb); (try clear hb2); (try clear hk); (try clear hi)))
    go_ret
    exact ⟨by first | rfl | (simp <;> rfl) | (simp [*] <;> rfl), hbe2 HB.out GE680.out GE681.out⟩
  all_goals
   go_enter Try.func83, Try.ntmps83
   go_wp2_with (first | ((with_reducible refine gate_dst (N := 2) rfl ?_); refine box_event rfl (N := 2) rfl (cs := #[.int .i64 a0_0, .int .i64 a0_1, .float .f64 a0_2, .string a0_3, .int .i64 a0_4, .int .i64 a0_5, .int .i64 a0_6, .float .f64 a0_7, .string a0_8, .int .i64 a0_9, .int .i64 a0_10]) (t := 61) (by first | (go_simp; done) | (go_simp; rfl)) ?_; intro gbz0_ hg wz1_ hbox hb; have nz2_ := hbs HB.out hb; have nz3_ := Aside0.mk (hbox); have nz4_ := (gws hg (hbe HB.out) : Aside0 (w.heap.size ≤ gbz0_)); have nz5_ := (gws hg (hbe HB.out) : Aside0 (w.heap.size ≤ gbz0_)); clear HB; have HB := nz2_; have BKz6_ := nz3_; have GWz7_ := nz4_; have GEz8_ := nz5_; clear nz2_ nz3_ nz4_ nz5_; clear hb hbox hg) | ((with_reducible refine gate_dst (N := 3) rfl ?_); refine box_event rfl (N := 3) rfl (cs := #[.int .i64 a1_0, .int .i64 a1_1, .float .f64 a1_2, .string a1_3, .int .i64 a1_4, .int .i64 a1_5, .int .i64 a1_6, .float .f64 a1_7, .string a1_8, .int .i64 a1_9, .int .i64 a1_10]) (t := 61) (by first | (go_simp; done) | (go_simp; rfl)) ?_; intro gbz9_ hg wz10_ hbox hb; have nz2_ := bku BKz6_.out hb; have nz3_ := Aside0.mk (below_step (by repeat (first | (with_reducible first | exact HB.out | apply below_alloc | apply pw_below_drewN | apply below_drew1 | refine below_set ?_ GEz8_.out) | exact HB.out)) hb); have nz4_ := Aside0.mk (hbox); have nz5_ := Aside0.mk ((by rw [hg]; exact (below_size (by repeat (first | (with_reducible first | exact HB.out | apply below_alloc | apply pw_below_drewN | apply below_drew1 | refine below_set ?_ GEz8_.out) | exact HB.out))) : w.heap.size ≤ gbz9_)); have nz11_ := Aside0.mk ((by rw [hg]; exact (below_size (by repeat (first | (with_reducible first | exact HB.out | apply below_alloc | apply pw_below_drewN | apply below_drew1 | refine below_set ?_ GEz8_.out) | exact HB.out))) : w.heap.size ≤ gbz9_)); have nz12_ := nlt hg BKz6_.out; have nz13_ := ngt hg BKz6_.out; clear BKz6_; clear HB; have BKz6_ := nz2_; have HB := nz3_; have BKz14_ := nz4_; have GWz15_ := nz5_; have GEz16_ := nz11_; have NBz17_ := nz12_; have NBz18_ := nz13_; clear nz2_ nz3_ nz4_ nz5_ nz11_ nz12_ nz13_; clear hb hbox hg; have hnbz19_ := NBz17_.out; have hncz20_ := NBz18_.out; have hczz21_ : wz10_.cell? ⟨gbz0_, 0, none⟩ = some (.int .i64 a0_0) := (blk_cell BKz6_.out 0).trans rfl; have hczz22_ : wz10_.cell? ⟨gbz0_, 1, none⟩ = some (.int .i64 a0_1) := (blk_cell BKz6_.out 1).trans rfl; have hczz23_ : wz10_.cell? ⟨gbz0_, 2, none⟩ = some (.float .f64 a0_2) := (blk_cell BKz6_.out 2).trans rfl; have hczz24_ : wz10_.cell? ⟨gbz0_, 3, none⟩ = some (.string a0_3) := (blk_cell BKz6_.out 3).trans rfl; have hczz25_ : wz10_.cell? ⟨gbz0_, 4, none⟩ = some (.int .i64 a0_4) := (blk_cell BKz6_.out 4).trans rfl; have hczz26_ : wz10_.cell? ⟨gbz0_, 5, none⟩ = some (.int .i64 a0_5) := (blk_cell BKz6_.out 5).trans rfl; have hczz27_ : wz10_.cell? ⟨gbz0_, 6, none⟩ = some (.int .i64 a0_6) := (blk_cell BKz6_.out 6).trans rfl; have hczz28_ : wz10_.cell? ⟨gbz0_, 7, none⟩ = some (.float .f64 a0_7) := (blk_cell BKz6_.out 7).trans rfl; have hczz29_ : wz10_.cell? ⟨gbz0_, 8, none⟩ = some (.string a0_8) := (blk_cell BKz6_.out 8).trans rfl; have hczz30_ : wz10_.cell? ⟨gbz0_, 9, none⟩ = some (.int .i64 a0_9) := (blk_cell BKz6_.out 9).trans rfl; have hczz31_ : wz10_.cell? ⟨gbz0_, 10, none⟩ = some (.int .i64 a0_10) := (blk_cell BKz6_.out 10).trans rfl; have hfzz32_ := blk_frozen BKz6_.out 0; have hfzz33_ := blk_frozen BKz6_.out 1; have hfzz34_ := blk_frozen BKz6_.out 2; have hfzz35_ := blk_frozen BKz6_.out 3; have hfzz36_ := blk_frozen BKz6_.out 4; have hfzz37_ := blk_frozen BKz6_.out 5; have hfzz38_ := blk_frozen BKz6_.out 6; have hfzz39_ := blk_frozen BKz6_.out 7; have hfzz40_ := blk_frozen BKz6_.out 8; have hfzz41_ := blk_frozen BKz6_.out 9; have hfzz42_ := blk_frozen BKz6_.out 10; have hczz43_ : wz10_.cell? ⟨gbz9_, 0, none⟩ = some (.int .i64 a1_0) := (blk_cell BKz14_.out 0).trans rfl; have hczz44_ : wz10_.cell? ⟨gbz9_, 1, none⟩ = some (.int .i64 a1_1) := (blk_cell BKz14_.out 1).trans rfl; have hczz45_ : wz10_.cell? ⟨gbz9_, 2, none⟩ = some (.float .f64 a1_2) := (blk_cell BKz14_.out 2).trans rfl; have hczz46_ : wz10_.cell? ⟨gbz9_, 3, none⟩ = some (.string a1_3) := (blk_cell BKz14_.out 3).trans rfl; have hczz47_ : wz10_.cell? ⟨gbz9_, 4, none⟩ = some (.int .i64 a1_4) := (blk_cell BKz14_.out 4).trans rfl; have hczz48_ : wz10_.cell? ⟨gbz9_, 5, none⟩ = some (.int .i64 a1_5) := (blk_cell BKz14_.out 5).trans rfl; have hczz49_ : wz10_.cell? ⟨gbz9_, 6, none⟩ = some (.int .i64 a1_6) := (blk_cell BKz14_.out 6).trans rfl; have hczz50_ : wz10_.cell? ⟨gbz9_, 7, none⟩ = some (.float .f64 a1_7) := (blk_cell BKz14_.out 7).trans rfl; have hczz51_ : wz10_.cell? ⟨gbz9_, 8, none⟩ = some (.string a1_8) := (blk_cell BKz14_.out 8).trans rfl; have hczz52_ : wz10_.cell? ⟨gbz9_, 9, none⟩ = some (.int .i64 a1_9) := (blk_cell BKz14_.out 9).trans rfl; have hczz53_ : wz10_.cell? ⟨gbz9_, 10, none⟩ = some (.int .i64 a1_10) := (blk_cell BKz14_.out 10).trans rfl; have hfzz54_ := blk_frozen BKz14_.out 0; have hfzz55_ := blk_frozen BKz14_.out 1; have hfzz56_ := blk_frozen BKz14_.out 2; have hfzz57_ := blk_frozen BKz14_.out 3; have hfzz58_ := blk_frozen BKz14_.out 4; have hfzz59_ := blk_frozen BKz14_.out 5; have hfzz60_ := blk_frozen BKz14_.out 6; have hfzz61_ := blk_frozen BKz14_.out 7; have hfzz62_ := blk_frozen BKz14_.out 8; have hfzz63_ := blk_frozen BKz14_.out 9; have hfzz64_ := blk_frozen BKz14_.out 10) | ((with_reducible refine gate_callee (f := 48) rfl ?_); refine goesS (some 9) rfl Try.func48 #[.agg #[.int .i64 a0_0, .int .i64 a0_1, .float .f64 a0_2, .string a0_3, .int .i64 a0_4], .agg #[.int .i64 a1_0, .int .i64 a1_1, .float .f64 a1_2, .string a1_3, .int .i64 a1_4]] rfl ?_; (with_reducible refine (laws_eqValue.calls k a0_0 a0_1 a0_2 a0_3 a0_4 a1_0 a1_1 a1_2 a1_3 a1_4 true _ A3.out).mono ?_); rintro e wz65_ ⟨rfl, hb⟩; refine ⟨_, rfl, ?_⟩; have nz2_ := bku BKz6_.out hb; have nz3_ := bku BKz14_.out hb; have nz4_ := Aside0.mk (below_step (by repeat (first | (with_reducible first | exact HB.out | apply below_alloc | apply pw_below_drewN | apply below_drew1 | refine below_set ?_ GEz8_.out | refine below_set ?_ GEz16_.out) | exact HB.out)) hb); clear BKz6_; clear BKz14_; clear HB; have BKz6_ := nz2_; have BKz14_ := nz3_; have HB := nz4_; clear nz2_ nz3_ nz4_; (try clear hb); (try clear hb2); (try clear hk); (try clear hi); have hczz66_ : wz65_.cell? ⟨gbz0_, 0, none⟩ = some (.int .i64 a0_0) := (blk_cell BKz6_.out 0).trans rfl; have hczz67_ : wz65_.cell? ⟨gbz0_, 1, none⟩ = some (.int .i64 a0_1) := (blk_cell BKz6_.out 1).trans rfl; have hczz68_ : wz65_.cell? ⟨gbz0_, 2, none⟩ = some (.float .f64 a0_2) := (blk_cell BKz6_.out 2).trans rfl; have hczz69_ : wz65_.cell? ⟨gbz0_, 3, none⟩ = some (.string a0_3) := (blk_cell BKz6_.out 3).trans rfl; have hczz70_ : wz65_.cell? ⟨gbz0_, 4, none⟩ = some (.int .i64 a0_4) := (blk_cell BKz6_.out 4).trans rfl; have hczz71_ : wz65_.cell? ⟨gbz0_, 5, none⟩ = some (.int .i64 a0_5) := (blk_cell BKz6_.out 5).trans rfl; have hczz72_ : wz65_.cell? ⟨gbz0_, 6, none⟩ = some (.int .i64 a0_6) := (blk_cell BKz6_.out 6).trans rfl; have hczz73_ : wz65_.cell? ⟨gbz0_, 7, none⟩ = some (.float .f64 a0_7) := (blk_cell BKz6_.out 7).trans rfl; have hczz74_ : wz65_.cell? ⟨gbz0_, 8, none⟩ = some (.string a0_8) := (blk_cell BKz6_.out 8).trans rfl; have hczz75_ : wz65_.cell? ⟨gbz0_, 9, none⟩ = some (.int .i64 a0_9) := (blk_cell BKz6_.out 9).trans rfl; have hczz76_ : wz65_.cell? ⟨gbz0_, 10, none⟩ = some (.int .i64 a0_10) := (blk_cell BKz6_.out 10).trans rfl; have hfzz77_ := blk_frozen BKz6_.out 0; have hfzz78_ := blk_frozen BKz6_.out 1; have hfzz79_ := blk_frozen BKz6_.out 2; have hfzz80_ := blk_frozen BKz6_.out 3; have hfzz81_ := blk_frozen BKz6_.out 4; have hfzz82_ := blk_frozen BKz6_.out 5; have hfzz83_ := blk_frozen BKz6_.out 6; have hfzz84_ := blk_frozen BKz6_.out 7; have hfzz85_ := blk_frozen BKz6_.out 8; have hfzz86_ := blk_frozen BKz6_.out 9; have hfzz87_ := blk_frozen BKz6_.out 10; have hczz88_ : wz65_.cell? ⟨gbz9_, 0, none⟩ = some (.int .i64 a1_0) := (blk_cell BKz14_.out 0).trans rfl; have hczz89_ : wz65_.cell? ⟨gbz9_, 1, none⟩ = some (.int .i64 a1_1) := (blk_cell BKz14_.out 1).trans rfl; have hczz90_ : wz65_.cell? ⟨gbz9_, 2, none⟩ = some (.float .f64 a1_2) := (blk_cell BKz14_.out 2).trans rfl; have hczz91_ : wz65_.cell? ⟨gbz9_, 3, none⟩ = some (.string a1_3) := (blk_cell BKz14_.out 3).trans rfl; have hczz92_ : wz65_.cell? ⟨gbz9_, 4, none⟩ = some (.int .i64 a1_4) := (blk_cell BKz14_.out 4).trans rfl; have hczz93_ : wz65_.cell? ⟨gbz9_, 5, none⟩ = some (.int .i64 a1_5) := (blk_cell BKz14_.out 5).trans rfl; have hczz94_ : wz65_.cell? ⟨gbz9_, 6, none⟩ = some (.int .i64 a1_6) := (blk_cell BKz14_.out 6).trans rfl; have hczz95_ : wz65_.cell? ⟨gbz9_, 7, none⟩ = some (.float .f64 a1_7) := (blk_cell BKz14_.out 7).trans rfl; have hczz96_ : wz65_.cell? ⟨gbz9_, 8, none⟩ = some (.string a1_8) := (blk_cell BKz14_.out 8).trans rfl; have hczz97_ : wz65_.cell? ⟨gbz9_, 9, none⟩ = some (.int .i64 a1_9) := (blk_cell BKz14_.out 9).trans rfl; have hczz98_ : wz65_.cell? ⟨gbz9_, 10, none⟩ = some (.int .i64 a1_10) := (blk_cell BKz14_.out 10).trans rfl; have hfzz99_ := blk_frozen BKz14_.out 0; have hfzz100_ := blk_frozen BKz14_.out 1; have hfzz101_ := blk_frozen BKz14_.out 2; have hfzz102_ := blk_frozen BKz14_.out 3; have hfzz103_ := blk_frozen BKz14_.out 4; have hfzz104_ := blk_frozen BKz14_.out 5; have hfzz105_ := blk_frozen BKz14_.out 6; have hfzz106_ := blk_frozen BKz14_.out 7; have hfzz107_ := blk_frozen BKz14_.out 8; have hfzz108_ := blk_frozen BKz14_.out 9; have hfzz109_ := blk_frozen BKz14_.out 10) | ((with_reducible refine gate_callee (f := 48) rfl ?_); refine goesS (some 15) rfl Try.func48 #[.agg #[.int .i64 a0_5, .int .i64 a0_6, .float .f64 a0_7, .string a0_8, .int .i64 a0_9], .agg #[.int .i64 a1_5, .int .i64 a1_6, .float .f64 a1_7, .string a1_8, .int .i64 a1_9]] rfl ?_; (with_reducible refine (laws_eqValue.calls k a0_5 a0_6 a0_7 a0_8 a0_9 a1_5 a1_6 a1_7 a1_8 a1_9 true _ A5.out).mono ?_); rintro e wz110_ ⟨rfl, hb⟩; refine ⟨_, rfl, ?_⟩; have nz2_ := bku BKz6_.out hb; have nz3_ := bku BKz14_.out hb; have nz4_ := Aside0.mk (below_step (by repeat (first | (with_reducible first | exact HB.out | apply below_alloc | apply pw_below_drewN | apply below_drew1 | refine below_set ?_ GEz8_.out | refine below_set ?_ GEz16_.out) | exact HB.out)) hb); clear BKz6_; clear BKz14_; clear HB; have BKz6_ := nz2_; have BKz14_ := nz3_; have HB := nz4_; clear nz2_ nz3_ nz4_; (try clear hb); (try clear hb2); (try clear hk); (try clear hi); have hczz111_ : wz110_.cell? ⟨gbz0_, 0, none⟩ = some (.int .i64 a0_0) := (blk_cell BKz6_.out 0).trans rfl; have hczz112_ : wz110_.cell? ⟨gbz0_, 1, none⟩ = some (.int .i64 a0_1) := (blk_cell BKz6_.out 1).trans rfl; have hczz113_ : wz110_.cell? ⟨gbz0_, 2, none⟩ = some (.float .f64 a0_2) := (blk_cell BKz6_.out 2).trans rfl; have hczz114_ : wz110_.cell? ⟨gbz0_, 3, none⟩ = some (.string a0_3) := (blk_cell BKz6_.out 3).trans rfl; have hczz115_ : wz110_.cell? ⟨gbz0_, 4, none⟩ = some (.int .i64 a0_4) := (blk_cell BKz6_.out 4).trans rfl; have hczz116_ : wz110_.cell? ⟨gbz0_, 5, none⟩ = some (.int .i64 a0_5) := (blk_cell BKz6_.out 5).trans rfl; have hczz117_ : wz110_.cell? ⟨gbz0_, 6, none⟩ = some (.int .i64 a0_6) := (blk_cell BKz6_.out 6).trans rfl; have hczz118_ : wz110_.cell? ⟨gbz0_, 7, none⟩ = some (.float .f64 a0_7) := (blk_cell BKz6_.out 7).trans rfl; have hczz119_ : wz110_.cell? ⟨gbz0_, 8, none⟩ = some (.string a0_8) := (blk_cell BKz6_.out 8).trans rfl; have hczz120_ : wz110_.cell? ⟨gbz0_, 9, none⟩ = some (.int .i64 a0_9) := (blk_cell BKz6_.out 9).trans rfl; have hczz121_ : wz110_.cell? ⟨gbz0_, 10, none⟩ = some (.int .i64 a0_10) := (blk_cell BKz6_.out 10).trans rfl; have hfzz122_ := blk_frozen BKz6_.out 0; have hfzz123_ := blk_frozen BKz6_.out 1; have hfzz124_ := blk_frozen BKz6_.out 2; have hfzz125_ := blk_frozen BKz6_.out 3; have hfzz126_ := blk_frozen BKz6_.out 4; have hfzz127_ := blk_frozen BKz6_.out 5; have hfzz128_ := blk_frozen BKz6_.out 6; have hfzz129_ := blk_frozen BKz6_.out 7; have hfzz130_ := blk_frozen BKz6_.out 8; have hfzz131_ := blk_frozen BKz6_.out 9; have hfzz132_ := blk_frozen BKz6_.out 10; have hczz133_ : wz110_.cell? ⟨gbz9_, 0, none⟩ = some (.int .i64 a1_0) := (blk_cell BKz14_.out 0).trans rfl; have hczz134_ : wz110_.cell? ⟨gbz9_, 1, none⟩ = some (.int .i64 a1_1) := (blk_cell BKz14_.out 1).trans rfl; have hczz135_ : wz110_.cell? ⟨gbz9_, 2, none⟩ = some (.float .f64 a1_2) := (blk_cell BKz14_.out 2).trans rfl; have hczz136_ : wz110_.cell? ⟨gbz9_, 3, none⟩ = some (.string a1_3) := (blk_cell BKz14_.out 3).trans rfl; have hczz137_ : wz110_.cell? ⟨gbz9_, 4, none⟩ = some (.int .i64 a1_4) := (blk_cell BKz14_.out 4).trans rfl; have hczz138_ : wz110_.cell? ⟨gbz9_, 5, none⟩ = some (.int .i64 a1_5) := (blk_cell BKz14_.out 5).trans rfl; have hczz139_ : wz110_.cell? ⟨gbz9_, 6, none⟩ = some (.int .i64 a1_6) := (blk_cell BKz14_.out 6).trans rfl; have hczz140_ : wz110_.cell? ⟨gbz9_, 7, none⟩ = some (.float .f64 a1_7) := (blk_cell BKz14_.out 7).trans rfl; have hczz141_ : wz110_.cell? ⟨gbz9_, 8, none⟩ = some (.string a1_8) := (blk_cell BKz14_.out 8).trans rfl; have hczz142_ : wz110_.cell? ⟨gbz9_, 9, none⟩ = some (.int .i64 a1_9) := (blk_cell BKz14_.out 9).trans rfl; have hczz143_ : wz110_.cell? ⟨gbz9_, 10, none⟩ = some (.int .i64 a1_10) := (blk_cell BKz14_.out 10).trans rfl; have hfzz144_ := blk_frozen BKz14_.out 0; have hfzz145_ := blk_frozen BKz14_.out 1; have hfzz146_ := blk_frozen BKz14_.out 2; have hfzz147_ := blk_frozen BKz14_.out 3; have hfzz148_ := blk_frozen BKz14_.out 4; have hfzz149_ := blk_frozen BKz14_.out 5; have hfzz150_ := blk_frozen BKz14_.out 6; have hfzz151_ := blk_frozen BKz14_.out 7; have hfzz152_ := blk_frozen BKz14_.out 8; have hfzz153_ := blk_frozen BKz14_.out 9; have hfzz154_ := blk_frozen BKz14_.out 10))
   go_ret
   exact ⟨by first | rfl | (simp [errW_none, errW_some] <;> rfl) | (simp [*, errW_none, errW_some] <;> rfl), by repeat (first | (with_reducible first | exact HB.out | apply below_alloc | apply pw_below_drewN | apply below_drew1 | refine below_set ?_ GEz8_.out | refine below_set ?_ GEz16_.out) | exact HB.out)⟩
def laws_eqPairS.l0 : Nat → List (S61) → List (S61) → Int → Option (Bool)
  | 0, _, _, _ => none
  | k + 1, x0, x1, x5 => if x5 < (x0.length : Int) then (if 0 ≤ x5 then (if x5 < (x1.length : Int) then ((laws_eqPair.f k ((rd_T61 x0 x5).f0.f0) ((rd_T61 x0 x5).f0.f1) ((rd_T61 x0 x5).f0.f2) ((rd_T61 x0 x5).f0.f3) ((rd_T61 x0 x5).f0.f4) ((rd_T61 x0 x5).f1.f0) ((rd_T61 x0 x5).f1.f1) ((rd_T61 x0 x5).f1.f2) ((rd_T61 x0 x5).f1.f3) ((rd_T61 x0 x5).f1.f4) ((rd_T61 x0 x5).f2) ((rd_T61 x1 x5).f0.f0) ((rd_T61 x1 x5).f0.f1) ((rd_T61 x1 x5).f0.f2) ((rd_T61 x1 x5).f0.f3) ((rd_T61 x1 x5).f0.f4) ((rd_T61 x1 x5).f1.f0) ((rd_T61 x1 x5).f1.f1) ((rd_T61 x1 x5).f1.f2) ((rd_T61 x1 x5).f1.f3) ((rd_T61 x1 x5).f1.f4) ((rd_T61 x1 x5).f2)).bind fun t686 => (if t686 = true then (laws_eqPairS.l0 k x0 x1 (wrap64 (x5 + 1))) else (some false))) else (none)) else (none)) else (some true)
def laws_eqPairS.f (k : Nat) (l0 : List (S61)) (l1 : List (S61)) : Option (Bool) := if (l0.length : Int) = (l1.length : Int) then (laws_eqPairS.l0 k l0 l1 0) else (some false)
def laws_eqPairS.T6 : Bool × List (List Nat × List Nat) := (true, [([], []), ([], []), ([0, 1], [0, 1]), ([2], [2]), ([], []), ([], []), ([4, 5], [4, 5]), ([6], [6]), ([3, 7], [3, 7]), ([8], [8])])
def laws_eqPairS.B6 : List Nat := [0, 0, 3, 7, 0, 0, 48, 112, 255, 511]
theorem laws_eqPairS.tab6 : rtab .any (opsOf Try.f80 6) = laws_eqPairS.T6 := by kernel_rfl
theorem laws_eqPairS.bits6 : waitsOk laws_eqPairS.T6.2 laws_eqPairS.B6 = true := by kernel_rfl
set_option maxHeartbeats 8000000 in
set_option maxRecDepth 100000 in
theorem laws_eqPairS.calls (k : Nat) (A0 : Option Addr) (c0 : Nat) (l0 : List (S61)) (A1 : Option Addr) (c1 : Nat) (l1 : List (S61)) (r : Bool) (w : World) (hr0 : Kd.C k61 w A0 l0.length l0) (hc0 : l0.length ≤ c0) (hr1 : Kd.C k61 w A1 l1.length l1) (hc1 : l1.length ≤ c1) (h : laws_eqPairS.f k l0 l1 = some r) :
    Calls Try.prog 80 #[.slice A0 l0.length c0, .slice A1 l1.length c1] w fun e w' => e = .returned (.bool r) ∧ Below w.heap.size w w' := by
  have hu61 := Try.underlying61
  have HR0 := Aside0.mk hr0
  have HC0 := Aside0.mk hc0
  clear hr0 hc0
  have HR1 := Aside0.mk hr1
  have HC1 := Aside0.mk hc1
  clear hr1 hc1
  have HB := Aside0.mk (Below.refl w.heap.size w)
  have H : (if (l0.length : Int) = (l1.length : Int) then (laws_eqPairS.l0 k l0 l1 0) else (some false)) = some r := h
  clear h
  by_cases c3 : (l0.length : Int) = (l1.length : Int)
  rotate_left 1
  · rw [if_neg c3] at H
    have c3b0 : ((l0.length : Int) == (l1.length : Int)) = false := beq_eq_false_iff_ne.mpr c3
    have c3b1 : ((l0.length : Int) != (l1.length : Int)) = true := bne_iff_ne.mpr c3
    have c3b2 : (l0.length == l1.length) = false := by first | simpa using c3 | (simp at c3 ⊢; omega)
    obtain rfl := Option.some.inj H
    go_enter Try.func80, Try.ntmps80
    go_wp2
    go_ret
    exact ⟨by first | rfl | (simp <;> rfl) | (simp [*] <;> rfl), hbe HB.out⟩
  rw [if_pos c3] at H
  have c3b0 : ((l0.length : Int) == (l1.length : Int)) = true := beq_iff_eq.mpr c3
  have c3b1 : ((l0.length : Int) != (l1.length : Int)) = false := bne_eq_false_iff_eq.mpr c3
  have c3b2 : (l0.length == l1.length) = true := by first | simpa using c3 | (simp at c3 ⊢; omega)
  clear c3
  have H' := Aside0.mk H
  clear H
  go_enter Try.func80, Try.ntmps80
  go_wp2
  go_loopg [5] k (fun kq v5 w' => ∃ (x5_1 : Int), v5 = .int .i64 x5_1 ∧ Aside0 (laws_eqPairS.l0 kq l0 l1 x5_1 = some r) ∧ Aside0 (kq ≤ k) ∧ Aside0 (Below w.heap.size w w'))
  case atStart => exact ⟨(0), (by first | rfl | (simp; done) | (simp [*]; done)), H', ⟨Nat.le_refl _⟩, ⟨by repeat (first | (with_reducible first | exact HB.out | apply below_alloc | apply pw_below_drewN | apply below_drew1) | exact HB.out)⟩⟩
  case round =>
    clear H'
    try clear c1
    try clear c3
    try clear c3b0
    try clear c3b1
    try clear c3b2
    obtain ⟨x5_1, rfl, HA, HK1, HB⟩ := hrel
    rcases gk with _ | k1
    · exact absurd HA.out (by simp [laws_eqPairS.l0])
    have H := HA.out
    clear HA
    simp only [laws_eqPairS.l0] at H
    by_cases c4 : x5_1 < (l0.length : Int)
    rotate_left 1
    · rw [if_neg c4] at H
      have c4b0 : decide (x5_1 < (l0.length : Int)) = false := decide_eq_false c4
      clear c4
      obtain rfl := Option.some.inj H
      go_wp2
      go_ret
      exact ⟨by first | rfl | (simp <;> rfl) | (simp [*] <;> rfl), hbe HB.out⟩
    rw [if_pos c4] at H
    have c4b0 : decide (x5_1 < (l0.length : Int)) = true := decide_eq_true c4
    clear c4
    by_cases c5 : 0 ≤ x5_1
    rotate_left 1
    · rw [if_neg c5] at H
      exact absurd H (by simp)
    rw [if_pos c5] at H
    have c5b0 : decide (0 ≤ x5_1) = true := decide_eq_true c5
    clear c5
    by_cases c6 : x5_1 < (l1.length : Int)
    rotate_left 1
    · rw [if_neg c6] at H
      exact absurd H (by simp)
    rw [if_pos c6] at H
    have c6b0 : decide (x5_1 < (l1.length : Int)) = true := decide_eq_true c6
    clear c6
    replace H := Option.bind_eq_some_iff.mp H
    obtain ⟨t686, A70, H⟩ := H
    replace H : (if t686 = true then (laws_eqPairS.l0 k1 l0 l1 (wrap64 (x5_1 + 1))) else (some false)) = some r := H
    have A7 := Aside0.mk A70
    clear A70
    by_cases c8 : t686 = true
    rotate_left 1
    · replace c8 := Bool.eq_false_iff.mpr c8
      subst c8
      have H1 : (some false) = some r := by rw [if_neg (show ¬ (false = true) by decide)] at H; exact H
      clear H
      have H := H1
      clear H1
      obtain rfl := Option.some.inj H
      try go_wp2
      replace HB := Aside0.mk (below_drew1 HB.out)
      have p684 : 0 ≤ (x5_1 : Int) := of_decide_eq_true (by first | (with_reducible assumption) | assumption)
      have q684 : x5_1 < (l0.length : Int) := of_decide_eq_true (by first | (with_reducible assumption) | assumption)
      obtain ⟨ad684, e684, hx684_0, hx684_1, hx684_2, hx684_3, hx684_4, hx684_5, hx684_6, hx684_7, hx684_8, hx684_9, hx684_10⟩ := at_T61 HR0.out x5_1 p684 q684
      have hw684_10 := hx684_10
      have hw684_9 := hx684_9
      have hw684_8 := hx684_8
      have hw684_7 := hx684_7
      have hw684_6 := hx684_6
      have hw684_5 := hx684_5
      have hw684_4 := hx684_4
      have hw684_3 := hx684_3
      have hw684_2 := hx684_2
      have hw684_1 := hx684_1
      have hw684_0 := hx684_0
      cases e684
      (first | replace hx684_0 := (HB.out.cell (World.block_lt_of_cell? w _ hx684_0)).trans hx684_0 | skip)
      (first | replace hx684_1 := (HB.out.cell (World.block_lt_of_cell? w _ hx684_1)).trans hx684_1 | skip)
      (first | replace hx684_2 := (HB.out.cell (World.block_lt_of_cell? w _ hx684_2)).trans hx684_2 | skip)
      (first | replace hx684_3 := (HB.out.cell (World.block_lt_of_cell? w _ hx684_3)).trans hx684_3 | skip)
      (first | replace hx684_4 := (HB.out.cell (World.block_lt_of_cell? w _ hx684_4)).trans hx684_4 | skip)
      (first | replace hx684_5 := (HB.out.cell (World.block_lt_of_cell? w _ hx684_5)).trans hx684_5 | skip)
      (first | replace hx684_6 := (HB.out.cell (World.block_lt_of_cell? w _ hx684_6)).trans hx684_6 | skip)
      (first | replace hx684_7 := (HB.out.cell (World.block_lt_of_cell? w _ hx684_7)).trans hx684_7 | skip)
      (first | replace hx684_8 := (HB.out.cell (World.block_lt_of_cell? w _ hx684_8)).trans hx684_8 | skip)
      (first | replace hx684_9 := (HB.out.cell (World.block_lt_of_cell? w _ hx684_9)).trans hx684_9 | skip)
      (first | replace hx684_10 := (HB.out.cell (World.block_lt_of_cell? w _ hx684_10)).trans hx684_10 | skip)
      replace p684 := eq_true p684
      replace q684 := eq_true q684
      have p685 : 0 ≤ (x5_1 : Int) := of_decide_eq_true (by first | (with_reducible assumption) | assumption)
      have q685 : x5_1 < (l1.length : Int) := of_decide_eq_true (by first | (with_reducible assumption) | assumption)
      obtain ⟨ad685, e685, hx685_0, hx685_1, hx685_2, hx685_3, hx685_4, hx685_5, hx685_6, hx685_7, hx685_8, hx685_9, hx685_10⟩ := at_T61 HR1.out x5_1 p685 q685
      have hw685_10 := hx685_10
      have hw685_9 := hx685_9
      have hw685_8 := hx685_8
      have hw685_7 := hx685_7
      have hw685_6 := hx685_6
      have hw685_5 := hx685_5
      have hw685_4 := hx685_4
      have hw685_3 := hx685_3
      have hw685_2 := hx685_2
      have hw685_1 := hx685_1
      have hw685_0 := hx685_0
      cases e685
      (first | replace hx685_0 := (HB.out.cell (World.block_lt_of_cell? w _ hx685_0)).trans hx685_0 | skip)
      (first | replace hx685_1 := (HB.out.cell (World.block_lt_of_cell? w _ hx685_1)).trans hx685_1 | skip)
      (first | replace hx685_2 := (HB.out.cell (World.block_lt_of_cell? w _ hx685_2)).trans hx685_2 | skip)
      (first | replace hx685_3 := (HB.out.cell (World.block_lt_of_cell? w _ hx685_3)).trans hx685_3 | skip)
      (first | replace hx685_4 := (HB.out.cell (World.block_lt_of_cell? w _ hx685_4)).trans hx685_4 | skip)
      (first | replace hx685_5 := (HB.out.cell (World.block_lt_of_cell? w _ hx685_5)).trans hx685_5 | skip)
      (first | replace hx685_6 := (HB.out.cell (World.block_lt_of_cell? w _ hx685_6)).trans hx685_6 | skip)
      (first | replace hx685_7 := (HB.out.cell (World.block_lt_of_cell? w _ hx685_7)).trans hx685_7 | skip)
      (first | replace hx685_8 := (HB.out.cell (World.block_lt_of_cell? w _ hx685_8)).trans hx685_8 | skip)
      (first | replace hx685_9 := (HB.out.cell (World.block_lt_of_cell? w _ hx685_9)).trans hx685_9 | skip)
      (first | replace hx685_10 := (HB.out.cell (World.block_lt_of_cell? w _ hx685_10)).trans hx685_10 | skip)
      replace p685 := eq_true p685
      replace q685 := eq_true q685
      refine start_ (n := 10) (S := fun w' => w'.cell? (ad684.add ((x5_1).toNat * 11)) = some (.int .i64 ((rd_T61 l0 x5_1).f0.f0)) ∧ w'.cell? ⟨(ad684.add ((x5_1).toNat * 11)).block, (ad684.add ((x5_1).toNat * 11)).off + 1, none⟩ = some (.int .i64 ((rd_T61 l0 x5_1).f0.f1)) ∧ w'.cell? ⟨(ad684.add ((x5_1).toNat * 11)).block, (ad684.add ((x5_1).toNat * 11)).off + 2, none⟩ = some (.float .f64 ((rd_T61 l0 x5_1).f0.f2)) ∧ w'.cell? ⟨(ad684.add ((x5_1).toNat * 11)).block, (ad684.add ((x5_1).toNat * 11)).off + 3, none⟩ = some (.string ((rd_T61 l0 x5_1).f0.f3)) ∧ w'.cell? ⟨(ad684.add ((x5_1).toNat * 11)).block, (ad684.add ((x5_1).toNat * 11)).off + 4, none⟩ = some (.int .i64 ((rd_T61 l0 x5_1).f0.f4)) ∧ w'.cell? ⟨(ad684.add ((x5_1).toNat * 11)).block, (ad684.add ((x5_1).toNat * 11)).off + 5, none⟩ = some (.int .i64 ((rd_T61 l0 x5_1).f1.f0)) ∧ w'.cell? ⟨(ad684.add ((x5_1).toNat * 11)).block, (ad684.add ((x5_1).toNat * 11)).off + 6, none⟩ = some (.int .i64 ((rd_T61 l0 x5_1).f1.f1)) ∧ w'.cell? ⟨(ad684.add ((x5_1).toNat * 11)).block, (ad684.add ((x5_1).toNat * 11)).off + 7, none⟩ = some (.float .f64 ((rd_T61 l0 x5_1).f1.f2)) ∧ w'.cell? ⟨(ad684.add ((x5_1).toNat * 11)).block, (ad684.add ((x5_1).toNat * 11)).off + 8, none⟩ = some (.string ((rd_T61 l0 x5_1).f1.f3)) ∧ w'.cell? ⟨(ad684.add ((x5_1).toNat * 11)).block, (ad684.add ((x5_1).toNat * 11)).off + 9, none⟩ = some (.int .i64 ((rd_T61 l0 x5_1).f1.f4)) ∧ w'.cell? ⟨(ad684.add ((x5_1).toNat * 11)).block, (ad684.add ((x5_1).toNat * 11)).off + 10, none⟩ = some (.int .i64 ((rd_T61 l0 x5_1).f2)) ∧ w'.cell? (ad685.add ((x5_1).toNat * 11)) = some (.int .i64 ((rd_T61 l1 x5_1).f0.f0)) ∧ w'.cell? ⟨(ad685.add ((x5_1).toNat * 11)).block, (ad685.add ((x5_1).toNat * 11)).off + 1, none⟩ = some (.int .i64 ((rd_T61 l1 x5_1).f0.f1)) ∧ w'.cell? ⟨(ad685.add ((x5_1).toNat * 11)).block, (ad685.add ((x5_1).toNat * 11)).off + 2, none⟩ = some (.float .f64 ((rd_T61 l1 x5_1).f0.f2)) ∧ w'.cell? ⟨(ad685.add ((x5_1).toNat * 11)).block, (ad685.add ((x5_1).toNat * 11)).off + 3, none⟩ = some (.string ((rd_T61 l1 x5_1).f0.f3)) ∧ w'.cell? ⟨(ad685.add ((x5_1).toNat * 11)).block, (ad685.add ((x5_1).toNat * 11)).off + 4, none⟩ = some (.int .i64 ((rd_T61 l1 x5_1).f0.f4)) ∧ w'.cell? ⟨(ad685.add ((x5_1).toNat * 11)).block, (ad685.add ((x5_1).toNat * 11)).off + 5, none⟩ = some (.int .i64 ((rd_T61 l1 x5_1).f1.f0)) ∧ w'.cell? ⟨(ad685.add ((x5_1).toNat * 11)).block, (ad685.add ((x5_1).toNat * 11)).off + 6, none⟩ = some (.int .i64 ((rd_T61 l1 x5_1).f1.f1)) ∧ w'.cell? ⟨(ad685.add ((x5_1).toNat * 11)).block, (ad685.add ((x5_1).toNat * 11)).off + 7, none⟩ = some (.float .f64 ((rd_T61 l1 x5_1).f1.f2)) ∧ w'.cell? ⟨(ad685.add ((x5_1).toNat * 11)).block, (ad685.add ((x5_1).toNat * 11)).off + 8, none⟩ = some (.string ((rd_T61 l1 x5_1).f1.f3)) ∧ w'.cell? ⟨(ad685.add ((x5_1).toNat * 11)).block, (ad685.add ((x5_1).toNat * 11)).off + 9, none⟩ = some (.int .i64 ((rd_T61 l1 x5_1).f1.f4)) ∧ w'.cell? ⟨(ad685.add ((x5_1).toNat * 11)).block, (ad685.add ((x5_1).toNat * 11)).off + 10, none⟩ = some (.int .i64 ((rd_T61 l1 x5_1).f2))) (ds := []) #[false, false, false, false, false, false, false, false, false, false] (by kernel_rfl) rfl rfl ⟨((HB.out.cell (World.block_lt_of_cell? w _ hw684_0)).trans hw684_0), ((HB.out.cell (World.block_lt_of_cell? w _ hw684_1)).trans hw684_1), ((HB.out.cell (World.block_lt_of_cell? w _ hw684_2)).trans hw684_2), ((HB.out.cell (World.block_lt_of_cell? w _ hw684_3)).trans hw684_3), ((HB.out.cell (World.block_lt_of_cell? w _ hw684_4)).trans hw684_4), ((HB.out.cell (World.block_lt_of_cell? w _ hw684_5)).trans hw684_5), ((HB.out.cell (World.block_lt_of_cell? w _ hw684_6)).trans hw684_6), ((HB.out.cell (World.block_lt_of_cell? w _ hw684_7)).trans hw684_7), ((HB.out.cell (World.block_lt_of_cell? w _ hw684_8)).trans hw684_8), ((HB.out.cell (World.block_lt_of_cell? w _ hw684_9)).trans hw684_9), ((HB.out.cell (World.block_lt_of_cell? w _ hw684_10)).trans hw684_10), ((HB.out.cell (World.block_lt_of_cell? w _ hw685_0)).trans hw685_0), ((HB.out.cell (World.block_lt_of_cell? w _ hw685_1)).trans hw685_1), ((HB.out.cell (World.block_lt_of_cell? w _ hw685_2)).trans hw685_2), ((HB.out.cell (World.block_lt_of_cell? w _ hw685_3)).trans hw685_3), ((HB.out.cell (World.block_lt_of_cell? w _ hw685_4)).trans hw685_4), ((HB.out.cell (World.block_lt_of_cell? w _ hw685_5)).trans hw685_5), ((HB.out.cell (World.block_lt_of_cell? w _ hw685_6)).trans hw685_6), ((HB.out.cell (World.block_lt_of_cell? w _ hw685_7)).trans hw685_7), ((HB.out.cell (World.block_lt_of_cell? w _ hw685_8)).trans hw685_8), ((HB.out.cell (World.block_lt_of_cell? w _ hw685_9)).trans hw685_9), ((HB.out.cell (World.block_lt_of_cell? w _ hw685_10)).trans hw685_10)⟩ (fun hHeld => ?_); refine with_tabW laws_eqPairS.tab6 laws_eqPairS.bits6 (fun HT_ HW_ => ?_)
      generalize wr.drew = w11 at HB hx684_0 hx684_1 hx684_10 hx684_2 hx684_3 hx684_4 hx684_5 hx684_6 hx684_7 hx684_8 hx684_9 hx685_0 hx685_1 hx685_10 hx685_2 hx685_3 hx685_4 hx685_5 hx685_6 hx685_7 hx685_8 hx685_9 hHeld ⊢
      refine pure_ (i := 0) (N := some 17) (v := ?_) (a' := ?_) #[true, false, false, false, false, false, false, false, false, false] rfl rfl (any_of HT_.out (by kernel_rfl)) (fun _ _ _ h => h) (Or.inl ⟨by rfl, ?_⟩) ?_ ?_
      rotate_left
      · intro w'
        go_simp
        with_reducible rfl
      rotate_left
      · simp only [Act.put, List.setIfInBounds_toArray, List.set_cons_zero, List.set_cons_succ, i64_w, i32_w]
        rfl
      refine pure_ (i := 1) (N := some 18) (v := ?_) (a' := ?_) #[true, true, false, false, false, false, false, false, false, false] rfl rfl (any_of HT_.out (by kernel_rfl)) (fun _ _ _ h => h) (Or.inl ⟨by rfl, ?_⟩) ?_ ?_
      rotate_left
      · intro w'
        go_simp
        with_reducible rfl
      rotate_left
      · simp only [Act.put, List.setIfInBounds_toArray, List.set_cons_zero, List.set_cons_succ, i64_w, i32_w]
        rfl
      refine pure_ (i := 2) (N := some 19) (v := ?_) (a' := ?_) #[true, true, true, false, false, false, false, false, false, false] rfl rfl (any_of HT_.out (by kernel_rfl)) (fun _ _ _ h => h) (Or.inl ⟨by rfl, ?_⟩) ?_ ?_
      rotate_left
      · intro w'
        go_simp
        with_reducible rfl
      rotate_left
      · simp only [Act.put, List.setIfInBounds_toArray, List.set_cons_zero, List.set_cons_succ, i64_w, i32_w]
        rfl
      refine pure_ (i := 4) (N := some 21) (v := ?_) (a' := ?_) #[true, true, true, false, true, false, false, false, false, false] rfl rfl (any_of HT_.out (by kernel_rfl)) (fun _ _ _ h => h) (Or.inl ⟨by rfl, ?_⟩) ?_ ?_
      rotate_left
      · intro w'
        go_simp
        with_reducible rfl
      rotate_left
      · simp only [Act.put, List.setIfInBounds_toArray, List.set_cons_zero, List.set_cons_succ, i64_w, i32_w]
        rfl
      refine pure_ (i := 5) (N := some 22) (v := ?_) (a' := ?_) #[true, true, true, false, true, true, false, false, false, false] rfl rfl (any_of HT_.out (by kernel_rfl)) (fun _ _ _ h => h) (Or.inl ⟨by rfl, ?_⟩) ?_ ?_
      rotate_left
      · intro w'
        go_simp
        with_reducible rfl
      rotate_left
      · simp only [Act.put, List.setIfInBounds_toArray, List.set_cons_zero, List.set_cons_succ, i64_w, i32_w]
        rfl
      refine pure_ (i := 6) (N := some 23) (v := ?_) (a' := ?_) #[true, true, true, false, true, true, true, false, false, false] rfl rfl (any_of HT_.out (by kernel_rfl)) (fun _ _ _ h => h) (Or.inl ⟨by rfl, ?_⟩) ?_ ?_
      rotate_left
      · intro w'
        go_simp
        with_reducible rfl
      rotate_left
      · simp only [Act.put, List.setIfInBounds_toArray, List.set_cons_zero, List.set_cons_succ, i64_w, i32_w]
        rfl
      refine take_ (i := 3) (N := some 20) (v := ?_) (a' := ?_) #[true, true, true, true, true, true, true, false, false, false] rfl rfl (take_ofW HT_.out HW_.out (by kernel_rfl)) (fun _ _ _ h => h) (Or.inl ⟨by rfl, ?_⟩) hHeld ?_ ?_
      rotate_left
      · rintro w' ⟨s0, s1, s2, s3, s4, s5, s6, s7, s8, s9, s10, s11, s12, s13, s14, s15, s16, s17, s18, s19, s20, s21⟩
        go_simp
        with_reducible rfl
      rotate_left
      · simp only [Act.put, List.setIfInBounds_toArray, List.set_cons_zero, List.set_cons_succ, i64_w, i32_w]
        rfl
      refine take_ (i := 7) (N := some 24) (v := ?_) (a' := ?_) #[true, true, true, true, true, true, true, true, false, false] rfl rfl (take_ofW HT_.out HW_.out (by kernel_rfl)) (fun _ _ _ h => h) (Or.inl ⟨by rfl, ?_⟩) hHeld ?_ ?_
      rotate_left
      · rintro w' ⟨s0, s1, s2, s3, s4, s5, s6, s7, s8, s9, s10, s11, s12, s13, s14, s15, s16, s17, s18, s19, s20, s21⟩
        go_simp
        with_reducible rfl
      rotate_left
      · simp only [Act.put, List.setIfInBounds_toArray, List.set_cons_zero, List.set_cons_succ, i64_w, i32_w]
        rfl
      refine one_ (i := 8) (N := some 25) #[true, true, true, true, true, true, true, true, true, false] rfl rfl (one_of HT_.out (by kernel_rfl)) (by decide) (fun K hK => ?_)
      refine goes_ Try.func83 (by kernel_rfl) rfl #[.agg #[.int .i64 ((rd_T61 l0 x5_1).f0.f0), .int .i64 ((rd_T61 l0 x5_1).f0.f1), .float .f64 ((rd_T61 l0 x5_1).f0.f2), .string ((rd_T61 l0 x5_1).f0.f3), .int .i64 ((rd_T61 l0 x5_1).f0.f4), .int .i64 ((rd_T61 l0 x5_1).f1.f0), .int .i64 ((rd_T61 l0 x5_1).f1.f1), .float .f64 ((rd_T61 l0 x5_1).f1.f2), .string ((rd_T61 l0 x5_1).f1.f3), .int .i64 ((rd_T61 l0 x5_1).f1.f4), .int .i64 ((rd_T61 l0 x5_1).f2)], .agg #[.int .i64 ((rd_T61 l1 x5_1).f0.f0), .int .i64 ((rd_T61 l1 x5_1).f0.f1), .float .f64 ((rd_T61 l1 x5_1).f0.f2), .string ((rd_T61 l1 x5_1).f0.f3), .int .i64 ((rd_T61 l1 x5_1).f0.f4), .int .i64 ((rd_T61 l1 x5_1).f1.f0), .int .i64 ((rd_T61 l1 x5_1).f1.f1), .float .f64 ((rd_T61 l1 x5_1).f1.f2), .string ((rd_T61 l1 x5_1).f1.f3), .int .i64 ((rd_T61 l1 x5_1).f1.f4), .int .i64 ((rd_T61 l1 x5_1).f2)]] (by rfl) rfl rfl (by (try simp only [List.map_toArray, List.map_cons, List.map_nil]); first | done | rfl | (simp only [List.length_drop, List.length_take]; rfl)) ?_
      with_reducible refine (laws_eqPair.calls k1 ((rd_T61 l0 x5_1).f0.f0) ((rd_T61 l0 x5_1).f0.f1) ((rd_T61 l0 x5_1).f0.f2) ((rd_T61 l0 x5_1).f0.f3) ((rd_T61 l0 x5_1).f0.f4) ((rd_T61 l0 x5_1).f1.f0) ((rd_T61 l0 x5_1).f1.f1) ((rd_T61 l0 x5_1).f1.f2) ((rd_T61 l0 x5_1).f1.f3) ((rd_T61 l0 x5_1).f1.f4) ((rd_T61 l0 x5_1).f2) ((rd_T61 l1 x5_1).f0.f0) ((rd_T61 l1 x5_1).f0.f1) ((rd_T61 l1 x5_1).f0.f2) ((rd_T61 l1 x5_1).f0.f3) ((rd_T61 l1 x5_1).f0.f4) ((rd_T61 l1 x5_1).f1.f0) ((rd_T61 l1 x5_1).f1.f1) ((rd_T61 l1 x5_1).f1.f2) ((rd_T61 l1 x5_1).f1.f3) ((rd_T61 l1 x5_1).f1.f4) ((rd_T61 l1 x5_1).f2) false _ A7.out).mono ?_
      rintro e w12 ⟨rfl, hb⟩
      refine ⟨_, rfl, ?_⟩
      replace HB := hbs HB.out hb
      (try clear hb)
      refine hK.out _ _ ⟨((HB.out.cell (World.block_lt_of_cell? w _ hw684_0)).trans hw684_0), ((HB.out.cell (World.block_lt_of_cell? w _ hw684_1)).trans hw684_1), ((HB.out.cell (World.block_lt_of_cell? w _ hw684_2)).trans hw684_2), ((HB.out.cell (World.block_lt_of_cell? w _ hw684_3)).trans hw684_3), ((HB.out.cell (World.block_lt_of_cell? w _ hw684_4)).trans hw684_4), ((HB.out.cell (World.block_lt_of_cell? w _ hw684_5)).trans hw684_5), ((HB.out.cell (World.block_lt_of_cell? w _ hw684_6)).trans hw684_6), ((HB.out.cell (World.block_lt_of_cell? w _ hw684_7)).trans hw684_7), ((HB.out.cell (World.block_lt_of_cell? w _ hw684_8)).trans hw684_8), ((HB.out.cell (World.block_lt_of_cell? w _ hw684_9)).trans hw684_9), ((HB.out.cell (World.block_lt_of_cell? w _ hw684_10)).trans hw684_10), ((HB.out.cell (World.block_lt_of_cell? w _ hw685_0)).trans hw685_0), ((HB.out.cell (World.block_lt_of_cell? w _ hw685_1)).trans hw685_1), ((HB.out.cell (World.block_lt_of_cell? w _ hw685_2)).trans hw685_2), ((HB.out.cell (World.block_lt_of_cell? w _ hw685_3)).trans hw685_3), ((HB.out.cell (World.block_lt_of_cell? w _ hw685_4)).trans hw685_4), ((HB.out.cell (World.block_lt_of_cell? w _ hw685_5)).trans hw685_5), ((HB.out.cell (World.block_lt_of_cell? w _ hw685_6)).trans hw685_6), ((HB.out.cell (World.block_lt_of_cell? w _ hw685_7)).trans hw685_7), ((HB.out.cell (World.block_lt_of_cell? w _ hw685_8)).trans hw685_8), ((HB.out.cell (World.block_lt_of_cell? w _ hw685_9)).trans hw685_9), ((HB.out.cell (World.block_lt_of_cell? w _ hw685_10)).trans hw685_10)⟩ (fun hHeld => ?_)
      clear hK K
      refine norm_ (a' := ?_) ?_ ?_
      rotate_left
      · show Act.put _ (some 25) _ = _
        simp only [Act.put, List.setIfInBounds_toArray, List.set_cons_zero, List.set_cons_succ, i64_w, i32_w]
        rfl
      refine pure_ (i := 9) (N := some 26) (v := ?_) (a' := ?_) #[true, true, true, true, true, true, true, true, true, true] rfl rfl (any_of HT_.out (by kernel_rfl)) (fun _ _ _ h => h) (Or.inl ⟨by rfl, ?_⟩) ?_ ?_
      rotate_left
      · intro w'
        go_simp
        with_reducible rfl
      rotate_left
      · simp only [Act.put, List.setIfInBounds_toArray, List.set_cons_zero, List.set_cons_succ, i64_w, i32_w]
        rfl
      refine done_ (done_of HT_.out (by kernel_rfl)) ?_
      try go_wp2
      go_ret
      exact ⟨by first | rfl | (simp <;> rfl) | (simp [*] <;> rfl), hbe HB.out⟩
    subst c8
    have H1 : (laws_eqPairS.l0 k1 l0 l1 (wrap64 (x5_1 + 1))) = some r := by rw [if_pos rfl] at H; exact H
    clear H
    have H := H1
    clear H1
    have H' := Aside0.mk H
    clear H
    try go_wp2
    replace HB := Aside0.mk (below_drew1 HB.out)
    have p684 : 0 ≤ (x5_1 : Int) := of_decide_eq_true (by first | (with_reducible assumption) | assumption)
    have q684 : x5_1 < (l0.length : Int) := of_decide_eq_true (by first | (with_reducible assumption) | assumption)
    obtain ⟨ad684, e684, hx684_0, hx684_1, hx684_2, hx684_3, hx684_4, hx684_5, hx684_6, hx684_7, hx684_8, hx684_9, hx684_10⟩ := at_T61 HR0.out x5_1 p684 q684
    have hw684_10 := hx684_10
    have hw684_9 := hx684_9
    have hw684_8 := hx684_8
    have hw684_7 := hx684_7
    have hw684_6 := hx684_6
    have hw684_5 := hx684_5
    have hw684_4 := hx684_4
    have hw684_3 := hx684_3
    have hw684_2 := hx684_2
    have hw684_1 := hx684_1
    have hw684_0 := hx684_0
    cases e684
    (first | replace hx684_0 := (HB.out.cell (World.block_lt_of_cell? w _ hx684_0)).trans hx684_0 | skip)
    (first | replace hx684_1 := (HB.out.cell (World.block_lt_of_cell? w _ hx684_1)).trans hx684_1 | skip)
    (first | replace hx684_2 := (HB.out.cell (World.block_lt_of_cell? w _ hx684_2)).trans hx684_2 | skip)
    (first | replace hx684_3 := (HB.out.cell (World.block_lt_of_cell? w _ hx684_3)).trans hx684_3 | skip)
    (first | replace hx684_4 := (HB.out.cell (World.block_lt_of_cell? w _ hx684_4)).trans hx684_4 | skip)
    (first | replace hx684_5 := (HB.out.cell (World.block_lt_of_cell? w _ hx684_5)).trans hx684_5 | skip)
    (first | replace hx684_6 := (HB.out.cell (World.block_lt_of_cell? w _ hx684_6)).trans hx684_6 | skip)
    (first | replace hx684_7 := (HB.out.cell (World.block_lt_of_cell? w _ hx684_7)).trans hx684_7 | skip)
    (first | replace hx684_8 := (HB.out.cell (World.block_lt_of_cell? w _ hx684_8)).trans hx684_8 | skip)
    (first | replace hx684_9 := (HB.out.cell (World.block_lt_of_cell? w _ hx684_9)).trans hx684_9 | skip)
    (first | replace hx684_10 := (HB.out.cell (World.block_lt_of_cell? w _ hx684_10)).trans hx684_10 | skip)
    replace p684 := eq_true p684
    replace q684 := eq_true q684
    have p685 : 0 ≤ (x5_1 : Int) := of_decide_eq_true (by first | (with_reducible assumption) | assumption)
    have q685 : x5_1 < (l1.length : Int) := of_decide_eq_true (by first | (with_reducible assumption) | assumption)
    obtain ⟨ad685, e685, hx685_0, hx685_1, hx685_2, hx685_3, hx685_4, hx685_5, hx685_6, hx685_7, hx685_8, hx685_9, hx685_10⟩ := at_T61 HR1.out x5_1 p685 q685
    have hw685_10 := hx685_10
    have hw685_9 := hx685_9
    have hw685_8 := hx685_8
    have hw685_7 := hx685_7
    have hw685_6 := hx685_6
    have hw685_5 := hx685_5
    have hw685_4 := hx685_4
    have hw685_3 := hx685_3
    have hw685_2 := hx685_2
    have hw685_1 := hx685_1
    have hw685_0 := hx685_0
    cases e685
    (first | replace hx685_0 := (HB.out.cell (World.block_lt_of_cell? w _ hx685_0)).trans hx685_0 | skip)
    (first | replace hx685_1 := (HB.out.cell (World.block_lt_of_cell? w _ hx685_1)).trans hx685_1 | skip)
    (first | replace hx685_2 := (HB.out.cell (World.block_lt_of_cell? w _ hx685_2)).trans hx685_2 | skip)
    (first | replace hx685_3 := (HB.out.cell (World.block_lt_of_cell? w _ hx685_3)).trans hx685_3 | skip)
    (first | replace hx685_4 := (HB.out.cell (World.block_lt_of_cell? w _ hx685_4)).trans hx685_4 | skip)
    (first | replace hx685_5 := (HB.out.cell (World.block_lt_of_cell? w _ hx685_5)).trans hx685_5 | skip)
    (first | replace hx685_6 := (HB.out.cell (World.block_lt_of_cell? w _ hx685_6)).trans hx685_6 | skip)
    (first | replace hx685_7 := (HB.out.cell (World.block_lt_of_cell? w _ hx685_7)).trans hx685_7 | skip)
    (first | replace hx685_8 := (HB.out.cell (World.block_lt_of_cell? w _ hx685_8)).trans hx685_8 | skip)
    (first | replace hx685_9 := (HB.out.cell (World.block_lt_of_cell? w _ hx685_9)).trans hx685_9 | skip)
    (first | replace hx685_10 := (HB.out.cell (World.block_lt_of_cell? w _ hx685_10)).trans hx685_10 | skip)
    replace p685 := eq_true p685
    replace q685 := eq_true q685
    refine start_ (n := 10) (S := fun w' => w'.cell? (ad684.add ((x5_1).toNat * 11)) = some (.int .i64 ((rd_T61 l0 x5_1).f0.f0)) ∧ w'.cell? ⟨(ad684.add ((x5_1).toNat * 11)).block, (ad684.add ((x5_1).toNat * 11)).off + 1, none⟩ = some (.int .i64 ((rd_T61 l0 x5_1).f0.f1)) ∧ w'.cell? ⟨(ad684.add ((x5_1).toNat * 11)).block, (ad684.add ((x5_1).toNat * 11)).off + 2, none⟩ = some (.float .f64 ((rd_T61 l0 x5_1).f0.f2)) ∧ w'.cell? ⟨(ad684.add ((x5_1).toNat * 11)).block, (ad684.add ((x5_1).toNat * 11)).off + 3, none⟩ = some (.string ((rd_T61 l0 x5_1).f0.f3)) ∧ w'.cell? ⟨(ad684.add ((x5_1).toNat * 11)).block, (ad684.add ((x5_1).toNat * 11)).off + 4, none⟩ = some (.int .i64 ((rd_T61 l0 x5_1).f0.f4)) ∧ w'.cell? ⟨(ad684.add ((x5_1).toNat * 11)).block, (ad684.add ((x5_1).toNat * 11)).off + 5, none⟩ = some (.int .i64 ((rd_T61 l0 x5_1).f1.f0)) ∧ w'.cell? ⟨(ad684.add ((x5_1).toNat * 11)).block, (ad684.add ((x5_1).toNat * 11)).off + 6, none⟩ = some (.int .i64 ((rd_T61 l0 x5_1).f1.f1)) ∧ w'.cell? ⟨(ad684.add ((x5_1).toNat * 11)).block, (ad684.add ((x5_1).toNat * 11)).off + 7, none⟩ = some (.float .f64 ((rd_T61 l0 x5_1).f1.f2)) ∧ w'.cell? ⟨(ad684.add ((x5_1).toNat * 11)).block, (ad684.add ((x5_1).toNat * 11)).off + 8, none⟩ = some (.string ((rd_T61 l0 x5_1).f1.f3)) ∧ w'.cell? ⟨(ad684.add ((x5_1).toNat * 11)).block, (ad684.add ((x5_1).toNat * 11)).off + 9, none⟩ = some (.int .i64 ((rd_T61 l0 x5_1).f1.f4)) ∧ w'.cell? ⟨(ad684.add ((x5_1).toNat * 11)).block, (ad684.add ((x5_1).toNat * 11)).off + 10, none⟩ = some (.int .i64 ((rd_T61 l0 x5_1).f2)) ∧ w'.cell? (ad685.add ((x5_1).toNat * 11)) = some (.int .i64 ((rd_T61 l1 x5_1).f0.f0)) ∧ w'.cell? ⟨(ad685.add ((x5_1).toNat * 11)).block, (ad685.add ((x5_1).toNat * 11)).off + 1, none⟩ = some (.int .i64 ((rd_T61 l1 x5_1).f0.f1)) ∧ w'.cell? ⟨(ad685.add ((x5_1).toNat * 11)).block, (ad685.add ((x5_1).toNat * 11)).off + 2, none⟩ = some (.float .f64 ((rd_T61 l1 x5_1).f0.f2)) ∧ w'.cell? ⟨(ad685.add ((x5_1).toNat * 11)).block, (ad685.add ((x5_1).toNat * 11)).off + 3, none⟩ = some (.string ((rd_T61 l1 x5_1).f0.f3)) ∧ w'.cell? ⟨(ad685.add ((x5_1).toNat * 11)).block, (ad685.add ((x5_1).toNat * 11)).off + 4, none⟩ = some (.int .i64 ((rd_T61 l1 x5_1).f0.f4)) ∧ w'.cell? ⟨(ad685.add ((x5_1).toNat * 11)).block, (ad685.add ((x5_1).toNat * 11)).off + 5, none⟩ = some (.int .i64 ((rd_T61 l1 x5_1).f1.f0)) ∧ w'.cell? ⟨(ad685.add ((x5_1).toNat * 11)).block, (ad685.add ((x5_1).toNat * 11)).off + 6, none⟩ = some (.int .i64 ((rd_T61 l1 x5_1).f1.f1)) ∧ w'.cell? ⟨(ad685.add ((x5_1).toNat * 11)).block, (ad685.add ((x5_1).toNat * 11)).off + 7, none⟩ = some (.float .f64 ((rd_T61 l1 x5_1).f1.f2)) ∧ w'.cell? ⟨(ad685.add ((x5_1).toNat * 11)).block, (ad685.add ((x5_1).toNat * 11)).off + 8, none⟩ = some (.string ((rd_T61 l1 x5_1).f1.f3)) ∧ w'.cell? ⟨(ad685.add ((x5_1).toNat * 11)).block, (ad685.add ((x5_1).toNat * 11)).off + 9, none⟩ = some (.int .i64 ((rd_T61 l1 x5_1).f1.f4)) ∧ w'.cell? ⟨(ad685.add ((x5_1).toNat * 11)).block, (ad685.add ((x5_1).toNat * 11)).off + 10, none⟩ = some (.int .i64 ((rd_T61 l1 x5_1).f2))) (ds := []) #[false, false, false, false, false, false, false, false, false, false] (by kernel_rfl) rfl rfl ⟨((HB.out.cell (World.block_lt_of_cell? w _ hw684_0)).trans hw684_0), ((HB.out.cell (World.block_lt_of_cell? w _ hw684_1)).trans hw684_1), ((HB.out.cell (World.block_lt_of_cell? w _ hw684_2)).trans hw684_2), ((HB.out.cell (World.block_lt_of_cell? w _ hw684_3)).trans hw684_3), ((HB.out.cell (World.block_lt_of_cell? w _ hw684_4)).trans hw684_4), ((HB.out.cell (World.block_lt_of_cell? w _ hw684_5)).trans hw684_5), ((HB.out.cell (World.block_lt_of_cell? w _ hw684_6)).trans hw684_6), ((HB.out.cell (World.block_lt_of_cell? w _ hw684_7)).trans hw684_7), ((HB.out.cell (World.block_lt_of_cell? w _ hw684_8)).trans hw684_8), ((HB.out.cell (World.block_lt_of_cell? w _ hw684_9)).trans hw684_9), ((HB.out.cell (World.block_lt_of_cell? w _ hw684_10)).trans hw684_10), ((HB.out.cell (World.block_lt_of_cell? w _ hw685_0)).trans hw685_0), ((HB.out.cell (World.block_lt_of_cell? w _ hw685_1)).trans hw685_1), ((HB.out.cell (World.block_lt_of_cell? w _ hw685_2)).trans hw685_2), ((HB.out.cell (World.block_lt_of_cell? w _ hw685_3)).trans hw685_3), ((HB.out.cell (World.block_lt_of_cell? w _ hw685_4)).trans hw685_4), ((HB.out.cell (World.block_lt_of_cell? w _ hw685_5)).trans hw685_5), ((HB.out.cell (World.block_lt_of_cell? w _ hw685_6)).trans hw685_6), ((HB.out.cell (World.block_lt_of_cell? w _ hw685_7)).trans hw685_7), ((HB.out.cell (World.block_lt_of_cell? w _ hw685_8)).trans hw685_8), ((HB.out.cell (World.block_lt_of_cell? w _ hw685_9)).trans hw685_9), ((HB.out.cell (World.block_lt_of_cell? w _ hw685_10)).trans hw685_10)⟩ (fun hHeld => ?_); refine with_tabW laws_eqPairS.tab6 laws_eqPairS.bits6 (fun HT_ HW_ => ?_)
    generalize wr.drew = w9 at HB hx684_0 hx684_1 hx684_10 hx684_2 hx684_3 hx684_4 hx684_5 hx684_6 hx684_7 hx684_8 hx684_9 hx685_0 hx685_1 hx685_10 hx685_2 hx685_3 hx685_4 hx685_5 hx685_6 hx685_7 hx685_8 hx685_9 hHeld ⊢
    refine pure_ (i := 0) (N := some 17) (v := ?_) (a' := ?_) #[true, false, false, false, false, false, false, false, false, false] rfl rfl (any_of HT_.out (by kernel_rfl)) (fun _ _ _ h => h) (Or.inl ⟨by rfl, ?_⟩) ?_ ?_
    rotate_left
    · intro w'
      go_simp
      with_reducible rfl
    rotate_left
    · simp only [Act.put, List.setIfInBounds_toArray, List.set_cons_zero, List.set_cons_succ, i64_w, i32_w]
      rfl
    refine pure_ (i := 1) (N := some 18) (v := ?_) (a' := ?_) #[true, true, false, false, false, false, false, false, false, false] rfl rfl (any_of HT_.out (by kernel_rfl)) (fun _ _ _ h => h) (Or.inl ⟨by rfl, ?_⟩) ?_ ?_
    rotate_left
    · intro w'
      go_simp
      with_reducible rfl
    rotate_left
    · simp only [Act.put, List.setIfInBounds_toArray, List.set_cons_zero, List.set_cons_succ, i64_w, i32_w]
      rfl
    refine pure_ (i := 2) (N := some 19) (v := ?_) (a' := ?_) #[true, true, true, false, false, false, false, false, false, false] rfl rfl (any_of HT_.out (by kernel_rfl)) (fun _ _ _ h => h) (Or.inl ⟨by rfl, ?_⟩) ?_ ?_
    rotate_left
    · intro w'
      go_simp
      with_reducible rfl
    rotate_left
    · simp only [Act.put, List.setIfInBounds_toArray, List.set_cons_zero, List.set_cons_succ, i64_w, i32_w]
      rfl
    refine pure_ (i := 4) (N := some 21) (v := ?_) (a' := ?_) #[true, true, true, false, true, false, false, false, false, false] rfl rfl (any_of HT_.out (by kernel_rfl)) (fun _ _ _ h => h) (Or.inl ⟨by rfl, ?_⟩) ?_ ?_
    rotate_left
    · intro w'
      go_simp
      with_reducible rfl
    rotate_left
    · simp only [Act.put, List.setIfInBounds_toArray, List.set_cons_zero, List.set_cons_succ, i64_w, i32_w]
      rfl
    refine pure_ (i := 5) (N := some 22) (v := ?_) (a' := ?_) #[true, true, true, false, true, true, false, false, false, false] rfl rfl (any_of HT_.out (by kernel_rfl)) (fun _ _ _ h => h) (Or.inl ⟨by rfl, ?_⟩) ?_ ?_
    rotate_left
    · intro w'
      go_simp
      with_reducible rfl
    rotate_left
    · simp only [Act.put, List.setIfInBounds_toArray, List.set_cons_zero, List.set_cons_succ, i64_w, i32_w]
      rfl
    refine pure_ (i := 6) (N := some 23) (v := ?_) (a' := ?_) #[true, true, true, false, true, true, true, false, false, false] rfl rfl (any_of HT_.out (by kernel_rfl)) (fun _ _ _ h => h) (Or.inl ⟨by rfl, ?_⟩) ?_ ?_
    rotate_left
    · intro w'
      go_simp
      with_reducible rfl
    rotate_left
    · simp only [Act.put, List.setIfInBounds_toArray, List.set_cons_zero, List.set_cons_succ, i64_w, i32_w]
      rfl
    refine take_ (i := 3) (N := some 20) (v := ?_) (a' := ?_) #[true, true, true, true, true, true, true, false, false, false] rfl rfl (take_ofW HT_.out HW_.out (by kernel_rfl)) (fun _ _ _ h => h) (Or.inl ⟨by rfl, ?_⟩) hHeld ?_ ?_
    rotate_left
    · rintro w' ⟨s0, s1, s2, s3, s4, s5, s6, s7, s8, s9, s10, s11, s12, s13, s14, s15, s16, s17, s18, s19, s20, s21⟩
      go_simp
      with_reducible rfl
    rotate_left
    · simp only [Act.put, List.setIfInBounds_toArray, List.set_cons_zero, List.set_cons_succ, i64_w, i32_w]
      rfl
    refine take_ (i := 7) (N := some 24) (v := ?_) (a' := ?_) #[true, true, true, true, true, true, true, true, false, false] rfl rfl (take_ofW HT_.out HW_.out (by kernel_rfl)) (fun _ _ _ h => h) (Or.inl ⟨by rfl, ?_⟩) hHeld ?_ ?_
    rotate_left
    · rintro w' ⟨s0, s1, s2, s3, s4, s5, s6, s7, s8, s9, s10, s11, s12, s13, s14, s15, s16, s17, s18, s19, s20, s21⟩
      go_simp
      with_reducible rfl
    rotate_left
    · simp only [Act.put, List.setIfInBounds_toArray, List.set_cons_zero, List.set_cons_succ, i64_w, i32_w]
      rfl
    refine one_ (i := 8) (N := some 25) #[true, true, true, true, true, true, true, true, true, false] rfl rfl (one_of HT_.out (by kernel_rfl)) (by decide) (fun K hK => ?_)
    refine goes_ Try.func83 (by kernel_rfl) rfl #[.agg #[.int .i64 ((rd_T61 l0 x5_1).f0.f0), .int .i64 ((rd_T61 l0 x5_1).f0.f1), .float .f64 ((rd_T61 l0 x5_1).f0.f2), .string ((rd_T61 l0 x5_1).f0.f3), .int .i64 ((rd_T61 l0 x5_1).f0.f4), .int .i64 ((rd_T61 l0 x5_1).f1.f0), .int .i64 ((rd_T61 l0 x5_1).f1.f1), .float .f64 ((rd_T61 l0 x5_1).f1.f2), .string ((rd_T61 l0 x5_1).f1.f3), .int .i64 ((rd_T61 l0 x5_1).f1.f4), .int .i64 ((rd_T61 l0 x5_1).f2)], .agg #[.int .i64 ((rd_T61 l1 x5_1).f0.f0), .int .i64 ((rd_T61 l1 x5_1).f0.f1), .float .f64 ((rd_T61 l1 x5_1).f0.f2), .string ((rd_T61 l1 x5_1).f0.f3), .int .i64 ((rd_T61 l1 x5_1).f0.f4), .int .i64 ((rd_T61 l1 x5_1).f1.f0), .int .i64 ((rd_T61 l1 x5_1).f1.f1), .float .f64 ((rd_T61 l1 x5_1).f1.f2), .string ((rd_T61 l1 x5_1).f1.f3), .int .i64 ((rd_T61 l1 x5_1).f1.f4), .int .i64 ((rd_T61 l1 x5_1).f2)]] (by rfl) rfl rfl (by (try simp only [List.map_toArray, List.map_cons, List.map_nil]); first | done | rfl | (simp only [List.length_drop, List.length_take]; rfl)) ?_
    with_reducible refine (laws_eqPair.calls k1 ((rd_T61 l0 x5_1).f0.f0) ((rd_T61 l0 x5_1).f0.f1) ((rd_T61 l0 x5_1).f0.f2) ((rd_T61 l0 x5_1).f0.f3) ((rd_T61 l0 x5_1).f0.f4) ((rd_T61 l0 x5_1).f1.f0) ((rd_T61 l0 x5_1).f1.f1) ((rd_T61 l0 x5_1).f1.f2) ((rd_T61 l0 x5_1).f1.f3) ((rd_T61 l0 x5_1).f1.f4) ((rd_T61 l0 x5_1).f2) ((rd_T61 l1 x5_1).f0.f0) ((rd_T61 l1 x5_1).f0.f1) ((rd_T61 l1 x5_1).f0.f2) ((rd_T61 l1 x5_1).f0.f3) ((rd_T61 l1 x5_1).f0.f4) ((rd_T61 l1 x5_1).f1.f0) ((rd_T61 l1 x5_1).f1.f1) ((rd_T61 l1 x5_1).f1.f2) ((rd_T61 l1 x5_1).f1.f3) ((rd_T61 l1 x5_1).f1.f4) ((rd_T61 l1 x5_1).f2) true _ A7.out).mono ?_
    rintro e w10 ⟨rfl, hb⟩
    refine ⟨_, rfl, ?_⟩
    replace HB := hbs HB.out hb
    (try clear hb)
    refine hK.out _ _ ⟨((HB.out.cell (World.block_lt_of_cell? w _ hw684_0)).trans hw684_0), ((HB.out.cell (World.block_lt_of_cell? w _ hw684_1)).trans hw684_1), ((HB.out.cell (World.block_lt_of_cell? w _ hw684_2)).trans hw684_2), ((HB.out.cell (World.block_lt_of_cell? w _ hw684_3)).trans hw684_3), ((HB.out.cell (World.block_lt_of_cell? w _ hw684_4)).trans hw684_4), ((HB.out.cell (World.block_lt_of_cell? w _ hw684_5)).trans hw684_5), ((HB.out.cell (World.block_lt_of_cell? w _ hw684_6)).trans hw684_6), ((HB.out.cell (World.block_lt_of_cell? w _ hw684_7)).trans hw684_7), ((HB.out.cell (World.block_lt_of_cell? w _ hw684_8)).trans hw684_8), ((HB.out.cell (World.block_lt_of_cell? w _ hw684_9)).trans hw684_9), ((HB.out.cell (World.block_lt_of_cell? w _ hw684_10)).trans hw684_10), ((HB.out.cell (World.block_lt_of_cell? w _ hw685_0)).trans hw685_0), ((HB.out.cell (World.block_lt_of_cell? w _ hw685_1)).trans hw685_1), ((HB.out.cell (World.block_lt_of_cell? w _ hw685_2)).trans hw685_2), ((HB.out.cell (World.block_lt_of_cell? w _ hw685_3)).trans hw685_3), ((HB.out.cell (World.block_lt_of_cell? w _ hw685_4)).trans hw685_4), ((HB.out.cell (World.block_lt_of_cell? w _ hw685_5)).trans hw685_5), ((HB.out.cell (World.block_lt_of_cell? w _ hw685_6)).trans hw685_6), ((HB.out.cell (World.block_lt_of_cell? w _ hw685_7)).trans hw685_7), ((HB.out.cell (World.block_lt_of_cell? w _ hw685_8)).trans hw685_8), ((HB.out.cell (World.block_lt_of_cell? w _ hw685_9)).trans hw685_9), ((HB.out.cell (World.block_lt_of_cell? w _ hw685_10)).trans hw685_10)⟩ (fun hHeld => ?_)
    clear hK K
    refine norm_ (a' := ?_) ?_ ?_
    rotate_left
    · show Act.put _ (some 25) _ = _
      simp only [Act.put, List.setIfInBounds_toArray, List.set_cons_zero, List.set_cons_succ, i64_w, i32_w]
      rfl
    refine pure_ (i := 9) (N := some 26) (v := ?_) (a' := ?_) #[true, true, true, true, true, true, true, true, true, true] rfl rfl (any_of HT_.out (by kernel_rfl)) (fun _ _ _ h => h) (Or.inl ⟨by rfl, ?_⟩) ?_ ?_
    rotate_left
    · intro w'
      go_simp
      with_reducible rfl
    rotate_left
    · simp only [Act.put, List.setIfInBounds_toArray, List.set_cons_zero, List.set_cons_succ, i64_w, i32_w]
      rfl
    refine done_ (done_of HT_.out (by kernel_rfl)) ?_
    try go_wp2
    go_roundg k1
    case measure => have := HK1.out; omega
    case rel => exact ⟨(wrap64 (x5_1 + 1)), (by first | rfl | (simp; done) | (simp [*]; done)), H', ⟨by have := HK1.out; omega⟩, ⟨by repeat (first | (with_reducible first | exact HB.out | apply below_alloc | apply pw_below_drewN | apply below_drew1) | exact HB.out)⟩⟩
def laws_eqTable.f (k : Nat) (l0_0 : List (S61)) (a0_1 : Int) (l1_0 : List (S61)) (a1_1 : Int) : Option (Bool) := (laws_eqPairS.f k l0_0 l1_0).bind fun t689 => (if t689 = true then (if a0_1 = a1_1 then (some true) else (some false)) else (some false))
set_option maxHeartbeats 8000000 in
set_option maxRecDepth 100000 in
theorem laws_eqTable.calls (k : Nat) (A0_0 : Option Addr) (c0_0 : Nat) (l0_0 : List (S61)) (a0_1 : Int) (A1_0 : Option Addr) (c1_0 : Nat) (l1_0 : List (S61)) (a1_1 : Int) (r : Bool) (w : World) (hr0_0 : Kd.C k61 w A0_0 l0_0.length l0_0) (hc0_0 : l0_0.length ≤ c0_0) (hr1_0 : Kd.C k61 w A1_0 l1_0.length l1_0) (hc1_0 : l1_0.length ≤ c1_0) (h : laws_eqTable.f k l0_0 a0_1 l1_0 a1_1 = some r) :
    Calls Try.prog 40 #[.agg #[.slice A0_0 l0_0.length c0_0, .int .i64 a0_1], .agg #[.slice A1_0 l1_0.length c1_0, .int .i64 a1_1]] w fun e w' => e = .returned (.bool r) ∧ Below w.heap.size w w' := by
  have hu56 := Try.underlying56
  have HR0_0 := Aside0.mk hr0_0
  have HC0_0 := Aside0.mk hc0_0
  clear hr0_0 hc0_0
  have HR1_0 := Aside0.mk hr1_0
  have HC1_0 := Aside0.mk hc1_0
  clear hr1_0 hc1_0
  have HB := Aside0.mk (Below.refl w.heap.size w)
  have H : ((laws_eqPairS.f k l0_0 l1_0).bind fun t689 => (if t689 = true then (if a0_1 = a1_1 then (some true) else (some false)) else (some false))) = some r := h
  clear h
  replace H := Option.bind_eq_some_iff.mp H
  obtain ⟨t689, A30, H⟩ := H
  replace H : (if t689 = true then (if a0_1 = a1_1 then (some true) else (some false)) else (some false)) = some r := H
  have A3 := Aside0.mk A30
  clear A30
  by_cases c4 : t689 = true
  focus
   subst c4
   have H1 : (if a0_1 = a1_1 then (some true) else (some false)) = some r := by rw [if_pos rfl] at H; exact H
   clear H
   have H := H1
   clear H1
   by_cases c5 : a0_1 = a1_1
   focus
    rw [if_pos c5] at H
    have c5b0 : (a0_1 == a1_1) = true := beq_iff_eq.mpr c5
    have c5b1 : (a0_1 != a1_1) = false := bne_eq_false_iff_eq.mpr c5
    clear c5
    obtain rfl := Option.some.inj H
   rotate_left 1
   focus
    rw [if_neg c5] at H
    have c5b0 : (a0_1 == a1_1) = false := beq_eq_false_iff_ne.mpr c5
    have c5b1 : (a0_1 != a1_1) = true := bne_iff_ne.mpr c5
    obtain rfl := Option.some.inj H
  rotate_left 2
  · replace c4 := Bool.eq_false_iff.mpr c4
    subst c4
    have H1 : (some false) = some r := by rw [if_neg (show ¬ (false = true) by decide)] at H; exact H
    clear H
    have H := H1
    clear H1
    obtain rfl := Option.some.inj H
    go_enter Try.func40, Try.ntmps40
    go_wp2_with (first | ((with_reducible refine gate_dst (N := 2) rfl ?_); refine box_event rfl (N := 2) rfl (cs := #[.slice A0_0 l0_0.length c0_0, .int .i64 a0_1]) (t := 56) (by first | (go_simp; done) | (go_simp; rfl)) ?_; intro gb687 hg w22 hbox hb; have BK687 := Aside0.mk (hbox); have GW687 := (gws hg (hbe HB.out) : Aside0 (w.heap.size ≤ gb687)); have GE687 := (gws hg (hbe HB.out) : Aside0 (w.heap.size ≤ gb687)); replace HB := hbs HB.out hb; clear hb hbox hg) | ((with_reducible refine gate_dst (N := 3) rfl ?_); refine box_event rfl (N := 3) rfl (cs := #[.slice A1_0 l1_0.length c1_0, .int .i64 a1_1]) (t := 56) (by first | (go_simp; done) | (go_simp; rfl)) ?_; intro gb688 hg w23 hbox hb; have BK688 := Aside0.mk (hbox); have GW688 := (gws hg (hbe1 HB.out GE687.out) : Aside0 (w.heap.size ≤ gb688)); have GE688 := (gws hg (hbe1 HB.out GE687.out) : Aside0 (w.heap.size ≤ gb688)); replace HB := hbs1 HB.out GE687.out hb; have NB687_688 := nlt hg BK687.out; have NB688_687 := ngt hg BK687.out; replace BK687 := bku BK687.out hb; clear hb hbox hg; have hnb24 := NB687_688.out; have hnc24 := NB688_687.out; obtain ⟨hcz25_0, hcz25_1, hfz25_0, hfz25_1⟩ := cells2 BK687.out; obtain ⟨hcz26_0, hcz26_1, hfz26_0, hfz26_1⟩ := cells2 BK688.out) | ((with_reducible refine gate_callee (f := 80) rfl ?_); refine goesS (some 9) rfl Try.func80 #[.slice A0_0 l0_0.length c0_0, .slice A1_0 l1_0.length c1_0] rfl ?_; (with_reducible refine (laws_eqPairS.calls k _ _ l0_0 _ _ l1_0 false _ ?side1 ?side2 ?side3 ?side4 A3.out).mono ?_); (case side1 => exact csd (Kd.C_below HR0_0.out HB.out)); (case side2 => exact HC0_0.out); (case side3 => exact csd (Kd.C_below HR1_0.out HB.out)); (case side4 => exact HC1_0.out); rintro e w27 ⟨rfl, hb⟩; refine ⟨_, rfl, ?_⟩; replace BK687 := bku BK687.out hb; replace BK688 := bku BK688.out hb; replace HB := hbs2 HB.out GE687.out GE688.out hb; (try clear hb); (try clear hb2); (try clear hk); (try clear hi)))
    go_ret
    exact ⟨by first | rfl | (simp <;> rfl) | (simp [*] <;> rfl), hbe2 HB.out GE687.out GE688.out⟩
  all_goals
   go_enter Try.func40, Try.ntmps40
   go_wp2_with (first | ((with_reducible refine gate_dst (N := 2) rfl ?_); refine box_event rfl (N := 2) rfl (cs := #[.slice A0_0 l0_0.length c0_0, .int .i64 a0_1]) (t := 56) (by first | (go_simp; done) | (go_simp; rfl)) ?_; intro gbz0_ hg wz1_ hbox hb; have nz2_ := hbs HB.out hb; have nz3_ := Aside0.mk (hbox); have nz4_ := (gws hg (hbe HB.out) : Aside0 (w.heap.size ≤ gbz0_)); have nz5_ := (gws hg (hbe HB.out) : Aside0 (w.heap.size ≤ gbz0_)); clear HB; have HB := nz2_; have BKz6_ := nz3_; have GWz7_ := nz4_; have GEz8_ := nz5_; clear nz2_ nz3_ nz4_ nz5_; clear hb hbox hg) | ((with_reducible refine gate_dst (N := 3) rfl ?_); refine box_event rfl (N := 3) rfl (cs := #[.slice A1_0 l1_0.length c1_0, .int .i64 a1_1]) (t := 56) (by first | (go_simp; done) | (go_simp; rfl)) ?_; intro gbz9_ hg wz10_ hbox hb; have nz2_ := bku BKz6_.out hb; have nz3_ := Aside0.mk (below_step (by repeat (first | (with_reducible first | exact HB.out | apply below_alloc | apply pw_below_drewN | apply below_drew1 | refine below_set ?_ GEz8_.out) | exact HB.out)) hb); have nz4_ := Aside0.mk (hbox); have nz5_ := Aside0.mk ((by rw [hg]; exact (below_size (by repeat (first | (with_reducible first | exact HB.out | apply below_alloc | apply pw_below_drewN | apply below_drew1 | refine below_set ?_ GEz8_.out) | exact HB.out))) : w.heap.size ≤ gbz9_)); have nz11_ := Aside0.mk ((by rw [hg]; exact (below_size (by repeat (first | (with_reducible first | exact HB.out | apply below_alloc | apply pw_below_drewN | apply below_drew1 | refine below_set ?_ GEz8_.out) | exact HB.out))) : w.heap.size ≤ gbz9_)); have nz12_ := nlt hg BKz6_.out; have nz13_ := ngt hg BKz6_.out; clear BKz6_; clear HB; have BKz6_ := nz2_; have HB := nz3_; have BKz14_ := nz4_; have GWz15_ := nz5_; have GEz16_ := nz11_; have NBz17_ := nz12_; have NBz18_ := nz13_; clear nz2_ nz3_ nz4_ nz5_ nz11_ nz12_ nz13_; clear hb hbox hg; have hnbz19_ := NBz17_.out; have hncz20_ := NBz18_.out; have hczz21_ : wz10_.cell? ⟨gbz0_, 0, none⟩ = some (.slice A0_0 l0_0.length c0_0) := (blk_cell BKz6_.out 0).trans rfl; have hczz22_ : wz10_.cell? ⟨gbz0_, 1, none⟩ = some (.int .i64 a0_1) := (blk_cell BKz6_.out 1).trans rfl; have hfzz23_ := blk_frozen BKz6_.out 0; have hfzz24_ := blk_frozen BKz6_.out 1; have hczz25_ : wz10_.cell? ⟨gbz9_, 0, none⟩ = some (.slice A1_0 l1_0.length c1_0) := (blk_cell BKz14_.out 0).trans rfl; have hczz26_ : wz10_.cell? ⟨gbz9_, 1, none⟩ = some (.int .i64 a1_1) := (blk_cell BKz14_.out 1).trans rfl; have hfzz27_ := blk_frozen BKz14_.out 0; have hfzz28_ := blk_frozen BKz14_.out 1) | ((with_reducible refine gate_callee (f := 80) rfl ?_); refine goesS (some 9) rfl Try.func80 #[.slice A0_0 l0_0.length c0_0, .slice A1_0 l1_0.length c1_0] rfl ?_; (with_reducible refine (laws_eqPairS.calls k _ _ l0_0 _ _ l1_0 true _ ?sidez29_ ?sidez30_ ?sidez31_ ?sidez32_ A3.out).mono ?_); (case sidez29_ => exact csd (Kd.C_below HR0_0.out HB.out)); (case sidez30_ => exact HC0_0.out); (case sidez31_ => exact csd (Kd.C_below HR1_0.out HB.out)); (case sidez32_ => exact HC1_0.out); rintro e wz33_ ⟨rfl, hb⟩; refine ⟨_, rfl, ?_⟩; have nz2_ := bku BKz6_.out hb; have nz3_ := bku BKz14_.out hb; have nz4_ := Aside0.mk (below_step (by repeat (first | (with_reducible first | exact HB.out | apply below_alloc | apply pw_below_drewN | apply below_drew1 | refine below_set ?_ GEz8_.out | refine below_set ?_ GEz16_.out) | exact HB.out)) hb); clear BKz6_; clear BKz14_; clear HB; have BKz6_ := nz2_; have BKz14_ := nz3_; have HB := nz4_; clear nz2_ nz3_ nz4_; (try clear hb); (try clear hb2); (try clear hk); (try clear hi); have hczz34_ : wz33_.cell? ⟨gbz0_, 0, none⟩ = some (.slice A0_0 l0_0.length c0_0) := (blk_cell BKz6_.out 0).trans rfl; have hczz35_ : wz33_.cell? ⟨gbz0_, 1, none⟩ = some (.int .i64 a0_1) := (blk_cell BKz6_.out 1).trans rfl; have hfzz36_ := blk_frozen BKz6_.out 0; have hfzz37_ := blk_frozen BKz6_.out 1; have hczz38_ : wz33_.cell? ⟨gbz9_, 0, none⟩ = some (.slice A1_0 l1_0.length c1_0) := (blk_cell BKz14_.out 0).trans rfl; have hczz39_ : wz33_.cell? ⟨gbz9_, 1, none⟩ = some (.int .i64 a1_1) := (blk_cell BKz14_.out 1).trans rfl; have hfzz40_ := blk_frozen BKz14_.out 0; have hfzz41_ := blk_frozen BKz14_.out 1))
   go_ret
   exact ⟨by first | rfl | (simp [errW_none, errW_some] <;> rfl) | (simp [*, errW_none, errW_some] <;> rfl), by repeat (first | (with_reducible first | exact HB.out | apply below_alloc | apply pw_below_drewN | apply below_drew1 | refine below_set ?_ GEz8_.out | refine below_set ?_ GEz16_.out) | exact HB.out)⟩
end Go.Proofs.Ytdjlbfaiccdbfaa.PAll
