/- Cut down from the texts of the same job by wip/shake.py to what this claim reaches. -/
import Derived.Test.YtdjlbfaiccdbfaaKComparex0
import Derived.Test.YtdjlbfaiccdbfaaKComparex1
import Derived.Test.YtdjlbfaiccdbfaaKComparex2
import Derived.Test.YtdjlbfaiccdbfaaKComparex12
import Derived.Test.YtdjlbfaiccdbfaaKComparex13
import Derived.Test.YtdjlbfaiccdbfaaKComparex15
namespace Go.Proofs.Ytdjlbfaiccdbfaa.PAll
open Go.RowKit Go.Proofs.YtdjlbfaiccdbfaaW.PrintWords Go.Proofs.YtdjlbfaiccdbfaaW.PrintLast Go.Proofs.YtdjlbfaiccdbfaaW.PrintMore
attribute [local go_sem] max2_int min2_int max_two min_two max_three min_three max_four min_four   -- for this text's walks alone
set_option linter.unusedVariables false
set_option linter.unusedSimpArgs false
def laws_FnExactCompare.f (k : Nat) (a0_0 : Int) (a0_1 : Int) (a0_2 : Nat) (a0_3 : ByteArray) (a0_4 : Int) (a1_0 : Int) (a1_1 : Int) (a1_2 : Nat) (a1_3 : ByteArray) (a1_4 : Int) : Option (Bool) := (laws_szValue.f a0_0 a0_1 a0_2 a0_3 a0_4 1048576).bind fun t546 => (if t546 < 0 then (some true) else ((laws_szValue.f a1_0 a1_1 a1_2 a1_3 a1_4 t546).bind fun t547 => (if t547 < 0 then (some true) else ((laws_toValue.f a0_0 a0_1 a0_2 a0_3 a0_4).bind fun bt548 => ((laws_toValue.f a1_0 a1_1 a1_2 a1_3 a1_4).bind fun bt553 => ((spec_Compare.f k bt548.1 bt548.2.1 bt548.2.2.1 bt548.2.2.2.1 bt548.2.2.2.2 bt553.1 bt553.2.1 bt553.2.2.1 bt553.2.2.2.1 bt553.2.2.2.2).bind fun t558 => ((laws_toValue.f a0_0 a0_1 a0_2 a0_3 a0_4).bind fun bt559 => ((laws_toValue.f a1_0 a1_1 a1_2 a1_3 a1_4).bind fun bt564 => ((impl_Compare.f k bt559.1 bt559.2.1 bt559.2.2.1 bt559.2.2.2.1 bt559.2.2.2.2 bt564.1 bt564.2.1 bt564.2.2.1 bt564.2.2.2.1 bt564.2.2.2.2).bind fun t569 => (if t569 = t558 then (some true) else (some false)))))))))))
set_option maxHeartbeats 8000000 in
set_option maxRecDepth 100000 in
theorem laws_FnExactCompare.calls (k : Nat) (a0_0 : Int) (a0_1 : Int) (a0_2 : Nat) (a0_3 : ByteArray) (a0_4 : Int) (a1_0 : Int) (a1_1 : Int) (a1_2 : Nat) (a1_3 : ByteArray) (a1_4 : Int) (r : Bool) (w : World) (h : laws_FnExactCompare.f k a0_0 a0_1 a0_2 a0_3 a0_4 a1_0 a1_1 a1_2 a1_3 a1_4 = some r) (hT : r = true) :
    Calls Try.prog 9 #[.agg #[.int .i64 a0_0, .int .i64 a0_1, .float .f64 a0_2, .string a0_3, .int .i64 a0_4], .agg #[.int .i64 a1_0, .int .i64 a1_1, .float .f64 a1_2, .string a1_3, .int .i64 a1_4]] w fun e w' => e = .returned (.bool r) ∧ Below w.heap.size w w' := by
  have HT := Aside0.mk hT
  clear hT
  have hu25 := Try.underlying25
  have HB := Aside0.mk (Below.refl w.heap.size w)
  have H : ((laws_szValue.f a0_0 a0_1 a0_2 a0_3 a0_4 1048576).bind fun t546 => (if t546 < 0 then (some true) else ((laws_szValue.f a1_0 a1_1 a1_2 a1_3 a1_4 t546).bind fun t547 => (if t547 < 0 then (some true) else ((laws_toValue.f a0_0 a0_1 a0_2 a0_3 a0_4).bind fun bt548 => ((laws_toValue.f a1_0 a1_1 a1_2 a1_3 a1_4).bind fun bt553 => ((spec_Compare.f k bt548.1 bt548.2.1 bt548.2.2.1 bt548.2.2.2.1 bt548.2.2.2.2 bt553.1 bt553.2.1 bt553.2.2.1 bt553.2.2.2.1 bt553.2.2.2.2).bind fun t558 => ((laws_toValue.f a0_0 a0_1 a0_2 a0_3 a0_4).bind fun bt559 => ((laws_toValue.f a1_0 a1_1 a1_2 a1_3 a1_4).bind fun bt564 => ((impl_Compare.f k bt559.1 bt559.2.1 bt559.2.2.1 bt559.2.2.2.1 bt559.2.2.2.2 bt564.1 bt564.2.1 bt564.2.2.1 bt564.2.2.2.1 bt564.2.2.2.2).bind fun t569 => (if t569 = t558 then (some true) else (some false)))))))))))) = some r := h
  clear h
  replace H := Option.bind_eq_some_iff.mp H
  obtain ⟨t546, A30, H⟩ := H
  replace H : (if t546 < 0 then (some true) else ((laws_szValue.f a1_0 a1_1 a1_2 a1_3 a1_4 t546).bind fun t547 => (if t547 < 0 then (some true) else ((laws_toValue.f a0_0 a0_1 a0_2 a0_3 a0_4).bind fun bt548 => ((laws_toValue.f a1_0 a1_1 a1_2 a1_3 a1_4).bind fun bt553 => ((spec_Compare.f k bt548.1 bt548.2.1 bt548.2.2.1 bt548.2.2.2.1 bt548.2.2.2.2 bt553.1 bt553.2.1 bt553.2.2.1 bt553.2.2.2.1 bt553.2.2.2.2).bind fun t558 => ((laws_toValue.f a0_0 a0_1 a0_2 a0_3 a0_4).bind fun bt559 => ((laws_toValue.f a1_0 a1_1 a1_2 a1_3 a1_4).bind fun bt564 => ((impl_Compare.f k bt559.1 bt559.2.1 bt559.2.2.1 bt559.2.2.2.1 bt559.2.2.2.2 bt564.1 bt564.2.1 bt564.2.2.1 bt564.2.2.2.1 bt564.2.2.2.2).bind fun t569 => (if t569 = t558 then (some true) else (some false))))))))))) = some r := H
  have A3 := Aside0.mk A30
  clear A30
  by_cases c4 : t546 < 0
  · rw [if_pos c4] at H
    have c4b0 : decide (t546 < 0) = true := decide_eq_true c4
    clear c4
    obtain rfl := Option.some.inj H
    go_enter Try.func9, Try.ntmps9
    go_wp2_with (first | ((with_reducible refine gate_dst (N := 2) rfl ?_); refine box_event rfl (N := 2) rfl (cs := #[.int .i64 a0_0, .int .i64 a0_1, .float .f64 a0_2, .string a0_3, .int .i64 a0_4]) (t := 25) (by first | (go_simp; done) | (go_simp; rfl)) ?_; intro gb544 hg w5 hbox hb; have BK544 := Aside0.mk (hbox); have GW544 := (gws hg (hbe HB.out) : Aside0 (w.heap.size ≤ gb544)); have GE544 := (gws hg (hbe HB.out) : Aside0 (w.heap.size ≤ gb544)); replace HB := hbs HB.out hb; clear hb hbox hg) | ((with_reducible refine gate_dst (N := 3) rfl ?_); refine box_event rfl (N := 3) rfl (cs := #[.int .i64 a1_0, .int .i64 a1_1, .float .f64 a1_2, .string a1_3, .int .i64 a1_4]) (t := 25) (by first | (go_simp; done) | (go_simp; rfl)) ?_; intro gb545 hg w6 hbox hb; have BK545 := Aside0.mk (hbox); have GW545 := (gws hg (hbe1 HB.out GE544.out) : Aside0 (w.heap.size ≤ gb545)); have GE545 := (gws hg (hbe1 HB.out GE544.out) : Aside0 (w.heap.size ≤ gb545)); replace HB := hbs1 HB.out GE544.out hb; have NB544_545 := nlt hg BK544.out; have NB545_544 := ngt hg BK544.out; replace BK544 := bku BK544.out hb; clear hb hbox hg; have hnb7 := NB544_545.out; have hnc7 := NB545_544.out; obtain ⟨hcz8_0, hcz8_1, hcz8_2, hcz8_3, hcz8_4, hfz8_0, hfz8_1, hfz8_2, hfz8_3, hfz8_4⟩ := cells5 BK544.out) | ((with_reducible refine gate_callee (f := 16) rfl ?_); refine goesS (some 10) rfl Try.func16 #[.agg #[.int .i64 a0_0, .int .i64 a0_1, .float .f64 a0_2, .string a0_3, .int .i64 a0_4], .int .i64 1048576] rfl ?_; (with_reducible refine (laws_szValue.calls a0_0 a0_1 a0_2 a0_3 a0_4 1048576 t546 _ A3.out).mono ?_); rintro e w9 ⟨rfl, hb⟩; refine ⟨_, rfl, ?_⟩; replace BK544 := bku BK544.out hb; replace BK545 := bku BK545.out hb; replace HB := hbs2 HB.out GE544.out GE545.out hb; (try clear hb); (try clear hb2); (try clear hk); (try clear hi)))
    go_ret
    exact ⟨by first | rfl | (simp <;> rfl) | (simp [*] <;> rfl), hbe2 HB.out GE544.out GE545.out⟩
  rw [if_neg c4] at H
  have c4b0 : decide (t546 < 0) = false := decide_eq_false c4
  clear c4
  replace H := Option.bind_eq_some_iff.mp H
  obtain ⟨t547, A100, H⟩ := H
  replace H : (if t547 < 0 then (some true) else ((laws_toValue.f a0_0 a0_1 a0_2 a0_3 a0_4).bind fun bt548 => ((laws_toValue.f a1_0 a1_1 a1_2 a1_3 a1_4).bind fun bt553 => ((spec_Compare.f k bt548.1 bt548.2.1 bt548.2.2.1 bt548.2.2.2.1 bt548.2.2.2.2 bt553.1 bt553.2.1 bt553.2.2.1 bt553.2.2.2.1 bt553.2.2.2.2).bind fun t558 => ((laws_toValue.f a0_0 a0_1 a0_2 a0_3 a0_4).bind fun bt559 => ((laws_toValue.f a1_0 a1_1 a1_2 a1_3 a1_4).bind fun bt564 => ((impl_Compare.f k bt559.1 bt559.2.1 bt559.2.2.1 bt559.2.2.2.1 bt559.2.2.2.2 bt564.1 bt564.2.1 bt564.2.2.1 bt564.2.2.2.1 bt564.2.2.2.2).bind fun t569 => (if t569 = t558 then (some true) else (some false))))))))) = some r := H
  have A10 := Aside0.mk A100
  clear A100
  by_cases c11 : t547 < 0
  · rw [if_pos c11] at H
    have c11b0 : decide (t547 < 0) = true := decide_eq_true c11
    clear c11
    obtain rfl := Option.some.inj H
    go_enter Try.func9, Try.ntmps9
    go_wp2_with (first | ((with_reducible refine gate_dst (N := 2) rfl ?_); refine box_event rfl (N := 2) rfl (cs := #[.int .i64 a0_0, .int .i64 a0_1, .float .f64 a0_2, .string a0_3, .int .i64 a0_4]) (t := 25) (by first | (go_simp; done) | (go_simp; rfl)) ?_; intro gb544 hg w12 hbox hb; have BK544 := Aside0.mk (hbox); have GW544 := (gws hg (hbe HB.out) : Aside0 (w.heap.size ≤ gb544)); have GE544 := (gws hg (hbe HB.out) : Aside0 (w.heap.size ≤ gb544)); replace HB := hbs HB.out hb; clear hb hbox hg) | ((with_reducible refine gate_dst (N := 3) rfl ?_); refine box_event rfl (N := 3) rfl (cs := #[.int .i64 a1_0, .int .i64 a1_1, .float .f64 a1_2, .string a1_3, .int .i64 a1_4]) (t := 25) (by first | (go_simp; done) | (go_simp; rfl)) ?_; intro gb545 hg w13 hbox hb; have BK545 := Aside0.mk (hbox); have GW545 := (gws hg (hbe1 HB.out GE544.out) : Aside0 (w.heap.size ≤ gb545)); have GE545 := (gws hg (hbe1 HB.out GE544.out) : Aside0 (w.heap.size ≤ gb545)); replace HB := hbs1 HB.out GE544.out hb; have NB544_545 := nlt hg BK544.out; have NB545_544 := ngt hg BK544.out; replace BK544 := bku BK544.out hb; clear hb hbox hg; have hnb14 := NB544_545.out; have hnc14 := NB545_544.out; obtain ⟨hcz15_0, hcz15_1, hcz15_2, hcz15_3, hcz15_4, hfz15_0, hfz15_1, hfz15_2, hfz15_3, hfz15_4⟩ := cells5 BK544.out) | ((with_reducible refine gate_callee (f := 16) rfl ?_); refine goesS (some 10) rfl Try.func16 #[.agg #[.int .i64 a0_0, .int .i64 a0_1, .float .f64 a0_2, .string a0_3, .int .i64 a0_4], .int .i64 1048576] rfl ?_; (with_reducible refine (laws_szValue.calls a0_0 a0_1 a0_2 a0_3 a0_4 1048576 t546 _ A3.out).mono ?_); rintro e w16 ⟨rfl, hb⟩; refine ⟨_, rfl, ?_⟩; replace BK544 := bku BK544.out hb; replace BK545 := bku BK545.out hb; replace HB := hbs2 HB.out GE544.out GE545.out hb; (try clear hb); (try clear hb2); (try clear hk); (try clear hi); obtain ⟨hcz17_0, hcz17_1, hcz17_2, hcz17_3, hcz17_4, hfz17_0, hfz17_1, hfz17_2, hfz17_3, hfz17_4⟩ := cells5 BK545.out) | ((with_reducible refine gate_callee (f := 16) rfl ?_); refine goesS (some 15) rfl Try.func16 #[.agg #[.int .i64 a1_0, .int .i64 a1_1, .float .f64 a1_2, .string a1_3, .int .i64 a1_4], .int .i64 t546] rfl ?_; (with_reducible refine (laws_szValue.calls a1_0 a1_1 a1_2 a1_3 a1_4 t546 t547 _ A10.out).mono ?_); rintro e w18 ⟨rfl, hb⟩; refine ⟨_, rfl, ?_⟩; replace BK544 := bku BK544.out hb; replace BK545 := bku BK545.out hb; replace HB := hbs2 HB.out GE544.out GE545.out hb; (try clear hb); (try clear hb2); (try clear hk); (try clear hi)))
    go_ret
    exact ⟨by first | rfl | (simp <;> rfl) | (simp [*] <;> rfl), hbe2 HB.out GE544.out GE545.out⟩
  rw [if_neg c11] at H
  have c11b0 : decide (t547 < 0) = false := decide_eq_false c11
  clear c11
  replace H := Option.bind_eq_some_iff.mp H
  obtain ⟨⟨t548, t549, t550, t551, t552⟩, A190, H⟩ := H
  replace H : ((laws_toValue.f a1_0 a1_1 a1_2 a1_3 a1_4).bind fun bt553 => ((spec_Compare.f k t548 t549 t550 t551 t552 bt553.1 bt553.2.1 bt553.2.2.1 bt553.2.2.2.1 bt553.2.2.2.2).bind fun t558 => ((laws_toValue.f a0_0 a0_1 a0_2 a0_3 a0_4).bind fun bt559 => ((laws_toValue.f a1_0 a1_1 a1_2 a1_3 a1_4).bind fun bt564 => ((impl_Compare.f k bt559.1 bt559.2.1 bt559.2.2.1 bt559.2.2.2.1 bt559.2.2.2.2 bt564.1 bt564.2.1 bt564.2.2.1 bt564.2.2.2.1 bt564.2.2.2.2).bind fun t569 => (if t569 = t558 then (some true) else (some false))))))) = some r := H
  have A19 := Aside0.mk A190
  clear A190
  replace H := Option.bind_eq_some_iff.mp H
  obtain ⟨⟨t553, t554, t555, t556, t557⟩, A200, H⟩ := H
  replace H : ((spec_Compare.f k t548 t549 t550 t551 t552 t553 t554 t555 t556 t557).bind fun t558 => ((laws_toValue.f a0_0 a0_1 a0_2 a0_3 a0_4).bind fun bt559 => ((laws_toValue.f a1_0 a1_1 a1_2 a1_3 a1_4).bind fun bt564 => ((impl_Compare.f k bt559.1 bt559.2.1 bt559.2.2.1 bt559.2.2.2.1 bt559.2.2.2.2 bt564.1 bt564.2.1 bt564.2.2.1 bt564.2.2.2.1 bt564.2.2.2.2).bind fun t569 => (if t569 = t558 then (some true) else (some false)))))) = some r := H
  have A20 := Aside0.mk A200
  clear A200
  replace H := Option.bind_eq_some_iff.mp H
  obtain ⟨t558, A210, H⟩ := H
  replace H : ((laws_toValue.f a0_0 a0_1 a0_2 a0_3 a0_4).bind fun bt559 => ((laws_toValue.f a1_0 a1_1 a1_2 a1_3 a1_4).bind fun bt564 => ((impl_Compare.f k bt559.1 bt559.2.1 bt559.2.2.1 bt559.2.2.2.1 bt559.2.2.2.2 bt564.1 bt564.2.1 bt564.2.2.1 bt564.2.2.2.1 bt564.2.2.2.2).bind fun t569 => (if t569 = t558 then (some true) else (some false))))) = some r := H
  have A21 := Aside0.mk A210
  clear A210
  replace H := Option.bind_eq_some_iff.mp H
  obtain ⟨⟨t559, t560, t561, t562, t563⟩, A220, H⟩ := H
  replace H : ((laws_toValue.f a1_0 a1_1 a1_2 a1_3 a1_4).bind fun bt564 => ((impl_Compare.f k t559 t560 t561 t562 t563 bt564.1 bt564.2.1 bt564.2.2.1 bt564.2.2.2.1 bt564.2.2.2.2).bind fun t569 => (if t569 = t558 then (some true) else (some false)))) = some r := H
  have A22 := Aside0.mk A220
  clear A220
  replace H := Option.bind_eq_some_iff.mp H
  obtain ⟨⟨t564, t565, t566, t567, t568⟩, A230, H⟩ := H
  replace H : ((impl_Compare.f k t559 t560 t561 t562 t563 t564 t565 t566 t567 t568).bind fun t569 => (if t569 = t558 then (some true) else (some false))) = some r := H
  have A23 := Aside0.mk A230
  clear A230
  replace H := Option.bind_eq_some_iff.mp H
  obtain ⟨t569, A240, H⟩ := H
  replace H : (if t569 = t558 then (some true) else (some false)) = some r := H
  have A24 := Aside0.mk A240
  clear A240
  by_cases c25 : t569 = t558
  rotate_left 1
  · rw [if_neg c25] at H
    have c25b0 : (t569 == t558) = false := beq_eq_false_iff_ne.mpr c25
    have c25b1 : (t569 != t558) = true := bne_iff_ne.mpr c25
    obtain rfl := Option.some.inj H
    cases HT.out
  rw [if_pos c25] at H
  have c25b0 : (t569 == t558) = true := beq_iff_eq.mpr c25
  have c25b1 : (t569 != t558) = false := bne_eq_false_iff_eq.mpr c25
  clear c25
  obtain rfl := Option.some.inj H
  go_enter Try.func9, Try.ntmps9
  try go_wp2_with (first | ((with_reducible refine gate_dst (N := 2) rfl ?_); refine box_event rfl (N := 2) rfl (cs := #[.int .i64 a0_0, .int .i64 a0_1, .float .f64 a0_2, .string a0_3, .int .i64 a0_4]) (t := 25) (by first | (go_simp; done) | (go_simp; rfl)) ?_; intro gb544 hg w26 hbox hb; have BK544 := Aside0.mk (hbox); have GW544 := (gws hg (hbe HB.out) : Aside0 (w.heap.size ≤ gb544)); have GE544 := (gws hg (hbe HB.out) : Aside0 (w.heap.size ≤ gb544)); replace HB := hbs HB.out hb; clear hb hbox hg) | ((with_reducible refine gate_dst (N := 3) rfl ?_); refine box_event rfl (N := 3) rfl (cs := #[.int .i64 a1_0, .int .i64 a1_1, .float .f64 a1_2, .string a1_3, .int .i64 a1_4]) (t := 25) (by first | (go_simp; done) | (go_simp; rfl)) ?_; intro gb545 hg w27 hbox hb; have BK545 := Aside0.mk (hbox); have GW545 := (gws hg (hbe1 HB.out GE544.out) : Aside0 (w.heap.size ≤ gb545)); have GE545 := (gws hg (hbe1 HB.out GE544.out) : Aside0 (w.heap.size ≤ gb545)); replace HB := hbs1 HB.out GE544.out hb; have NB544_545 := nlt hg BK544.out; have NB545_544 := ngt hg BK544.out; replace BK544 := bku BK544.out hb; clear hb hbox hg; have hnb28 := NB544_545.out; have hnc28 := NB545_544.out; obtain ⟨hcz29_0, hcz29_1, hcz29_2, hcz29_3, hcz29_4, hfz29_0, hfz29_1, hfz29_2, hfz29_3, hfz29_4⟩ := cells5 BK544.out) | ((with_reducible refine gate_callee (f := 16) rfl ?_); refine goesS (some 10) rfl Try.func16 #[.agg #[.int .i64 a0_0, .int .i64 a0_1, .float .f64 a0_2, .string a0_3, .int .i64 a0_4], .int .i64 1048576] rfl ?_; (with_reducible refine (laws_szValue.calls a0_0 a0_1 a0_2 a0_3 a0_4 1048576 t546 _ A3.out).mono ?_); rintro e w30 ⟨rfl, hb⟩; refine ⟨_, rfl, ?_⟩; replace BK544 := bku BK544.out hb; replace BK545 := bku BK545.out hb; replace HB := hbs2 HB.out GE544.out GE545.out hb; (try clear hb); (try clear hb2); (try clear hk); (try clear hi); obtain ⟨hcz31_0, hcz31_1, hcz31_2, hcz31_3, hcz31_4, hfz31_0, hfz31_1, hfz31_2, hfz31_3, hfz31_4⟩ := cells5 BK545.out) | ((with_reducible refine gate_callee (f := 16) rfl ?_); refine goesS (some 15) rfl Try.func16 #[.agg #[.int .i64 a1_0, .int .i64 a1_1, .float .f64 a1_2, .string a1_3, .int .i64 a1_4], .int .i64 t546] rfl ?_; (with_reducible refine (laws_szValue.calls a1_0 a1_1 a1_2 a1_3 a1_4 t546 t547 _ A10.out).mono ?_); rintro e w32 ⟨rfl, hb⟩; refine ⟨_, rfl, ?_⟩; replace BK544 := bku BK544.out hb; replace BK545 := bku BK545.out hb; replace HB := hbs2 HB.out GE544.out GE545.out hb; (try clear hb); (try clear hb2); (try clear hk); (try clear hi)))
  replace BK544 := Aside0.mk (blk_drew BK544.out)
  replace BK545 := Aside0.mk (blk_drew BK545.out)
  replace HB := Aside0.mk (below_drew1 HB.out)
  refine start_ (n := 6) (S := fun w' => w'.cell? ⟨gb544, 0, none⟩ = some (.int .i64 a0_0) ∧ w'.cell? ⟨gb544, 1, none⟩ = some (.int .i64 a0_1) ∧ w'.cell? ⟨gb544, 2, none⟩ = some (.float .f64 a0_2) ∧ w'.cell? ⟨gb544, 3, none⟩ = some (.string a0_3) ∧ w'.cell? ⟨gb544, 4, none⟩ = some (.int .i64 a0_4) ∧ w'.cell? ⟨gb545, 0, none⟩ = some (.int .i64 a1_0) ∧ w'.cell? ⟨gb545, 1, none⟩ = some (.int .i64 a1_1) ∧ w'.cell? ⟨gb545, 2, none⟩ = some (.float .f64 a1_2) ∧ w'.cell? ⟨gb545, 3, none⟩ = some (.string a1_3) ∧ w'.cell? ⟨gb545, 4, none⟩ = some (.int .i64 a1_4)) (ds := []) #[false, false, false, false, false, false] (by kernel_rfl) rfl rfl ⟨(blk_cell BK544.out 0).trans rfl, (blk_cell BK544.out 1).trans rfl, (blk_cell BK544.out 2).trans rfl, (blk_cell BK544.out 3).trans rfl, (blk_cell BK544.out 4).trans rfl, (blk_cell BK545.out 0).trans rfl, (blk_cell BK545.out 1).trans rfl, (blk_cell BK545.out 2).trans rfl, (blk_cell BK545.out 3).trans rfl, (blk_cell BK545.out 4).trans rfl⟩ (fun hHeld => ?_)
  generalize w32.drew = w33 at BK544 BK545 HB hHeld ⊢
  refine take_ (i := 0) (N := some 18) (v := ?_) (a' := ?_) #[true, false, false, false, false, false] rfl rfl (by kernel_rfl) (fun _ _ _ h => h) (Or.inl ⟨by rfl, ?_⟩) hHeld ?_ ?_
  rotate_left
  · rintro w' ⟨s0, s1, s2, s3, s4, s5, s6, s7, s8, s9⟩
    go_simp
    with_reducible rfl
  rotate_left
  · simp only [Act.put, List.setIfInBounds_toArray, List.set_cons_zero, List.set_cons_succ, i64_w, i32_w]
    rfl
  refine take_ (i := 2) (N := some 20) (v := ?_) (a' := ?_) #[true, false, true, false, false, false] rfl rfl (by kernel_rfl) (fun _ _ _ h => h) (Or.inl ⟨by rfl, ?_⟩) hHeld ?_ ?_
  rotate_left
  · rintro w' ⟨s0, s1, s2, s3, s4, s5, s6, s7, s8, s9⟩
    go_simp
    with_reducible rfl
  rotate_left
  · simp only [Act.put, List.setIfInBounds_toArray, List.set_cons_zero, List.set_cons_succ, i64_w, i32_w]
    rfl
  refine one_ (i := 1) (N := some 19) #[true, true, true, false, false, false] rfl rfl (by kernel_rfl) (by decide) (fun K hK => ?_)
  refine goes_ Try.func18 (by kernel_rfl) rfl #[.agg #[.int .i64 a0_0, .int .i64 a0_1, .float .f64 a0_2, .string a0_3, .int .i64 a0_4]] (by rfl) rfl rfl (by (try simp only [List.map_toArray, List.map_cons, List.map_nil]); first | done | rfl | (simp only [List.length_drop, List.length_take]; rfl)) ?_
  with_reducible refine (laws_toValue.calls a0_0 a0_1 a0_2 a0_3 a0_4 t548 t549 t550 t551 t552 _ A19.out).mono ?_
  rintro e w34 ⟨rfl, hb⟩
  refine ⟨_, rfl, ?_⟩
  replace BK544 := bku BK544.out hb
  replace BK545 := bku BK545.out hb
  replace HB := hbs2 HB.out GE544.out GE545.out hb
  (try clear hb)
  (try clear hb2)
  (try clear hk)
  (try clear hi)
  refine hK.out _ _ ⟨(blk_cell BK544.out 0).trans rfl, (blk_cell BK544.out 1).trans rfl, (blk_cell BK544.out 2).trans rfl, (blk_cell BK544.out 3).trans rfl, (blk_cell BK544.out 4).trans rfl, (blk_cell BK545.out 0).trans rfl, (blk_cell BK545.out 1).trans rfl, (blk_cell BK545.out 2).trans rfl, (blk_cell BK545.out 3).trans rfl, (blk_cell BK545.out 4).trans rfl⟩ (fun hHeld => ?_)
  clear hK K
  refine norm_ (a' := ?_) ?_ ?_
  rotate_left
  · show Act.put _ (some 19) _ = _
    simp only [Act.put, List.setIfInBounds_toArray, List.set_cons_zero, List.set_cons_succ, i64_w, i32_w]
    rfl
  refine one_ (i := 3) (N := some 21) #[true, true, true, true, false, false] rfl rfl (by kernel_rfl) (by decide) (fun K hK => ?_)
  refine goes_ Try.func18 (by kernel_rfl) rfl #[.agg #[.int .i64 a1_0, .int .i64 a1_1, .float .f64 a1_2, .string a1_3, .int .i64 a1_4]] (by rfl) rfl rfl (by (try simp only [List.map_toArray, List.map_cons, List.map_nil]); first | done | rfl | (simp only [List.length_drop, List.length_take]; rfl)) ?_
  with_reducible refine (laws_toValue.calls a1_0 a1_1 a1_2 a1_3 a1_4 t553 t554 t555 t556 t557 _ A20.out).mono ?_
  rintro e w35 ⟨rfl, hb⟩
  refine ⟨_, rfl, ?_⟩
  replace BK544 := bku BK544.out hb
  replace BK545 := bku BK545.out hb
  replace HB := hbs2 HB.out GE544.out GE545.out hb
  (try clear hb)
  (try clear hb2)
  (try clear hk)
  (try clear hi)
  refine hK.out _ _ ⟨(blk_cell BK544.out 0).trans rfl, (blk_cell BK544.out 1).trans rfl, (blk_cell BK544.out 2).trans rfl, (blk_cell BK544.out 3).trans rfl, (blk_cell BK544.out 4).trans rfl, (blk_cell BK545.out 0).trans rfl, (blk_cell BK545.out 1).trans rfl, (blk_cell BK545.out 2).trans rfl, (blk_cell BK545.out 3).trans rfl, (blk_cell BK545.out 4).trans rfl⟩ (fun hHeld => ?_)
  clear hK K
  refine norm_ (a' := ?_) ?_ ?_
  rotate_left
  · show Act.put _ (some 21) _ = _
    simp only [Act.put, List.setIfInBounds_toArray, List.set_cons_zero, List.set_cons_succ, i64_w, i32_w]
    rfl
  refine one_ (i := 4) (N := some 22) #[true, true, true, true, true, false] rfl rfl (by kernel_rfl) (by decide) (fun K hK => ?_)
  refine goes_ Try.func32 (by kernel_rfl) rfl #[.agg #[.int .i64 t548, .int .i64 t549, .float .f64 t550, .string t551, .int .i64 t552], .agg #[.int .i64 t553, .int .i64 t554, .float .f64 t555, .string t556, .int .i64 t557]] (by rfl) rfl rfl (by (try simp only [List.map_toArray, List.map_cons, List.map_nil]); first | done | rfl | (simp only [List.length_drop, List.length_take]; rfl)) ?_
  with_reducible refine (spec_Compare.calls k t548 t549 t550 t551 t552 t553 t554 t555 t556 t557 t558 _ A21.out).mono ?_
  rintro e w36 ⟨rfl, hb⟩
  refine ⟨_, rfl, ?_⟩
  replace BK544 := bku BK544.out hb
  replace BK545 := bku BK545.out hb
  replace HB := hbs2 HB.out GE544.out GE545.out hb
  (try clear hb)
  (try clear hb2)
  (try clear hk)
  (try clear hi)
  refine hK.out _ _ ⟨(blk_cell BK544.out 0).trans rfl, (blk_cell BK544.out 1).trans rfl, (blk_cell BK544.out 2).trans rfl, (blk_cell BK544.out 3).trans rfl, (blk_cell BK544.out 4).trans rfl, (blk_cell BK545.out 0).trans rfl, (blk_cell BK545.out 1).trans rfl, (blk_cell BK545.out 2).trans rfl, (blk_cell BK545.out 3).trans rfl, (blk_cell BK545.out 4).trans rfl⟩ (fun hHeld => ?_)
  clear hK K
  refine norm_ (a' := ?_) ?_ ?_
  rotate_left
  · show Act.put _ (some 22) _ = _
    simp only [Act.put, List.setIfInBounds_toArray, List.set_cons_zero, List.set_cons_succ, i64_w, i32_w]
    rfl
  refine pure_ (i := 5) (N := some 6) (v := ?_) (a' := ?_) #[true, true, true, true, true, true] rfl rfl (by kernel_rfl) (fun _ _ _ h => h) (Or.inl ⟨by rfl, ?_⟩) ?_ ?_
  rotate_left
  · intro w'
    go_simp
    with_reducible rfl
  rotate_left
  · simp only [Act.put, List.setIfInBounds_toArray, List.set_cons_zero, List.set_cons_succ, i64_w, i32_w]
    rfl
  refine done_ (by kernel_rfl) ?_
  try go_wp2
  replace BK544 := Aside0.mk (blk_drew BK544.out)
  replace BK545 := Aside0.mk (blk_drew BK545.out)
  replace HB := Aside0.mk (below_drew1 HB.out)
  refine start_ (n := 6) (S := fun w' => w'.cell? ⟨gb544, 0, none⟩ = some (.int .i64 a0_0) ∧ w'.cell? ⟨gb544, 1, none⟩ = some (.int .i64 a0_1) ∧ w'.cell? ⟨gb544, 2, none⟩ = some (.float .f64 a0_2) ∧ w'.cell? ⟨gb544, 3, none⟩ = some (.string a0_3) ∧ w'.cell? ⟨gb544, 4, none⟩ = some (.int .i64 a0_4) ∧ w'.cell? ⟨gb545, 0, none⟩ = some (.int .i64 a1_0) ∧ w'.cell? ⟨gb545, 1, none⟩ = some (.int .i64 a1_1) ∧ w'.cell? ⟨gb545, 2, none⟩ = some (.float .f64 a1_2) ∧ w'.cell? ⟨gb545, 3, none⟩ = some (.string a1_3) ∧ w'.cell? ⟨gb545, 4, none⟩ = some (.int .i64 a1_4)) (ds := []) #[false, false, false, false, false, false] (by kernel_rfl) rfl rfl ⟨(blk_cell BK544.out 0).trans rfl, (blk_cell BK544.out 1).trans rfl, (blk_cell BK544.out 2).trans rfl, (blk_cell BK544.out 3).trans rfl, (blk_cell BK544.out 4).trans rfl, (blk_cell BK545.out 0).trans rfl, (blk_cell BK545.out 1).trans rfl, (blk_cell BK545.out 2).trans rfl, (blk_cell BK545.out 3).trans rfl, (blk_cell BK545.out 4).trans rfl⟩ (fun hHeld => ?_)
  generalize w36.drew = w37 at BK544 BK545 HB hHeld ⊢
  refine take_ (i := 0) (N := some 23) (v := ?_) (a' := ?_) #[true, false, false, false, false, false] rfl rfl (by kernel_rfl) (fun _ _ _ h => h) (Or.inl ⟨by rfl, ?_⟩) hHeld ?_ ?_
  rotate_left
  · rintro w' ⟨s0, s1, s2, s3, s4, s5, s6, s7, s8, s9⟩
    go_simp
    with_reducible rfl
  rotate_left
  · simp only [Act.put, List.setIfInBounds_toArray, List.set_cons_zero, List.set_cons_succ, i64_w, i32_w]
    rfl
  refine take_ (i := 2) (N := some 25) (v := ?_) (a' := ?_) #[true, false, true, false, false, false] rfl rfl (by kernel_rfl) (fun _ _ _ h => h) (Or.inl ⟨by rfl, ?_⟩) hHeld ?_ ?_
  rotate_left
  · rintro w' ⟨s0, s1, s2, s3, s4, s5, s6, s7, s8, s9⟩
    go_simp
    with_reducible rfl
  rotate_left
  · simp only [Act.put, List.setIfInBounds_toArray, List.set_cons_zero, List.set_cons_succ, i64_w, i32_w]
    rfl
  refine one_ (i := 1) (N := some 24) #[true, true, true, false, false, false] rfl rfl (by kernel_rfl) (by decide) (fun K hK => ?_)
  refine goes_ Try.func18 (by kernel_rfl) rfl #[.agg #[.int .i64 a0_0, .int .i64 a0_1, .float .f64 a0_2, .string a0_3, .int .i64 a0_4]] (by rfl) rfl rfl (by (try simp only [List.map_toArray, List.map_cons, List.map_nil]); first | done | rfl | (simp only [List.length_drop, List.length_take]; rfl)) ?_
  with_reducible refine (laws_toValue.calls a0_0 a0_1 a0_2 a0_3 a0_4 t559 t560 t561 t562 t563 _ A22.out).mono ?_
  rintro e w38 ⟨rfl, hb⟩
  refine ⟨_, rfl, ?_⟩
  replace BK544 := bku BK544.out hb
  replace BK545 := bku BK545.out hb
  replace HB := hbs2 HB.out GE544.out GE545.out hb
  (try clear hb)
  (try clear hb2)
  (try clear hk)
  (try clear hi)
  refine hK.out _ _ ⟨(blk_cell BK544.out 0).trans rfl, (blk_cell BK544.out 1).trans rfl, (blk_cell BK544.out 2).trans rfl, (blk_cell BK544.out 3).trans rfl, (blk_cell BK544.out 4).trans rfl, (blk_cell BK545.out 0).trans rfl, (blk_cell BK545.out 1).trans rfl, (blk_cell BK545.out 2).trans rfl, (blk_cell BK545.out 3).trans rfl, (blk_cell BK545.out 4).trans rfl⟩ (fun hHeld => ?_)
  clear hK K
  refine norm_ (a' := ?_) ?_ ?_
  rotate_left
  · show Act.put _ (some 24) _ = _
    simp only [Act.put, List.setIfInBounds_toArray, List.set_cons_zero, List.set_cons_succ, i64_w, i32_w]
    rfl
  refine one_ (i := 3) (N := some 26) #[true, true, true, true, false, false] rfl rfl (by kernel_rfl) (by decide) (fun K hK => ?_)
  refine goes_ Try.func18 (by kernel_rfl) rfl #[.agg #[.int .i64 a1_0, .int .i64 a1_1, .float .f64 a1_2, .string a1_3, .int .i64 a1_4]] (by rfl) rfl rfl (by (try simp only [List.map_toArray, List.map_cons, List.map_nil]); first | done | rfl | (simp only [List.length_drop, List.length_take]; rfl)) ?_
  with_reducible refine (laws_toValue.calls a1_0 a1_1 a1_2 a1_3 a1_4 t564 t565 t566 t567 t568 _ A23.out).mono ?_
  rintro e w39 ⟨rfl, hb⟩
  refine ⟨_, rfl, ?_⟩
  replace BK544 := bku BK544.out hb
  replace BK545 := bku BK545.out hb
  replace HB := hbs2 HB.out GE544.out GE545.out hb
  (try clear hb)
  (try clear hb2)
  (try clear hk)
  (try clear hi)
  refine hK.out _ _ ⟨(blk_cell BK544.out 0).trans rfl, (blk_cell BK544.out 1).trans rfl, (blk_cell BK544.out 2).trans rfl, (blk_cell BK544.out 3).trans rfl, (blk_cell BK544.out 4).trans rfl, (blk_cell BK545.out 0).trans rfl, (blk_cell BK545.out 1).trans rfl, (blk_cell BK545.out 2).trans rfl, (blk_cell BK545.out 3).trans rfl, (blk_cell BK545.out 4).trans rfl⟩ (fun hHeld => ?_)
  clear hK K
  refine norm_ (a' := ?_) ?_ ?_
  rotate_left
  · show Act.put _ (some 26) _ = _
    simp only [Act.put, List.setIfInBounds_toArray, List.set_cons_zero, List.set_cons_succ, i64_w, i32_w]
    rfl
  refine one_ (i := 4) (N := some 27) #[true, true, true, true, true, false] rfl rfl (by kernel_rfl) (by decide) (fun K hK => ?_)
  refine goes_ Try.func33 (by kernel_rfl) rfl #[.agg #[.int .i64 t559, .int .i64 t560, .float .f64 t561, .string t562, .int .i64 t563], .agg #[.int .i64 t564, .int .i64 t565, .float .f64 t566, .string t567, .int .i64 t568]] (by rfl) rfl rfl (by (try simp only [List.map_toArray, List.map_cons, List.map_nil]); first | done | rfl | (simp only [List.length_drop, List.length_take]; rfl)) ?_
  with_reducible refine (impl_Compare.calls k t559 t560 t561 t562 t563 t564 t565 t566 t567 t568 t569 _ A24.out).mono ?_
  rintro e w40 ⟨rfl, hb⟩
  refine ⟨_, rfl, ?_⟩
  replace BK544 := bku BK544.out hb
  replace BK545 := bku BK545.out hb
  replace HB := hbs2 HB.out GE544.out GE545.out hb
  (try clear hb)
  (try clear hb2)
  (try clear hk)
  (try clear hi)
  refine hK.out _ _ ⟨(blk_cell BK544.out 0).trans rfl, (blk_cell BK544.out 1).trans rfl, (blk_cell BK544.out 2).trans rfl, (blk_cell BK544.out 3).trans rfl, (blk_cell BK544.out 4).trans rfl, (blk_cell BK545.out 0).trans rfl, (blk_cell BK545.out 1).trans rfl, (blk_cell BK545.out 2).trans rfl, (blk_cell BK545.out 3).trans rfl, (blk_cell BK545.out 4).trans rfl⟩ (fun hHeld => ?_)
  clear hK K
  refine norm_ (a' := ?_) ?_ ?_
  rotate_left
  · show Act.put _ (some 27) _ = _
    simp only [Act.put, List.setIfInBounds_toArray, List.set_cons_zero, List.set_cons_succ, i64_w, i32_w]
    rfl
  refine pure_ (i := 5) (N := some 7) (v := ?_) (a' := ?_) #[true, true, true, true, true, true] rfl rfl (by kernel_rfl) (fun _ _ _ h => h) (Or.inl ⟨by rfl, ?_⟩) ?_ ?_
  rotate_left
  · intro w'
    go_simp
    with_reducible rfl
  rotate_left
  · simp only [Act.put, List.setIfInBounds_toArray, List.set_cons_zero, List.set_cons_succ, i64_w, i32_w]
    rfl
  refine done_ (by kernel_rfl) ?_
  try go_wp2
  go_ret
  exact ⟨by first | rfl | (simp <;> rfl) | (simp [*] <;> rfl), hbe2 HB.out GE544.out GE545.out⟩
end Go.Proofs.Ytdjlbfaiccdbfaa.PAll
