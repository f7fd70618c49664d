/- Cut down from the texts of the same job by wip/shake.py to what this claim reaches. -/
import Derived.Test.YtdjlbfaiccdbfaaKLGx0
import Derived.Test.YtdjlbfaiccdbfaaKLGx1
import Derived.Test.YtdjlbfaiccdbfaaKLGx2
import Derived.Test.YtdjlbfaiccdbfaaKLGx9
import Derived.Test.YtdjlbfaiccdbfaaKLGx18
import Derived.Test.YtdjlbfaiccdbfaaKLGx20
import Derived.Test.YtdjlbfaiccdbfaaKLGx22
import Derived.Test.YtdjlbfaiccdbfaaKLGx25
namespace Go.Proofs.Ytdjlbfaiccdbfaa.PAll
open Go.RowKit Go.Proofs.YtdjlbfaiccdbfaaW.PrintWords Go.Proofs.YtdjlbfaiccdbfaaW.PrintLast Go.Proofs.YtdjlbfaiccdbfaaW.PrintMore
attribute [local go_sem] max2_int min2_int max_two min_two max_three min_three max_four min_four   -- for this text's walks alone
set_option linter.unusedVariables false
set_option linter.unusedSimpArgs false
def laws_FnExactGet.f (k : Nat) (l0_0 : List (S96)) (a0_1 : Int) (a1_0 : Int) (a1_1 : Int) (a1_2 : Nat) (a1_3 : ByteArray) (a1_4 : Int) : Option (Bool) := (laws_szTable.f k l0_0 a0_1 1048576).bind fun t883 => (if t883 < 0 then (some true) else ((laws_szValue.f a1_0 a1_1 a1_2 a1_3 a1_4 t883).bind fun t884 => (if t884 < 0 then (some true) else ((laws_toTable.f k l0_0 a0_1).bind fun bt885 => ((laws_toValue.f a1_0 a1_1 a1_2 a1_3 a1_4).bind fun bt889 => ((spec_Get.f k bt885.1 bt885.2 bt889.1 bt889.2.1 bt889.2.2.1 bt889.2.2.2.1 bt889.2.2.2.2).bind fun bt894 => ((laws_toTable.f k l0_0 a0_1).bind fun bt900 => ((laws_toValue.f a1_0 a1_1 a1_2 a1_3 a1_4).bind fun bt905 => ((impl_Get.f k bt900.1 bt900.2 bt905.1 bt905.2.1 bt905.2.2.1 bt905.2.2.2.1 bt905.2.2.2.2).bind fun bt910 => ((laws_eqValue.f k bt910.1 bt910.2.1 bt910.2.2.1 bt910.2.2.2.1 bt910.2.2.2.2 bt894.1 bt894.2.1 bt894.2.2.1 bt894.2.2.2.1 bt894.2.2.2.2).bind fun t916 => (if t916 = true then ((laws_toTable.f k l0_0 a0_1).bind fun bt917 => ((laws_eqTable.f k bt900.1 bt900.2 bt917.1 bt917.2).bind fun t921 => (if t921 = true then (some true) else (some false)))) else (some false))))))))))))
set_option maxHeartbeats 8000000 in
set_option maxRecDepth 100000 in
theorem laws_FnExactGet.calls (k : Nat) (A0_0 : Option Addr) (c0_0 : Nat) (l0_0 : List (S96)) (a0_1 : Int) (a1_0 : Int) (a1_1 : Int) (a1_2 : Nat) (a1_3 : ByteArray) (a1_4 : Int) (r : Bool) (w : World) (hr0_0 : Kd.C k96 w A0_0 l0_0.length l0_0) (hc0_0 : l0_0.length ≤ c0_0) (h : laws_FnExactGet.f k l0_0 a0_1 a1_0 a1_1 a1_2 a1_3 a1_4 = some r) (hT : r = true) :
    Calls Try.prog 14 #[.agg #[.slice A0_0 l0_0.length c0_0, .int .i64 a0_1], .agg #[.int .i64 a1_0, .int .i64 a1_1, .float .f64 a1_2, .string a1_3, .int .i64 a1_4]] w fun e w' => e = .returned (.bool r) ∧ Below w.heap.size w w' := by
  have HT := Aside0.mk hT
  clear hT
  have hu51 := Try.underlying51
  have hu25 := Try.underlying25
  have hu28 := Try.underlying28
  have hu56 := Try.underlying56
  have HR0_0 := Aside0.mk hr0_0
  have HC0_0 := Aside0.mk hc0_0
  clear hr0_0 hc0_0
  have HB := Aside0.mk (Below.refl w.heap.size w)
  have H : ((laws_szTable.f k l0_0 a0_1 1048576).bind fun t883 => (if t883 < 0 then (some true) else ((laws_szValue.f a1_0 a1_1 a1_2 a1_3 a1_4 t883).bind fun t884 => (if t884 < 0 then (some true) else ((laws_toTable.f k l0_0 a0_1).bind fun bt885 => ((laws_toValue.f a1_0 a1_1 a1_2 a1_3 a1_4).bind fun bt889 => ((spec_Get.f k bt885.1 bt885.2 bt889.1 bt889.2.1 bt889.2.2.1 bt889.2.2.2.1 bt889.2.2.2.2).bind fun bt894 => ((laws_toTable.f k l0_0 a0_1).bind fun bt900 => ((laws_toValue.f a1_0 a1_1 a1_2 a1_3 a1_4).bind fun bt905 => ((impl_Get.f k bt900.1 bt900.2 bt905.1 bt905.2.1 bt905.2.2.1 bt905.2.2.2.1 bt905.2.2.2.2).bind fun bt910 => ((laws_eqValue.f k bt910.1 bt910.2.1 bt910.2.2.1 bt910.2.2.2.1 bt910.2.2.2.2 bt894.1 bt894.2.1 bt894.2.2.1 bt894.2.2.2.1 bt894.2.2.2.2).bind fun t916 => (if t916 = true then ((laws_toTable.f k l0_0 a0_1).bind fun bt917 => ((laws_eqTable.f k bt900.1 bt900.2 bt917.1 bt917.2).bind fun t921 => (if t921 = true then (some true) else (some false)))) else (some false))))))))))))) = some r := h
  clear h
  replace H := Option.bind_eq_some_iff.mp H
  obtain ⟨t883, A30, H⟩ := H
  replace H : (if t883 < 0 then (some true) else ((laws_szValue.f a1_0 a1_1 a1_2 a1_3 a1_4 t883).bind fun t884 => (if t884 < 0 then (some true) else ((laws_toTable.f k l0_0 a0_1).bind fun bt885 => ((laws_toValue.f a1_0 a1_1 a1_2 a1_3 a1_4).bind fun bt889 => ((spec_Get.f k bt885.1 bt885.2 bt889.1 bt889.2.1 bt889.2.2.1 bt889.2.2.2.1 bt889.2.2.2.2).bind fun bt894 => ((laws_toTable.f k l0_0 a0_1).bind fun bt900 => ((laws_toValue.f a1_0 a1_1 a1_2 a1_3 a1_4).bind fun bt905 => ((impl_Get.f k bt900.1 bt900.2 bt905.1 bt905.2.1 bt905.2.2.1 bt905.2.2.2.1 bt905.2.2.2.2).bind fun bt910 => ((laws_eqValue.f k bt910.1 bt910.2.1 bt910.2.2.1 bt910.2.2.2.1 bt910.2.2.2.2 bt894.1 bt894.2.1 bt894.2.2.1 bt894.2.2.2.1 bt894.2.2.2.2).bind fun t916 => (if t916 = true then ((laws_toTable.f k l0_0 a0_1).bind fun bt917 => ((laws_eqTable.f k bt900.1 bt900.2 bt917.1 bt917.2).bind fun t921 => (if t921 = true then (some true) else (some false)))) else (some false)))))))))))) = some r := H
  have A3 := Aside0.mk A30
  clear A30
  by_cases c4 : t883 < 0
  · rw [if_pos c4] at H
    have c4b0 : decide (t883 < 0) = true := decide_eq_true c4
    clear c4
    obtain rfl := Option.some.inj H
    go_enter Try.func14, Try.ntmps14
    go_wp2_with (first | ((with_reducible refine gate_dst (N := 2) rfl ?_); refine box_event rfl (N := 2) rfl (cs := #[.slice A0_0 l0_0.length c0_0, .int .i64 a0_1]) (t := 51) (by first | (go_simp; done) | (go_simp; rfl)) ?_; intro gb881 hg w5 hbox hb; have BK881 := Aside0.mk (hbox); have GW881 := (gws hg (hbe HB.out) : Aside0 (w.heap.size ≤ gb881)); have GE881 := (gws hg (hbe HB.out) : Aside0 (w.heap.size ≤ gb881)); replace HB := hbs HB.out hb; clear hb hbox hg) | ((with_reducible refine gate_dst (N := 3) rfl ?_); refine box_event rfl (N := 3) rfl (cs := #[.int .i64 a1_0, .int .i64 a1_1, .float .f64 a1_2, .string a1_3, .int .i64 a1_4]) (t := 25) (by first | (go_simp; done) | (go_simp; rfl)) ?_; intro gb882 hg w6 hbox hb; have BK882 := Aside0.mk (hbox); have GW882 := (gws hg (hbe1 HB.out GE881.out) : Aside0 (w.heap.size ≤ gb882)); have GE882 := (gws hg (hbe1 HB.out GE881.out) : Aside0 (w.heap.size ≤ gb882)); replace HB := hbs1 HB.out GE881.out hb; have NB881_882 := nlt hg BK881.out; have NB882_881 := ngt hg BK881.out; replace BK881 := bku BK881.out hb; clear hb hbox hg; have hnb7 := NB881_882.out; have hnc7 := NB882_881.out; obtain ⟨hcz8_0, hcz8_1, hfz8_0, hfz8_1⟩ := cells2 BK881.out) | ((with_reducible refine gate_callee (f := 36) rfl ?_); refine goesS (some 11) rfl Try.func36 #[.agg #[.slice A0_0 l0_0.length c0_0, .int .i64 a0_1], .int .i64 1048576] rfl ?_; (with_reducible refine (laws_szTable.calls k _ _ l0_0 a0_1 1048576 t883 _ ?side1 ?side2 A3.out).mono ?_); (case side1 => exact csd (Kd.C_below HR0_0.out HB.out)); (case side2 => exact HC0_0.out); rintro e w9 ⟨rfl, hb⟩; refine ⟨_, rfl, ?_⟩; replace BK881 := bku BK881.out hb; replace BK882 := bku BK882.out hb; replace HB := hbs2 HB.out GE881.out GE882.out hb; (try clear hb); (try clear hb2); (try clear hk); (try clear hi)))
    go_ret
    exact ⟨by first | rfl | (simp <;> rfl) | (simp [*] <;> rfl), hbe2 HB.out GE881.out GE882.out⟩
  rw [if_neg c4] at H
  have c4b0 : decide (t883 < 0) = false := decide_eq_false c4
  clear c4
  replace H := Option.bind_eq_some_iff.mp H
  obtain ⟨t884, A100, H⟩ := H
  replace H : (if t884 < 0 then (some true) else ((laws_toTable.f k l0_0 a0_1).bind fun bt885 => ((laws_toValue.f a1_0 a1_1 a1_2 a1_3 a1_4).bind fun bt889 => ((spec_Get.f k bt885.1 bt885.2 bt889.1 bt889.2.1 bt889.2.2.1 bt889.2.2.2.1 bt889.2.2.2.2).bind fun bt894 => ((laws_toTable.f k l0_0 a0_1).bind fun bt900 => ((laws_toValue.f a1_0 a1_1 a1_2 a1_3 a1_4).bind fun bt905 => ((impl_Get.f k bt900.1 bt900.2 bt905.1 bt905.2.1 bt905.2.2.1 bt905.2.2.2.1 bt905.2.2.2.2).bind fun bt910 => ((laws_eqValue.f k bt910.1 bt910.2.1 bt910.2.2.1 bt910.2.2.2.1 bt910.2.2.2.2 bt894.1 bt894.2.1 bt894.2.2.1 bt894.2.2.2.1 bt894.2.2.2.2).bind fun t916 => (if t916 = true then ((laws_toTable.f k l0_0 a0_1).bind fun bt917 => ((laws_eqTable.f k bt900.1 bt900.2 bt917.1 bt917.2).bind fun t921 => (if t921 = true then (some true) else (some false)))) else (some false)))))))))) = some r := H
  have A10 := Aside0.mk A100
  clear A100
  by_cases c11 : t884 < 0
  · rw [if_pos c11] at H
    have c11b0 : decide (t884 < 0) = true := decide_eq_true c11
    clear c11
    obtain rfl := Option.some.inj H
    go_enter Try.func14, Try.ntmps14
    go_wp2_with (first | ((with_reducible refine gate_dst (N := 2) rfl ?_); refine box_event rfl (N := 2) rfl (cs := #[.slice A0_0 l0_0.length c0_0, .int .i64 a0_1]) (t := 51) (by first | (go_simp; done) | (go_simp; rfl)) ?_; intro gb881 hg w12 hbox hb; have BK881 := Aside0.mk (hbox); have GW881 := (gws hg (hbe HB.out) : Aside0 (w.heap.size ≤ gb881)); have GE881 := (gws hg (hbe HB.out) : Aside0 (w.heap.size ≤ gb881)); replace HB := hbs HB.out hb; clear hb hbox hg) | ((with_reducible refine gate_dst (N := 3) rfl ?_); refine box_event rfl (N := 3) rfl (cs := #[.int .i64 a1_0, .int .i64 a1_1, .float .f64 a1_2, .string a1_3, .int .i64 a1_4]) (t := 25) (by first | (go_simp; done) | (go_simp; rfl)) ?_; intro gb882 hg w13 hbox hb; have BK882 := Aside0.mk (hbox); have GW882 := (gws hg (hbe1 HB.out GE881.out) : Aside0 (w.heap.size ≤ gb882)); have GE882 := (gws hg (hbe1 HB.out GE881.out) : Aside0 (w.heap.size ≤ gb882)); replace HB := hbs1 HB.out GE881.out hb; have NB881_882 := nlt hg BK881.out; have NB882_881 := ngt hg BK881.out; replace BK881 := bku BK881.out hb; clear hb hbox hg; have hnb14 := NB881_882.out; have hnc14 := NB882_881.out; obtain ⟨hcz15_0, hcz15_1, hfz15_0, hfz15_1⟩ := cells2 BK881.out) | ((with_reducible refine gate_callee (f := 36) rfl ?_); refine goesS (some 11) rfl Try.func36 #[.agg #[.slice A0_0 l0_0.length c0_0, .int .i64 a0_1], .int .i64 1048576] rfl ?_; (with_reducible refine (laws_szTable.calls k _ _ l0_0 a0_1 1048576 t883 _ ?side1 ?side2 A3.out).mono ?_); (case side1 => exact csd (Kd.C_below HR0_0.out HB.out)); (case side2 => exact HC0_0.out); rintro e w16 ⟨rfl, hb⟩; refine ⟨_, rfl, ?_⟩; replace BK881 := bku BK881.out hb; replace BK882 := bku BK882.out hb; replace HB := hbs2 HB.out GE881.out GE882.out hb; (try clear hb); (try clear hb2); (try clear hk); (try clear hi); obtain ⟨hcz17_0, hcz17_1, hcz17_2, hcz17_3, hcz17_4, hfz17_0, hfz17_1, hfz17_2, hfz17_3, hfz17_4⟩ := cells5 BK882.out) | ((with_reducible refine gate_callee (f := 16) rfl ?_); refine goesS (some 16) rfl Try.func16 #[.agg #[.int .i64 a1_0, .int .i64 a1_1, .float .f64 a1_2, .string a1_3, .int .i64 a1_4], .int .i64 t883] rfl ?_; (with_reducible refine (laws_szValue.calls a1_0 a1_1 a1_2 a1_3 a1_4 t883 t884 _ A10.out).mono ?_); rintro e w18 ⟨rfl, hb⟩; refine ⟨_, rfl, ?_⟩; replace BK881 := bku BK881.out hb; replace BK882 := bku BK882.out hb; replace HB := hbs2 HB.out GE881.out GE882.out hb; (try clear hb); (try clear hb2); (try clear hk); (try clear hi)))
    go_ret
    exact ⟨by first | rfl | (simp <;> rfl) | (simp [*] <;> rfl), hbe2 HB.out GE881.out GE882.out⟩
  rw [if_neg c11] at H
  have c11b0 : decide (t884 < 0) = false := decide_eq_false c11
  clear c11
  replace H := Option.bind_eq_some_iff.mp H
  obtain ⟨⟨t885, t888⟩, A190, H⟩ := H
  replace H : ((laws_toValue.f a1_0 a1_1 a1_2 a1_3 a1_4).bind fun bt889 => ((spec_Get.f k t885 t888 bt889.1 bt889.2.1 bt889.2.2.1 bt889.2.2.2.1 bt889.2.2.2.2).bind fun bt894 => ((laws_toTable.f k l0_0 a0_1).bind fun bt900 => ((laws_toValue.f a1_0 a1_1 a1_2 a1_3 a1_4).bind fun bt905 => ((impl_Get.f k bt900.1 bt900.2 bt905.1 bt905.2.1 bt905.2.2.1 bt905.2.2.2.1 bt905.2.2.2.2).bind fun bt910 => ((laws_eqValue.f k bt910.1 bt910.2.1 bt910.2.2.1 bt910.2.2.2.1 bt910.2.2.2.2 bt894.1 bt894.2.1 bt894.2.2.1 bt894.2.2.2.1 bt894.2.2.2.2).bind fun t916 => (if t916 = true then ((laws_toTable.f k l0_0 a0_1).bind fun bt917 => ((laws_eqTable.f k bt900.1 bt900.2 bt917.1 bt917.2).bind fun t921 => (if t921 = true then (some true) else (some false)))) else (some false)))))))) = some r := H
  have A19 := Aside0.mk A190
  clear A190
  replace H := Option.bind_eq_some_iff.mp H
  obtain ⟨⟨t889, t890, t891, t892, t893⟩, A200, H⟩ := H
  replace H : ((spec_Get.f k t885 t888 t889 t890 t891 t892 t893).bind fun bt894 => ((laws_toTable.f k l0_0 a0_1).bind fun bt900 => ((laws_toValue.f a1_0 a1_1 a1_2 a1_3 a1_4).bind fun bt905 => ((impl_Get.f k bt900.1 bt900.2 bt905.1 bt905.2.1 bt905.2.2.1 bt905.2.2.2.1 bt905.2.2.2.2).bind fun bt910 => ((laws_eqValue.f k bt910.1 bt910.2.1 bt910.2.2.1 bt910.2.2.2.1 bt910.2.2.2.2 bt894.1 bt894.2.1 bt894.2.2.1 bt894.2.2.2.1 bt894.2.2.2.2).bind fun t916 => (if t916 = true then ((laws_toTable.f k l0_0 a0_1).bind fun bt917 => ((laws_eqTable.f k bt900.1 bt900.2 bt917.1 bt917.2).bind fun t921 => (if t921 = true then (some true) else (some false)))) else (some false))))))) = some r := H
  have A20 := Aside0.mk A200
  clear A200
  replace H := Option.bind_eq_some_iff.mp H
  obtain ⟨⟨t894, t895, t896, t897, t898⟩, A210, H⟩ := H
  replace H : ((laws_toTable.f k l0_0 a0_1).bind fun bt900 => ((laws_toValue.f a1_0 a1_1 a1_2 a1_3 a1_4).bind fun bt905 => ((impl_Get.f k bt900.1 bt900.2 bt905.1 bt905.2.1 bt905.2.2.1 bt905.2.2.2.1 bt905.2.2.2.2).bind fun bt910 => ((laws_eqValue.f k bt910.1 bt910.2.1 bt910.2.2.1 bt910.2.2.2.1 bt910.2.2.2.2 t894 t895 t896 t897 t898).bind fun t916 => (if t916 = true then ((laws_toTable.f k l0_0 a0_1).bind fun bt917 => ((laws_eqTable.f k bt900.1 bt900.2 bt917.1 bt917.2).bind fun t921 => (if t921 = true then (some true) else (some false)))) else (some false)))))) = some r := H
  have A21 := Aside0.mk A210
  clear A210
  replace H := Option.bind_eq_some_iff.mp H
  obtain ⟨⟨t900, t903⟩, A220, H⟩ := H
  replace H : ((laws_toValue.f a1_0 a1_1 a1_2 a1_3 a1_4).bind fun bt905 => ((impl_Get.f k t900 t903 bt905.1 bt905.2.1 bt905.2.2.1 bt905.2.2.2.1 bt905.2.2.2.2).bind fun bt910 => ((laws_eqValue.f k bt910.1 bt910.2.1 bt910.2.2.1 bt910.2.2.2.1 bt910.2.2.2.2 t894 t895 t896 t897 t898).bind fun t916 => (if t916 = true then ((laws_toTable.f k l0_0 a0_1).bind fun bt917 => ((laws_eqTable.f k t900 t903 bt917.1 bt917.2).bind fun t921 => (if t921 = true then (some true) else (some false)))) else (some false))))) = some r := H
  have A22 := Aside0.mk A220
  clear A220
  replace H := Option.bind_eq_some_iff.mp H
  obtain ⟨⟨t905, t906, t907, t908, t909⟩, A230, H⟩ := H
  replace H : ((impl_Get.f k t900 t903 t905 t906 t907 t908 t909).bind fun bt910 => ((laws_eqValue.f k bt910.1 bt910.2.1 bt910.2.2.1 bt910.2.2.2.1 bt910.2.2.2.2 t894 t895 t896 t897 t898).bind fun t916 => (if t916 = true then ((laws_toTable.f k l0_0 a0_1).bind fun bt917 => ((laws_eqTable.f k t900 t903 bt917.1 bt917.2).bind fun t921 => (if t921 = true then (some true) else (some false)))) else (some false)))) = some r := H
  have A23 := Aside0.mk A230
  clear A230
  replace H := Option.bind_eq_some_iff.mp H
  obtain ⟨⟨t910, t911, t912, t913, t914⟩, A240, H⟩ := H
  replace H : ((laws_eqValue.f k t910 t911 t912 t913 t914 t894 t895 t896 t897 t898).bind fun t916 => (if t916 = true then ((laws_toTable.f k l0_0 a0_1).bind fun bt917 => ((laws_eqTable.f k t900 t903 bt917.1 bt917.2).bind fun t921 => (if t921 = true then (some true) else (some false)))) else (some false))) = some r := H
  have A24 := Aside0.mk A240
  clear A240
  replace H := Option.bind_eq_some_iff.mp H
  obtain ⟨t916, A250, H⟩ := H
  replace H : (if t916 = true then ((laws_toTable.f k l0_0 a0_1).bind fun bt917 => ((laws_eqTable.f k t900 t903 bt917.1 bt917.2).bind fun t921 => (if t921 = true then (some true) else (some false)))) else (some false)) = some r := H
  have A25 := Aside0.mk A250
  clear A250
  by_cases c26 : t916 = true
  rotate_left 1
  · replace c26 := Bool.eq_false_iff.mpr c26
    subst c26
    have H1 : (some false) = some r := by rw [if_neg (show ¬ (false = true) by decide)] at H; exact H
    clear H
    have H := H1
    clear H1
    obtain rfl := Option.some.inj H
    cases HT.out
  subst c26
  have H1 : ((laws_toTable.f k l0_0 a0_1).bind fun bt917 => ((laws_eqTable.f k t900 t903 bt917.1 bt917.2).bind fun t921 => (if t921 = true then (some true) else (some false)))) = some r := by rw [if_pos rfl] at H; exact H
  clear H
  have H := H1
  clear H1
  replace H := Option.bind_eq_some_iff.mp H
  obtain ⟨⟨t917, t920⟩, A270, H⟩ := H
  replace H : ((laws_eqTable.f k t900 t903 t917 t920).bind fun t921 => (if t921 = true then (some true) else (some false))) = some r := H
  have A27 := Aside0.mk A270
  clear A270
  replace H := Option.bind_eq_some_iff.mp H
  obtain ⟨t921, A280, H⟩ := H
  replace H : (if t921 = true then (some true) else (some false)) = some r := H
  have A28 := Aside0.mk A280
  clear A280
  by_cases c29 : t921 = true
  rotate_left 1
  · replace c29 := Bool.eq_false_iff.mpr c29
    subst c29
    have H1 : (some false) = some r := by rw [if_neg (show ¬ (false = true) by decide)] at H; exact H
    clear H
    have H := H1
    clear H1
    obtain rfl := Option.some.inj H
    cases HT.out
  subst c29
  have H1 : (some true) = some r := by rw [if_pos rfl] at H; exact H
  clear H
  have H := H1
  clear H1
  obtain rfl := Option.some.inj H
  go_enter Try.func14, Try.ntmps14
  try go_wp2_with (first | ((with_reducible refine gate_dst (N := 2) rfl ?_); refine box_event rfl (N := 2) rfl (cs := #[.slice A0_0 l0_0.length c0_0, .int .i64 a0_1]) (t := 51) (by first | (go_simp; done) | (go_simp; rfl)) ?_; intro gb881 hg w30 hbox hb; have BK881 := Aside0.mk (hbox); have GW881 := (gws hg (hbe HB.out) : Aside0 (w.heap.size ≤ gb881)); have GE881 := (gws hg (hbe HB.out) : Aside0 (w.heap.size ≤ gb881)); replace HB := hbs HB.out hb; clear hb hbox hg) | ((with_reducible refine gate_dst (N := 3) rfl ?_); refine box_event rfl (N := 3) rfl (cs := #[.int .i64 a1_0, .int .i64 a1_1, .float .f64 a1_2, .string a1_3, .int .i64 a1_4]) (t := 25) (by first | (go_simp; done) | (go_simp; rfl)) ?_; intro gb882 hg w31 hbox hb; have BK882 := Aside0.mk (hbox); have GW882 := (gws hg (hbe1 HB.out GE881.out) : Aside0 (w.heap.size ≤ gb882)); have GE882 := (gws hg (hbe1 HB.out GE881.out) : Aside0 (w.heap.size ≤ gb882)); replace HB := hbs1 HB.out GE881.out hb; have NB881_882 := nlt hg BK881.out; have NB882_881 := ngt hg BK881.out; replace BK881 := bku BK881.out hb; clear hb hbox hg; have hnb32 := NB881_882.out; have hnc32 := NB882_881.out; obtain ⟨hcz33_0, hcz33_1, hfz33_0, hfz33_1⟩ := cells2 BK881.out) | ((with_reducible refine gate_callee (f := 36) rfl ?_); refine goesS (some 11) rfl Try.func36 #[.agg #[.slice A0_0 l0_0.length c0_0, .int .i64 a0_1], .int .i64 1048576] rfl ?_; (with_reducible refine (laws_szTable.calls k _ _ l0_0 a0_1 1048576 t883 _ ?side1 ?side2 A3.out).mono ?_); (case side1 => exact csd (Kd.C_below HR0_0.out HB.out)); (case side2 => exact HC0_0.out); rintro e w34 ⟨rfl, hb⟩; refine ⟨_, rfl, ?_⟩; replace BK881 := bku BK881.out hb; replace BK882 := bku BK882.out hb; replace HB := hbs2 HB.out GE881.out GE882.out hb; (try clear hb); (try clear hb2); (try clear hk); (try clear hi); obtain ⟨hcz35_0, hcz35_1, hcz35_2, hcz35_3, hcz35_4, hfz35_0, hfz35_1, hfz35_2, hfz35_3, hfz35_4⟩ := cells5 BK882.out) | ((with_reducible refine gate_callee (f := 16) rfl ?_); refine goesS (some 16) rfl Try.func16 #[.agg #[.int .i64 a1_0, .int .i64 a1_1, .float .f64 a1_2, .string a1_3, .int .i64 a1_4], .int .i64 t883] rfl ?_; (with_reducible refine (laws_szValue.calls a1_0 a1_1 a1_2 a1_3 a1_4 t883 t884 _ A10.out).mono ?_); rintro e w36 ⟨rfl, hb⟩; refine ⟨_, rfl, ?_⟩; replace BK881 := bku BK881.out hb; replace BK882 := bku BK882.out hb; replace HB := hbs2 HB.out GE881.out GE882.out hb; (try clear hb); (try clear hb2); (try clear hk); (try clear hi)))
  replace BK881 := Aside0.mk (blk_drew BK881.out)
  replace BK882 := Aside0.mk (blk_drew BK882.out)
  replace HB := Aside0.mk (below_drew1 HB.out)
  refine start_ (n := 7) (S := fun w' => w'.cell? ⟨gb881, 0, none⟩ = some (.slice A0_0 l0_0.length c0_0) ∧ w'.cell? ⟨gb881, 1, none⟩ = some (.int .i64 a0_1) ∧ w'.cell? ⟨gb882, 0, none⟩ = some (.int .i64 a1_0) ∧ w'.cell? ⟨gb882, 1, none⟩ = some (.int .i64 a1_1) ∧ w'.cell? ⟨gb882, 2, none⟩ = some (.float .f64 a1_2) ∧ w'.cell? ⟨gb882, 3, none⟩ = some (.string a1_3) ∧ w'.cell? ⟨gb882, 4, none⟩ = some (.int .i64 a1_4)) (ds := []) #[false, false, false, false, false, false, false] (by kernel_rfl) rfl rfl ⟨(blk_cell BK881.out 0).trans rfl, (blk_cell BK881.out 1).trans rfl, (blk_cell BK882.out 0).trans rfl, (blk_cell BK882.out 1).trans rfl, (blk_cell BK882.out 2).trans rfl, (blk_cell BK882.out 3).trans rfl, (blk_cell BK882.out 4).trans rfl⟩ (fun hHeld => ?_)
  generalize w36.drew = w37 at BK881 BK882 HB hHeld ⊢
  refine take_ (i := 0) (N := some 19) (v := ?_) (a' := ?_) #[true, false, false, false, false, false, false] rfl rfl (by kernel_rfl) (fun _ _ _ h => h) (Or.inl ⟨by rfl, ?_⟩) hHeld ?_ ?_
  rotate_left
  · rintro w' ⟨s0, s1, s2, s3, s4, s5, s6⟩
    go_simp
    with_reducible rfl
  rotate_left
  · simp only [Act.put, List.setIfInBounds_toArray, List.set_cons_zero, List.set_cons_succ, i64_w, i32_w]
    rfl
  refine take_ (i := 2) (N := some 21) (v := ?_) (a' := ?_) #[true, false, true, false, false, false, false] rfl rfl (by kernel_rfl) (fun _ _ _ h => h) (Or.inl ⟨by rfl, ?_⟩) hHeld ?_ ?_
  rotate_left
  · rintro w' ⟨s0, s1, s2, s3, s4, s5, s6⟩
    go_simp
    with_reducible rfl
  rotate_left
  · simp only [Act.put, List.setIfInBounds_toArray, List.set_cons_zero, List.set_cons_succ, i64_w, i32_w]
    rfl
  refine join_ (σ := Value × Nat) 1 #[true, true, true, true, true, true, false] (fun s_ => [(20, .agg #[s_.1, .int .i64 t888]), (22, .agg #[.int .i64 t889, .int .i64 t890, .float .f64 t891, .string t892, .int .i64 t893]), (23, .agg #[.int .i64 t894, .int .i64 t895, .float .f64 t896, .string t897, .int .i64 t898]), (6, .pointer (some ⟨s_.2, 0, none⟩))]) (fun s_ w' => (w'.cell? ⟨gb881, 0, none⟩ = some (.slice A0_0 l0_0.length c0_0) ∧ w'.cell? ⟨gb881, 1, none⟩ = some (.int .i64 a0_1) ∧ w'.cell? ⟨gb882, 0, none⟩ = some (.int .i64 a1_0) ∧ w'.cell? ⟨gb882, 1, none⟩ = some (.int .i64 a1_1) ∧ w'.cell? ⟨gb882, 2, none⟩ = some (.float .f64 a1_2) ∧ w'.cell? ⟨gb882, 3, none⟩ = some (.string a1_3) ∧ w'.cell? ⟨gb882, 4, none⟩ = some (.int .i64 a1_4)) ∧ (Kd.R k61 61 w' w.heap.size (fun _ => True) s_.1 t885) ∧ (w'.heap[gb881]? = some (.cells #[.slice A0_0 l0_0.length c0_0, .int .i64 a0_1] 51 (0, 0))) ∧ (w'.heap[gb882]? = some (.cells #[.int .i64 a1_0, .int .i64 a1_1, .float .f64 a1_2, .string a1_3, .int .i64 a1_4] 25 (0, 0))) ∧ (w'.heap[s_.2]? = some (.cells #[.int .i64 0, .int .i64 0, .float .f64 0, .string (⟨#[]⟩ : ByteArray), .int .i64 0] 28 (0, 0))) ∧ (w.heap.size ≤ s_.2) ∧ (w.heap.size ≤ s_.2) ∧ (gb881 ≠ s_.2) ∧ (s_.2 ≠ gb881) ∧ (gb882 ≠ s_.2) ∧ (s_.2 ≠ gb882) ∧ (Below w.heap.size w w')) ?_ ?_
  rotate_left
  · intro hCont
    refine two_ (i := 1) (j := 5) (Ni := some 20) (Nj := some 6) #[true, true, true, false, false, false, false] #[true, false, true, false, false, true, false] rfl rfl rfl rfl (by kernel_rfl) (by decide) (by decide) (fun K hK => ?_) (fun K hK => ?_)
    rotate_left 1
    · skip
      refine box_step ?hg (N := 6) ?hd (cs := #[.int .i64 0, .int .i64 0, .float .f64 0, .string (⟨#[]⟩ : ByteArray), .int .i64 0]) (t := 28) ?hr ?_; (case hd => rfl); (case hg => rfl); (case hr => first | (go_simp; done) | (go_simp; rfl))
      intro gb899 hg w38 hbox hb
      have BK899 := Aside0.mk (hbox)
      have GW899 := (gws hg (hbe2 HB.out GE881.out GE882.out) : Aside0 (w.heap.size ≤ gb899))
      have GE899 := (gws hg (hbe2 HB.out GE881.out GE882.out) : Aside0 (w.heap.size ≤ gb899))
      replace HB := hbs2 HB.out GE881.out GE882.out hb
      have NB881_899 := nlt hg BK881.out
      have NB899_881 := ngt hg BK881.out
      replace BK881 := bku BK881.out hb
      have NB882_899 := nlt hg BK882.out
      have NB899_882 := ngt hg BK882.out
      replace BK882 := bku BK882.out hb
      clear hb hbox hg
      refine hK.out _ _ ⟨(blk_cell BK881.out 0).trans rfl, (blk_cell BK881.out 1).trans rfl, (blk_cell BK882.out 0).trans rfl, (blk_cell BK882.out 1).trans rfl, (blk_cell BK882.out 2).trans rfl, (blk_cell BK882.out 3).trans rfl, (blk_cell BK882.out 4).trans rfl⟩ (fun hHeld => ?_)
      clear hK K
      refine norm_ (a' := ?_) ?_ ?_
      rotate_left
      · show Act.put _ (some 6) _ = _
        simp only [Act.put, List.setIfInBounds_toArray, List.set_cons_zero, List.set_cons_succ, i64_w, i32_w]
        rfl
      refine one_ (i := 1) (N := some 20) #[true, true, true, false, false, true, false] rfl rfl (by kernel_rfl) (by decide) (fun K hK => ?_)
      refine goes_ Try.func38 (by kernel_rfl) rfl #[.agg #[.slice A0_0 l0_0.length c0_0, .int .i64 a0_1]] (by rfl) rfl rfl (by (try simp only [List.map_toArray, List.map_cons, List.map_nil]); first | done | rfl | (simp only [List.length_drop, List.length_take]; rfl)) ?_
      with_reducible refine (laws_toTable.calls k _ _ l0_0 a0_1 t885 t888 _ ?side1 ?side2 A19.out).mono ?_
      (case side1 => exact csd (Kd.C_below HR0_0.out HB.out))
      (case side2 => exact HC0_0.out)
      rintro e w39 ⟨v886, rfl, ho0, hb⟩
      refine ⟨_, rfl, ?_⟩
      have HO887 := Aside0.mk (Kd.R_lower ho0 (below_size (by repeat (first | (with_reducible first | exact HB.out | apply below_alloc | apply pw_below_drewN | apply below_drew1 | refine below_set ?_ GE881.out | refine below_set ?_ GE882.out | refine below_set ?_ GE899.out) | exact HB.out))))
      replace BK881 := bku BK881.out hb
      replace BK882 := bku BK882.out hb
      replace BK899 := bku BK899.out hb
      replace HB := hbs3 HB.out GE881.out GE882.out GE899.out hb
      (try clear hb)
      (try clear hb2)
      (try clear hk)
      (try clear hi)
      (try clear ho0)
      refine hK.out _ _ ⟨(blk_cell BK881.out 0).trans rfl, (blk_cell BK881.out 1).trans rfl, (blk_cell BK882.out 0).trans rfl, (blk_cell BK882.out 1).trans rfl, (blk_cell BK882.out 2).trans rfl, (blk_cell BK882.out 3).trans rfl, (blk_cell BK882.out 4).trans rfl⟩ (fun hHeld => ?_)
      clear hK K
      refine norm_ (a' := ?_) ?_ ?_
      rotate_left
      · show Act.put _ (some 20) _ = _
        simp only [Act.put, List.setIfInBounds_toArray, List.set_cons_zero, List.set_cons_succ, i64_w, i32_w]
        rfl
      refine one_ (i := 3) (N := some 22) #[true, true, true, true, false, true, false] rfl rfl (by kernel_rfl) (by decide) (fun K hK => ?_)
      refine goes_ Try.func18 (by kernel_rfl) rfl #[.agg #[.int .i64 a1_0, .int .i64 a1_1, .float .f64 a1_2, .string a1_3, .int .i64 a1_4]] (by rfl) rfl rfl (by (try simp only [List.map_toArray, List.map_cons, List.map_nil]); first | done | rfl | (simp only [List.length_drop, List.length_take]; rfl)) ?_
      with_reducible refine (laws_toValue.calls a1_0 a1_1 a1_2 a1_3 a1_4 t889 t890 t891 t892 t893 _ A20.out).mono ?_
      rintro e w40 ⟨rfl, hb⟩
      refine ⟨_, rfl, ?_⟩
      replace HO887 := Aside0.mk (Kd.R_below (rup HO887.out) hb)
      replace BK881 := bku BK881.out hb
      replace BK882 := bku BK882.out hb
      replace BK899 := bku BK899.out hb
      replace HB := hbs3 HB.out GE881.out GE882.out GE899.out hb
      (try clear hb)
      (try clear hb2)
      (try clear hk)
      (try clear hi)
      obtain ⟨Ao41, co41, eo41⟩ := Kd.R_slice HO887.out
      (first | subst eo41 | (injection eo41 with f1_ f2_ f3_; have f4_ := f1_.symm; have f5_ := f3_.symm; clear f1_ f2_ f3_; subst f4_; subst f5_))
      refine hK.out _ _ ⟨(blk_cell BK881.out 0).trans rfl, (blk_cell BK881.out 1).trans rfl, (blk_cell BK882.out 0).trans rfl, (blk_cell BK882.out 1).trans rfl, (blk_cell BK882.out 2).trans rfl, (blk_cell BK882.out 3).trans rfl, (blk_cell BK882.out 4).trans rfl⟩ (fun hHeld => ?_)
      clear hK K
      refine norm_ (a' := ?_) ?_ ?_
      rotate_left
      · show Act.put _ (some 22) _ = _
        simp only [Act.put, List.setIfInBounds_toArray, List.set_cons_zero, List.set_cons_succ, i64_w, i32_w]
        rfl
      refine one_ (i := 4) (N := some 23) #[true, true, true, true, true, true, false] rfl rfl (by kernel_rfl) (by decide) (fun K hK => ?_)
      refine goes_ Try.func46 (by kernel_rfl) rfl #[.agg #[.slice Ao41 t885.length co41, .int .i64 t888], .agg #[.int .i64 t889, .int .i64 t890, .float .f64 t891, .string t892, .int .i64 t893]] (by rfl) rfl rfl (by (try simp only [List.map_toArray, List.map_cons, List.map_nil]); first | done | rfl | (simp only [List.length_drop, List.length_take]; rfl)) ?_
      with_reducible refine (spec_Get.calls k _ _ t885 t888 t889 t890 t891 t892 t893 t894 t895 t896 t897 t898 _ ?side1 ?side2 A21.out).mono ?_
      (case side1 => exact csd ((Kd.R_reads' HO887.out).2.2))
      (case side2 => exact (Kd.R_reads' HO887.out).2.1)
      rintro e w42 ⟨rfl, hb⟩
      refine ⟨_, rfl, ?_⟩
      replace HO887 := Aside0.mk (Kd.R_below (rup HO887.out) hb)
      replace BK881 := bku BK881.out hb
      replace BK882 := bku BK882.out hb
      replace BK899 := bku BK899.out hb
      replace HB := hbs3 HB.out GE881.out GE882.out GE899.out hb
      (try clear hb)
      (try clear hb2)
      (try clear hk)
      (try clear hi)
      refine hK.out _ _ ⟨(blk_cell BK881.out 0).trans rfl, (blk_cell BK881.out 1).trans rfl, (blk_cell BK882.out 0).trans rfl, (blk_cell BK882.out 1).trans rfl, (blk_cell BK882.out 2).trans rfl, (blk_cell BK882.out 3).trans rfl, (blk_cell BK882.out 4).trans rfl⟩ (fun hHeld => ?_)
      clear hK K
      refine norm_ (a' := ?_) ?_ ?_
      rotate_left
      · show Act.put _ (some 23) _ = _
        simp only [Act.put, List.setIfInBounds_toArray, List.set_cons_zero, List.set_cons_succ, i64_w, i32_w]
        rfl
      exact norm_ (by simp only [putAll, Act.put, List.setIfInBounds_toArray, List.set_cons_zero, List.set_cons_succ]) (hCont (.slice Ao41 t885.length co41, gb899) _ ⟨hHeld, (rup HO887.out), (by (with_reducible repeat (first | refine blk_drewN ?_ _ | refine blk_drew ?_ | refine blk_alloc ?_ _)); exact BK881.out), (by (with_reducible repeat (first | refine blk_drewN ?_ _ | refine blk_drew ?_ | refine blk_alloc ?_ _)); exact BK882.out), (by (with_reducible repeat (first | refine blk_drewN ?_ _ | refine blk_drew ?_ | refine blk_alloc ?_ _)); exact BK899.out), GW899.out, GE899.out, NB881_899.out, NB899_881.out, NB882_899.out, NB899_882.out, (by repeat (first | (with_reducible first | exact HB.out | apply below_alloc | apply pw_below_drewN | apply below_drew1 | refine below_set ?_ GE881.out | refine below_set ?_ GE882.out | refine below_set ?_ GE899.out) | exact HB.out))⟩)
    skip
    refine goes_ Try.func38 (by kernel_rfl) rfl #[.agg #[.slice A0_0 l0_0.length c0_0, .int .i64 a0_1]] (by rfl) rfl rfl (by (try simp only [List.map_toArray, List.map_cons, List.map_nil]); first | done | rfl | (simp only [List.length_drop, List.length_take]; rfl)) ?_
    with_reducible refine (laws_toTable.calls k _ _ l0_0 a0_1 t885 t888 _ ?side1 ?side2 A19.out).mono ?_
    (case side1 => exact csd (Kd.C_below HR0_0.out HB.out))
    (case side2 => exact HC0_0.out)
    rintro e w38 ⟨v886, rfl, ho0, hb⟩
    refine ⟨_, rfl, ?_⟩
    have HO887 := Aside0.mk (Kd.R_lower ho0 (below_size (by repeat (first | (with_reducible first | exact HB.out | apply below_alloc | apply pw_below_drewN | apply below_drew1 | refine below_set ?_ GE881.out | refine below_set ?_ GE882.out) | exact HB.out))))
    replace BK881 := bku BK881.out hb
    replace BK882 := bku BK882.out hb
    replace HB := hbs2 HB.out GE881.out GE882.out hb
    (try clear hb)
    (try clear hb2)
    (try clear hk)
    (try clear hi)
    (try clear ho0)
    refine hK.out _ _ ⟨(blk_cell BK881.out 0).trans rfl, (blk_cell BK881.out 1).trans rfl, (blk_cell BK882.out 0).trans rfl, (blk_cell BK882.out 1).trans rfl, (blk_cell BK882.out 2).trans rfl, (blk_cell BK882.out 3).trans rfl, (blk_cell BK882.out 4).trans rfl⟩ (fun hHeld => ?_)
    clear hK K
    refine norm_ (a' := ?_) ?_ ?_
    rotate_left
    · show Act.put _ (some 20) _ = _
      simp only [Act.put, List.setIfInBounds_toArray, List.set_cons_zero, List.set_cons_succ, i64_w, i32_w]
      rfl
    refine two_ (i := 3) (j := 5) (Ni := some 22) (Nj := some 6) #[true, true, true, true, false, false, false] #[true, true, true, false, false, true, false] rfl rfl rfl rfl (by kernel_rfl) (by decide) (by decide) (fun K hK => ?_) (fun K hK => ?_)
    rotate_left 1
    · skip
      refine box_step ?hg (N := 6) ?hd (cs := #[.int .i64 0, .int .i64 0, .float .f64 0, .string (⟨#[]⟩ : ByteArray), .int .i64 0]) (t := 28) ?hr ?_; (case hd => rfl); (case hg => rfl); (case hr => first | (go_simp; done) | (go_simp; rfl))
      intro gb899 hg w39 hbox hb
      replace HO887 := Aside0.mk (Kd.R_below (rup HO887.out) hb)
      have BK899 := Aside0.mk (hbox)
      have GW899 := (gws hg (hbe2 HB.out GE881.out GE882.out) : Aside0 (w.heap.size ≤ gb899))
      have GE899 := (gws hg (hbe2 HB.out GE881.out GE882.out) : Aside0 (w.heap.size ≤ gb899))
      replace HB := hbs2 HB.out GE881.out GE882.out hb
      have NB881_899 := nlt hg BK881.out
      have NB899_881 := ngt hg BK881.out
      replace BK881 := bku BK881.out hb
      have NB882_899 := nlt hg BK882.out
      have NB899_882 := ngt hg BK882.out
      replace BK882 := bku BK882.out hb
      clear hb hbox hg
      refine hK.out _ _ ⟨(blk_cell BK881.out 0).trans rfl, (blk_cell BK881.out 1).trans rfl, (blk_cell BK882.out 0).trans rfl, (blk_cell BK882.out 1).trans rfl, (blk_cell BK882.out 2).trans rfl, (blk_cell BK882.out 3).trans rfl, (blk_cell BK882.out 4).trans rfl⟩ (fun hHeld => ?_)
      clear hK K
      refine norm_ (a' := ?_) ?_ ?_
      rotate_left
      · show Act.put _ (some 6) _ = _
        simp only [Act.put, List.setIfInBounds_toArray, List.set_cons_zero, List.set_cons_succ, i64_w, i32_w]
        rfl
      refine one_ (i := 3) (N := some 22) #[true, true, true, true, false, true, false] rfl rfl (by kernel_rfl) (by decide) (fun K hK => ?_)
      refine goes_ Try.func18 (by kernel_rfl) rfl #[.agg #[.int .i64 a1_0, .int .i64 a1_1, .float .f64 a1_2, .string a1_3, .int .i64 a1_4]] (by rfl) rfl rfl (by (try simp only [List.map_toArray, List.map_cons, List.map_nil]); first | done | rfl | (simp only [List.length_drop, List.length_take]; rfl)) ?_
      with_reducible refine (laws_toValue.calls a1_0 a1_1 a1_2 a1_3 a1_4 t889 t890 t891 t892 t893 _ A20.out).mono ?_
      rintro e w40 ⟨rfl, hb⟩
      refine ⟨_, rfl, ?_⟩
      replace HO887 := Aside0.mk (Kd.R_below (rup HO887.out) hb)
      replace BK881 := bku BK881.out hb
      replace BK882 := bku BK882.out hb
      replace BK899 := bku BK899.out hb
      replace HB := hbs3 HB.out GE881.out GE882.out GE899.out hb
      (try clear hb)
      (try clear hb2)
      (try clear hk)
      (try clear hi)
      obtain ⟨Ao41, co41, eo41⟩ := Kd.R_slice HO887.out
      (first | subst eo41 | (injection eo41 with f1_ f2_ f3_; have f4_ := f1_.symm; have f5_ := f3_.symm; clear f1_ f2_ f3_; subst f4_; subst f5_))
      refine hK.out _ _ ⟨(blk_cell BK881.out 0).trans rfl, (blk_cell BK881.out 1).trans rfl, (blk_cell BK882.out 0).trans rfl, (blk_cell BK882.out 1).trans rfl, (blk_cell BK882.out 2).trans rfl, (blk_cell BK882.out 3).trans rfl, (blk_cell BK882.out 4).trans rfl⟩ (fun hHeld => ?_)
      clear hK K
      refine norm_ (a' := ?_) ?_ ?_
      rotate_left
      · show Act.put _ (some 22) _ = _
        simp only [Act.put, List.setIfInBounds_toArray, List.set_cons_zero, List.set_cons_succ, i64_w, i32_w]
        rfl
      refine one_ (i := 4) (N := some 23) #[true, true, true, true, true, true, false] rfl rfl (by kernel_rfl) (by decide) (fun K hK => ?_)
      refine goes_ Try.func46 (by kernel_rfl) rfl #[.agg #[.slice Ao41 t885.length co41, .int .i64 t888], .agg #[.int .i64 t889, .int .i64 t890, .float .f64 t891, .string t892, .int .i64 t893]] (by rfl) rfl rfl (by (try simp only [List.map_toArray, List.map_cons, List.map_nil]); first | done | rfl | (simp only [List.length_drop, List.length_take]; rfl)) ?_
      with_reducible refine (spec_Get.calls k _ _ t885 t888 t889 t890 t891 t892 t893 t894 t895 t896 t897 t898 _ ?side1 ?side2 A21.out).mono ?_
      (case side1 => exact csd ((Kd.R_reads' HO887.out).2.2))
      (case side2 => exact (Kd.R_reads' HO887.out).2.1)
      rintro e w42 ⟨rfl, hb⟩
      refine ⟨_, rfl, ?_⟩
      replace HO887 := Aside0.mk (Kd.R_below (rup HO887.out) hb)
      replace BK881 := bku BK881.out hb
      replace BK882 := bku BK882.out hb
      replace BK899 := bku BK899.out hb
      replace HB := hbs3 HB.out GE881.out GE882.out GE899.out hb
      (try clear hb)
      (try clear hb2)
      (try clear hk)
      (try clear hi)
      refine hK.out _ _ ⟨(blk_cell BK881.out 0).trans rfl, (blk_cell BK881.out 1).trans rfl, (blk_cell BK882.out 0).trans rfl, (blk_cell BK882.out 1).trans rfl, (blk_cell BK882.out 2).trans rfl, (blk_cell BK882.out 3).trans rfl, (blk_cell BK882.out 4).trans rfl⟩ (fun hHeld => ?_)
      clear hK K
      refine norm_ (a' := ?_) ?_ ?_
      rotate_left
      · show Act.put _ (some 23) _ = _
        simp only [Act.put, List.setIfInBounds_toArray, List.set_cons_zero, List.set_cons_succ, i64_w, i32_w]
        rfl
      exact norm_ (by simp only [putAll, Act.put, List.setIfInBounds_toArray, List.set_cons_zero, List.set_cons_succ]) (hCont (.slice Ao41 t885.length co41, gb899) _ ⟨hHeld, (rup HO887.out), (by (with_reducible repeat (first | refine blk_drewN ?_ _ | refine blk_drew ?_ | refine blk_alloc ?_ _)); exact BK881.out), (by (with_reducible repeat (first | refine blk_drewN ?_ _ | refine blk_drew ?_ | refine blk_alloc ?_ _)); exact BK882.out), (by (with_reducible repeat (first | refine blk_drewN ?_ _ | refine blk_drew ?_ | refine blk_alloc ?_ _)); exact BK899.out), GW899.out, GE899.out, NB881_899.out, NB899_881.out, NB882_899.out, NB899_882.out, (by repeat (first | (with_reducible first | exact HB.out | apply below_alloc | apply pw_below_drewN | apply below_drew1 | refine below_set ?_ GE881.out | refine below_set ?_ GE882.out | refine below_set ?_ GE899.out) | exact HB.out))⟩)
    skip
    refine goes_ Try.func18 (by kernel_rfl) rfl #[.agg #[.int .i64 a1_0, .int .i64 a1_1, .float .f64 a1_2, .string a1_3, .int .i64 a1_4]] (by rfl) rfl rfl (by (try simp only [List.map_toArray, List.map_cons, List.map_nil]); first | done | rfl | (simp only [List.length_drop, List.length_take]; rfl)) ?_
    with_reducible refine (laws_toValue.calls a1_0 a1_1 a1_2 a1_3 a1_4 t889 t890 t891 t892 t893 _ A20.out).mono ?_
    rintro e w39 ⟨rfl, hb⟩
    refine ⟨_, rfl, ?_⟩
    replace HO887 := Aside0.mk (Kd.R_below (rup HO887.out) hb)
    replace BK881 := bku BK881.out hb
    replace BK882 := bku BK882.out hb
    replace HB := hbs2 HB.out GE881.out GE882.out hb
    (try clear hb)
    (try clear hb2)
    (try clear hk)
    (try clear hi)
    obtain ⟨Ao40, co40, eo40⟩ := Kd.R_slice HO887.out
    (first | subst eo40 | (injection eo40 with f1_ f2_ f3_; have f4_ := f1_.symm; have f5_ := f3_.symm; clear f1_ f2_ f3_; subst f4_; subst f5_))
    refine hK.out _ _ ⟨(blk_cell BK881.out 0).trans rfl, (blk_cell BK881.out 1).trans rfl, (blk_cell BK882.out 0).trans rfl, (blk_cell BK882.out 1).trans rfl, (blk_cell BK882.out 2).trans rfl, (blk_cell BK882.out 3).trans rfl, (blk_cell BK882.out 4).trans rfl⟩ (fun hHeld => ?_)
    clear hK K
    refine norm_ (a' := ?_) ?_ ?_
    rotate_left
    · show Act.put _ (some 22) _ = _
      simp only [Act.put, List.setIfInBounds_toArray, List.set_cons_zero, List.set_cons_succ, i64_w, i32_w]
      rfl
    refine two_ (i := 4) (j := 5) (Ni := some 23) (Nj := some 6) #[true, true, true, true, true, false, false] #[true, true, true, true, false, true, false] rfl rfl rfl rfl (by kernel_rfl) (by decide) (by decide) (fun K hK => ?_) (fun K hK => ?_)
    · skip
      refine goes_ Try.func46 (by kernel_rfl) rfl #[.agg #[.slice Ao40 t885.length co40, .int .i64 t888], .agg #[.int .i64 t889, .int .i64 t890, .float .f64 t891, .string t892, .int .i64 t893]] (by rfl) rfl rfl (by (try simp only [List.map_toArray, List.map_cons, List.map_nil]); first | done | rfl | (simp only [List.length_drop, List.length_take]; rfl)) ?_
      with_reducible refine (spec_Get.calls k _ _ t885 t888 t889 t890 t891 t892 t893 t894 t895 t896 t897 t898 _ ?side1 ?side2 A21.out).mono ?_
      (case side1 => exact csd ((Kd.R_reads' HO887.out).2.2))
      (case side2 => exact (Kd.R_reads' HO887.out).2.1)
      rintro e w41 ⟨rfl, hb⟩
      refine ⟨_, rfl, ?_⟩
      replace HO887 := Aside0.mk (Kd.R_below (rup HO887.out) hb)
      replace BK881 := bku BK881.out hb
      replace BK882 := bku BK882.out hb
      replace HB := hbs2 HB.out GE881.out GE882.out hb
      (try clear hb)
      (try clear hb2)
      (try clear hk)
      (try clear hi)
      refine hK.out _ _ ⟨(blk_cell BK881.out 0).trans rfl, (blk_cell BK881.out 1).trans rfl, (blk_cell BK882.out 0).trans rfl, (blk_cell BK882.out 1).trans rfl, (blk_cell BK882.out 2).trans rfl, (blk_cell BK882.out 3).trans rfl, (blk_cell BK882.out 4).trans rfl⟩ (fun hHeld => ?_)
      clear hK K
      refine norm_ (a' := ?_) ?_ ?_
      rotate_left
      · show Act.put _ (some 23) _ = _
        simp only [Act.put, List.setIfInBounds_toArray, List.set_cons_zero, List.set_cons_succ, i64_w, i32_w]
        rfl
      refine one_ (i := 5) (N := some 6) #[true, true, true, true, true, true, false] rfl rfl (by kernel_rfl) (by decide) (fun K hK => ?_)
      refine box_step ?hg (N := 6) ?hd (cs := #[.int .i64 0, .int .i64 0, .float .f64 0, .string (⟨#[]⟩ : ByteArray), .int .i64 0]) (t := 28) ?hr ?_; (case hd => rfl); (case hg => rfl); (case hr => first | (go_simp; done) | (go_simp; rfl))
      intro gb899 hg w42 hbox hb
      replace HO887 := Aside0.mk (Kd.R_below (rup HO887.out) hb)
      have BK899 := Aside0.mk (hbox)
      have GW899 := (gws hg (hbe2 HB.out GE881.out GE882.out) : Aside0 (w.heap.size ≤ gb899))
      have GE899 := (gws hg (hbe2 HB.out GE881.out GE882.out) : Aside0 (w.heap.size ≤ gb899))
      replace HB := hbs2 HB.out GE881.out GE882.out hb
      have NB881_899 := nlt hg BK881.out
      have NB899_881 := ngt hg BK881.out
      replace BK881 := bku BK881.out hb
      have NB882_899 := nlt hg BK882.out
      have NB899_882 := ngt hg BK882.out
      replace BK882 := bku BK882.out hb
      clear hb hbox hg
      refine hK.out _ _ ⟨(blk_cell BK881.out 0).trans rfl, (blk_cell BK881.out 1).trans rfl, (blk_cell BK882.out 0).trans rfl, (blk_cell BK882.out 1).trans rfl, (blk_cell BK882.out 2).trans rfl, (blk_cell BK882.out 3).trans rfl, (blk_cell BK882.out 4).trans rfl⟩ (fun hHeld => ?_)
      clear hK K
      refine norm_ (a' := ?_) ?_ ?_
      rotate_left
      · show Act.put _ (some 6) _ = _
        simp only [Act.put, List.setIfInBounds_toArray, List.set_cons_zero, List.set_cons_succ, i64_w, i32_w]
        rfl
      exact norm_ (by simp only [putAll, Act.put, List.setIfInBounds_toArray, List.set_cons_zero, List.set_cons_succ]) (hCont (.slice Ao40 t885.length co40, gb899) _ ⟨hHeld, (rup HO887.out), (by (with_reducible repeat (first | refine blk_drewN ?_ _ | refine blk_drew ?_ | refine blk_alloc ?_ _)); exact BK881.out), (by (with_reducible repeat (first | refine blk_drewN ?_ _ | refine blk_drew ?_ | refine blk_alloc ?_ _)); exact BK882.out), (by (with_reducible repeat (first | refine blk_drewN ?_ _ | refine blk_drew ?_ | refine blk_alloc ?_ _)); exact BK899.out), GW899.out, GE899.out, NB881_899.out, NB899_881.out, NB882_899.out, NB899_882.out, (by repeat (first | (with_reducible first | exact HB.out | apply below_alloc | apply pw_below_drewN | apply below_drew1 | refine below_set ?_ GE881.out | refine below_set ?_ GE882.out | refine below_set ?_ GE899.out) | exact HB.out))⟩)
    skip
    refine box_step ?hg (N := 6) ?hd (cs := #[.int .i64 0, .int .i64 0, .float .f64 0, .string (⟨#[]⟩ : ByteArray), .int .i64 0]) (t := 28) ?hr ?_; (case hd => rfl); (case hg => rfl); (case hr => first | (go_simp; done) | (go_simp; rfl))
    intro gb899 hg w40 hbox hb
    replace HO887 := Aside0.mk (Kd.R_below (rup HO887.out) hb)
    have BK899 := Aside0.mk (hbox)
    have GW899 := (gws hg (hbe2 HB.out GE881.out GE882.out) : Aside0 (w.heap.size ≤ gb899))
    have GE899 := (gws hg (hbe2 HB.out GE881.out GE882.out) : Aside0 (w.heap.size ≤ gb899))
    replace HB := hbs2 HB.out GE881.out GE882.out hb
    have NB881_899 := nlt hg BK881.out
    have NB899_881 := ngt hg BK881.out
    replace BK881 := bku BK881.out hb
    have NB882_899 := nlt hg BK882.out
    have NB899_882 := ngt hg BK882.out
    replace BK882 := bku BK882.out hb
    clear hb hbox hg
    obtain ⟨Ao41, co41, eo41⟩ := Kd.R_slice HO887.out
    (first | subst eo41 | (injection eo41 with f1_ f2_ f3_; have f4_ := f1_.symm; have f5_ := f3_.symm; clear f1_ f2_ f3_; subst f4_; subst f5_))
    refine hK.out _ _ ⟨(blk_cell BK881.out 0).trans rfl, (blk_cell BK881.out 1).trans rfl, (blk_cell BK882.out 0).trans rfl, (blk_cell BK882.out 1).trans rfl, (blk_cell BK882.out 2).trans rfl, (blk_cell BK882.out 3).trans rfl, (blk_cell BK882.out 4).trans rfl⟩ (fun hHeld => ?_)
    clear hK K
    refine norm_ (a' := ?_) ?_ ?_
    rotate_left
    · show Act.put _ (some 6) _ = _
      simp only [Act.put, List.setIfInBounds_toArray, List.set_cons_zero, List.set_cons_succ, i64_w, i32_w]
      rfl
    refine one_ (i := 4) (N := some 23) #[true, true, true, true, true, true, false] rfl rfl (by kernel_rfl) (by decide) (fun K hK => ?_)
    refine goes_ Try.func46 (by kernel_rfl) rfl #[.agg #[.slice Ao41 t885.length co41, .int .i64 t888], .agg #[.int .i64 t889, .int .i64 t890, .float .f64 t891, .string t892, .int .i64 t893]] (by rfl) rfl rfl (by (try simp only [List.map_toArray, List.map_cons, List.map_nil]); first | done | rfl | (simp only [List.length_drop, List.length_take]; rfl)) ?_
    with_reducible refine (spec_Get.calls k _ _ t885 t888 t889 t890 t891 t892 t893 t894 t895 t896 t897 t898 _ ?side1 ?side2 A21.out).mono ?_
    (case side1 => exact csd ((Kd.R_reads' HO887.out).2.2))
    (case side2 => exact (Kd.R_reads' HO887.out).2.1)
    rintro e w42 ⟨rfl, hb⟩
    refine ⟨_, rfl, ?_⟩
    replace HO887 := Aside0.mk (Kd.R_below (rup HO887.out) hb)
    replace BK881 := bku BK881.out hb
    replace BK882 := bku BK882.out hb
    replace BK899 := bku BK899.out hb
    replace HB := hbs3 HB.out GE881.out GE882.out GE899.out hb
    (try clear hb)
    (try clear hb2)
    (try clear hk)
    (try clear hi)
    refine hK.out _ _ ⟨(blk_cell BK881.out 0).trans rfl, (blk_cell BK881.out 1).trans rfl, (blk_cell BK882.out 0).trans rfl, (blk_cell BK882.out 1).trans rfl, (blk_cell BK882.out 2).trans rfl, (blk_cell BK882.out 3).trans rfl, (blk_cell BK882.out 4).trans rfl⟩ (fun hHeld => ?_)
    clear hK K
    refine norm_ (a' := ?_) ?_ ?_
    rotate_left
    · show Act.put _ (some 23) _ = _
      simp only [Act.put, List.setIfInBounds_toArray, List.set_cons_zero, List.set_cons_succ, i64_w, i32_w]
      rfl
    exact norm_ (by simp only [putAll, Act.put, List.setIfInBounds_toArray, List.set_cons_zero, List.set_cons_succ]) (hCont (.slice Ao41 t885.length co41, gb899) _ ⟨hHeld, (rup HO887.out), (by (with_reducible repeat (first | refine blk_drewN ?_ _ | refine blk_drew ?_ | refine blk_alloc ?_ _)); exact BK881.out), (by (with_reducible repeat (first | refine blk_drewN ?_ _ | refine blk_drew ?_ | refine blk_alloc ?_ _)); exact BK882.out), (by (with_reducible repeat (first | refine blk_drewN ?_ _ | refine blk_drew ?_ | refine blk_alloc ?_ _)); exact BK899.out), GW899.out, GE899.out, NB881_899.out, NB899_881.out, NB882_899.out, NB899_882.out, (by repeat (first | (with_reducible first | exact HB.out | apply below_alloc | apply pw_below_drewN | apply below_drew1 | refine below_set ?_ GE881.out | refine below_set ?_ GE882.out | refine below_set ?_ GE899.out) | exact HB.out))⟩)
  rintro ⟨v886, gb899⟩ w43 ⟨hS_, h0_, h1_, h2_, h3_, h4_, h5_, h6_, h7_, h8_, h9_, h10_⟩
  have n0_ : Aside0 (Kd.R k61 61 w43 w.heap.size (fun _ => True) v886 t885) := ⟨h0_⟩
  have n1_ : Aside0 (w43.heap[gb881]? = some (.cells #[.slice A0_0 l0_0.length c0_0, .int .i64 a0_1] 51 (0, 0))) := ⟨h1_⟩
  have n2_ : Aside0 (w43.heap[gb882]? = some (.cells #[.int .i64 a1_0, .int .i64 a1_1, .float .f64 a1_2, .string a1_3, .int .i64 a1_4] 25 (0, 0))) := ⟨h2_⟩
  have n3_ : Aside0 (w43.heap[gb899]? = some (.cells #[.int .i64 0, .int .i64 0, .float .f64 0, .string (⟨#[]⟩ : ByteArray), .int .i64 0] 28 (0, 0))) := ⟨h3_⟩
  have n4_ : Aside0 (w.heap.size ≤ gb899) := ⟨h4_⟩
  have n5_ : Aside0 (w.heap.size ≤ gb899) := ⟨h5_⟩
  have n6_ : Aside0 (gb881 ≠ gb899) := ⟨h6_⟩
  have n7_ : Aside0 (gb899 ≠ gb881) := ⟨h7_⟩
  have n8_ : Aside0 (gb882 ≠ gb899) := ⟨h8_⟩
  have n9_ : Aside0 (gb899 ≠ gb882) := ⟨h9_⟩
  have n10_ : Aside0 (Below w.heap.size w w43) := ⟨h10_⟩
  clear BK881
  clear BK882
  clear HB
  clear h0_ h1_ h2_ h3_ h4_ h5_ h6_ h7_ h8_ h9_ h10_
  have HO887 := n0_
  have BK881 := n1_
  have BK882 := n2_
  have BK899 := n3_
  have GW899 := n4_
  have GE899 := n5_
  have NB881_899 := n6_
  have NB899_881 := n7_
  have NB882_899 := n8_
  have NB899_882 := n9_
  have HB := n10_
  clear n0_ n1_ n2_ n3_ n4_ n5_ n6_ n7_ n8_ n9_ n10_
  have hHeld : w43.cell? ⟨gb881, 0, none⟩ = some (.slice A0_0 l0_0.length c0_0) ∧ w43.cell? ⟨gb881, 1, none⟩ = some (.int .i64 a0_1) ∧ w43.cell? ⟨gb882, 0, none⟩ = some (.int .i64 a1_0) ∧ w43.cell? ⟨gb882, 1, none⟩ = some (.int .i64 a1_1) ∧ w43.cell? ⟨gb882, 2, none⟩ = some (.float .f64 a1_2) ∧ w43.cell? ⟨gb882, 3, none⟩ = some (.string a1_3) ∧ w43.cell? ⟨gb882, 4, none⟩ = some (.int .i64 a1_4) := hS_
  refine norm_ (a' := ?_) ?_ ?_
  rotate_left
  · simp only [putAll, Act.put, List.setIfInBounds_toArray, List.set_cons_zero, List.set_cons_succ]
    rfl
  refine one_ (i := 6) (N := none) #[true, true, true, true, true, true, true] rfl rfl (by kernel_rfl) (by decide) (fun K hK => ?_)
  have hs44 : w43.cell? ⟨gb899, 0, none⟩ = some (.int .i64 0) := (blk_cell BK899.out 0).trans rfl
  have hfs44 := blk_frozen BK899.out 0
  have hns44_0 := NB881_899.out
  have hns44_1 := NB882_899.out
  have hms44_0 := NB899_881.out
  have hms44_1 := NB899_882.out
  have hs45 : w43.cell? ⟨gb899, 1, none⟩ = some (.int .i64 0) := (blk_cell BK899.out 1).trans rfl
  have hfs45 := blk_frozen BK899.out 1
  have hns45_0 := NB881_899.out
  have hns45_1 := NB882_899.out
  have hms45_0 := NB899_881.out
  have hms45_1 := NB899_882.out
  have hs46 : w43.cell? ⟨gb899, 2, none⟩ = some (.float .f64 0) := (blk_cell BK899.out 2).trans rfl
  have hfs46 := blk_frozen BK899.out 2
  have hns46_0 := NB881_899.out
  have hns46_1 := NB882_899.out
  have hms46_0 := NB899_881.out
  have hms46_1 := NB899_882.out
  have hs47 : w43.cell? ⟨gb899, 3, none⟩ = some (.string (⟨#[]⟩ : ByteArray)) := (blk_cell BK899.out 3).trans rfl
  have hfs47 := blk_frozen BK899.out 3
  have hns47_0 := NB881_899.out
  have hns47_1 := NB882_899.out
  have hms47_0 := NB899_881.out
  have hms47_1 := NB899_882.out
  have hs48 : w43.cell? ⟨gb899, 4, none⟩ = some (.int .i64 0) := (blk_cell BK899.out 4).trans rfl
  have hfs48 := blk_frozen BK899.out 4
  have hns48_0 := NB881_899.out
  have hns48_1 := NB882_899.out
  have hms48_0 := NB899_881.out
  have hms48_1 := NB899_882.out
  refine skip_ (w1 := ?_) (by rfl) rfl ?_ ?_
  rotate_left
  · go_simp
    rfl
  refine hK.out _ _ ⟨((cell_far (p := ⟨gb899, _, none⟩) NB881_899.out _).trans (((cell_far (p := ⟨gb899, _, none⟩) NB881_899.out _).trans (((cell_far (p := ⟨gb899, _, none⟩) NB881_899.out _).trans (((cell_far (p := ⟨gb899, _, none⟩) NB881_899.out _).trans (((cell_far (p := ⟨gb899, _, none⟩) NB881_899.out _).trans (hHeld.1)))))))))), ((cell_far (p := ⟨gb899, _, none⟩) NB881_899.out _).trans (((cell_far (p := ⟨gb899, _, none⟩) NB881_899.out _).trans (((cell_far (p := ⟨gb899, _, none⟩) NB881_899.out _).trans (((cell_far (p := ⟨gb899, _, none⟩) NB881_899.out _).trans (((cell_far (p := ⟨gb899, _, none⟩) NB881_899.out _).trans (hHeld.2.1)))))))))), ((cell_far (p := ⟨gb899, _, none⟩) NB882_899.out _).trans (((cell_far (p := ⟨gb899, _, none⟩) NB882_899.out _).trans (((cell_far (p := ⟨gb899, _, none⟩) NB882_899.out _).trans (((cell_far (p := ⟨gb899, _, none⟩) NB882_899.out _).trans (((cell_far (p := ⟨gb899, _, none⟩) NB882_899.out _).trans (hHeld.2.2.1)))))))))), ((cell_far (p := ⟨gb899, _, none⟩) NB882_899.out _).trans (((cell_far (p := ⟨gb899, _, none⟩) NB882_899.out _).trans (((cell_far (p := ⟨gb899, _, none⟩) NB882_899.out _).trans (((cell_far (p := ⟨gb899, _, none⟩) NB882_899.out _).trans (((cell_far (p := ⟨gb899, _, none⟩) NB882_899.out _).trans (hHeld.2.2.2.1)))))))))), ((cell_far (p := ⟨gb899, _, none⟩) NB882_899.out _).trans (((cell_far (p := ⟨gb899, _, none⟩) NB882_899.out _).trans (((cell_far (p := ⟨gb899, _, none⟩) NB882_899.out _).trans (((cell_far (p := ⟨gb899, _, none⟩) NB882_899.out _).trans (((cell_far (p := ⟨gb899, _, none⟩) NB882_899.out _).trans (hHeld.2.2.2.2.1)))))))))), ((cell_far (p := ⟨gb899, _, none⟩) NB882_899.out _).trans (((cell_far (p := ⟨gb899, _, none⟩) NB882_899.out _).trans (((cell_far (p := ⟨gb899, _, none⟩) NB882_899.out _).trans (((cell_far (p := ⟨gb899, _, none⟩) NB882_899.out _).trans (((cell_far (p := ⟨gb899, _, none⟩) NB882_899.out _).trans (hHeld.2.2.2.2.2.1)))))))))), ((cell_far (p := ⟨gb899, _, none⟩) NB882_899.out _).trans (((cell_far (p := ⟨gb899, _, none⟩) NB882_899.out _).trans (((cell_far (p := ⟨gb899, _, none⟩) NB882_899.out _).trans (((cell_far (p := ⟨gb899, _, none⟩) NB882_899.out _).trans (((cell_far (p := ⟨gb899, _, none⟩) NB882_899.out _).trans (hHeld.2.2.2.2.2.2))))))))))⟩ (fun hHeld => ?_)
  clear hK K
  refine done_ (by kernel_rfl) ?_
  have hnb49 := NB881_899.out
  have hnc49 := NB899_881.out
  obtain ⟨hcz50_0, hcz50_1, hfz50_0, hfz50_1⟩ := cells2 BK881.out
  try go_wp2_with (first | ((with_reducible refine gate_callee (f := 38) rfl ?_); refine goesS (some 25) rfl Try.func38 #[.agg #[.slice A0_0 l0_0.length c0_0, .int .i64 a0_1]] rfl ?_; (with_reducible refine (laws_toTable.calls k _ _ l0_0 a0_1 t900 t903 _ ?side1 ?side2 A22.out).mono ?_); (case side1 => exact Kd.C_below HR0_0.out (by repeat (first | (with_reducible first | exact HB.out | apply below_alloc | apply pw_below_drewN | apply below_drew1 | refine below_set ?_ GE881.out | refine below_set ?_ GE882.out | refine below_set ?_ GE899.out) | exact HB.out))); (case side2 => exact HC0_0.out); rintro e w51 ⟨v901, rfl, ho0, hb⟩; refine ⟨_, rfl, ?_⟩; have HO902 := Aside0.mk (Kd.R_lower (Kd.R_new' ho0 (Kd.R_lt (by (with_reducible repeat (first | apply Kd.R_alloc | apply Kd.R_drewN | apply Kd.R_drew)); exact (Kd.R_mono (Kd.R_far (p := ⟨gb899, 4, none⟩) (Kd.R_far (p := ⟨gb899, 3, none⟩) (Kd.R_far (p := ⟨gb899, 2, none⟩) (Kd.R_far (p := ⟨gb899, 1, none⟩) (Kd.R_far (p := ⟨gb899, 0, none⟩) (Kd.R_types HO887.out BK899.out (by decide)) (fun _ hk => hk.2) (.int .i64 t894)) (fun _ hk => hk.2) (.int .i64 t895)) (fun _ hk => hk.2) (.float .f64 t896)) (fun _ hk => hk.2) (.string t897)) (fun _ hk => hk.2) (.int .i64 t898)) (fun _ h_ => h_.1))))) (below_size (by repeat (first | (with_reducible first | exact HB.out | apply below_alloc | apply pw_below_drewN | apply below_drew1 | refine below_set ?_ GE881.out | refine below_set ?_ GE882.out | refine below_set ?_ GE899.out) | exact HB.out)))); replace HO887 := Aside0.mk (Kd.R_elder' (by (with_reducible repeat (first | apply Kd.R_alloc | apply Kd.R_drewN | apply Kd.R_drew)); exact (Kd.R_mono (Kd.R_far (p := ⟨gb899, 4, none⟩) (Kd.R_far (p := ⟨gb899, 3, none⟩) (Kd.R_far (p := ⟨gb899, 2, none⟩) (Kd.R_far (p := ⟨gb899, 1, none⟩) (Kd.R_far (p := ⟨gb899, 0, none⟩) (Kd.R_types HO887.out BK899.out (by decide)) (fun _ hk => hk.2) (.int .i64 t894)) (fun _ hk => hk.2) (.int .i64 t895)) (fun _ hk => hk.2) (.float .f64 t896)) (fun _ hk => hk.2) (.string t897)) (fun _ hk => hk.2) (.int .i64 t898)) (fun _ h_ => h_.1))) (Kd.R_base ho0) hb); replace BK881 := Aside0.mk (blk_below (g := gb881) (o := .cells #[.slice A0_0 l0_0.length c0_0, .int .i64 a0_1] 51 (0, 0)) (by (with_reducible repeat (first | refine blk_drewN ?_ _ | refine blk_drew ?_ | refine blk_alloc ?_ _)); refine blk_far ?_ NB881_899.out _; (with_reducible repeat (first | refine blk_drewN ?_ _ | refine blk_drew ?_ | refine blk_alloc ?_ _)); refine blk_far ?_ NB881_899.out _; (with_reducible repeat (first | refine blk_drewN ?_ _ | refine blk_drew ?_ | refine blk_alloc ?_ _)); refine blk_far ?_ NB881_899.out _; (with_reducible repeat (first | refine blk_drewN ?_ _ | refine blk_drew ?_ | refine blk_alloc ?_ _)); refine blk_far ?_ NB881_899.out _; (with_reducible repeat (first | refine blk_drewN ?_ _ | refine blk_drew ?_ | refine blk_alloc ?_ _)); refine blk_far ?_ NB881_899.out _; (with_reducible repeat (first | refine blk_drewN ?_ _ | refine blk_drew ?_ | refine blk_alloc ?_ _)); exact BK881.out) hb); replace BK882 := Aside0.mk (blk_below (g := gb882) (o := .cells #[.int .i64 a1_0, .int .i64 a1_1, .float .f64 a1_2, .string a1_3, .int .i64 a1_4] 25 (0, 0)) (by (with_reducible repeat (first | refine blk_drewN ?_ _ | refine blk_drew ?_ | refine blk_alloc ?_ _)); refine blk_far ?_ NB882_899.out _; (with_reducible repeat (first | refine blk_drewN ?_ _ | refine blk_drew ?_ | refine blk_alloc ?_ _)); refine blk_far ?_ NB882_899.out _; (with_reducible repeat (first | refine blk_drewN ?_ _ | refine blk_drew ?_ | refine blk_alloc ?_ _)); refine blk_far ?_ NB882_899.out _; (with_reducible repeat (first | refine blk_drewN ?_ _ | refine blk_drew ?_ | refine blk_alloc ?_ _)); refine blk_far ?_ NB882_899.out _; (with_reducible repeat (first | refine blk_drewN ?_ _ | refine blk_drew ?_ | refine blk_alloc ?_ _)); refine blk_far ?_ NB882_899.out _; (with_reducible repeat (first | refine blk_drewN ?_ _ | refine blk_drew ?_ | refine blk_alloc ?_ _)); exact BK882.out) hb); replace BK899 := Aside0.mk (blk_below (g := gb899) (o := .cells #[.int .i64 t894, .int .i64 t895, .float .f64 t896, .string t897, .int .i64 t898] 28 (0, 0)) (by (with_reducible repeat (first | refine blk_drewN ?_ _ | refine blk_drew ?_ | refine blk_alloc ?_ _)); refine blk_put (cs := #[.int .i64 t894, .int .i64 t895, .float .f64 t896, .string t897, .int .i64 0]) ?_ 4 _ rfl; (with_reducible repeat (first | refine blk_drewN ?_ _ | refine blk_drew ?_ | refine blk_alloc ?_ _)); refine blk_put (cs := #[.int .i64 t894, .int .i64 t895, .float .f64 t896, .string (⟨#[]⟩ : ByteArray), .int .i64 0]) ?_ 3 _ rfl; (with_reducible repeat (first | refine blk_drewN ?_ _ | refine blk_drew ?_ | refine blk_alloc ?_ _)); refine blk_put (cs := #[.int .i64 t894, .int .i64 t895, .float .f64 0, .string (⟨#[]⟩ : ByteArray), .int .i64 0]) ?_ 2 _ rfl; (with_reducible repeat (first | refine blk_drewN ?_ _ | refine blk_drew ?_ | refine blk_alloc ?_ _)); refine blk_put (cs := #[.int .i64 t894, .int .i64 0, .float .f64 0, .string (⟨#[]⟩ : ByteArray), .int .i64 0]) ?_ 1 _ rfl; (with_reducible repeat (first | refine blk_drewN ?_ _ | refine blk_drew ?_ | refine blk_alloc ?_ _)); refine blk_put (cs := #[.int .i64 0, .int .i64 0, .float .f64 0, .string (⟨#[]⟩ : ByteArray), .int .i64 0]) ?_ 0 _ rfl; (with_reducible repeat (first | refine blk_drewN ?_ _ | refine blk_drew ?_ | refine blk_alloc ?_ _)); exact BK899.out) hb); replace HB := hbs3 HB.out GE881.out GE882.out GE899.out hb; (try clear hb); (try clear hb2); (try clear hk); (try clear hi); (try clear ho0)) | ((with_reducible refine gate_dst (N := 7) rfl ?_); refine box_event rfl (N := 7) rfl (cs := #[.slice none 0 0, .int .i64 0]) (t := 56) (by first | (go_simp; done) | (go_simp; rfl)) ?_; intro gb904 hg w52 hbox hb; replace HO887 := Aside0.mk (Kd.R_below (rup HO887.out) hb); replace HO902 := Aside0.mk (Kd.R_below (rup HO902.out) hb); have BK904 := Aside0.mk (hbox); have GW904 := (gws hg (hbe3 HB.out GE881.out GE882.out GE899.out) : Aside0 (w.heap.size ≤ gb904)); have GE904 := (gws hg (hbe3 HB.out GE881.out GE882.out GE899.out) : Aside0 (w.heap.size ≤ gb904)); replace HB := hbs3 HB.out GE881.out GE882.out GE899.out hb; have NB881_904 := nlt hg BK881.out; have NB904_881 := ngt hg BK881.out; replace BK881 := bku BK881.out hb; have NB882_904 := nlt hg BK882.out; have NB904_882 := ngt hg BK882.out; replace BK882 := bku BK882.out hb; have NB899_904 := nlt hg BK899.out; have NB904_899 := ngt hg BK899.out; replace BK899 := bku BK899.out hb; clear hb hbox hg; obtain ⟨Ao53, co53, eo53⟩ := Kd.R_slice HO902.out; subst eo53; have hnb54 := NB904_881.out; have hnc54 := NB881_904.out; have hnb55 := NB904_882.out; have hnc55 := NB882_904.out; have hnb56 := NB904_899.out; have hnc56 := NB899_904.out; obtain ⟨hcz57_0, hcz57_1, hfz57_0, hfz57_1⟩ := cells2 BK904.out))
  have n0_ : Aside0 (Kd.R k61 61 ((w52.setCell ⟨gb904, 0, none⟩ (.slice Ao53 t900.length co53)).setCell ⟨gb904, 1, none⟩ (.int .i64 t903)) w.heap.size (fun k_ => some k_ ≠ (.slice Ao53 t900.length co53 : Value).ownBlock) v886 t885) := ⟨by (with_reducible repeat (first | apply Kd.R_alloc | apply Kd.R_drewN | apply Kd.R_drew)); exact Kd.R_mono (Kd.R_far (p := ⟨gb904, 1, none⟩) (Kd.R_far (p := ⟨gb904, 0, none⟩) (Kd.R_types HO887.out BK904.out (by decide)) (fun _ hk => hk.2) (.slice Ao53 t900.length co53)) (fun _ hk => hk.2) (.int .i64 t903)) (fun _ hk => hk.1.2)⟩
  have n1_ : Aside0 (Kd.R k61 61 ((w52.setCell ⟨gb904, 0, none⟩ (.slice Ao53 t900.length co53)).setCell ⟨gb904, 1, none⟩ (.int .i64 t903)) w.heap.size (fun k_ => some k_ ≠ (v886 : Value).ownBlock) (.slice Ao53 t900.length co53) t900) := ⟨by (with_reducible repeat (first | apply Kd.R_alloc | apply Kd.R_drewN | apply Kd.R_drew)); exact Kd.R_mono (Kd.R_far (p := ⟨gb904, 1, none⟩) (Kd.R_far (p := ⟨gb904, 0, none⟩) (Kd.R_types HO902.out BK904.out (by decide)) (fun _ hk => hk.2) (.slice Ao53 t900.length co53)) (fun _ hk => hk.2) (.int .i64 t903)) (fun _ hk => hk.1.2)⟩
  have n2_ : Aside0 (((w52.setCell ⟨gb904, 0, none⟩ (.slice Ao53 t900.length co53)).setCell ⟨gb904, 1, none⟩ (.int .i64 t903)).heap[gb881]? = some (.cells #[.slice A0_0 l0_0.length c0_0, .int .i64 a0_1] 51 (0, 0))) := ⟨by (with_reducible repeat (first | refine blk_drewN ?_ _ | refine blk_drew ?_ | refine blk_alloc ?_ _)); refine blk_far ?_ NB881_904.out _; (with_reducible repeat (first | refine blk_drewN ?_ _ | refine blk_drew ?_ | refine blk_alloc ?_ _)); refine blk_far ?_ NB881_904.out _; (with_reducible repeat (first | refine blk_drewN ?_ _ | refine blk_drew ?_ | refine blk_alloc ?_ _)); exact BK881.out⟩
  have n3_ : Aside0 (((w52.setCell ⟨gb904, 0, none⟩ (.slice Ao53 t900.length co53)).setCell ⟨gb904, 1, none⟩ (.int .i64 t903)).heap[gb882]? = some (.cells #[.int .i64 a1_0, .int .i64 a1_1, .float .f64 a1_2, .string a1_3, .int .i64 a1_4] 25 (0, 0))) := ⟨by (with_reducible repeat (first | refine blk_drewN ?_ _ | refine blk_drew ?_ | refine blk_alloc ?_ _)); refine blk_far ?_ NB882_904.out _; (with_reducible repeat (first | refine blk_drewN ?_ _ | refine blk_drew ?_ | refine blk_alloc ?_ _)); refine blk_far ?_ NB882_904.out _; (with_reducible repeat (first | refine blk_drewN ?_ _ | refine blk_drew ?_ | refine blk_alloc ?_ _)); exact BK882.out⟩
  have n4_ : Aside0 (((w52.setCell ⟨gb904, 0, none⟩ (.slice Ao53 t900.length co53)).setCell ⟨gb904, 1, none⟩ (.int .i64 t903)).heap[gb899]? = some (.cells #[.int .i64 t894, .int .i64 t895, .float .f64 t896, .string t897, .int .i64 t898] 28 (0, 0))) := ⟨by (with_reducible repeat (first | refine blk_drewN ?_ _ | refine blk_drew ?_ | refine blk_alloc ?_ _)); refine blk_far ?_ NB899_904.out _; (with_reducible repeat (first | refine blk_drewN ?_ _ | refine blk_drew ?_ | refine blk_alloc ?_ _)); refine blk_far ?_ NB899_904.out _; (with_reducible repeat (first | refine blk_drewN ?_ _ | refine blk_drew ?_ | refine blk_alloc ?_ _)); exact BK899.out⟩
  have n5_ : Aside0 (((w52.setCell ⟨gb904, 0, none⟩ (.slice Ao53 t900.length co53)).setCell ⟨gb904, 1, none⟩ (.int .i64 t903)).heap[gb904]? = some (.cells #[.slice Ao53 t900.length co53, .int .i64 t903] 56 (0, 0))) := ⟨by (with_reducible repeat (first | refine blk_drewN ?_ _ | refine blk_drew ?_ | refine blk_alloc ?_ _)); refine blk_put (cs := #[.slice Ao53 t900.length co53, .int .i64 0]) ?_ 1 _ rfl; (with_reducible repeat (first | refine blk_drewN ?_ _ | refine blk_drew ?_ | refine blk_alloc ?_ _)); refine blk_put (cs := #[.slice none 0 0, .int .i64 0]) ?_ 0 _ rfl; (with_reducible repeat (first | refine blk_drewN ?_ _ | refine blk_drew ?_ | refine blk_alloc ?_ _)); exact BK904.out⟩
  have n6_ : Aside0 (Below w.heap.size w ((w52.setCell ⟨gb904, 0, none⟩ (.slice Ao53 t900.length co53)).setCell ⟨gb904, 1, none⟩ (.int .i64 t903))) := ⟨by repeat (first | (with_reducible first | exact HB.out | apply below_alloc | apply pw_below_drewN | apply below_drew1 | refine below_set ?_ GE881.out | refine below_set ?_ GE882.out | refine below_set ?_ GE899.out | refine below_set ?_ GE904.out) | exact HB.out)⟩
  (try clear HO887)
  (try clear HO902)
  (try clear BK881)
  (try clear BK882)
  (try clear BK899)
  (try clear BK904)
  (try clear HB)
  generalize ((w52.setCell ⟨gb904, 0, none⟩ (.slice Ao53 t900.length co53)).setCell ⟨gb904, 1, none⟩ (.int .i64 t903)) = w58 at n0_ n1_ n2_ n3_ n4_ n5_ n6_ ⊢
  have HO887 := n0_
  have HO902 := n1_
  have BK881 := n2_
  have BK882 := n3_
  have BK899 := n4_
  have BK904 := n5_
  have HB := n6_
  clear n0_ n1_ n2_ n3_ n4_ n5_ n6_
  replace HO887 := Aside0.mk (Kd.R_drew HO887.out)
  replace HO902 := Aside0.mk (Kd.R_drew HO902.out)
  replace BK881 := Aside0.mk (blk_drew BK881.out)
  replace BK882 := Aside0.mk (blk_drew BK882.out)
  replace BK899 := Aside0.mk (blk_drew BK899.out)
  replace BK904 := Aside0.mk (blk_drew BK904.out)
  replace HB := Aside0.mk (below_drew1 HB.out)
  refine start_ (n := 6) (S := fun w' => w'.cell? ⟨gb904, 0, none⟩ = some (.slice Ao53 t900.length co53) ∧ w'.cell? ⟨gb904, 1, none⟩ = some (.int .i64 t903) ∧ w'.cell? ⟨gb882, 0, none⟩ = some (.int .i64 a1_0) ∧ w'.cell? ⟨gb882, 1, none⟩ = some (.int .i64 a1_1) ∧ w'.cell? ⟨gb882, 2, none⟩ = some (.float .f64 a1_2) ∧ w'.cell? ⟨gb882, 3, none⟩ = some (.string a1_3) ∧ w'.cell? ⟨gb882, 4, none⟩ = some (.int .i64 a1_4)) (ds := []) #[false, false, false, false, false, false] (by kernel_rfl) rfl rfl ⟨(blk_cell BK904.out 0).trans rfl, (blk_cell BK904.out 1).trans rfl, (blk_cell BK882.out 0).trans rfl, (blk_cell BK882.out 1).trans rfl, (blk_cell BK882.out 2).trans rfl, (blk_cell BK882.out 3).trans rfl, (blk_cell BK882.out 4).trans rfl⟩ (fun hHeld => ?_)
  generalize w58.drew = w59 at HO887 HO902 BK881 BK882 BK899 BK904 HB hHeld ⊢
  refine take_ (i := 0) (N := some 26) (v := ?_) (a' := ?_) #[true, false, false, false, false, false] rfl rfl (by kernel_rfl) (fun _ _ _ h => h) (Or.inl ⟨by rfl, ?_⟩) hHeld ?_ ?_
  rotate_left
  · rintro w' ⟨s0, s1, s2, s3, s4, s5, s6⟩
    go_simp
    with_reducible rfl
  rotate_left
  · simp only [Act.put, List.setIfInBounds_toArray, List.set_cons_zero, List.set_cons_succ, i64_w, i32_w]
    rfl
  refine take_ (i := 1) (N := some 27) (v := ?_) (a' := ?_) #[true, true, false, false, false, false] rfl rfl (by kernel_rfl) (fun _ _ _ h => h) (Or.inl ⟨by rfl, ?_⟩) hHeld ?_ ?_
  rotate_left
  · rintro w' ⟨s0, s1, s2, s3, s4, s5, s6⟩
    go_simp
    with_reducible rfl
  rotate_left
  · simp only [Act.put, List.setIfInBounds_toArray, List.set_cons_zero, List.set_cons_succ, i64_w, i32_w]
    rfl
  refine join_ (σ := Nat) 1 #[true, true, true, true, true, false] (fun s_ => [(28, .agg #[.int .i64 t905, .int .i64 t906, .float .f64 t907, .string t908, .int .i64 t909]), (29, .agg #[.int .i64 t910, .int .i64 t911, .float .f64 t912, .string t913, .int .i64 t914]), (8, .pointer (some ⟨s_, 0, none⟩))]) (fun s_ w' => (w'.cell? ⟨gb904, 0, none⟩ = some (.slice Ao53 t900.length co53) ∧ w'.cell? ⟨gb904, 1, none⟩ = some (.int .i64 t903) ∧ w'.cell? ⟨gb882, 0, none⟩ = some (.int .i64 a1_0) ∧ w'.cell? ⟨gb882, 1, none⟩ = some (.int .i64 a1_1) ∧ w'.cell? ⟨gb882, 2, none⟩ = some (.float .f64 a1_2) ∧ w'.cell? ⟨gb882, 3, none⟩ = some (.string a1_3) ∧ w'.cell? ⟨gb882, 4, none⟩ = some (.int .i64 a1_4)) ∧ (Kd.R k61 61 w' w.heap.size (fun k_ => some k_ ≠ (.slice Ao53 t900.length co53 : Value).ownBlock) v886 t885) ∧ (Kd.R k61 61 w' w.heap.size (fun k_ => some k_ ≠ (v886 : Value).ownBlock) (.slice Ao53 t900.length co53) t900) ∧ (w'.heap[gb881]? = some (.cells #[.slice A0_0 l0_0.length c0_0, .int .i64 a0_1] 51 (0, 0))) ∧ (w'.heap[gb882]? = some (.cells #[.int .i64 a1_0, .int .i64 a1_1, .float .f64 a1_2, .string a1_3, .int .i64 a1_4] 25 (0, 0))) ∧ (w'.heap[gb899]? = some (.cells #[.int .i64 t894, .int .i64 t895, .float .f64 t896, .string t897, .int .i64 t898] 28 (0, 0))) ∧ (w'.heap[gb904]? = some (.cells #[.slice Ao53 t900.length co53, .int .i64 t903] 56 (0, 0))) ∧ (w'.heap[s_]? = some (.cells #[.int .i64 0, .int .i64 0, .float .f64 0, .string (⟨#[]⟩ : ByteArray), .int .i64 0] 28 (0, 0))) ∧ (w.heap.size ≤ s_) ∧ (w.heap.size ≤ s_) ∧ (gb881 ≠ s_) ∧ (s_ ≠ gb881) ∧ (gb882 ≠ s_) ∧ (s_ ≠ gb882) ∧ (gb899 ≠ s_) ∧ (s_ ≠ gb899) ∧ (gb904 ≠ s_) ∧ (s_ ≠ gb904) ∧ (Below w.heap.size w w')) ?_ ?_
  rotate_left
  · intro hCont
    refine two_ (i := 2) (j := 4) (Ni := some 28) (Nj := some 8) #[true, true, true, false, false, false] #[true, true, false, false, true, false] rfl rfl rfl rfl (by kernel_rfl) (by decide) (by decide) (fun K hK => ?_) (fun K hK => ?_)
    rotate_left 1
    · skip
      refine box_step ?hg (N := 8) ?hd (cs := #[.int .i64 0, .int .i64 0, .float .f64 0, .string (⟨#[]⟩ : ByteArray), .int .i64 0]) (t := 28) ?hr ?_; (case hd => rfl); (case hg => rfl); (case hr => first | (go_simp; done) | (go_simp; rfl))
      intro gb915 hg w60 hbox hb
      replace HO887 := Aside0.mk (Kd.R_below (rup HO887.out) hb)
      replace HO902 := Aside0.mk (Kd.R_below (rup HO902.out) hb)
      have BK915 := Aside0.mk (hbox)
      have GW915 := (gws hg (hbe4 HB.out GE881.out GE882.out GE899.out GE904.out) : Aside0 (w.heap.size ≤ gb915))
      have GE915 := (gws hg (hbe4 HB.out GE881.out GE882.out GE899.out GE904.out) : Aside0 (w.heap.size ≤ gb915))
      replace HB := hbs4 HB.out GE881.out GE882.out GE899.out GE904.out hb
      have NB881_915 := nlt hg BK881.out
      have NB915_881 := ngt hg BK881.out
      replace BK881 := bku BK881.out hb
      have NB882_915 := nlt hg BK882.out
      have NB915_882 := ngt hg BK882.out
      replace BK882 := bku BK882.out hb
      have NB899_915 := nlt hg BK899.out
      have NB915_899 := ngt hg BK899.out
      replace BK899 := bku BK899.out hb
      have NB904_915 := nlt hg BK904.out
      have NB915_904 := ngt hg BK904.out
      replace BK904 := bku BK904.out hb
      clear hb hbox hg
      refine hK.out _ _ ⟨(blk_cell BK904.out 0).trans rfl, (blk_cell BK904.out 1).trans rfl, (blk_cell BK882.out 0).trans rfl, (blk_cell BK882.out 1).trans rfl, (blk_cell BK882.out 2).trans rfl, (blk_cell BK882.out 3).trans rfl, (blk_cell BK882.out 4).trans rfl⟩ (fun hHeld => ?_)
      clear hK K
      refine norm_ (a' := ?_) ?_ ?_
      rotate_left
      · show Act.put _ (some 8) _ = _
        simp only [Act.put, List.setIfInBounds_toArray, List.set_cons_zero, List.set_cons_succ, i64_w, i32_w]
        rfl
      refine one_ (i := 2) (N := some 28) #[true, true, true, false, true, false] rfl rfl (by kernel_rfl) (by decide) (fun K hK => ?_)
      refine goes_ Try.func18 (by kernel_rfl) rfl #[.agg #[.int .i64 a1_0, .int .i64 a1_1, .float .f64 a1_2, .string a1_3, .int .i64 a1_4]] (by rfl) rfl rfl (by (try simp only [List.map_toArray, List.map_cons, List.map_nil]); first | done | rfl | (simp only [List.length_drop, List.length_take]; rfl)) ?_
      with_reducible refine (laws_toValue.calls a1_0 a1_1 a1_2 a1_3 a1_4 t905 t906 t907 t908 t909 _ A23.out).mono ?_
      rintro e w61 ⟨rfl, hb⟩
      refine ⟨_, rfl, ?_⟩
      replace HO887 := Aside0.mk (Kd.R_below (rup HO887.out) hb)
      replace HO902 := Aside0.mk (Kd.R_below (rup HO902.out) hb)
      replace BK881 := bku BK881.out hb
      replace BK882 := bku BK882.out hb
      replace BK899 := bku BK899.out hb
      replace BK904 := bku BK904.out hb
      replace BK915 := bku BK915.out hb
      replace HB := Aside0.mk (below_step (by repeat (first | (with_reducible first | exact HB.out | apply below_alloc | apply pw_below_drewN | apply below_drew1 | refine below_set ?_ GE881.out | refine below_set ?_ GE882.out | refine below_set ?_ GE899.out | refine below_set ?_ GE904.out | refine below_set ?_ GE915.out) | exact HB.out)) hb)
      (try clear hb)
      (try clear hb2)
      (try clear hk)
      (try clear hi)
      refine hK.out _ _ ⟨(blk_cell BK904.out 0).trans rfl, (blk_cell BK904.out 1).trans rfl, (blk_cell BK882.out 0).trans rfl, (blk_cell BK882.out 1).trans rfl, (blk_cell BK882.out 2).trans rfl, (blk_cell BK882.out 3).trans rfl, (blk_cell BK882.out 4).trans rfl⟩ (fun hHeld => ?_)
      clear hK K
      refine norm_ (a' := ?_) ?_ ?_
      rotate_left
      · show Act.put _ (some 28) _ = _
        simp only [Act.put, List.setIfInBounds_toArray, List.set_cons_zero, List.set_cons_succ, i64_w, i32_w]
        rfl
      refine one_ (i := 3) (N := some 29) #[true, true, true, true, true, false] rfl rfl (by kernel_rfl) (by decide) (fun K hK => ?_)
      refine goes_ Try.func47 (by kernel_rfl) rfl #[.agg #[.slice Ao53 t900.length co53, .int .i64 t903], .agg #[.int .i64 t905, .int .i64 t906, .float .f64 t907, .string t908, .int .i64 t909]] (by rfl) rfl rfl (by (try simp only [List.map_toArray, List.map_cons, List.map_nil]); first | done | rfl | (simp only [List.length_drop, List.length_take]; rfl)) ?_
      with_reducible refine (impl_Get.calls k _ _ t900 t903 t905 t906 t907 t908 t909 t910 t911 t912 t913 t914 _ ?side1 ?side2 A24.out).mono ?_
      (case side1 => exact csd ((Kd.R_reads' HO902.out).2.2))
      (case side2 => exact (Kd.R_reads' HO902.out).2.1)
      rintro e w62 ⟨rfl, hb⟩
      refine ⟨_, rfl, ?_⟩
      replace HO887 := Aside0.mk (Kd.R_below (rup HO887.out) hb)
      replace HO902 := Aside0.mk (Kd.R_below (rup HO902.out) hb)
      replace BK881 := bku BK881.out hb
      replace BK882 := bku BK882.out hb
      replace BK899 := bku BK899.out hb
      replace BK904 := bku BK904.out hb
      replace BK915 := bku BK915.out hb
      replace HB := Aside0.mk (below_step (by repeat (first | (with_reducible first | exact HB.out | apply below_alloc | apply pw_below_drewN | apply below_drew1 | refine below_set ?_ GE881.out | refine below_set ?_ GE882.out | refine below_set ?_ GE899.out | refine below_set ?_ GE904.out | refine below_set ?_ GE915.out) | exact HB.out)) hb)
      (try clear hb)
      (try clear hb2)
      (try clear hk)
      (try clear hi)
      refine hK.out _ _ ⟨(blk_cell BK904.out 0).trans rfl, (blk_cell BK904.out 1).trans rfl, (blk_cell BK882.out 0).trans rfl, (blk_cell BK882.out 1).trans rfl, (blk_cell BK882.out 2).trans rfl, (blk_cell BK882.out 3).trans rfl, (blk_cell BK882.out 4).trans rfl⟩ (fun hHeld => ?_)
      clear hK K
      refine norm_ (a' := ?_) ?_ ?_
      rotate_left
      · show Act.put _ (some 29) _ = _
        simp only [Act.put, List.setIfInBounds_toArray, List.set_cons_zero, List.set_cons_succ, i64_w, i32_w]
        rfl
      exact norm_ (by simp only [putAll, Act.put, List.setIfInBounds_toArray, List.set_cons_zero, List.set_cons_succ]) (hCont (gb915) _ ⟨hHeld, (rup HO887.out), (rup HO902.out), (by (with_reducible repeat (first | refine blk_drewN ?_ _ | refine blk_drew ?_ | refine blk_alloc ?_ _)); exact BK881.out), (by (with_reducible repeat (first | refine blk_drewN ?_ _ | refine blk_drew ?_ | refine blk_alloc ?_ _)); exact BK882.out), (by (with_reducible repeat (first | refine blk_drewN ?_ _ | refine blk_drew ?_ | refine blk_alloc ?_ _)); exact BK899.out), (by (with_reducible repeat (first | refine blk_drewN ?_ _ | refine blk_drew ?_ | refine blk_alloc ?_ _)); exact BK904.out), (by (with_reducible repeat (first | refine blk_drewN ?_ _ | refine blk_drew ?_ | refine blk_alloc ?_ _)); exact BK915.out), GW915.out, GE915.out, NB881_915.out, NB915_881.out, NB882_915.out, NB915_882.out, NB899_915.out, NB915_899.out, NB904_915.out, NB915_904.out, (by repeat (first | (with_reducible first | exact HB.out | apply below_alloc | apply pw_below_drewN | apply below_drew1 | refine below_set ?_ GE881.out | refine below_set ?_ GE882.out | refine below_set ?_ GE899.out | refine below_set ?_ GE904.out | refine below_set ?_ GE915.out) | exact HB.out))⟩)
    skip
    refine goes_ Try.func18 (by kernel_rfl) rfl #[.agg #[.int .i64 a1_0, .int .i64 a1_1, .float .f64 a1_2, .string a1_3, .int .i64 a1_4]] (by rfl) rfl rfl (by (try simp only [List.map_toArray, List.map_cons, List.map_nil]); first | done | rfl | (simp only [List.length_drop, List.length_take]; rfl)) ?_
    with_reducible refine (laws_toValue.calls a1_0 a1_1 a1_2 a1_3 a1_4 t905 t906 t907 t908 t909 _ A23.out).mono ?_
    rintro e w60 ⟨rfl, hb⟩
    refine ⟨_, rfl, ?_⟩
    replace HO887 := Aside0.mk (Kd.R_below (rup HO887.out) hb)
    replace HO902 := Aside0.mk (Kd.R_below (rup HO902.out) hb)
    replace BK881 := bku BK881.out hb
    replace BK882 := bku BK882.out hb
    replace BK899 := bku BK899.out hb
    replace BK904 := bku BK904.out hb
    replace HB := hbs4 HB.out GE881.out GE882.out GE899.out GE904.out hb
    (try clear hb)
    (try clear hb2)
    (try clear hk)
    (try clear hi)
    refine hK.out _ _ ⟨(blk_cell BK904.out 0).trans rfl, (blk_cell BK904.out 1).trans rfl, (blk_cell BK882.out 0).trans rfl, (blk_cell BK882.out 1).trans rfl, (blk_cell BK882.out 2).trans rfl, (blk_cell BK882.out 3).trans rfl, (blk_cell BK882.out 4).trans rfl⟩ (fun hHeld => ?_)
    clear hK K
    refine norm_ (a' := ?_) ?_ ?_
    rotate_left
    · show Act.put _ (some 28) _ = _
      simp only [Act.put, List.setIfInBounds_toArray, List.set_cons_zero, List.set_cons_succ, i64_w, i32_w]
      rfl
    refine two_ (i := 3) (j := 4) (Ni := some 29) (Nj := some 8) #[true, true, true, true, false, false] #[true, true, true, false, true, false] rfl rfl rfl rfl (by kernel_rfl) (by decide) (by decide) (fun K hK => ?_) (fun K hK => ?_)
    · skip
      refine goes_ Try.func47 (by kernel_rfl) rfl #[.agg #[.slice Ao53 t900.length co53, .int .i64 t903], .agg #[.int .i64 t905, .int .i64 t906, .float .f64 t907, .string t908, .int .i64 t909]] (by rfl) rfl rfl (by (try simp only [List.map_toArray, List.map_cons, List.map_nil]); first | done | rfl | (simp only [List.length_drop, List.length_take]; rfl)) ?_
      with_reducible refine (impl_Get.calls k _ _ t900 t903 t905 t906 t907 t908 t909 t910 t911 t912 t913 t914 _ ?side1 ?side2 A24.out).mono ?_
      (case side1 => exact csd ((Kd.R_reads' HO902.out).2.2))
      (case side2 => exact (Kd.R_reads' HO902.out).2.1)
      rintro e w61 ⟨rfl, hb⟩
      refine ⟨_, rfl, ?_⟩
      replace HO887 := Aside0.mk (Kd.R_below (rup HO887.out) hb)
      replace HO902 := Aside0.mk (Kd.R_below (rup HO902.out) hb)
      replace BK881 := bku BK881.out hb
      replace BK882 := bku BK882.out hb
      replace BK899 := bku BK899.out hb
      replace BK904 := bku BK904.out hb
      replace HB := hbs4 HB.out GE881.out GE882.out GE899.out GE904.out hb
      (try clear hb)
      (try clear hb2)
      (try clear hk)
      (try clear hi)
      refine hK.out _ _ ⟨(blk_cell BK904.out 0).trans rfl, (blk_cell BK904.out 1).trans rfl, (blk_cell BK882.out 0).trans rfl, (blk_cell BK882.out 1).trans rfl, (blk_cell BK882.out 2).trans rfl, (blk_cell BK882.out 3).trans rfl, (blk_cell BK882.out 4).trans rfl⟩ (fun hHeld => ?_)
      clear hK K
      refine norm_ (a' := ?_) ?_ ?_
      rotate_left
      · show Act.put _ (some 29) _ = _
        simp only [Act.put, List.setIfInBounds_toArray, List.set_cons_zero, List.set_cons_succ, i64_w, i32_w]
        rfl
      refine one_ (i := 4) (N := some 8) #[true, true, true, true, true, false] rfl rfl (by kernel_rfl) (by decide) (fun K hK => ?_)
      refine box_step ?hg (N := 8) ?hd (cs := #[.int .i64 0, .int .i64 0, .float .f64 0, .string (⟨#[]⟩ : ByteArray), .int .i64 0]) (t := 28) ?hr ?_; (case hd => rfl); (case hg => rfl); (case hr => first | (go_simp; done) | (go_simp; rfl))
      intro gb915 hg w62 hbox hb
      replace HO887 := Aside0.mk (Kd.R_below (rup HO887.out) hb)
      replace HO902 := Aside0.mk (Kd.R_below (rup HO902.out) hb)
      have BK915 := Aside0.mk (hbox)
      have GW915 := (gws hg (hbe4 HB.out GE881.out GE882.out GE899.out GE904.out) : Aside0 (w.heap.size ≤ gb915))
      have GE915 := (gws hg (hbe4 HB.out GE881.out GE882.out GE899.out GE904.out) : Aside0 (w.heap.size ≤ gb915))
      replace HB := hbs4 HB.out GE881.out GE882.out GE899.out GE904.out hb
      have NB881_915 := nlt hg BK881.out
      have NB915_881 := ngt hg BK881.out
      replace BK881 := bku BK881.out hb
      have NB882_915 := nlt hg BK882.out
      have NB915_882 := ngt hg BK882.out
      replace BK882 := bku BK882.out hb
      have NB899_915 := nlt hg BK899.out
      have NB915_899 := ngt hg BK899.out
      replace BK899 := bku BK899.out hb
      have NB904_915 := nlt hg BK904.out
      have NB915_904 := ngt hg BK904.out
      replace BK904 := bku BK904.out hb
      clear hb hbox hg
      refine hK.out _ _ ⟨(blk_cell BK904.out 0).trans rfl, (blk_cell BK904.out 1).trans rfl, (blk_cell BK882.out 0).trans rfl, (blk_cell BK882.out 1).trans rfl, (blk_cell BK882.out 2).trans rfl, (blk_cell BK882.out 3).trans rfl, (blk_cell BK882.out 4).trans rfl⟩ (fun hHeld => ?_)
      clear hK K
      refine norm_ (a' := ?_) ?_ ?_
      rotate_left
      · show Act.put _ (some 8) _ = _
        simp only [Act.put, List.setIfInBounds_toArray, List.set_cons_zero, List.set_cons_succ, i64_w, i32_w]
        rfl
      exact norm_ (by simp only [putAll, Act.put, List.setIfInBounds_toArray, List.set_cons_zero, List.set_cons_succ]) (hCont (gb915) _ ⟨hHeld, (rup HO887.out), (rup HO902.out), (by (with_reducible repeat (first | refine blk_drewN ?_ _ | refine blk_drew ?_ | refine blk_alloc ?_ _)); exact BK881.out), (by (with_reducible repeat (first | refine blk_drewN ?_ _ | refine blk_drew ?_ | refine blk_alloc ?_ _)); exact BK882.out), (by (with_reducible repeat (first | refine blk_drewN ?_ _ | refine blk_drew ?_ | refine blk_alloc ?_ _)); exact BK899.out), (by (with_reducible repeat (first | refine blk_drewN ?_ _ | refine blk_drew ?_ | refine blk_alloc ?_ _)); exact BK904.out), (by (with_reducible repeat (first | refine blk_drewN ?_ _ | refine blk_drew ?_ | refine blk_alloc ?_ _)); exact BK915.out), GW915.out, GE915.out, NB881_915.out, NB915_881.out, NB882_915.out, NB915_882.out, NB899_915.out, NB915_899.out, NB904_915.out, NB915_904.out, (by repeat (first | (with_reducible first | exact HB.out | apply below_alloc | apply pw_below_drewN | apply below_drew1 | refine below_set ?_ GE881.out | refine below_set ?_ GE882.out | refine below_set ?_ GE899.out | refine below_set ?_ GE904.out | refine below_set ?_ GE915.out) | exact HB.out))⟩)
    skip
    refine box_step ?hg (N := 8) ?hd (cs := #[.int .i64 0, .int .i64 0, .float .f64 0, .string (⟨#[]⟩ : ByteArray), .int .i64 0]) (t := 28) ?hr ?_; (case hd => rfl); (case hg => rfl); (case hr => first | (go_simp; done) | (go_simp; rfl))
    intro gb915 hg w61 hbox hb
    replace HO887 := Aside0.mk (Kd.R_below (rup HO887.out) hb)
    replace HO902 := Aside0.mk (Kd.R_below (rup HO902.out) hb)
    have BK915 := Aside0.mk (hbox)
    have GW915 := (gws hg (hbe4 HB.out GE881.out GE882.out GE899.out GE904.out) : Aside0 (w.heap.size ≤ gb915))
    have GE915 := (gws hg (hbe4 HB.out GE881.out GE882.out GE899.out GE904.out) : Aside0 (w.heap.size ≤ gb915))
    replace HB := hbs4 HB.out GE881.out GE882.out GE899.out GE904.out hb
    have NB881_915 := nlt hg BK881.out
    have NB915_881 := ngt hg BK881.out
    replace BK881 := bku BK881.out hb
    have NB882_915 := nlt hg BK882.out
    have NB915_882 := ngt hg BK882.out
    replace BK882 := bku BK882.out hb
    have NB899_915 := nlt hg BK899.out
    have NB915_899 := ngt hg BK899.out
    replace BK899 := bku BK899.out hb
    have NB904_915 := nlt hg BK904.out
    have NB915_904 := ngt hg BK904.out
    replace BK904 := bku BK904.out hb
    clear hb hbox hg
    refine hK.out _ _ ⟨(blk_cell BK904.out 0).trans rfl, (blk_cell BK904.out 1).trans rfl, (blk_cell BK882.out 0).trans rfl, (blk_cell BK882.out 1).trans rfl, (blk_cell BK882.out 2).trans rfl, (blk_cell BK882.out 3).trans rfl, (blk_cell BK882.out 4).trans rfl⟩ (fun hHeld => ?_)
    clear hK K
    refine norm_ (a' := ?_) ?_ ?_
    rotate_left
    · show Act.put _ (some 8) _ = _
      simp only [Act.put, List.setIfInBounds_toArray, List.set_cons_zero, List.set_cons_succ, i64_w, i32_w]
      rfl
    refine one_ (i := 3) (N := some 29) #[true, true, true, true, true, false] rfl rfl (by kernel_rfl) (by decide) (fun K hK => ?_)
    refine goes_ Try.func47 (by kernel_rfl) rfl #[.agg #[.slice Ao53 t900.length co53, .int .i64 t903], .agg #[.int .i64 t905, .int .i64 t906, .float .f64 t907, .string t908, .int .i64 t909]] (by rfl) rfl rfl (by (try simp only [List.map_toArray, List.map_cons, List.map_nil]); first | done | rfl | (simp only [List.length_drop, List.length_take]; rfl)) ?_
    with_reducible refine (impl_Get.calls k _ _ t900 t903 t905 t906 t907 t908 t909 t910 t911 t912 t913 t914 _ ?side1 ?side2 A24.out).mono ?_
    (case side1 => exact csd ((Kd.R_reads' HO902.out).2.2))
    (case side2 => exact (Kd.R_reads' HO902.out).2.1)
    rintro e w62 ⟨rfl, hb⟩
    refine ⟨_, rfl, ?_⟩
    replace HO887 := Aside0.mk (Kd.R_below (rup HO887.out) hb)
    replace HO902 := Aside0.mk (Kd.R_below (rup HO902.out) hb)
    replace BK881 := bku BK881.out hb
    replace BK882 := bku BK882.out hb
    replace BK899 := bku BK899.out hb
    replace BK904 := bku BK904.out hb
    replace BK915 := bku BK915.out hb
    replace HB := Aside0.mk (below_step (by repeat (first | (with_reducible first | exact HB.out | apply below_alloc | apply pw_below_drewN | apply below_drew1 | refine below_set ?_ GE881.out | refine below_set ?_ GE882.out | refine below_set ?_ GE899.out | refine below_set ?_ GE904.out | refine below_set ?_ GE915.out) | exact HB.out)) hb)
    (try clear hb)
    (try clear hb2)
    (try clear hk)
    (try clear hi)
    refine hK.out _ _ ⟨(blk_cell BK904.out 0).trans rfl, (blk_cell BK904.out 1).trans rfl, (blk_cell BK882.out 0).trans rfl, (blk_cell BK882.out 1).trans rfl, (blk_cell BK882.out 2).trans rfl, (blk_cell BK882.out 3).trans rfl, (blk_cell BK882.out 4).trans rfl⟩ (fun hHeld => ?_)
    clear hK K
    refine norm_ (a' := ?_) ?_ ?_
    rotate_left
    · show Act.put _ (some 29) _ = _
      simp only [Act.put, List.setIfInBounds_toArray, List.set_cons_zero, List.set_cons_succ, i64_w, i32_w]
      rfl
    exact norm_ (by simp only [putAll, Act.put, List.setIfInBounds_toArray, List.set_cons_zero, List.set_cons_succ]) (hCont (gb915) _ ⟨hHeld, (rup HO887.out), (rup HO902.out), (by (with_reducible repeat (first | refine blk_drewN ?_ _ | refine blk_drew ?_ | refine blk_alloc ?_ _)); exact BK881.out), (by (with_reducible repeat (first | refine blk_drewN ?_ _ | refine blk_drew ?_ | refine blk_alloc ?_ _)); exact BK882.out), (by (with_reducible repeat (first | refine blk_drewN ?_ _ | refine blk_drew ?_ | refine blk_alloc ?_ _)); exact BK899.out), (by (with_reducible repeat (first | refine blk_drewN ?_ _ | refine blk_drew ?_ | refine blk_alloc ?_ _)); exact BK904.out), (by (with_reducible repeat (first | refine blk_drewN ?_ _ | refine blk_drew ?_ | refine blk_alloc ?_ _)); exact BK915.out), GW915.out, GE915.out, NB881_915.out, NB915_881.out, NB882_915.out, NB915_882.out, NB899_915.out, NB915_899.out, NB904_915.out, NB915_904.out, (by repeat (first | (with_reducible first | exact HB.out | apply below_alloc | apply pw_below_drewN | apply below_drew1 | refine below_set ?_ GE881.out | refine below_set ?_ GE882.out | refine below_set ?_ GE899.out | refine below_set ?_ GE904.out | refine below_set ?_ GE915.out) | exact HB.out))⟩)
  rintro gb915 w63 ⟨hS_, h0_, h1_, h2_, h3_, h4_, h5_, h6_, h7_, h8_, h9_, h10_, h11_, h12_, h13_, h14_, h15_, h16_, h17_⟩
  have n0_ : Aside0 (Kd.R k61 61 w63 w.heap.size (fun k_ => some k_ ≠ (.slice Ao53 t900.length co53 : Value).ownBlock) v886 t885) := ⟨h0_⟩
  have n1_ : Aside0 (Kd.R k61 61 w63 w.heap.size (fun k_ => some k_ ≠ (v886 : Value).ownBlock) (.slice Ao53 t900.length co53) t900) := ⟨h1_⟩
  have n2_ : Aside0 (w63.heap[gb881]? = some (.cells #[.slice A0_0 l0_0.length c0_0, .int .i64 a0_1] 51 (0, 0))) := ⟨h2_⟩
  have n3_ : Aside0 (w63.heap[gb882]? = some (.cells #[.int .i64 a1_0, .int .i64 a1_1, .float .f64 a1_2, .string a1_3, .int .i64 a1_4] 25 (0, 0))) := ⟨h3_⟩
  have n4_ : Aside0 (w63.heap[gb899]? = some (.cells #[.int .i64 t894, .int .i64 t895, .float .f64 t896, .string t897, .int .i64 t898] 28 (0, 0))) := ⟨h4_⟩
  have n5_ : Aside0 (w63.heap[gb904]? = some (.cells #[.slice Ao53 t900.length co53, .int .i64 t903] 56 (0, 0))) := ⟨h5_⟩
  have n6_ : Aside0 (w63.heap[gb915]? = some (.cells #[.int .i64 0, .int .i64 0, .float .f64 0, .string (⟨#[]⟩ : ByteArray), .int .i64 0] 28 (0, 0))) := ⟨h6_⟩
  have n7_ : Aside0 (w.heap.size ≤ gb915) := ⟨h7_⟩
  have n8_ : Aside0 (w.heap.size ≤ gb915) := ⟨h8_⟩
  have n9_ : Aside0 (gb881 ≠ gb915) := ⟨h9_⟩
  have n10_ : Aside0 (gb915 ≠ gb881) := ⟨h10_⟩
  have n11_ : Aside0 (gb882 ≠ gb915) := ⟨h11_⟩
  have n12_ : Aside0 (gb915 ≠ gb882) := ⟨h12_⟩
  have n13_ : Aside0 (gb899 ≠ gb915) := ⟨h13_⟩
  have n14_ : Aside0 (gb915 ≠ gb899) := ⟨h14_⟩
  have n15_ : Aside0 (gb904 ≠ gb915) := ⟨h15_⟩
  have n16_ : Aside0 (gb915 ≠ gb904) := ⟨h16_⟩
  have n17_ : Aside0 (Below w.heap.size w w63) := ⟨h17_⟩
  clear HO887
  clear HO902
  clear BK881
  clear BK882
  clear BK899
  clear BK904
  clear HB
  clear h0_ h1_ h2_ h3_ h4_ h5_ h6_ h7_ h8_ h9_ h10_ h11_ h12_ h13_ h14_ h15_ h16_ h17_
  have HO887 := n0_
  have HO902 := n1_
  have BK881 := n2_
  have BK882 := n3_
  have BK899 := n4_
  have BK904 := n5_
  have BK915 := n6_
  have GW915 := n7_
  have GE915 := n8_
  have NB881_915 := n9_
  have NB915_881 := n10_
  have NB882_915 := n11_
  have NB915_882 := n12_
  have NB899_915 := n13_
  have NB915_899 := n14_
  have NB904_915 := n15_
  have NB915_904 := n16_
  have HB := n17_
  clear n0_ n1_ n2_ n3_ n4_ n5_ n6_ n7_ n8_ n9_ n10_ n11_ n12_ n13_ n14_ n15_ n16_ n17_
  have hHeld : w63.cell? ⟨gb904, 0, none⟩ = some (.slice Ao53 t900.length co53) ∧ w63.cell? ⟨gb904, 1, none⟩ = some (.int .i64 t903) ∧ w63.cell? ⟨gb882, 0, none⟩ = some (.int .i64 a1_0) ∧ w63.cell? ⟨gb882, 1, none⟩ = some (.int .i64 a1_1) ∧ w63.cell? ⟨gb882, 2, none⟩ = some (.float .f64 a1_2) ∧ w63.cell? ⟨gb882, 3, none⟩ = some (.string a1_3) ∧ w63.cell? ⟨gb882, 4, none⟩ = some (.int .i64 a1_4) := hS_
  refine norm_ (a' := ?_) ?_ ?_
  rotate_left
  · simp only [putAll, Act.put, List.setIfInBounds_toArray, List.set_cons_zero, List.set_cons_succ]
    rfl
  refine one_ (i := 5) (N := none) #[true, true, true, true, true, true] rfl rfl (by kernel_rfl) (by decide) (fun K hK => ?_)
  have hs64 : w63.cell? ⟨gb915, 0, none⟩ = some (.int .i64 0) := (blk_cell BK915.out 0).trans rfl
  have hfs64 := blk_frozen BK915.out 0
  have hns64_0 := NB881_915.out
  have hns64_1 := NB882_915.out
  have hns64_2 := NB899_915.out
  have hns64_3 := NB904_915.out
  have hms64_0 := NB915_881.out
  have hms64_1 := NB915_882.out
  have hms64_2 := NB915_899.out
  have hms64_3 := NB915_904.out
  have hs65 : w63.cell? ⟨gb915, 1, none⟩ = some (.int .i64 0) := (blk_cell BK915.out 1).trans rfl
  have hfs65 := blk_frozen BK915.out 1
  have hns65_0 := NB881_915.out
  have hns65_1 := NB882_915.out
  have hns65_2 := NB899_915.out
  have hns65_3 := NB904_915.out
  have hms65_0 := NB915_881.out
  have hms65_1 := NB915_882.out
  have hms65_2 := NB915_899.out
  have hms65_3 := NB915_904.out
  have hs66 : w63.cell? ⟨gb915, 2, none⟩ = some (.float .f64 0) := (blk_cell BK915.out 2).trans rfl
  have hfs66 := blk_frozen BK915.out 2
  have hns66_0 := NB881_915.out
  have hns66_1 := NB882_915.out
  have hns66_2 := NB899_915.out
  have hns66_3 := NB904_915.out
  have hms66_0 := NB915_881.out
  have hms66_1 := NB915_882.out
  have hms66_2 := NB915_899.out
  have hms66_3 := NB915_904.out
  have hs67 : w63.cell? ⟨gb915, 3, none⟩ = some (.string (⟨#[]⟩ : ByteArray)) := (blk_cell BK915.out 3).trans rfl
  have hfs67 := blk_frozen BK915.out 3
  have hns67_0 := NB881_915.out
  have hns67_1 := NB882_915.out
  have hns67_2 := NB899_915.out
  have hns67_3 := NB904_915.out
  have hms67_0 := NB915_881.out
  have hms67_1 := NB915_882.out
  have hms67_2 := NB915_899.out
  have hms67_3 := NB915_904.out
  have hs68 : w63.cell? ⟨gb915, 4, none⟩ = some (.int .i64 0) := (blk_cell BK915.out 4).trans rfl
  have hfs68 := blk_frozen BK915.out 4
  have hns68_0 := NB881_915.out
  have hns68_1 := NB882_915.out
  have hns68_2 := NB899_915.out
  have hns68_3 := NB904_915.out
  have hms68_0 := NB915_881.out
  have hms68_1 := NB915_882.out
  have hms68_2 := NB915_899.out
  have hms68_3 := NB915_904.out
  refine skip_ (w1 := ?_) (by rfl) rfl ?_ ?_
  rotate_left
  · go_simp
    rfl
  refine hK.out _ _ ⟨((cell_far (p := ⟨gb915, _, none⟩) NB904_915.out _).trans (((cell_far (p := ⟨gb915, _, none⟩) NB904_915.out _).trans (((cell_far (p := ⟨gb915, _, none⟩) NB904_915.out _).trans (((cell_far (p := ⟨gb915, _, none⟩) NB904_915.out _).trans (((cell_far (p := ⟨gb915, _, none⟩) NB904_915.out _).trans (hHeld.1)))))))))), ((cell_far (p := ⟨gb915, _, none⟩) NB904_915.out _).trans (((cell_far (p := ⟨gb915, _, none⟩) NB904_915.out _).trans (((cell_far (p := ⟨gb915, _, none⟩) NB904_915.out _).trans (((cell_far (p := ⟨gb915, _, none⟩) NB904_915.out _).trans (((cell_far (p := ⟨gb915, _, none⟩) NB904_915.out _).trans (hHeld.2.1)))))))))), ((cell_far (p := ⟨gb915, _, none⟩) NB882_915.out _).trans (((cell_far (p := ⟨gb915, _, none⟩) NB882_915.out _).trans (((cell_far (p := ⟨gb915, _, none⟩) NB882_915.out _).trans (((cell_far (p := ⟨gb915, _, none⟩) NB882_915.out _).trans (((cell_far (p := ⟨gb915, _, none⟩) NB882_915.out _).trans (hHeld.2.2.1)))))))))), ((cell_far (p := ⟨gb915, _, none⟩) NB882_915.out _).trans (((cell_far (p := ⟨gb915, _, none⟩) NB882_915.out _).trans (((cell_far (p := ⟨gb915, _, none⟩) NB882_915.out _).trans (((cell_far (p := ⟨gb915, _, none⟩) NB882_915.out _).trans (((cell_far (p := ⟨gb915, _, none⟩) NB882_915.out _).trans (hHeld.2.2.2.1)))))))))), ((cell_far (p := ⟨gb915, _, none⟩) NB882_915.out _).trans (((cell_far (p := ⟨gb915, _, none⟩) NB882_915.out _).trans (((cell_far (p := ⟨gb915, _, none⟩) NB882_915.out _).trans (((cell_far (p := ⟨gb915, _, none⟩) NB882_915.out _).trans (((cell_far (p := ⟨gb915, _, none⟩) NB882_915.out _).trans (hHeld.2.2.2.2.1)))))))))), ((cell_far (p := ⟨gb915, _, none⟩) NB882_915.out _).trans (((cell_far (p := ⟨gb915, _, none⟩) NB882_915.out _).trans (((cell_far (p := ⟨gb915, _, none⟩) NB882_915.out _).trans (((cell_far (p := ⟨gb915, _, none⟩) NB882_915.out _).trans (((cell_far (p := ⟨gb915, _, none⟩) NB882_915.out _).trans (hHeld.2.2.2.2.2.1)))))))))), ((cell_far (p := ⟨gb915, _, none⟩) NB882_915.out _).trans (((cell_far (p := ⟨gb915, _, none⟩) NB882_915.out _).trans (((cell_far (p := ⟨gb915, _, none⟩) NB882_915.out _).trans (((cell_far (p := ⟨gb915, _, none⟩) NB882_915.out _).trans (((cell_far (p := ⟨gb915, _, none⟩) NB882_915.out _).trans (hHeld.2.2.2.2.2.2))))))))))⟩ (fun hHeld => ?_)
  clear hK K
  refine done_ (by kernel_rfl) ?_
  have hnb69 := NB915_881.out
  have hnc69 := NB881_915.out
  have hnb70 := NB915_882.out
  have hnc70 := NB882_915.out
  have hnb71 := NB915_899.out
  have hnc71 := NB899_915.out
  have hnb72 := NB915_904.out
  have hnc72 := NB904_915.out
  obtain ⟨hcz73_0, hcz73_1, hcz73_2, hcz73_3, hcz73_4, hfz73_0, hfz73_1, hfz73_2, hfz73_3, hfz73_4⟩ := cells5 BK915.out
  have hnb74 := NB899_882.out
  have hnc74 := NB882_899.out
  obtain ⟨hcz75_0, hcz75_1, hcz75_2, hcz75_3, hcz75_4, hfz75_0, hfz75_1, hfz75_2, hfz75_3, hfz75_4⟩ := cells5 BK899.out
  try go_wp2_with (first | ((with_reducible refine gate_callee (f := 48) rfl ?_); refine goesS (some 32) rfl Try.func48 #[.agg #[.int .i64 t910, .int .i64 t911, .float .f64 t912, .string t913, .int .i64 t914], .agg #[.int .i64 t894, .int .i64 t895, .float .f64 t896, .string t897, .int .i64 t898]] rfl ?_; (with_reducible refine (laws_eqValue.calls k t910 t911 t912 t913 t914 t894 t895 t896 t897 t898 true _ A25.out).mono ?_); rintro e w76 ⟨rfl, hb⟩; refine ⟨_, rfl, ?_⟩; replace HO887 := Aside0.mk (Kd.R_below (by (with_reducible repeat (first | apply Kd.R_alloc | apply Kd.R_drewN | apply Kd.R_drew)); exact (Kd.R_mono (Kd.R_far (p := ⟨gb915, 4, none⟩) (Kd.R_far (p := ⟨gb915, 3, none⟩) (Kd.R_far (p := ⟨gb915, 2, none⟩) (Kd.R_far (p := ⟨gb915, 1, none⟩) (Kd.R_far (p := ⟨gb915, 0, none⟩) (Kd.R_types HO887.out BK915.out (by decide)) (fun _ hk => hk.2) (.int .i64 t910)) (fun _ hk => hk.2) (.int .i64 t911)) (fun _ hk => hk.2) (.float .f64 t912)) (fun _ hk => hk.2) (.string t913)) (fun _ hk => hk.2) (.int .i64 t914)) (fun _ h_ => h_.1))) hb); replace HO902 := Aside0.mk (Kd.R_below (by (with_reducible repeat (first | apply Kd.R_alloc | apply Kd.R_drewN | apply Kd.R_drew)); exact (Kd.R_mono (Kd.R_far (p := ⟨gb915, 4, none⟩) (Kd.R_far (p := ⟨gb915, 3, none⟩) (Kd.R_far (p := ⟨gb915, 2, none⟩) (Kd.R_far (p := ⟨gb915, 1, none⟩) (Kd.R_far (p := ⟨gb915, 0, none⟩) (Kd.R_types HO902.out BK915.out (by decide)) (fun _ hk => hk.2) (.int .i64 t910)) (fun _ hk => hk.2) (.int .i64 t911)) (fun _ hk => hk.2) (.float .f64 t912)) (fun _ hk => hk.2) (.string t913)) (fun _ hk => hk.2) (.int .i64 t914)) (fun _ h_ => h_.1))) hb); replace BK881 := Aside0.mk (blk_below (g := gb881) (o := .cells #[.slice A0_0 l0_0.length c0_0, .int .i64 a0_1] 51 (0, 0)) (by (with_reducible repeat (first | refine blk_drewN ?_ _ | refine blk_drew ?_ | refine blk_alloc ?_ _)); refine blk_far ?_ NB881_915.out _; (with_reducible repeat (first | refine blk_drewN ?_ _ | refine blk_drew ?_ | refine blk_alloc ?_ _)); refine blk_far ?_ NB881_915.out _; (with_reducible repeat (first | refine blk_drewN ?_ _ | refine blk_drew ?_ | refine blk_alloc ?_ _)); refine blk_far ?_ NB881_915.out _; (with_reducible repeat (first | refine blk_drewN ?_ _ | refine blk_drew ?_ | refine blk_alloc ?_ _)); refine blk_far ?_ NB881_915.out _; (with_reducible repeat (first | refine blk_drewN ?_ _ | refine blk_drew ?_ | refine blk_alloc ?_ _)); refine blk_far ?_ NB881_915.out _; (with_reducible repeat (first | refine blk_drewN ?_ _ | refine blk_drew ?_ | refine blk_alloc ?_ _)); exact BK881.out) hb); replace BK882 := Aside0.mk (blk_below (g := gb882) (o := .cells #[.int .i64 a1_0, .int .i64 a1_1, .float .f64 a1_2, .string a1_3, .int .i64 a1_4] 25 (0, 0)) (by (with_reducible repeat (first | refine blk_drewN ?_ _ | refine blk_drew ?_ | refine blk_alloc ?_ _)); refine blk_far ?_ NB882_915.out _; (with_reducible repeat (first | refine blk_drewN ?_ _ | refine blk_drew ?_ | refine blk_alloc ?_ _)); refine blk_far ?_ NB882_915.out _; (with_reducible repeat (first | refine blk_drewN ?_ _ | refine blk_drew ?_ | refine blk_alloc ?_ _)); refine blk_far ?_ NB882_915.out _; (with_reducible repeat (first | refine blk_drewN ?_ _ | refine blk_drew ?_ | refine blk_alloc ?_ _)); refine blk_far ?_ NB882_915.out _; (with_reducible repeat (first | refine blk_drewN ?_ _ | refine blk_drew ?_ | refine blk_alloc ?_ _)); refine blk_far ?_ NB882_915.out _; (with_reducible repeat (first | refine blk_drewN ?_ _ | refine blk_drew ?_ | refine blk_alloc ?_ _)); exact BK882.out) hb); replace BK899 := Aside0.mk (blk_below (g := gb899) (o := .cells #[.int .i64 t894, .int .i64 t895, .float .f64 t896, .string t897, .int .i64 t898] 28 (0, 0)) (by (with_reducible repeat (first | refine blk_drewN ?_ _ | refine blk_drew ?_ | refine blk_alloc ?_ _)); refine blk_far ?_ NB899_915.out _; (with_reducible repeat (first | refine blk_drewN ?_ _ | refine blk_drew ?_ | refine blk_alloc ?_ _)); refine blk_far ?_ NB899_915.out _; (with_reducible repeat (first | refine blk_drewN ?_ _ | refine blk_drew ?_ | refine blk_alloc ?_ _)); refine blk_far ?_ NB899_915.out _; (with_reducible repeat (first | refine blk_drewN ?_ _ | refine blk_drew ?_ | refine blk_alloc ?_ _)); refine blk_far ?_ NB899_915.out _; (with_reducible repeat (first | refine blk_drewN ?_ _ | refine blk_drew ?_ | refine blk_alloc ?_ _)); refine blk_far ?_ NB899_915.out _; (with_reducible repeat (first | refine blk_drewN ?_ _ | refine blk_drew ?_ | refine blk_alloc ?_ _)); exact BK899.out) hb); replace BK904 := Aside0.mk (blk_below (g := gb904) (o := .cells #[.slice Ao53 t900.length co53, .int .i64 t903] 56 (0, 0)) (by (with_reducible repeat (first | refine blk_drewN ?_ _ | refine blk_drew ?_ | refine blk_alloc ?_ _)); refine blk_far ?_ NB904_915.out _; (with_reducible repeat (first | refine blk_drewN ?_ _ | refine blk_drew ?_ | refine blk_alloc ?_ _)); refine blk_far ?_ NB904_915.out _; (with_reducible repeat (first | refine blk_drewN ?_ _ | refine blk_drew ?_ | refine blk_alloc ?_ _)); refine blk_far ?_ NB904_915.out _; (with_reducible repeat (first | refine blk_drewN ?_ _ | refine blk_drew ?_ | refine blk_alloc ?_ _)); refine blk_far ?_ NB904_915.out _; (with_reducible repeat (first | refine blk_drewN ?_ _ | refine blk_drew ?_ | refine blk_alloc ?_ _)); refine blk_far ?_ NB904_915.out _; (with_reducible repeat (first | refine blk_drewN ?_ _ | refine blk_drew ?_ | refine blk_alloc ?_ _)); exact BK904.out) hb); replace BK915 := Aside0.mk (blk_below (g := gb915) (o := .cells #[.int .i64 t910, .int .i64 t911, .float .f64 t912, .string t913, .int .i64 t914] 28 (0, 0)) (by (with_reducible repeat (first | refine blk_drewN ?_ _ | refine blk_drew ?_ | refine blk_alloc ?_ _)); refine blk_put (cs := #[.int .i64 t910, .int .i64 t911, .float .f64 t912, .string t913, .int .i64 0]) ?_ 4 _ rfl; (with_reducible repeat (first | refine blk_drewN ?_ _ | refine blk_drew ?_ | refine blk_alloc ?_ _)); refine blk_put (cs := #[.int .i64 t910, .int .i64 t911, .float .f64 t912, .string (⟨#[]⟩ : ByteArray), .int .i64 0]) ?_ 3 _ rfl; (with_reducible repeat (first | refine blk_drewN ?_ _ | refine blk_drew ?_ | refine blk_alloc ?_ _)); refine blk_put (cs := #[.int .i64 t910, .int .i64 t911, .float .f64 0, .string (⟨#[]⟩ : ByteArray), .int .i64 0]) ?_ 2 _ rfl; (with_reducible repeat (first | refine blk_drewN ?_ _ | refine blk_drew ?_ | refine blk_alloc ?_ _)); refine blk_put (cs := #[.int .i64 t910, .int .i64 0, .float .f64 0, .string (⟨#[]⟩ : ByteArray), .int .i64 0]) ?_ 1 _ rfl; (with_reducible repeat (first | refine blk_drewN ?_ _ | refine blk_drew ?_ | refine blk_alloc ?_ _)); refine blk_put (cs := #[.int .i64 0, .int .i64 0, .float .f64 0, .string (⟨#[]⟩ : ByteArray), .int .i64 0]) ?_ 0 _ rfl; (with_reducible repeat (first | refine blk_drewN ?_ _ | refine blk_drew ?_ | refine blk_alloc ?_ _)); exact BK915.out) hb); replace HB := Aside0.mk (below_step (by repeat (first | (with_reducible first | exact HB.out | apply below_alloc | apply pw_below_drewN | apply below_drew1 | refine below_set ?_ GE881.out | refine below_set ?_ GE882.out | refine below_set ?_ GE899.out | refine below_set ?_ GE904.out | refine below_set ?_ GE915.out) | exact HB.out)) hb); (try clear hb); (try clear hb2); (try clear hk); (try clear hi)))
  replace HO887 := Aside0.mk (Kd.R_drew HO887.out)
  replace HO902 := Aside0.mk (Kd.R_drew HO902.out)
  replace BK881 := Aside0.mk (blk_drew BK881.out)
  replace BK882 := Aside0.mk (blk_drew BK882.out)
  replace BK899 := Aside0.mk (blk_drew BK899.out)
  replace BK904 := Aside0.mk (blk_drew BK904.out)
  replace BK915 := Aside0.mk (blk_drew BK915.out)
  replace HB := Aside0.mk (below_drew1 HB.out)
  refine start_ (n := 5) (S := fun w' => w'.cell? ⟨gb904, 0, none⟩ = some (.slice Ao53 t900.length co53) ∧ w'.cell? ⟨gb904, 1, none⟩ = some (.int .i64 t903) ∧ w'.cell? ⟨gb881, 0, none⟩ = some (.slice A0_0 l0_0.length c0_0) ∧ w'.cell? ⟨gb881, 1, none⟩ = some (.int .i64 a0_1)) (ds := []) #[false, false, false, false, false] (by kernel_rfl) rfl rfl ⟨(blk_cell BK904.out 0).trans rfl, (blk_cell BK904.out 1).trans rfl, (blk_cell BK881.out 0).trans rfl, (blk_cell BK881.out 1).trans rfl⟩ (fun hHeld => ?_)
  generalize w76.drew = w77 at HO887 HO902 BK881 BK882 BK899 BK904 BK915 HB hHeld ⊢
  refine take_ (i := 0) (N := some 34) (v := ?_) (a' := ?_) #[true, false, false, false, false] rfl rfl (by kernel_rfl) (fun _ _ _ h => h) (Or.inl ⟨by rfl, ?_⟩) hHeld ?_ ?_
  rotate_left
  · rintro w' ⟨s0, s1, s2, s3⟩
    go_simp
    with_reducible rfl
  rotate_left
  · simp only [Act.put, List.setIfInBounds_toArray, List.set_cons_zero, List.set_cons_succ, i64_w, i32_w]
    rfl
  refine take_ (i := 1) (N := some 35) (v := ?_) (a' := ?_) #[true, true, false, false, false] rfl rfl (by kernel_rfl) (fun _ _ _ h => h) (Or.inl ⟨by rfl, ?_⟩) hHeld ?_ ?_
  rotate_left
  · rintro w' ⟨s0, s1, s2, s3⟩
    go_simp
    with_reducible rfl
  rotate_left
  · simp only [Act.put, List.setIfInBounds_toArray, List.set_cons_zero, List.set_cons_succ, i64_w, i32_w]
    rfl
  refine one_ (i := 2) (N := some 36) #[true, true, true, false, false] rfl rfl (by kernel_rfl) (by decide) (fun K hK => ?_)
  refine goes_ Try.func38 (by kernel_rfl) rfl #[.agg #[.slice A0_0 l0_0.length c0_0, .int .i64 a0_1]] (by rfl) rfl rfl (by (try simp only [List.map_toArray, List.map_cons, List.map_nil]); first | done | rfl | (simp only [List.length_drop, List.length_take]; rfl)) ?_
  with_reducible refine (laws_toTable.calls k _ _ l0_0 a0_1 t917 t920 _ ?side1 ?side2 A27.out).mono ?_
  (case side1 => exact csd (Kd.C_below HR0_0.out HB.out))
  (case side2 => exact HC0_0.out)
  rintro e w78 ⟨v918, rfl, ho0, hb⟩
  refine ⟨_, rfl, ?_⟩
  have HO919 := Aside0.mk (Kd.R_lower (Kd.R_new' (Kd.R_new' ho0 (Kd.R_lt (rup HO887.out))) (Kd.R_lt (rup HO902.out))) (below_size (by repeat (first | (with_reducible first | exact HB.out | apply below_alloc | apply pw_below_drewN | apply below_drew1 | refine below_set ?_ GE881.out | refine below_set ?_ GE882.out | refine below_set ?_ GE899.out | refine below_set ?_ GE904.out | refine below_set ?_ GE915.out) | exact HB.out))))
  replace HO887 := Aside0.mk (Kd.R_elder' (rup HO887.out) (Kd.R_base ho0) hb)
  replace HO902 := Aside0.mk (Kd.R_elder' (rup HO902.out) (Kd.R_base ho0) hb)
  replace BK881 := bku BK881.out hb
  replace BK882 := bku BK882.out hb
  replace BK899 := bku BK899.out hb
  replace BK904 := bku BK904.out hb
  replace BK915 := bku BK915.out hb
  replace HB := Aside0.mk (below_step (by repeat (first | (with_reducible first | exact HB.out | apply below_alloc | apply pw_below_drewN | apply below_drew1 | refine below_set ?_ GE881.out | refine below_set ?_ GE882.out | refine below_set ?_ GE899.out | refine below_set ?_ GE904.out | refine below_set ?_ GE915.out) | exact HB.out)) hb)
  (try clear hb)
  (try clear hb2)
  (try clear hk)
  (try clear hi)
  (try clear ho0)
  obtain ⟨Ao79, co79, eo79⟩ := Kd.R_slice HO919.out
  (first | subst eo79 | (injection eo79 with f1_ f2_ f3_; have f4_ := f1_.symm; have f5_ := f3_.symm; clear f1_ f2_ f3_; subst f4_; subst f5_))
  refine hK.out _ _ ⟨(blk_cell BK904.out 0).trans rfl, (blk_cell BK904.out 1).trans rfl, (blk_cell BK881.out 0).trans rfl, (blk_cell BK881.out 1).trans rfl⟩ (fun hHeld => ?_)
  clear hK K
  refine norm_ (a' := ?_) ?_ ?_
  rotate_left
  · show Act.put _ (some 36) _ = _
    simp only [Act.put, List.setIfInBounds_toArray, List.set_cons_zero, List.set_cons_succ, i64_w, i32_w]
    rfl
  refine one_ (i := 3) (N := some 37) #[true, true, true, true, false] rfl rfl (by kernel_rfl) (by decide) (fun K hK => ?_)
  refine goes_ Try.func40 (by kernel_rfl) rfl #[.agg #[.slice Ao53 t900.length co53, .int .i64 t903], .agg #[.slice Ao79 t917.length co79, .int .i64 t920]] (by rfl) rfl rfl (by (try simp only [List.map_toArray, List.map_cons, List.map_nil]); first | done | rfl | (simp only [List.length_drop, List.length_take]; rfl)) ?_
  with_reducible refine (laws_eqTable.calls k _ _ t900 t903 _ _ t917 t920 true _ ?side1 ?side2 ?side3 ?side4 A28.out).mono ?_
  (case side1 => exact csd ((Kd.R_reads' HO902.out).2.2))
  (case side2 => exact (Kd.R_reads' HO902.out).2.1)
  (case side3 => exact csd ((Kd.R_reads' HO919.out).2.2))
  (case side4 => exact (Kd.R_reads' HO919.out).2.1)
  rintro e w80 ⟨rfl, hb⟩
  refine ⟨_, rfl, ?_⟩
  replace HO887 := Aside0.mk (Kd.R_below (rup HO887.out) hb)
  replace HO902 := Aside0.mk (Kd.R_below (rup HO902.out) hb)
  replace HO919 := Aside0.mk (Kd.R_below (rup HO919.out) hb)
  replace BK881 := bku BK881.out hb
  replace BK882 := bku BK882.out hb
  replace BK899 := bku BK899.out hb
  replace BK904 := bku BK904.out hb
  replace BK915 := bku BK915.out hb
  replace HB := Aside0.mk (below_step (by repeat (first | (with_reducible first | exact HB.out | apply below_alloc | apply pw_below_drewN | apply below_drew1 | refine below_set ?_ GE881.out | refine below_set ?_ GE882.out | refine below_set ?_ GE899.out | refine below_set ?_ GE904.out | refine below_set ?_ GE915.out) | exact HB.out)) hb)
  (try clear hb)
  (try clear hb2)
  (try clear hk)
  (try clear hi)
  refine hK.out _ _ ⟨(blk_cell BK904.out 0).trans rfl, (blk_cell BK904.out 1).trans rfl, (blk_cell BK881.out 0).trans rfl, (blk_cell BK881.out 1).trans rfl⟩ (fun hHeld => ?_)
  clear hK K
  refine norm_ (a' := ?_) ?_ ?_
  rotate_left
  · show Act.put _ (some 37) _ = _
    simp only [Act.put, List.setIfInBounds_toArray, List.set_cons_zero, List.set_cons_succ, i64_w, i32_w]
    rfl
  refine pure_ (i := 4) (N := some 38) (v := ?_) (a' := ?_) #[true, true, true, true, true] rfl rfl (by kernel_rfl) (fun _ _ _ h => h) (Or.inl ⟨by rfl, ?_⟩) ?_ ?_
  rotate_left
  · intro w'
    go_simp
    with_reducible rfl
  rotate_left
  · simp only [Act.put, List.setIfInBounds_toArray, List.set_cons_zero, List.set_cons_succ, i64_w, i32_w]
    rfl
  refine done_ (by kernel_rfl) ?_
  try go_wp2
  go_ret
  exact ⟨by first | rfl | (simp [errW_none, errW_some] <;> rfl) | (simp [*, errW_none, errW_some] <;> rfl), by repeat (first | (with_reducible first | exact HB.out | apply below_alloc | apply pw_below_drewN | apply below_drew1 | refine below_set ?_ GE881.out | refine below_set ?_ GE882.out | refine below_set ?_ GE899.out | refine below_set ?_ GE904.out | refine below_set ?_ GE915.out) | exact HB.out)⟩
end Go.Proofs.Ytdjlbfaiccdbfaa.PAll
