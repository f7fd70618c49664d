/- Contracts of Go functions: each call comes to what a plain Lean function of the same name says; text written by a program of this workplace (wip/patch_print.py over the kit's print). -/
import Derived.Test.YtdjlbfaiccdbfaaPAllx0
import Derived.Test.YtdjlbfaiccdbfaaPAllx1
import Derived.Test.YtdjlbfaiccdbfaaPAllx2
import Derived.Test.YtdjlbfaiccdbfaaPAllx8
import Derived.Test.YtdjlbfaiccdbfaaPAllx9
namespace Go.Proofs.Ytdjlbfaiccdbfaa.PAll
open Go.RowKit Go.Proofs.YtdjlbfaiccdbfaaW.PrintWords Go.Proofs.YtdjlbfaiccdbfaaW.PrintLast Go.Proofs.YtdjlbfaiccdbfaaW.PrintMore
attribute [local go_sem] max2_int min2_int max_two min_two max_three min_three max_four min_four   -- for this text's walks alone
set_option linter.unusedVariables false
set_option linter.unusedSimpArgs false

/-! ### laws_FnExactKey: function 7 -/
def laws_FnExactKey.f (k : Nat) (a0_0 : Int) (a0_1 : Int) (a0_2 : Nat) (a0_3 : ByteArray) (a0_4 : Int) : Option (Bool) := (laws_szValue.f a0_0 a0_1 a0_2 a0_3 a0_4 1048576).bind fun t301 => (if t301 < 0 then (some true) else ((laws_toValue.f a0_0 a0_1 a0_2 a0_3 a0_4).bind fun bt302 => ((spec_Key.f k bt302.1 bt302.2.1 bt302.2.2.1 bt302.2.2.2.1 bt302.2.2.2.2).bind fun bt307 => ((laws_toValue.f a0_0 a0_1 a0_2 a0_3 a0_4).bind fun bt314 => ((impl_Key.f k bt314.1 bt314.2.1 bt314.2.2.1 bt314.2.2.2.1 bt314.2.2.2.2).bind fun bt319 => ((laws_eqValued.f k bt319.1 bt319.2.1 bt319.2.2.1 bt319.2.2.2.1 bt319.2.2.2.2.1 bt319.2.2.2.2.2 bt307.1 bt307.2.1 bt307.2.2.1 bt307.2.2.2.1 bt307.2.2.2.2.1 bt307.2.2.2.2.2).bind fun t326 => (if t326 = true then (some true) else (some false))))))))
theorem laws_FnExactKey.mono : ∀ a0 a1 a2 a3 a4 k, LeO (laws_FnExactKey.f k a0 a1 a2 a3 a4) (laws_FnExactKey.f (k + 1) a0 a1 a2 a3 a4) := by
  intro a0 a1 a2 a3 a4 k
  unfold laws_FnExactKey.f
  repeat' first
      | (with_reducible exact impl_Key.mono _ _ _ _ _ _)
      | (with_reducible exact laws_eqValued.mono _ _ _ _ _ _ _ _ _ _ _ _ _)
      | (with_reducible exact spec_Key.mono _ _ _ _ _ _)
      | (with_reducible exact LeO.refl _)
      | (with_reducible exact LeO.none _)
      | (with_reducible refine LeO.ite ?_ ?_)
      | (with_reducible refine LeO.bind ?_ (fun _ => ?_))
      | exact impl_Key.mono _ _ _ _ _ _
      | exact laws_eqValued.mono _ _ _ _ _ _ _ _ _ _ _ _ _
      | exact spec_Key.mono _ _ _ _ _ _
      | exact LeO.none _
      | refine LeO.ite ?_ ?_
      | refine LeO.bind ?_ (fun _ => ?_)
set_option maxHeartbeats 8000000 in
set_option maxRecDepth 100000 in
theorem laws_FnExactKey.calls (k : Nat) (a0_0 : Int) (a0_1 : Int) (a0_2 : Nat) (a0_3 : ByteArray) (a0_4 : Int) (r : Bool) (w : World) (h : laws_FnExactKey.f k a0_0 a0_1 a0_2 a0_3 a0_4 = some r) (hT : r = true) :
    Calls Try.prog 7 #[.agg #[.int .i64 a0_0, .int .i64 a0_1, .float .f64 a0_2, .string a0_3, .int .i64 a0_4]] w fun e w' => e = .returned (.bool r) ∧ Below w.heap.size w w' := by
  have HT := Aside0.mk hT
  clear hT
  have hu25 := Try.underlying25
  have hu41 := Try.underlying41
  have HB := Aside0.mk (Below.refl w.heap.size w)
  have H : ((laws_szValue.f a0_0 a0_1 a0_2 a0_3 a0_4 1048576).bind fun t301 => (if t301 < 0 then (some true) else ((laws_toValue.f a0_0 a0_1 a0_2 a0_3 a0_4).bind fun bt302 => ((spec_Key.f k bt302.1 bt302.2.1 bt302.2.2.1 bt302.2.2.2.1 bt302.2.2.2.2).bind fun bt307 => ((laws_toValue.f a0_0 a0_1 a0_2 a0_3 a0_4).bind fun bt314 => ((impl_Key.f k bt314.1 bt314.2.1 bt314.2.2.1 bt314.2.2.2.1 bt314.2.2.2.2).bind fun bt319 => ((laws_eqValued.f k bt319.1 bt319.2.1 bt319.2.2.1 bt319.2.2.2.1 bt319.2.2.2.2.1 bt319.2.2.2.2.2 bt307.1 bt307.2.1 bt307.2.2.1 bt307.2.2.2.1 bt307.2.2.2.2.1 bt307.2.2.2.2.2).bind fun t326 => (if t326 = true then (some true) else (some false))))))))) = some r := h
  clear h
  replace H := Option.bind_eq_some_iff.mp H
  obtain ⟨t301, A20, H⟩ := H
  replace H : (if t301 < 0 then (some true) else ((laws_toValue.f a0_0 a0_1 a0_2 a0_3 a0_4).bind fun bt302 => ((spec_Key.f k bt302.1 bt302.2.1 bt302.2.2.1 bt302.2.2.2.1 bt302.2.2.2.2).bind fun bt307 => ((laws_toValue.f a0_0 a0_1 a0_2 a0_3 a0_4).bind fun bt314 => ((impl_Key.f k bt314.1 bt314.2.1 bt314.2.2.1 bt314.2.2.2.1 bt314.2.2.2.2).bind fun bt319 => ((laws_eqValued.f k bt319.1 bt319.2.1 bt319.2.2.1 bt319.2.2.2.1 bt319.2.2.2.2.1 bt319.2.2.2.2.2 bt307.1 bt307.2.1 bt307.2.2.1 bt307.2.2.2.1 bt307.2.2.2.2.1 bt307.2.2.2.2.2).bind fun t326 => (if t326 = true then (some true) else (some false)))))))) = some r := H
  have A2 := Aside0.mk A20
  clear A20
  by_cases c3 : t301 < 0
  · rw [if_pos c3] at H
    have c3b0 : decide (t301 < 0) = true := decide_eq_true c3
    clear c3
    obtain rfl := Option.some.inj H
    go_enter Try.func7, Try.ntmps7
    go_wp2_with (first | ((with_reducible refine gate_dst (N := 1) rfl ?_); refine box_event rfl (N := 1) rfl (cs := #[.int .i64 a0_0, .int .i64 a0_1, .float .f64 a0_2, .string a0_3, .int .i64 a0_4]) (t := 25) (by first | (go_simp; done) | (go_simp; rfl)) ?_; intro gb300 hg w4 hbox hb; have BK300 := Aside0.mk (hbox); have GW300 := (gws hg (hbe HB.out) : Aside0 (w.heap.size ≤ gb300)); have GE300 := (gws hg (hbe HB.out) : Aside0 (w.heap.size ≤ gb300)); replace HB := hbs HB.out hb; clear hb hbox hg; obtain ⟨hcz5_0, hcz5_1, hcz5_2, hcz5_3, hcz5_4, hfz5_0, hfz5_1, hfz5_2, hfz5_3, hfz5_4⟩ := cells5 BK300.out) | ((with_reducible refine gate_callee (f := 16) rfl ?_); refine goesS (some 8) rfl Try.func16 #[.agg #[.int .i64 a0_0, .int .i64 a0_1, .float .f64 a0_2, .string a0_3, .int .i64 a0_4], .int .i64 1048576] rfl ?_; (with_reducible refine (laws_szValue.calls a0_0 a0_1 a0_2 a0_3 a0_4 1048576 t301 _ A2.out).mono ?_); rintro e w6 ⟨rfl, hb⟩; refine ⟨_, rfl, ?_⟩; replace BK300 := bku BK300.out hb; replace HB := hbs1 HB.out GE300.out hb; (try clear hb); (try clear hb2); (try clear hk); (try clear hi)))
    go_ret
    exact ⟨by first | rfl | (simp <;> rfl) | (simp [*] <;> rfl), hbe1 HB.out GE300.out⟩
  rw [if_neg c3] at H
  have c3b0 : decide (t301 < 0) = false := decide_eq_false c3
  clear c3
  replace H := Option.bind_eq_some_iff.mp H
  obtain ⟨⟨t302, t303, t304, t305, t306⟩, A70, H⟩ := H
  replace H : ((spec_Key.f k t302 t303 t304 t305 t306).bind fun bt307 => ((laws_toValue.f a0_0 a0_1 a0_2 a0_3 a0_4).bind fun bt314 => ((impl_Key.f k bt314.1 bt314.2.1 bt314.2.2.1 bt314.2.2.2.1 bt314.2.2.2.2).bind fun bt319 => ((laws_eqValued.f k bt319.1 bt319.2.1 bt319.2.2.1 bt319.2.2.2.1 bt319.2.2.2.2.1 bt319.2.2.2.2.2 bt307.1 bt307.2.1 bt307.2.2.1 bt307.2.2.2.1 bt307.2.2.2.2.1 bt307.2.2.2.2.2).bind fun t326 => (if t326 = true then (some true) else (some false)))))) = some r := H
  have A7 := Aside0.mk A70
  clear A70
  replace H := Option.bind_eq_some_iff.mp H
  obtain ⟨⟨t307, t308, t309, t310, t311, t312⟩, A80, H⟩ := H
  replace H : ((laws_toValue.f a0_0 a0_1 a0_2 a0_3 a0_4).bind fun bt314 => ((impl_Key.f k bt314.1 bt314.2.1 bt314.2.2.1 bt314.2.2.2.1 bt314.2.2.2.2).bind fun bt319 => ((laws_eqValued.f k bt319.1 bt319.2.1 bt319.2.2.1 bt319.2.2.2.1 bt319.2.2.2.2.1 bt319.2.2.2.2.2 t307 t308 t309 t310 t311 t312).bind fun t326 => (if t326 = true then (some true) else (some false))))) = some r := H
  have A8 := Aside0.mk A80
  clear A80
  replace H := Option.bind_eq_some_iff.mp H
  obtain ⟨⟨t314, t315, t316, t317, t318⟩, A90, H⟩ := H
  replace H : ((impl_Key.f k t314 t315 t316 t317 t318).bind fun bt319 => ((laws_eqValued.f k bt319.1 bt319.2.1 bt319.2.2.1 bt319.2.2.2.1 bt319.2.2.2.2.1 bt319.2.2.2.2.2 t307 t308 t309 t310 t311 t312).bind fun t326 => (if t326 = true then (some true) else (some false)))) = some r := H
  have A9 := Aside0.mk A90
  clear A90
  replace H := Option.bind_eq_some_iff.mp H
  obtain ⟨⟨t319, t320, t321, t322, t323, t324⟩, A100, H⟩ := H
  replace H : ((laws_eqValued.f k t319 t320 t321 t322 t323 t324 t307 t308 t309 t310 t311 t312).bind fun t326 => (if t326 = true then (some true) else (some false))) = some r := H
  have A10 := Aside0.mk A100
  clear A100
  replace H := Option.bind_eq_some_iff.mp H
  obtain ⟨t326, A110, H⟩ := H
  replace H : (if t326 = true then (some true) else (some false)) = some r := H
  have A11 := Aside0.mk A110
  clear A110
  by_cases c12 : t326 = true
  rotate_left 1
  · replace c12 := Bool.eq_false_iff.mpr c12
    subst c12
    have H1 : (some false) = some r := by rw [if_neg (show ¬ (false = true) by decide)] at H; exact H
    clear H
    have H := H1
    clear H1
    obtain rfl := Option.some.inj H
    cases HT.out
  subst c12
  have H1 : (some true) = some r := by rw [if_pos rfl] at H; exact H
  clear H
  have H := H1
  clear H1
  obtain rfl := Option.some.inj H
  go_enter Try.func7, Try.ntmps7
  go_wp2_with (first | ((with_reducible refine gate_dst (N := 1) rfl ?_); refine box_event rfl (N := 1) rfl (cs := #[.int .i64 a0_0, .int .i64 a0_1, .float .f64 a0_2, .string a0_3, .int .i64 a0_4]) (t := 25) (by first | (go_simp; done) | (go_simp; rfl)) ?_; intro gb300 hg w13 hbox hb; have BK300 := Aside0.mk (hbox); have GW300 := (gws hg (hbe HB.out) : Aside0 (w.heap.size ≤ gb300)); have GE300 := (gws hg (hbe HB.out) : Aside0 (w.heap.size ≤ gb300)); replace HB := hbs HB.out hb; clear hb hbox hg; obtain ⟨hcz14_0, hcz14_1, hcz14_2, hcz14_3, hcz14_4, hfz14_0, hfz14_1, hfz14_2, hfz14_3, hfz14_4⟩ := cells5 BK300.out) | ((with_reducible refine gate_callee (f := 16) rfl ?_); refine goesS (some 8) rfl Try.func16 #[.agg #[.int .i64 a0_0, .int .i64 a0_1, .float .f64 a0_2, .string a0_3, .int .i64 a0_4], .int .i64 1048576] rfl ?_; (with_reducible refine (laws_szValue.calls a0_0 a0_1 a0_2 a0_3 a0_4 1048576 t301 _ A2.out).mono ?_); rintro e w15 ⟨rfl, hb⟩; refine ⟨_, rfl, ?_⟩; replace BK300 := bku BK300.out hb; replace HB := hbs1 HB.out GE300.out hb; (try clear hb); (try clear hb2); (try clear hk); (try clear hi); obtain ⟨hcz16_0, hcz16_1, hcz16_2, hcz16_3, hcz16_4, hfz16_0, hfz16_1, hfz16_2, hfz16_3, hfz16_4⟩ := cells5 BK300.out) | ((with_reducible refine gate_callee (f := 18) rfl ?_); refine goesS (some 12) rfl Try.func18 #[.agg #[.int .i64 a0_0, .int .i64 a0_1, .float .f64 a0_2, .string a0_3, .int .i64 a0_4]] rfl ?_; (with_reducible refine (laws_toValue.calls a0_0 a0_1 a0_2 a0_3 a0_4 t302 t303 t304 t305 t306 _ A7.out).mono ?_); rintro e w17 ⟨rfl, hb⟩; refine ⟨_, rfl, ?_⟩; replace BK300 := bku BK300.out hb; replace HB := hbs1 HB.out GE300.out hb; (try clear hb); (try clear hb2); (try clear hk); (try clear hi)) | ((with_reducible refine gate_callee (f := 27) rfl ?_); refine goesS (some 13) rfl Try.func27 #[.agg #[.int .i64 t302, .int .i64 t303, .float .f64 t304, .string t305, .int .i64 t306]] rfl ?_; (with_reducible refine (spec_Key.calls k t302 t303 t304 t305 t306 t307 t308 t309 t310 t311 t312 _ A8.out).mono ?_); rintro e w18 ⟨rfl, hb⟩; refine ⟨_, rfl, ?_⟩; replace BK300 := bku BK300.out hb; replace HB := hbs1 HB.out GE300.out hb; (try clear hb); (try clear hb2); (try clear hk); (try clear hi)) | ((with_reducible refine gate_dst (N := 4) rfl ?_); refine box_event rfl (N := 4) rfl (cs := #[.int .i64 0, .int .i64 0, .int .i64 0, .float .f64 0, .string (⟨#[]⟩ : ByteArray), .int .i64 0]) (t := 41) (by first | (go_simp; done) | (go_simp; rfl)) ?_; intro gb313 hg w19 hbox hb; have BK313 := Aside0.mk (hbox); have GW313 := (gws hg (hbe1 HB.out GE300.out) : Aside0 (w.heap.size ≤ gb313)); have GE313 := (gws hg (hbe1 HB.out GE300.out) : Aside0 (w.heap.size ≤ gb313)); replace HB := hbs1 HB.out GE300.out hb; have NB300_313 := nlt hg BK300.out; have NB313_300 := ngt hg BK300.out; replace BK300 := bku BK300.out hb; clear hb hbox hg; have hnb20 := NB313_300.out; have hnc20 := NB300_313.out; obtain ⟨hcz21_0, hcz21_1, hcz21_2, hcz21_3, hcz21_4, hcz21_5, hfz21_0, hfz21_1, hfz21_2, hfz21_3, hfz21_4, hfz21_5⟩ := cells6 BK313.out; obtain ⟨hcz22_0, hcz22_1, hcz22_2, hcz22_3, hcz22_4, hfz22_0, hfz22_1, hfz22_2, hfz22_3, hfz22_4⟩ := cells5 BK300.out) | ((with_reducible refine gate_callee (f := 18) rfl ?_); refine goesS (some 15) rfl Try.func18 #[.agg #[.int .i64 a0_0, .int .i64 a0_1, .float .f64 a0_2, .string a0_3, .int .i64 a0_4]] rfl ?_; (with_reducible refine (laws_toValue.calls a0_0 a0_1 a0_2 a0_3 a0_4 t314 t315 t316 t317 t318 _ A9.out).mono ?_); rintro e w23 ⟨rfl, hb⟩; refine ⟨_, rfl, ?_⟩; replace BK300 := Aside0.mk (blk_below (g := gb300) (o := .cells #[.int .i64 a0_0, .int .i64 a0_1, .float .f64 a0_2, .string a0_3, .int .i64 a0_4] 25 (0, 0)) (by (with_reducible repeat (first | refine blk_drewN ?_ _ | refine blk_drew ?_ | refine blk_alloc ?_ _)); refine blk_far ?_ NB300_313.out _; (with_reducible repeat (first | refine blk_drewN ?_ _ | refine blk_drew ?_ | refine blk_alloc ?_ _)); refine blk_far ?_ NB300_313.out _; (with_reducible repeat (first | refine blk_drewN ?_ _ | refine blk_drew ?_ | refine blk_alloc ?_ _)); refine blk_far ?_ NB300_313.out _; (with_reducible repeat (first | refine blk_drewN ?_ _ | refine blk_drew ?_ | refine blk_alloc ?_ _)); refine blk_far ?_ NB300_313.out _; (with_reducible repeat (first | refine blk_drewN ?_ _ | refine blk_drew ?_ | refine blk_alloc ?_ _)); refine blk_far ?_ NB300_313.out _; (with_reducible repeat (first | refine blk_drewN ?_ _ | refine blk_drew ?_ | refine blk_alloc ?_ _)); refine blk_far ?_ NB300_313.out _; (with_reducible repeat (first | refine blk_drewN ?_ _ | refine blk_drew ?_ | refine blk_alloc ?_ _)); exact BK300.out) hb); replace BK313 := Aside0.mk (blk_below (g := gb313) (o := .cells #[.int .i64 t307, .int .i64 t308, .int .i64 t309, .float .f64 t310, .string t311, .int .i64 t312] 41 (0, 0)) (by (with_reducible repeat (first | refine blk_drewN ?_ _ | refine blk_drew ?_ | refine blk_alloc ?_ _)); refine blk_put (cs := #[.int .i64 t307, .int .i64 t308, .int .i64 t309, .float .f64 t310, .string t311, .int .i64 0]) ?_ 5 _ rfl; (with_reducible repeat (first | refine blk_drewN ?_ _ | refine blk_drew ?_ | refine blk_alloc ?_ _)); refine blk_put (cs := #[.int .i64 t307, .int .i64 t308, .int .i64 t309, .float .f64 t310, .string (⟨#[]⟩ : ByteArray), .int .i64 0]) ?_ 4 _ rfl; (with_reducible repeat (first | refine blk_drewN ?_ _ | refine blk_drew ?_ | refine blk_alloc ?_ _)); refine blk_put (cs := #[.int .i64 t307, .int .i64 t308, .int .i64 t309, .float .f64 0, .string (⟨#[]⟩ : ByteArray), .int .i64 0]) ?_ 3 _ rfl; (with_reducible repeat (first | refine blk_drewN ?_ _ | refine blk_drew ?_ | refine blk_alloc ?_ _)); refine blk_put (cs := #[.int .i64 t307, .int .i64 t308, .int .i64 0, .float .f64 0, .string (⟨#[]⟩ : ByteArray), .int .i64 0]) ?_ 2 _ rfl; (with_reducible repeat (first | refine blk_drewN ?_ _ | refine blk_drew ?_ | refine blk_alloc ?_ _)); refine blk_put (cs := #[.int .i64 t307, .int .i64 0, .int .i64 0, .float .f64 0, .string (⟨#[]⟩ : ByteArray), .int .i64 0]) ?_ 1 _ rfl; (with_reducible repeat (first | refine blk_drewN ?_ _ | refine blk_drew ?_ | refine blk_alloc ?_ _)); refine blk_put (cs := #[.int .i64 0, .int .i64 0, .int .i64 0, .float .f64 0, .string (⟨#[]⟩ : ByteArray), .int .i64 0]) ?_ 0 _ rfl; (with_reducible repeat (first | refine blk_drewN ?_ _ | refine blk_drew ?_ | refine blk_alloc ?_ _)); exact BK313.out) hb); replace HB := hbs2 HB.out GE300.out GE313.out hb; (try clear hb); (try clear hb2); (try clear hk); (try clear hi)) | ((with_reducible refine gate_callee (f := 28) rfl ?_); refine goesS (some 16) rfl Try.func28 #[.agg #[.int .i64 t314, .int .i64 t315, .float .f64 t316, .string t317, .int .i64 t318]] rfl ?_; (with_reducible refine (impl_Key.calls k t314 t315 t316 t317 t318 t319 t320 t321 t322 t323 t324 _ A10.out).mono ?_); rintro e w24 ⟨rfl, hb⟩; refine ⟨_, rfl, ?_⟩; replace BK300 := bku BK300.out hb; replace BK313 := bku BK313.out hb; replace HB := hbs2 HB.out GE300.out GE313.out hb; (try clear hb); (try clear hb2); (try clear hk); (try clear hi)) | ((with_reducible refine gate_dst (N := 5) rfl ?_); refine box_event rfl (N := 5) rfl (cs := #[.int .i64 0, .int .i64 0, .int .i64 0, .float .f64 0, .string (⟨#[]⟩ : ByteArray), .int .i64 0]) (t := 41) (by first | (go_simp; done) | (go_simp; rfl)) ?_; intro gb325 hg w25 hbox hb; have BK325 := Aside0.mk (hbox); have GW325 := (gws hg (hbe2 HB.out GE300.out GE313.out) : Aside0 (w.heap.size ≤ gb325)); have GE325 := (gws hg (hbe2 HB.out GE300.out GE313.out) : Aside0 (w.heap.size ≤ gb325)); replace HB := hbs2 HB.out GE300.out GE313.out hb; have NB300_325 := nlt hg BK300.out; have NB325_300 := ngt hg BK300.out; replace BK300 := bku BK300.out hb; have NB313_325 := nlt hg BK313.out; have NB325_313 := ngt hg BK313.out; replace BK313 := bku BK313.out hb; clear hb hbox hg; have hnb26 := NB325_300.out; have hnc26 := NB300_325.out; have hnb27 := NB325_313.out; have hnc27 := NB313_325.out; obtain ⟨hcz28_0, hcz28_1, hcz28_2, hcz28_3, hcz28_4, hcz28_5, hfz28_0, hfz28_1, hfz28_2, hfz28_3, hfz28_4, hfz28_5⟩ := cells6 BK325.out; obtain ⟨hcz29_0, hcz29_1, hcz29_2, hcz29_3, hcz29_4, hcz29_5, hfz29_0, hfz29_1, hfz29_2, hfz29_3, hfz29_4, hfz29_5⟩ := cells6 BK313.out) | ((with_reducible refine gate_callee (f := 29) rfl ?_); refine goesS (some 19) rfl Try.func29 #[.agg #[.int .i64 t319, .int .i64 t320, .int .i64 t321, .float .f64 t322, .string t323, .int .i64 t324], .agg #[.int .i64 t307, .int .i64 t308, .int .i64 t309, .float .f64 t310, .string t311, .int .i64 t312]] rfl ?_; (with_reducible refine (laws_eqValued.calls k t319 t320 t321 t322 t323 t324 t307 t308 t309 t310 t311 t312 true _ A11.out).mono ?_); rintro e w30 ⟨rfl, hb⟩; refine ⟨_, rfl, ?_⟩; replace BK300 := Aside0.mk (blk_below (g := gb300) (o := .cells #[.int .i64 a0_0, .int .i64 a0_1, .float .f64 a0_2, .string a0_3, .int .i64 a0_4] 25 (0, 0)) (by (with_reducible repeat (first | refine blk_drewN ?_ _ | refine blk_drew ?_ | refine blk_alloc ?_ _)); refine blk_far ?_ NB300_325.out _; (with_reducible repeat (first | refine blk_drewN ?_ _ | refine blk_drew ?_ | refine blk_alloc ?_ _)); refine blk_far ?_ NB300_325.out _; (with_reducible repeat (first | refine blk_drewN ?_ _ | refine blk_drew ?_ | refine blk_alloc ?_ _)); refine blk_far ?_ NB300_325.out _; (with_reducible repeat (first | refine blk_drewN ?_ _ | refine blk_drew ?_ | refine blk_alloc ?_ _)); refine blk_far ?_ NB300_325.out _; (with_reducible repeat (first | refine blk_drewN ?_ _ | refine blk_drew ?_ | refine blk_alloc ?_ _)); refine blk_far ?_ NB300_325.out _; (with_reducible repeat (first | refine blk_drewN ?_ _ | refine blk_drew ?_ | refine blk_alloc ?_ _)); refine blk_far ?_ NB300_325.out _; (with_reducible repeat (first | refine blk_drewN ?_ _ | refine blk_drew ?_ | refine blk_alloc ?_ _)); exact BK300.out) hb); replace BK313 := Aside0.mk (blk_below (g := gb313) (o := .cells #[.int .i64 t307, .int .i64 t308, .int .i64 t309, .float .f64 t310, .string t311, .int .i64 t312] 41 (0, 0)) (by (with_reducible repeat (first | refine blk_drewN ?_ _ | refine blk_drew ?_ | refine blk_alloc ?_ _)); refine blk_far ?_ NB313_325.out _; (with_reducible repeat (first | refine blk_drewN ?_ _ | refine blk_drew ?_ | refine blk_alloc ?_ _)); refine blk_far ?_ NB313_325.out _; (with_reducible repeat (first | refine blk_drewN ?_ _ | refine blk_drew ?_ | refine blk_alloc ?_ _)); refine blk_far ?_ NB313_325.out _; (with_reducible repeat (first | refine blk_drewN ?_ _ | refine blk_drew ?_ | refine blk_alloc ?_ _)); refine blk_far ?_ NB313_325.out _; (with_reducible repeat (first | refine blk_drewN ?_ _ | refine blk_drew ?_ | refine blk_alloc ?_ _)); refine blk_far ?_ NB313_325.out _; (with_reducible repeat (first | refine blk_drewN ?_ _ | refine blk_drew ?_ | refine blk_alloc ?_ _)); refine blk_far ?_ NB313_325.out _; (with_reducible repeat (first | refine blk_drewN ?_ _ | refine blk_drew ?_ | refine blk_alloc ?_ _)); exact BK313.out) hb); replace BK325 := Aside0.mk (blk_below (g := gb325) (o := .cells #[.int .i64 t319, .int .i64 t320, .int .i64 t321, .float .f64 t322, .string t323, .int .i64 t324] 41 (0, 0)) (by (with_reducible repeat (first | refine blk_drewN ?_ _ | refine blk_drew ?_ | refine blk_alloc ?_ _)); refine blk_put (cs := #[.int .i64 t319, .int .i64 t320, .int .i64 t321, .float .f64 t322, .string t323, .int .i64 0]) ?_ 5 _ rfl; (with_reducible repeat (first | refine blk_drewN ?_ _ | refine blk_drew ?_ | refine blk_alloc ?_ _)); refine blk_put (cs := #[.int .i64 t319, .int .i64 t320, .int .i64 t321, .float .f64 t322, .string (⟨#[]⟩ : ByteArray), .int .i64 0]) ?_ 4 _ rfl; (with_reducible repeat (first | refine blk_drewN ?_ _ | refine blk_drew ?_ | refine blk_alloc ?_ _)); refine blk_put (cs := #[.int .i64 t319, .int .i64 t320, .int .i64 t321, .float .f64 0, .string (⟨#[]⟩ : ByteArray), .int .i64 0]) ?_ 3 _ rfl; (with_reducible repeat (first | refine blk_drewN ?_ _ | refine blk_drew ?_ | refine blk_alloc ?_ _)); refine blk_put (cs := #[.int .i64 t319, .int .i64 t320, .int .i64 0, .float .f64 0, .string (⟨#[]⟩ : ByteArray), .int .i64 0]) ?_ 2 _ rfl; (with_reducible repeat (first | refine blk_drewN ?_ _ | refine blk_drew ?_ | refine blk_alloc ?_ _)); refine blk_put (cs := #[.int .i64 t319, .int .i64 0, .int .i64 0, .float .f64 0, .string (⟨#[]⟩ : ByteArray), .int .i64 0]) ?_ 1 _ rfl; (with_reducible repeat (first | refine blk_drewN ?_ _ | refine blk_drew ?_ | refine blk_alloc ?_ _)); refine blk_put (cs := #[.int .i64 0, .int .i64 0, .int .i64 0, .float .f64 0, .string (⟨#[]⟩ : ByteArray), .int .i64 0]) ?_ 0 _ rfl; (with_reducible repeat (first | refine blk_drewN ?_ _ | refine blk_drew ?_ | refine blk_alloc ?_ _)); exact BK325.out) hb); replace HB := hbs3 HB.out GE300.out GE313.out GE325.out hb; (try clear hb); (try clear hb2); (try clear hk); (try clear hi)))
  go_ret
  exact ⟨by first | rfl | (simp <;> rfl) | (simp [*] <;> rfl), hbe3 HB.out GE300.out GE313.out GE325.out⟩

/-! ### spec_l1bool: function 67 -/
def spec_l1bool.f (a0 : Bool) : Option (Int × Int × Nat × ByteArray × Int) := if a0 = true then (some (1, 1, 0, (⟨#[]⟩ : ByteArray), 0)) else (some (1, 0, 0, (⟨#[]⟩ : ByteArray), 0))
set_option maxHeartbeats 8000000 in
set_option maxRecDepth 100000 in
theorem spec_l1bool.calls (a0 : Bool) (r1 : Int) (r2 : Int) (r3 : Nat) (r4 : ByteArray) (r5 : Int) (w : World) (h : spec_l1bool.f a0 = some (r1, r2, r3, r4, r5)) :
    Calls Try.prog 67 #[.bool a0] w fun e w' => e = .returned (.agg #[.int .i64 r1, .int .i64 r2, .float .f64 r3, .string r4, .int .i64 r5]) ∧ Below w.heap.size w w' := by
  have hu28 := Try.underlying28
  have HB := Aside0.mk (Below.refl w.heap.size w)
  have H : (if a0 = true then (some (1, 1, 0, (⟨#[]⟩ : ByteArray), 0)) else (some (1, 0, 0, (⟨#[]⟩ : ByteArray), 0))) = some (r1, r2, r3, r4, r5) := h
  clear h
  by_cases c2 : a0 = true
  focus
   subst c2
   have H1 : (some (1, 1, 0, (⟨#[]⟩ : ByteArray), 0)) = some (r1, r2, r3, r4, r5) := by rw [if_pos rfl] at H; exact H
   clear H
   have H := H1
   clear H1
   simp only [Option.some.injEq, Prod.mk.injEq] at H
   obtain ⟨rfl, rfl, rfl, rfl, rfl⟩ := H
  rotate_left 1
  focus
   replace c2 := Bool.eq_false_iff.mpr c2
   subst c2
   have H1 : (some (1, 0, 0, (⟨#[]⟩ : ByteArray), 0)) = some (r1, r2, r3, r4, r5) := by rw [if_neg (show ¬ (false = true) by decide)] at H; exact H
   clear H
   have H := H1
   clear H1
   simp only [Option.some.injEq, Prod.mk.injEq] at H
   obtain ⟨rfl, rfl, rfl, rfl, rfl⟩ := H
  all_goals
   go_enter Try.func67, Try.ntmps67
   go_wp2_with (first | ((with_reducible refine gate_dst (N := 2) rfl ?_); refine box_event rfl (N := 2) rfl (cs := #[.int .i64 0, .int .i64 0, .float .f64 0, .string (⟨#[]⟩ : ByteArray), .int .i64 0]) (t := 28) (by first | (go_simp; done) | (go_simp; rfl)) ?_; intro gbz0_ hg wz1_ hbox hb; have nz2_ := hbs HB.out hb; have nz3_ := Aside0.mk (hbox); have nz4_ := (gws hg (hbe HB.out) : Aside0 (w.heap.size ≤ gbz0_)); have nz5_ := (gws hg (hbe HB.out) : Aside0 (w.heap.size ≤ gbz0_)); clear HB; have HB := nz2_; have BKz6_ := nz3_; have GWz7_ := nz4_; have GEz8_ := nz5_; clear nz2_ nz3_ nz4_ nz5_; clear hb hbox hg; have hczz9_ : wz1_.cell? ⟨gbz0_, 0, none⟩ = some (.int .i64 0) := (blk_cell BKz6_.out 0).trans rfl; have hczz10_ : wz1_.cell? ⟨gbz0_, 1, none⟩ = some (.int .i64 0) := (blk_cell BKz6_.out 1).trans rfl; have hczz11_ : wz1_.cell? ⟨gbz0_, 2, none⟩ = some (.float .f64 0) := (blk_cell BKz6_.out 2).trans rfl; have hczz12_ : wz1_.cell? ⟨gbz0_, 3, none⟩ = some (.string (⟨#[]⟩ : ByteArray)) := (blk_cell BKz6_.out 3).trans rfl; have hczz13_ : wz1_.cell? ⟨gbz0_, 4, none⟩ = some (.int .i64 0) := (blk_cell BKz6_.out 4).trans rfl; have hfzz14_ := blk_frozen BKz6_.out 0; have hfzz15_ := blk_frozen BKz6_.out 1; have hfzz16_ := blk_frozen BKz6_.out 2; have hfzz17_ := blk_frozen BKz6_.out 3; have hfzz18_ := blk_frozen BKz6_.out 4))
  · refine bodyPost_ret (results_cell_row rfl _ _ gbz0_ 28 #[.int .i64 1, .int .i64 0, .float .f64 0, .string (⟨#[]⟩ : ByteArray), .int .i64 0] (0, 0) _ rfl (by (with_reducible repeat (first | refine blk_drewN ?_ _ | refine blk_drew ?_ | refine blk_alloc ?_ _)); refine blk_put (cs := #[.int .i64 1, .int .i64 0, .float .f64 0, .string (⟨#[]⟩ : ByteArray), .int .i64 0]) ?_ 4 _ rfl; (with_reducible repeat (first | refine blk_drewN ?_ _ | refine blk_drew ?_ | refine blk_alloc ?_ _)); refine blk_put (cs := #[.int .i64 1, .int .i64 0, .float .f64 0, .string (⟨#[]⟩ : ByteArray), .int .i64 0]) ?_ 3 _ rfl; (with_reducible repeat (first | refine blk_drewN ?_ _ | refine blk_drew ?_ | refine blk_alloc ?_ _)); refine blk_put (cs := #[.int .i64 1, .int .i64 0, .float .f64 0, .string (⟨#[]⟩ : ByteArray), .int .i64 0]) ?_ 2 _ rfl; (with_reducible repeat (first | refine blk_drewN ?_ _ | refine blk_drew ?_ | refine blk_alloc ?_ _)); refine blk_put (cs := #[.int .i64 1, .int .i64 0, .float .f64 0, .string (⟨#[]⟩ : ByteArray), .int .i64 0]) ?_ 1 _ rfl; (with_reducible repeat (first | refine blk_drewN ?_ _ | refine blk_drew ?_ | refine blk_alloc ?_ _)); refine blk_put (cs := #[.int .i64 0, .int .i64 0, .float .f64 0, .string (⟨#[]⟩ : ByteArray), .int .i64 0]) ?_ 0 _ rfl; (with_reducible repeat (first | refine blk_drewN ?_ _ | refine blk_drew ?_ | refine blk_alloc ?_ _)); exact BKz6_.out) Try.underlying28 rfl (by kernel_rfl)) rfl ?_
    exact ⟨by first | rfl | (simp [errW_none, errW_some] <;> rfl) | (simp [*, errW_none, errW_some] <;> rfl), by repeat (first | (with_reducible first | exact HB.out | apply below_alloc | apply pw_below_drewN | apply below_drew1 | refine below_set ?_ GEz8_.out) | exact HB.out)⟩
  · refine bodyPost_ret (results_cell_row rfl _ _ gbz0_ 28 #[.int .i64 1, .int .i64 1, .float .f64 0, .string (⟨#[]⟩ : ByteArray), .int .i64 0] (0, 0) _ rfl (by (with_reducible repeat (first | refine blk_drewN ?_ _ | refine blk_drew ?_ | refine blk_alloc ?_ _)); refine blk_put (cs := #[.int .i64 1, .int .i64 1, .float .f64 0, .string (⟨#[]⟩ : ByteArray), .int .i64 0]) ?_ 4 _ rfl; (with_reducible repeat (first | refine blk_drewN ?_ _ | refine blk_drew ?_ | refine blk_alloc ?_ _)); refine blk_put (cs := #[.int .i64 1, .int .i64 1, .float .f64 0, .string (⟨#[]⟩ : ByteArray), .int .i64 0]) ?_ 3 _ rfl; (with_reducible repeat (first | refine blk_drewN ?_ _ | refine blk_drew ?_ | refine blk_alloc ?_ _)); refine blk_put (cs := #[.int .i64 1, .int .i64 1, .float .f64 0, .string (⟨#[]⟩ : ByteArray), .int .i64 0]) ?_ 2 _ rfl; (with_reducible repeat (first | refine blk_drewN ?_ _ | refine blk_drew ?_ | refine blk_alloc ?_ _)); refine blk_put (cs := #[.int .i64 1, .int .i64 0, .float .f64 0, .string (⟨#[]⟩ : ByteArray), .int .i64 0]) ?_ 1 _ rfl; (with_reducible repeat (first | refine blk_drewN ?_ _ | refine blk_drew ?_ | refine blk_alloc ?_ _)); refine blk_put (cs := #[.int .i64 0, .int .i64 0, .float .f64 0, .string (⟨#[]⟩ : ByteArray), .int .i64 0]) ?_ 0 _ rfl; (with_reducible repeat (first | refine blk_drewN ?_ _ | refine blk_drew ?_ | refine blk_alloc ?_ _)); exact BKz6_.out) Try.underlying28 rfl (by kernel_rfl)) rfl ?_
    exact ⟨by first | rfl | (simp [errW_none, errW_some] <;> rfl) | (simp [*, errW_none, errW_some] <;> rfl), by repeat (first | (with_reducible first | exact HB.out | apply below_alloc | apply pw_below_drewN | apply below_drew1 | refine below_set ?_ GEz8_.out) | exact HB.out)⟩

/-! ### spec_l1flt: function 68 -/
def spec_l1flt.f (a0 : Nat) : Option (Int × Int × Nat × ByteArray × Int) := some (3, 0, a0, (⟨#[]⟩ : ByteArray), 0)
set_option maxHeartbeats 8000000 in
set_option maxRecDepth 100000 in
theorem spec_l1flt.calls (a0 : Nat) (r1 : Int) (r2 : Int) (r3 : Nat) (r4 : ByteArray) (r5 : Int) (w : World) (h : spec_l1flt.f a0 = some (r1, r2, r3, r4, r5)) :
    Calls Try.prog 68 #[.float .f64 a0] w fun e w' => e = .returned (.agg #[.int .i64 r1, .int .i64 r2, .float .f64 r3, .string r4, .int .i64 r5]) ∧ Below w.heap.size w w' := by
  have hu28 := Try.underlying28
  have HB := Aside0.mk (Below.refl w.heap.size w)
  have H : (some (3, 0, a0, (⟨#[]⟩ : ByteArray), 0)) = some (r1, r2, r3, r4, r5) := h
  clear h
  simp only [Option.some.injEq, Prod.mk.injEq] at H
  obtain ⟨rfl, rfl, rfl, rfl, rfl⟩ := H
  go_enter Try.func68, Try.ntmps68
  go_wp2_with (first | ((with_reducible refine gate_dst (N := 2) rfl ?_); refine box_event rfl (N := 2) rfl (cs := #[.int .i64 0, .int .i64 0, .float .f64 0, .string (⟨#[]⟩ : ByteArray), .int .i64 0]) (t := 28) (by first | (go_simp; done) | (go_simp; rfl)) ?_; intro gb328 hg w2 hbox hb; have BK328 := Aside0.mk (hbox); have GW328 := (gws hg (hbe HB.out) : Aside0 (w.heap.size ≤ gb328)); have GE328 := (gws hg (hbe HB.out) : Aside0 (w.heap.size ≤ gb328)); replace HB := hbs HB.out hb; clear hb hbox hg; obtain ⟨hcz3_0, hcz3_1, hcz3_2, hcz3_3, hcz3_4, hfz3_0, hfz3_1, hfz3_2, hfz3_3, hfz3_4⟩ := cells5 BK328.out))
  refine bodyPost_ret (results_cell_row rfl _ _ gb328 28 #[.int .i64 3, .int .i64 0, .float .f64 a0, .string (⟨#[]⟩ : ByteArray), .int .i64 0] (0, 0) _ rfl (by (with_reducible repeat (first | refine blk_drewN ?_ _ | refine blk_drew ?_ | refine blk_alloc ?_ _)); refine blk_put (cs := #[.int .i64 3, .int .i64 0, .float .f64 a0, .string (⟨#[]⟩ : ByteArray), .int .i64 0]) ?_ 4 _ rfl; (with_reducible repeat (first | refine blk_drewN ?_ _ | refine blk_drew ?_ | refine blk_alloc ?_ _)); refine blk_put (cs := #[.int .i64 3, .int .i64 0, .float .f64 a0, .string (⟨#[]⟩ : ByteArray), .int .i64 0]) ?_ 3 _ rfl; (with_reducible repeat (first | refine blk_drewN ?_ _ | refine blk_drew ?_ | refine blk_alloc ?_ _)); refine blk_put (cs := #[.int .i64 3, .int .i64 0, .float .f64 0, .string (⟨#[]⟩ : ByteArray), .int .i64 0]) ?_ 2 _ rfl; (with_reducible repeat (first | refine blk_drewN ?_ _ | refine blk_drew ?_ | refine blk_alloc ?_ _)); refine blk_put (cs := #[.int .i64 3, .int .i64 0, .float .f64 0, .string (⟨#[]⟩ : ByteArray), .int .i64 0]) ?_ 1 _ rfl; (with_reducible repeat (first | refine blk_drewN ?_ _ | refine blk_drew ?_ | refine blk_alloc ?_ _)); refine blk_put (cs := #[.int .i64 0, .int .i64 0, .float .f64 0, .string (⟨#[]⟩ : ByteArray), .int .i64 0]) ?_ 0 _ rfl; (with_reducible repeat (first | refine blk_drewN ?_ _ | refine blk_drew ?_ | refine blk_alloc ?_ _)); exact BK328.out) Try.underlying28 rfl (by kernel_rfl)) rfl ?_
  exact ⟨by first | rfl | (simp <;> rfl) | (simp [*] <;> rfl), hbe1 HB.out GE328.out⟩

end Go.Proofs.Ytdjlbfaiccdbfaa.PAll
