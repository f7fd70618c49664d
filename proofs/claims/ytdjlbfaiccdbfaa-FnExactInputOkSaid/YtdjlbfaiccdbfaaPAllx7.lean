/- Contracts of Go functions: each call comes to what a plain Lean function of the same name says; text written by a program of this workplace (wip/patch_print.py over the kit's print). -/
import Derived.Test.YtdjlbfaiccdbfaaPAllx0
import Derived.Test.YtdjlbfaiccdbfaaPAllx4
import Derived.Test.YtdjlbfaiccdbfaaPAllx5
import Derived.Test.YtdjlbfaiccdbfaaPAllx6
namespace Go.Proofs.Ytdjlbfaiccdbfaa.PAll
open Go.RowKit Go.Proofs.YtdjlbfaiccdbfaaW.PrintWords Go.Proofs.YtdjlbfaiccdbfaaW.PrintLast Go.Proofs.YtdjlbfaiccdbfaaW.PrintMore
attribute [local go_sem] max2_int min2_int max_two min_two max_three min_three max_four min_four   -- for this text's walks alone
set_option linter.unusedVariables false
set_option linter.unusedSimpArgs false

/-! ### laws_FnExactInputOk: function 6 -/
def laws_FnExactInputOk.f (k : Nat) (l0_0 : List ByteArray) (l0_1 : List ByteArray) (a0_2 : Int) (a0_3 : Int) (a0_4 : Int) : Option (Bool) := (laws_szInput.f k l0_0 l0_1 a0_2 a0_3 a0_4 1048576).bind fun t184 => (if t184 < 0 then (some true) else ((laws_toInput.f k l0_0 l0_1 a0_2 a0_3 a0_4).bind fun bt185 => ((spec_InputOk.f k bt185.1 bt185.2.1 bt185.2.2.1 bt185.2.2.2.1 bt185.2.2.2.2).bind fun t194 => ((laws_toInput.f k l0_0 l0_1 a0_2 a0_3 a0_4).bind fun bt195 => ((impl_InputOk.f k bt195.1 bt195.2.1 bt195.2.2.1 bt195.2.2.2.1 bt195.2.2.2.2).bind fun t205 => (if (t205 != t194) = true then (some false) else ((laws_toInput.f k l0_0 l0_1 a0_2 a0_3 a0_4).bind fun bt206 => ((laws_eqInput.f k bt195.1 bt195.2.1 bt195.2.2.1 bt195.2.2.2.1 bt195.2.2.2.2 bt206.1 bt206.2.1 bt206.2.2.1 bt206.2.2.2.1 bt206.2.2.2.2).bind fun t215 => (if t215 = true then (some true) else (some false))))))))))
theorem laws_FnExactInputOk.mono : ∀ a0 a1 a2 a3 a4 k, LeO (laws_FnExactInputOk.f k a0 a1 a2 a3 a4) (laws_FnExactInputOk.f (k + 1) a0 a1 a2 a3 a4) := by
  intro a0 a1 a2 a3 a4 k
  unfold laws_FnExactInputOk.f
  repeat' first
      | (with_reducible exact impl_InputOk.mono _ _ _ _ _ _)
      | (with_reducible exact laws_eqInput.mono _ _ _ _ _ _ _ _ _ _ _)
      | (with_reducible exact laws_szInput.mono _ _ _ _ _ _ _)
      | (with_reducible exact laws_toInput.mono _ _ _ _ _ _)
      | (with_reducible exact spec_InputOk.mono _ _ _ _ _ _)
      | (with_reducible exact LeO.refl _)
      | (with_reducible exact LeO.none _)
      | (with_reducible refine LeO.ite ?_ ?_)
      | (with_reducible refine LeO.bind ?_ (fun _ => ?_))
      | exact impl_InputOk.mono _ _ _ _ _ _
      | exact laws_eqInput.mono _ _ _ _ _ _ _ _ _ _ _
      | exact laws_szInput.mono _ _ _ _ _ _ _
      | exact laws_toInput.mono _ _ _ _ _ _
      | exact spec_InputOk.mono _ _ _ _ _ _
      | exact LeO.none _
      | refine LeO.ite ?_ ?_
      | refine LeO.bind ?_ (fun _ => ?_)
set_option maxHeartbeats 8000000 in
set_option maxRecDepth 100000 in
theorem laws_FnExactInputOk.calls (k : Nat) (A0_0 : Option Addr) (c0_0 : Nat) (l0_0 : List ByteArray) (A0_1 : Option Addr) (c0_1 : Nat) (l0_1 : List ByteArray) (a0_2 : Int) (a0_3 : Int) (a0_4 : Int) (r : Bool) (w : World) (hr0_0 : Kd.C Kd.string w A0_0 l0_0.length l0_0) (hc0_0 : l0_0.length ≤ c0_0) (hr0_1 : Kd.C Kd.string w A0_1 l0_1.length l0_1) (hc0_1 : l0_1.length ≤ c0_1) (h : laws_FnExactInputOk.f k l0_0 l0_1 a0_2 a0_3 a0_4 = some r) (hT : r = true) :
    Calls Try.prog 6 #[.agg #[.slice A0_0 l0_0.length c0_0, .slice A0_1 l0_1.length c0_1, .int .i64 a0_2, .int .i64 a0_3, .int .i64 a0_4]] w fun e w' => e = .returned (.bool r) ∧ Below w.heap.size w w' := by
  have HT := Aside0.mk hT
  clear hT
  have hu33 := Try.underlying33
  have hu36 := Try.underlying36
  have HR0_0 := Aside0.mk hr0_0
  have HC0_0 := Aside0.mk hc0_0
  clear hr0_0 hc0_0
  have HR0_1 := Aside0.mk hr0_1
  have HC0_1 := Aside0.mk hc0_1
  clear hr0_1 hc0_1
  have HB := Aside0.mk (Below.refl w.heap.size w)
  have H : ((laws_szInput.f k l0_0 l0_1 a0_2 a0_3 a0_4 1048576).bind fun t184 => (if t184 < 0 then (some true) else ((laws_toInput.f k l0_0 l0_1 a0_2 a0_3 a0_4).bind fun bt185 => ((spec_InputOk.f k bt185.1 bt185.2.1 bt185.2.2.1 bt185.2.2.2.1 bt185.2.2.2.2).bind fun t194 => ((laws_toInput.f k l0_0 l0_1 a0_2 a0_3 a0_4).bind fun bt195 => ((impl_InputOk.f k bt195.1 bt195.2.1 bt195.2.2.1 bt195.2.2.2.1 bt195.2.2.2.2).bind fun t205 => (if (t205 != t194) = true then (some false) else ((laws_toInput.f k l0_0 l0_1 a0_2 a0_3 a0_4).bind fun bt206 => ((laws_eqInput.f k bt195.1 bt195.2.1 bt195.2.2.1 bt195.2.2.2.1 bt195.2.2.2.2 bt206.1 bt206.2.1 bt206.2.2.1 bt206.2.2.2.1 bt206.2.2.2.2).bind fun t215 => (if t215 = true then (some true) else (some false))))))))))) = some r := h
  clear h
  replace H := Option.bind_eq_some_iff.mp H
  obtain ⟨t184, A20, H⟩ := H
  replace H : (if t184 < 0 then (some true) else ((laws_toInput.f k l0_0 l0_1 a0_2 a0_3 a0_4).bind fun bt185 => ((spec_InputOk.f k bt185.1 bt185.2.1 bt185.2.2.1 bt185.2.2.2.1 bt185.2.2.2.2).bind fun t194 => ((laws_toInput.f k l0_0 l0_1 a0_2 a0_3 a0_4).bind fun bt195 => ((impl_InputOk.f k bt195.1 bt195.2.1 bt195.2.2.1 bt195.2.2.2.1 bt195.2.2.2.2).bind fun t205 => (if (t205 != t194) = true then (some false) else ((laws_toInput.f k l0_0 l0_1 a0_2 a0_3 a0_4).bind fun bt206 => ((laws_eqInput.f k bt195.1 bt195.2.1 bt195.2.2.1 bt195.2.2.2.1 bt195.2.2.2.2 bt206.1 bt206.2.1 bt206.2.2.1 bt206.2.2.2.1 bt206.2.2.2.2).bind fun t215 => (if t215 = true then (some true) else (some false)))))))))) = some r := H
  have A2 := Aside0.mk A20
  clear A20
  by_cases c3 : t184 < 0
  · rw [if_pos c3] at H
    have c3b0 : decide (t184 < 0) = true := decide_eq_true c3
    clear c3
    obtain rfl := Option.some.inj H
    go_enter Try.func6, Try.ntmps6
    go_wp2_with (first | ((with_reducible refine gate_dst (N := 1) rfl ?_); refine box_event rfl (N := 1) rfl (cs := #[.slice A0_0 l0_0.length c0_0, .slice A0_1 l0_1.length c0_1, .int .i64 a0_2, .int .i64 a0_3, .int .i64 a0_4]) (t := 33) (by first | (go_simp; done) | (go_simp; rfl)) ?_; intro gb183 hg w4 hbox hb; have BK183 := Aside0.mk (hbox); have GW183 := (gws hg (hbe HB.out) : Aside0 (w.heap.size ≤ gb183)); have GE183 := (gws hg (hbe HB.out) : Aside0 (w.heap.size ≤ gb183)); replace HB := hbs HB.out hb; clear hb hbox hg; obtain ⟨hcz5_0, hcz5_1, hcz5_2, hcz5_3, hcz5_4, hfz5_0, hfz5_1, hfz5_2, hfz5_3, hfz5_4⟩ := cells5 BK183.out) | ((with_reducible refine gate_callee (f := 22) rfl ?_); refine goesS (some 9) rfl Try.func22 #[.agg #[.slice A0_0 l0_0.length c0_0, .slice A0_1 l0_1.length c0_1, .int .i64 a0_2, .int .i64 a0_3, .int .i64 a0_4], .int .i64 1048576] rfl ?_; (with_reducible refine (laws_szInput.calls k _ _ l0_0 _ _ l0_1 a0_2 a0_3 a0_4 1048576 t184 _ ?side1 ?side2 ?side3 ?side4 A2.out).mono ?_); (case side1 => exact csd (Kd.C_below HR0_0.out HB.out)); (case side2 => exact HC0_0.out); (case side3 => exact csd (Kd.C_below HR0_1.out HB.out)); (case side4 => exact HC0_1.out); rintro e w6 ⟨rfl, hb⟩; refine ⟨_, rfl, ?_⟩; replace BK183 := bku BK183.out hb; replace HB := hbs1 HB.out GE183.out hb; (try clear hb); (try clear hb2); (try clear hk); (try clear hi)))
    go_ret
    exact ⟨by first | rfl | (simp <;> rfl) | (simp [*] <;> rfl), hbe1 HB.out GE183.out⟩
  rw [if_neg c3] at H
  have c3b0 : decide (t184 < 0) = false := decide_eq_false c3
  clear c3
  replace H := Option.bind_eq_some_iff.mp H
  obtain ⟨⟨t185, t188, t191, t192, t193⟩, A70, H⟩ := H
  replace H : ((spec_InputOk.f k t185 t188 t191 t192 t193).bind fun t194 => ((laws_toInput.f k l0_0 l0_1 a0_2 a0_3 a0_4).bind fun bt195 => ((impl_InputOk.f k bt195.1 bt195.2.1 bt195.2.2.1 bt195.2.2.2.1 bt195.2.2.2.2).bind fun t205 => (if (t205 != t194) = true then (some false) else ((laws_toInput.f k l0_0 l0_1 a0_2 a0_3 a0_4).bind fun bt206 => ((laws_eqInput.f k bt195.1 bt195.2.1 bt195.2.2.1 bt195.2.2.2.1 bt195.2.2.2.2 bt206.1 bt206.2.1 bt206.2.2.1 bt206.2.2.2.1 bt206.2.2.2.2).bind fun t215 => (if t215 = true then (some true) else (some false)))))))) = some r := H
  have A7 := Aside0.mk A70
  clear A70
  replace H := Option.bind_eq_some_iff.mp H
  obtain ⟨t194, A80, H⟩ := H
  replace H : ((laws_toInput.f k l0_0 l0_1 a0_2 a0_3 a0_4).bind fun bt195 => ((impl_InputOk.f k bt195.1 bt195.2.1 bt195.2.2.1 bt195.2.2.2.1 bt195.2.2.2.2).bind fun t205 => (if (t205 != t194) = true then (some false) else ((laws_toInput.f k l0_0 l0_1 a0_2 a0_3 a0_4).bind fun bt206 => ((laws_eqInput.f k bt195.1 bt195.2.1 bt195.2.2.1 bt195.2.2.2.1 bt195.2.2.2.2 bt206.1 bt206.2.1 bt206.2.2.1 bt206.2.2.2.1 bt206.2.2.2.2).bind fun t215 => (if t215 = true then (some true) else (some false))))))) = some r := H
  have A8 := Aside0.mk A80
  clear A80
  replace H := Option.bind_eq_some_iff.mp H
  obtain ⟨⟨t195, t198, t201, t202, t203⟩, A90, H⟩ := H
  replace H : ((impl_InputOk.f k t195 t198 t201 t202 t203).bind fun t205 => (if (t205 != t194) = true then (some false) else ((laws_toInput.f k l0_0 l0_1 a0_2 a0_3 a0_4).bind fun bt206 => ((laws_eqInput.f k t195 t198 t201 t202 t203 bt206.1 bt206.2.1 bt206.2.2.1 bt206.2.2.2.1 bt206.2.2.2.2).bind fun t215 => (if t215 = true then (some true) else (some false)))))) = some r := H
  have A9 := Aside0.mk A90
  clear A90
  replace H := Option.bind_eq_some_iff.mp H
  obtain ⟨t205, A100, H⟩ := H
  replace H : (if (t205 != t194) = true then (some false) else ((laws_toInput.f k l0_0 l0_1 a0_2 a0_3 a0_4).bind fun bt206 => ((laws_eqInput.f k t195 t198 t201 t202 t203 bt206.1 bt206.2.1 bt206.2.2.1 bt206.2.2.2.1 bt206.2.2.2.2).bind fun t215 => (if t215 = true then (some true) else (some false))))) = some r := H
  have A10 := Aside0.mk A100
  clear A100
  by_cases c11 : (t205 != t194) = true
  · rw [if_pos c11] at H
    have c11b0 : (t205 != t194) = true := c11
    (try (have c11b1 : decide (t205 = t194) = false := by simpa using c11))
    (try (have c11b2 : (t205 == t194) = false := by simpa using c11))
    (try (have c11b3 : ¬ (t205 = t194) := by simpa using c11))
    clear c11
    obtain rfl := Option.some.inj H
    cases HT.out
  rw [if_neg c11] at H
  have c11b0 : (t205 != t194) = false := by simpa using c11
  (try (have c11b1 : decide (t205 = t194) = true := by simpa using c11))
  (try (have c11b2 : (t205 == t194) = true := by simpa using c11))
  clear c11
  replace H := Option.bind_eq_some_iff.mp H
  obtain ⟨⟨t206, t209, t212, t213, t214⟩, A120, H⟩ := H
  replace H : ((laws_eqInput.f k t195 t198 t201 t202 t203 t206 t209 t212 t213 t214).bind fun t215 => (if t215 = true then (some true) else (some false))) = some r := H
  have A12 := Aside0.mk A120
  clear A120
  replace H := Option.bind_eq_some_iff.mp H
  obtain ⟨t215, A130, H⟩ := H
  replace H : (if t215 = true then (some true) else (some false)) = some r := H
  have A13 := Aside0.mk A130
  clear A130
  by_cases c14 : t215 = true
  rotate_left 1
  · replace c14 := Bool.eq_false_iff.mpr c14
    subst c14
    have H1 : (some false) = some r := by rw [if_neg (show ¬ (false = true) by decide)] at H; exact H
    clear H
    have H := H1
    clear H1
    obtain rfl := Option.some.inj H
    cases HT.out
  subst c14
  have H1 : (some true) = some r := by rw [if_pos rfl] at H; exact H
  clear H
  have H := H1
  clear H1
  obtain rfl := Option.some.inj H
  go_enter Try.func6, Try.ntmps6
  try go_wp2_with (first | ((with_reducible refine gate_dst (N := 1) rfl ?_); refine box_event rfl (N := 1) rfl (cs := #[.slice A0_0 l0_0.length c0_0, .slice A0_1 l0_1.length c0_1, .int .i64 a0_2, .int .i64 a0_3, .int .i64 a0_4]) (t := 33) (by first | (go_simp; done) | (go_simp; rfl)) ?_; intro gb183 hg w15 hbox hb; have BK183 := Aside0.mk (hbox); have GW183 := (gws hg (hbe HB.out) : Aside0 (w.heap.size ≤ gb183)); have GE183 := (gws hg (hbe HB.out) : Aside0 (w.heap.size ≤ gb183)); replace HB := hbs HB.out hb; clear hb hbox hg; obtain ⟨hcz16_0, hcz16_1, hcz16_2, hcz16_3, hcz16_4, hfz16_0, hfz16_1, hfz16_2, hfz16_3, hfz16_4⟩ := cells5 BK183.out) | ((with_reducible refine gate_callee (f := 22) rfl ?_); refine goesS (some 9) rfl Try.func22 #[.agg #[.slice A0_0 l0_0.length c0_0, .slice A0_1 l0_1.length c0_1, .int .i64 a0_2, .int .i64 a0_3, .int .i64 a0_4], .int .i64 1048576] rfl ?_; (with_reducible refine (laws_szInput.calls k _ _ l0_0 _ _ l0_1 a0_2 a0_3 a0_4 1048576 t184 _ ?side1 ?side2 ?side3 ?side4 A2.out).mono ?_); (case side1 => exact csd (Kd.C_below HR0_0.out HB.out)); (case side2 => exact HC0_0.out); (case side3 => exact csd (Kd.C_below HR0_1.out HB.out)); (case side4 => exact HC0_1.out); rintro e w17 ⟨rfl, hb⟩; refine ⟨_, rfl, ?_⟩; replace BK183 := bku BK183.out hb; replace HB := hbs1 HB.out GE183.out hb; (try clear hb); (try clear hb2); (try clear hk); (try clear hi); obtain ⟨hcz18_0, hcz18_1, hcz18_2, hcz18_3, hcz18_4, hfz18_0, hfz18_1, hfz18_2, hfz18_3, hfz18_4⟩ := cells5 BK183.out) | ((with_reducible refine gate_callee (f := 24) rfl ?_); refine goesS (some 13) rfl Try.func24 #[.agg #[.slice A0_0 l0_0.length c0_0, .slice A0_1 l0_1.length c0_1, .int .i64 a0_2, .int .i64 a0_3, .int .i64 a0_4]] rfl ?_; (with_reducible refine (laws_toInput.calls k _ _ l0_0 _ _ l0_1 a0_2 a0_3 a0_4 t185 t188 t191 t192 t193 _ ?side1 ?side2 ?side3 ?side4 A7.out).mono ?_); (case side1 => exact csd (Kd.C_below HR0_0.out HB.out)); (case side2 => exact HC0_0.out); (case side3 => exact csd (Kd.C_below HR0_1.out HB.out)); (case side4 => exact HC0_1.out); rintro e w19 ⟨v186, v189, rfl, ho0, ho1, hb⟩; refine ⟨_, rfl, ?_⟩; have HO187 := Aside0.mk (Kd.R_lower ho0 (below_size (by repeat (first | (with_reducible first | exact HB.out | apply below_alloc | apply pw_below_drewN | apply below_drew1 | refine below_set ?_ GE183.out) | exact HB.out)))); have HO190 := Aside0.mk (Kd.R_lower ho1 (below_size (by repeat (first | (with_reducible first | exact HB.out | apply below_alloc | apply pw_below_drewN | apply below_drew1 | refine below_set ?_ GE183.out) | exact HB.out)))); replace BK183 := bku BK183.out hb; replace HB := hbs1 HB.out GE183.out hb; (try clear hb); (try clear hb2); (try clear hk); (try clear hi); (try clear ho0); (try clear ho1); obtain ⟨Ao20, co20, eo20⟩ := Kd.R_slice HO187.out; subst eo20; obtain ⟨Ao21, co21, eo21⟩ := Kd.R_slice HO190.out; subst eo21) | ((with_reducible refine gate_callee (f := 23) rfl ?_); refine goesS (some 14) rfl Try.func23 #[.agg #[.slice Ao20 t185.length co20, .slice Ao21 t188.length co21, .int .i64 t191, .int .i64 t192, .int .i64 t193]] rfl ?_; (with_reducible refine (spec_InputOk.calls k _ _ t185 _ _ t188 t191 t192 t193 t194 _ ?side1 ?side2 ?side3 ?side4 A8.out).mono ?_); (case side1 => exact csd ((Kd.R_reads' HO187.out).2.2)); (case side2 => exact (Kd.R_reads' HO187.out).2.1); (case side3 => exact csd ((Kd.R_reads' HO190.out).2.2)); (case side4 => exact (Kd.R_reads' HO190.out).2.1); rintro e w22 ⟨rfl, hb⟩; refine ⟨_, rfl, ?_⟩; replace HO187 := Aside0.mk (Kd.R_below (rup HO187.out) hb); replace HO190 := Aside0.mk (Kd.R_below (rup HO190.out) hb); replace BK183 := bku BK183.out hb; replace HB := hbs1 HB.out GE183.out hb; (try clear hb); (try clear hb2); (try clear hk); (try clear hi); obtain ⟨hcz23_0, hcz23_1, hcz23_2, hcz23_3, hcz23_4, hfz23_0, hfz23_1, hfz23_2, hfz23_3, hfz23_4⟩ := cells5 BK183.out) | ((with_reducible refine gate_callee (f := 24) rfl ?_); refine goesS (some 16) rfl Try.func24 #[.agg #[.slice A0_0 l0_0.length c0_0, .slice A0_1 l0_1.length c0_1, .int .i64 a0_2, .int .i64 a0_3, .int .i64 a0_4]] rfl ?_; (with_reducible refine (laws_toInput.calls k _ _ l0_0 _ _ l0_1 a0_2 a0_3 a0_4 t195 t198 t201 t202 t203 _ ?side1 ?side2 ?side3 ?side4 A9.out).mono ?_); (case side1 => exact csd (Kd.C_below HR0_0.out HB.out)); (case side2 => exact HC0_0.out); (case side3 => exact csd (Kd.C_below HR0_1.out HB.out)); (case side4 => exact HC0_1.out); rintro e w24 ⟨v196, v199, rfl, ho0, ho1, hb⟩; refine ⟨_, rfl, ?_⟩; have HO197 := Aside0.mk (Kd.R_lower (Kd.R_new' (Kd.R_new' ho0 (Kd.R_lt (rup HO187.out))) (Kd.R_lt (rup HO190.out))) (below_size (by repeat (first | (with_reducible first | exact HB.out | apply below_alloc | apply pw_below_drewN | apply below_drew1 | refine below_set ?_ GE183.out) | exact HB.out)))); have HO200 := Aside0.mk (Kd.R_lower (Kd.R_new' (Kd.R_new' ho1 (Kd.R_lt (rup HO187.out))) (Kd.R_lt (rup HO190.out))) (below_size (by repeat (first | (with_reducible first | exact HB.out | apply below_alloc | apply pw_below_drewN | apply below_drew1 | refine below_set ?_ GE183.out) | exact HB.out)))); replace HO187 := Aside0.mk (Kd.R_mono (Kd.R_told (Kd.R_told (Kd.R_old (rup HO187.out) hb) (Kd.R_base ho0)) (Kd.R_base ho1)) (fun _ h_ => h_.1)); replace HO190 := Aside0.mk (Kd.R_mono (Kd.R_told (Kd.R_told (Kd.R_old (rup HO190.out) hb) (Kd.R_base ho0)) (Kd.R_base ho1)) (fun _ h_ => h_.1)); replace BK183 := bku BK183.out hb; replace HB := hbs1 HB.out GE183.out hb; (try clear hb); (try clear hb2); (try clear hk); (try clear hi); (try clear ho0); (try clear ho1)) | ((with_reducible refine gate_dst (N := 5) rfl ?_); refine box_event rfl (N := 5) rfl (cs := #[.slice none 0 0, .slice none 0 0, .int .i64 0, .int .i64 0, .int .i64 0]) (t := 36) (by first | (go_simp; done) | (go_simp; rfl)) ?_; intro gb204 hg w25 hbox hb; replace HO187 := Aside0.mk (Kd.R_below (rup HO187.out) hb); replace HO190 := Aside0.mk (Kd.R_below (rup HO190.out) hb); replace HO197 := Aside0.mk (Kd.R_below (rup HO197.out) hb); replace HO200 := Aside0.mk (Kd.R_below (rup HO200.out) hb); have BK204 := Aside0.mk (hbox); have GW204 := (gws hg (hbe1 HB.out GE183.out) : Aside0 (w.heap.size ≤ gb204)); have GE204 := (gws hg (hbe1 HB.out GE183.out) : Aside0 (w.heap.size ≤ gb204)); replace HB := hbs1 HB.out GE183.out hb; have NB183_204 := nlt hg BK183.out; have NB204_183 := ngt hg BK183.out; replace BK183 := bku BK183.out hb; clear hb hbox hg; obtain ⟨Ao26, co26, eo26⟩ := Kd.R_slice HO197.out; subst eo26; have hnb27 := NB204_183.out; have hnc27 := NB183_204.out; obtain ⟨hcz28_0, hcz28_1, hcz28_2, hcz28_3, hcz28_4, hfz28_0, hfz28_1, hfz28_2, hfz28_3, hfz28_4⟩ := cells5 BK204.out; obtain ⟨Ao29, co29, eo29⟩ := Kd.R_slice HO200.out; subst eo29) | ((with_reducible refine gate_store (t := 36) (p := 5) rfl ?_); refine store_event (t := 36) (p := 5) (v := ?vo_w30) (w1 := (((((w25.setCell ⟨gb204, 0, none⟩ (.slice Ao26 t195.length co26)).setCell ⟨gb204, 1, none⟩ (.slice Ao29 t198.length co29)).setCell ⟨gb204, 2, none⟩ (.int .i64 t201)).setCell ⟨gb204, 3, none⟩ (.int .i64 t202)).setCell ⟨gb204, 4, none⟩ (.int .i64 t203))) ?hg ?ho ?hn ?hr ?_; (case ho => rfl); (case hg => rfl); (case hn => rfl); (case hr => first | (go_simp; done) | (go_simp; rfl)); intro w30 hw; have n0_ : Aside0 (Kd.R Kd.string 9 w30 w.heap.size (fun k_ => some k_ ≠ (.slice Ao21 t188.length co21 : Value).ownBlock ∧ some k_ ≠ (.slice Ao26 t195.length co26 : Value).ownBlock ∧ some k_ ≠ (.slice Ao29 t198.length co29 : Value).ownBlock) (.slice Ao20 t185.length co20) t185) := ⟨(by rw [hw]; exact (by (with_reducible repeat (first | apply Kd.R_alloc | apply Kd.R_drewN | apply Kd.R_drew)); exact Kd.R_mono (Kd.R_far (p := ⟨gb204, 4, none⟩) (Kd.R_far (p := ⟨gb204, 3, none⟩) (Kd.R_far (p := ⟨gb204, 2, none⟩) (Kd.R_far (p := ⟨gb204, 1, none⟩) (Kd.R_far (p := ⟨gb204, 0, none⟩) (Kd.R_types HO187.out BK204.out (by decide)) (fun _ hk => hk.2) (.slice Ao26 t195.length co26)) (fun _ hk => hk.2) (.slice Ao29 t198.length co29)) (fun _ hk => hk.2) (.int .i64 t201)) (fun _ hk => hk.2) (.int .i64 t202)) (fun _ hk => hk.2) (.int .i64 t203)) (fun _ hk => ⟨hk.1.1.1, ⟨hk.1.1.2, hk.1.2⟩⟩)))⟩; have n1_ : Aside0 (Kd.R Kd.string 9 w30 w.heap.size (fun k_ => some k_ ≠ (.slice Ao20 t185.length co20 : Value).ownBlock ∧ some k_ ≠ (.slice Ao26 t195.length co26 : Value).ownBlock ∧ some k_ ≠ (.slice Ao29 t198.length co29 : Value).ownBlock) (.slice Ao21 t188.length co21) t188) := ⟨(by rw [hw]; exact (by (with_reducible repeat (first | apply Kd.R_alloc | apply Kd.R_drewN | apply Kd.R_drew)); exact Kd.R_mono (Kd.R_far (p := ⟨gb204, 4, none⟩) (Kd.R_far (p := ⟨gb204, 3, none⟩) (Kd.R_far (p := ⟨gb204, 2, none⟩) (Kd.R_far (p := ⟨gb204, 1, none⟩) (Kd.R_far (p := ⟨gb204, 0, none⟩) (Kd.R_types HO190.out BK204.out (by decide)) (fun _ hk => hk.2) (.slice Ao26 t195.length co26)) (fun _ hk => hk.2) (.slice Ao29 t198.length co29)) (fun _ hk => hk.2) (.int .i64 t201)) (fun _ hk => hk.2) (.int .i64 t202)) (fun _ hk => hk.2) (.int .i64 t203)) (fun _ hk => ⟨hk.1.1.1, ⟨hk.1.1.2, hk.1.2⟩⟩)))⟩; have n2_ : Aside0 (Kd.R Kd.string 9 w30 w.heap.size (fun k_ => some k_ ≠ (.slice Ao20 t185.length co20 : Value).ownBlock ∧ some k_ ≠ (.slice Ao21 t188.length co21 : Value).ownBlock ∧ some k_ ≠ (.slice Ao29 t198.length co29 : Value).ownBlock) (.slice Ao26 t195.length co26) t195) := ⟨(by rw [hw]; exact (by (with_reducible repeat (first | apply Kd.R_alloc | apply Kd.R_drewN | apply Kd.R_drew)); exact Kd.R_mono (Kd.R_far (p := ⟨gb204, 4, none⟩) (Kd.R_far (p := ⟨gb204, 3, none⟩) (Kd.R_far (p := ⟨gb204, 2, none⟩) (Kd.R_far (p := ⟨gb204, 1, none⟩) (Kd.R_far (p := ⟨gb204, 0, none⟩) (Kd.R_types HO197.out BK204.out (by decide)) (fun _ hk => hk.2) (.slice Ao26 t195.length co26)) (fun _ hk => hk.2) (.slice Ao29 t198.length co29)) (fun _ hk => hk.2) (.int .i64 t201)) (fun _ hk => hk.2) (.int .i64 t202)) (fun _ hk => hk.2) (.int .i64 t203)) (fun _ hk => ⟨hk.1.1.2, ⟨hk.1.2, hk.1.1.1⟩⟩)))⟩; have n3_ : Aside0 (Kd.R Kd.string 9 w30 w.heap.size (fun k_ => some k_ ≠ (.slice Ao20 t185.length co20 : Value).ownBlock ∧ some k_ ≠ (.slice Ao21 t188.length co21 : Value).ownBlock ∧ some k_ ≠ (.slice Ao26 t195.length co26 : Value).ownBlock) (.slice Ao29 t198.length co29) t198) := ⟨(by rw [hw]; exact (by (with_reducible repeat (first | apply Kd.R_alloc | apply Kd.R_drewN | apply Kd.R_drew)); exact Kd.R_mono (Kd.R_far (p := ⟨gb204, 4, none⟩) (Kd.R_far (p := ⟨gb204, 3, none⟩) (Kd.R_far (p := ⟨gb204, 2, none⟩) (Kd.R_far (p := ⟨gb204, 1, none⟩) (Kd.R_far (p := ⟨gb204, 0, none⟩) (Kd.R_types HO200.out BK204.out (by decide)) (fun _ hk => hk.2) (.slice Ao26 t195.length co26)) (fun _ hk => hk.2) (.slice Ao29 t198.length co29)) (fun _ hk => hk.2) (.int .i64 t201)) (fun _ hk => hk.2) (.int .i64 t202)) (fun _ hk => hk.2) (.int .i64 t203)) (fun _ hk => ⟨hk.1.1.2, ⟨hk.1.2, hk.1.1.1⟩⟩)))⟩; have n4_ : Aside0 (w30.heap[gb183]? = some (.cells #[.slice A0_0 l0_0.length c0_0, .slice A0_1 l0_1.length c0_1, .int .i64 a0_2, .int .i64 a0_3, .int .i64 a0_4] 33 (0, 0))) := ⟨(by rw [hw]; exact (by (with_reducible repeat (first | refine blk_drewN ?_ _ | refine blk_drew ?_ | refine blk_alloc ?_ _)); refine blk_far ?_ NB183_204.out _; (with_reducible repeat (first | refine blk_drewN ?_ _ | refine blk_drew ?_ | refine blk_alloc ?_ _)); refine blk_far ?_ NB183_204.out _; (with_reducible repeat (first | refine blk_drewN ?_ _ | refine blk_drew ?_ | refine blk_alloc ?_ _)); refine blk_far ?_ NB183_204.out _; (with_reducible repeat (first | refine blk_drewN ?_ _ | refine blk_drew ?_ | refine blk_alloc ?_ _)); refine blk_far ?_ NB183_204.out _; (with_reducible repeat (first | refine blk_drewN ?_ _ | refine blk_drew ?_ | refine blk_alloc ?_ _)); refine blk_far ?_ NB183_204.out _; (with_reducible repeat (first | refine blk_drewN ?_ _ | refine blk_drew ?_ | refine blk_alloc ?_ _)); exact BK183.out))⟩; have n5_ : Aside0 (w30.heap[gb204]? = some (.cells #[.slice Ao26 t195.length co26, .slice Ao29 t198.length co29, .int .i64 t201, .int .i64 t202, .int .i64 t203] 36 (0, 0))) := ⟨(by rw [hw]; exact (by (with_reducible repeat (first | refine blk_drewN ?_ _ | refine blk_drew ?_ | refine blk_alloc ?_ _)); refine blk_put (cs := #[.slice Ao26 t195.length co26, .slice Ao29 t198.length co29, .int .i64 t201, .int .i64 t202, .int .i64 0]) ?_ 4 _ rfl; (with_reducible repeat (first | refine blk_drewN ?_ _ | refine blk_drew ?_ | refine blk_alloc ?_ _)); refine blk_put (cs := #[.slice Ao26 t195.length co26, .slice Ao29 t198.length co29, .int .i64 t201, .int .i64 0, .int .i64 0]) ?_ 3 _ rfl; (with_reducible repeat (first | refine blk_drewN ?_ _ | refine blk_drew ?_ | refine blk_alloc ?_ _)); refine blk_put (cs := #[.slice Ao26 t195.length co26, .slice Ao29 t198.length co29, .int .i64 0, .int .i64 0, .int .i64 0]) ?_ 2 _ rfl; (with_reducible repeat (first | refine blk_drewN ?_ _ | refine blk_drew ?_ | refine blk_alloc ?_ _)); refine blk_put (cs := #[.slice Ao26 t195.length co26, .slice none 0 0, .int .i64 0, .int .i64 0, .int .i64 0]) ?_ 1 _ rfl; (with_reducible repeat (first | refine blk_drewN ?_ _ | refine blk_drew ?_ | refine blk_alloc ?_ _)); refine blk_put (cs := #[.slice none 0 0, .slice none 0 0, .int .i64 0, .int .i64 0, .int .i64 0]) ?_ 0 _ rfl; (with_reducible repeat (first | refine blk_drewN ?_ _ | refine blk_drew ?_ | refine blk_alloc ?_ _)); exact BK204.out))⟩; have n6_ : Aside0 (Below w.heap.size w w30) := ⟨(by rw [hw]; exact (by repeat (first | (with_reducible first | exact HB.out | apply below_alloc | apply pw_below_drewN | apply below_drew1 | refine below_set ?_ GE183.out | refine below_set ?_ GE204.out) | exact HB.out)))⟩; clear hw; clear HO187; clear HO190; clear HO197; clear HO200; clear BK183; clear BK204; clear HB; have HO187 := n0_; have HO190 := n1_; have HO197 := n2_; have HO200 := n3_; have BK183 := n4_; have BK204 := n5_; have HB := n6_; clear n0_ n1_ n2_ n3_ n4_ n5_ n6_; obtain ⟨hcz31_0, hcz31_1, hcz31_2, hcz31_3, hcz31_4, hfz31_0, hfz31_1, hfz31_2, hfz31_3, hfz31_4⟩ := cells5 BK204.out) | ((with_reducible refine gate_callee (f := 25) rfl ?_); refine goesS (some 18) rfl Try.func25 #[.agg #[.slice Ao26 t195.length co26, .slice Ao29 t198.length co29, .int .i64 t201, .int .i64 t202, .int .i64 t203]] rfl ?_; (with_reducible refine (impl_InputOk.calls k (fun k_ => some k_ = (.slice Ao26 t195.length co26 : Value).ownBlock) _ _ t195 (fun k_ => some k_ = (.slice Ao29 t198.length co29 : Value).ownBlock) _ _ t198 t201 t202 t203 t205 _ ?side1 ?side2 A10.out).mono ?_); (case side1 => exact Kd.R_V (Kd.R_tight rfl (Kd.R_types (Kd.R_types (HO197.out) BK183.out (by decide)) BK204.out (by decide)))); (case side2 => exact Kd.R_V (Kd.R_tight rfl (Kd.R_types (Kd.R_types (HO200.out) BK183.out (by decide)) BK204.out (by decide)))); rintro e w32 ⟨rfl, hb⟩; refine ⟨_, rfl, ?_⟩; replace HO187 := Aside0.mk (Kd.R_below (rup HO187.out) hb); replace HO190 := Aside0.mk (Kd.R_below (rup HO190.out) hb); replace HO197 := Aside0.mk (Kd.R_below (rup HO197.out) hb); replace HO200 := Aside0.mk (Kd.R_below (rup HO200.out) hb); replace BK183 := bku BK183.out hb; replace BK204 := bku BK204.out hb; replace HB := hbs2 HB.out GE183.out GE204.out hb; (try clear hb); (try clear hb2); (try clear hk); (try clear hi)))
  replace HO187 := Aside0.mk (Kd.R_drew HO187.out)
  replace HO190 := Aside0.mk (Kd.R_drew HO190.out)
  replace HO197 := Aside0.mk (Kd.R_drew HO197.out)
  replace HO200 := Aside0.mk (Kd.R_drew HO200.out)
  replace BK183 := Aside0.mk (blk_drew BK183.out)
  replace BK204 := Aside0.mk (blk_drew BK204.out)
  replace HB := Aside0.mk (below_drew1 HB.out)
  refine start_ (n := 5) (S := fun w' => w'.cell? ⟨gb204, 0, none⟩ = some (.slice Ao26 t195.length co26) ∧ w'.cell? ⟨gb204, 1, none⟩ = some (.slice Ao29 t198.length co29) ∧ w'.cell? ⟨gb204, 2, none⟩ = some (.int .i64 t201) ∧ w'.cell? ⟨gb204, 3, none⟩ = some (.int .i64 t202) ∧ w'.cell? ⟨gb204, 4, none⟩ = some (.int .i64 t203) ∧ w'.cell? ⟨gb183, 0, none⟩ = some (.slice A0_0 l0_0.length c0_0) ∧ w'.cell? ⟨gb183, 1, none⟩ = some (.slice A0_1 l0_1.length c0_1) ∧ w'.cell? ⟨gb183, 2, none⟩ = some (.int .i64 a0_2) ∧ w'.cell? ⟨gb183, 3, none⟩ = some (.int .i64 a0_3) ∧ w'.cell? ⟨gb183, 4, none⟩ = some (.int .i64 a0_4)) (ds := []) #[false, false, false, false, false] (by kernel_rfl) rfl rfl ⟨(blk_cell BK204.out 0).trans rfl, (blk_cell BK204.out 1).trans rfl, (blk_cell BK204.out 2).trans rfl, (blk_cell BK204.out 3).trans rfl, (blk_cell BK204.out 4).trans rfl, (blk_cell BK183.out 0).trans rfl, (blk_cell BK183.out 1).trans rfl, (blk_cell BK183.out 2).trans rfl, (blk_cell BK183.out 3).trans rfl, (blk_cell BK183.out 4).trans rfl⟩ (fun hHeld => ?_)
  generalize w32.drew = w33 at HO187 HO190 HO197 HO200 BK183 BK204 HB hHeld ⊢
  refine take_ (i := 0) (N := some 22) (v := ?_) (a' := ?_) #[true, false, false, false, false] rfl rfl (by kernel_rfl) (fun _ _ _ h => h) (Or.inl ⟨by rfl, ?_⟩) hHeld ?_ ?_
  rotate_left
  · rintro w' ⟨s0, s1, s2, s3, s4, s5, s6, s7, s8, s9⟩
    go_simp
    with_reducible rfl
  rotate_left
  · simp only [Act.put, List.setIfInBounds_toArray, List.set_cons_zero, List.set_cons_succ, i64_w, i32_w]
    rfl
  refine take_ (i := 1) (N := some 23) (v := ?_) (a' := ?_) #[true, true, false, false, false] rfl rfl (by kernel_rfl) (fun _ _ _ h => h) (Or.inl ⟨by rfl, ?_⟩) hHeld ?_ ?_
  rotate_left
  · rintro w' ⟨s0, s1, s2, s3, s4, s5, s6, s7, s8, s9⟩
    go_simp
    with_reducible rfl
  rotate_left
  · simp only [Act.put, List.setIfInBounds_toArray, List.set_cons_zero, List.set_cons_succ, i64_w, i32_w]
    rfl
  refine one_ (i := 2) (N := some 24) #[true, true, true, false, false] rfl rfl (by kernel_rfl) (by decide) (fun K hK => ?_)
  refine goes_ Try.func24 (by kernel_rfl) rfl #[.agg #[.slice A0_0 l0_0.length c0_0, .slice A0_1 l0_1.length c0_1, .int .i64 a0_2, .int .i64 a0_3, .int .i64 a0_4]] (by rfl) rfl rfl (by (try simp only [List.map_toArray, List.map_cons, List.map_nil]); first | done | rfl | (simp only [List.length_drop, List.length_take]; rfl)) ?_
  with_reducible refine (laws_toInput.calls k _ _ l0_0 _ _ l0_1 a0_2 a0_3 a0_4 t206 t209 t212 t213 t214 _ ?side1 ?side2 ?side3 ?side4 A12.out).mono ?_
  (case side1 => exact csd (Kd.C_below HR0_0.out HB.out))
  (case side2 => exact HC0_0.out)
  (case side3 => exact csd (Kd.C_below HR0_1.out HB.out))
  (case side4 => exact HC0_1.out)
  rintro e w34 ⟨v207, v210, rfl, ho0, ho1, hb⟩
  refine ⟨_, rfl, ?_⟩
  have HO208 := Aside0.mk (Kd.R_lower (Kd.R_new' (Kd.R_new' (Kd.R_new' (Kd.R_new' ho0 (Kd.R_lt (rup HO187.out))) (Kd.R_lt (rup HO190.out))) (Kd.R_lt (rup HO197.out))) (Kd.R_lt (rup HO200.out))) (below_size (by repeat (first | (with_reducible first | exact HB.out | apply below_alloc | apply pw_below_drewN | apply below_drew1 | refine below_set ?_ GE183.out | refine below_set ?_ GE204.out) | exact HB.out))))
  have HO211 := Aside0.mk (Kd.R_lower (Kd.R_new' (Kd.R_new' (Kd.R_new' (Kd.R_new' ho1 (Kd.R_lt (rup HO187.out))) (Kd.R_lt (rup HO190.out))) (Kd.R_lt (rup HO197.out))) (Kd.R_lt (rup HO200.out))) (below_size (by repeat (first | (with_reducible first | exact HB.out | apply below_alloc | apply pw_below_drewN | apply below_drew1 | refine below_set ?_ GE183.out | refine below_set ?_ GE204.out) | exact HB.out))))
  replace HO187 := Aside0.mk (Kd.R_mono (Kd.R_told (Kd.R_told (Kd.R_old (rup HO187.out) hb) (Kd.R_base ho0)) (Kd.R_base ho1)) (fun _ h_ => h_.1))
  replace HO190 := Aside0.mk (Kd.R_mono (Kd.R_told (Kd.R_told (Kd.R_old (rup HO190.out) hb) (Kd.R_base ho0)) (Kd.R_base ho1)) (fun _ h_ => h_.1))
  replace HO197 := Aside0.mk (Kd.R_mono (Kd.R_told (Kd.R_told (Kd.R_old (rup HO197.out) hb) (Kd.R_base ho0)) (Kd.R_base ho1)) (fun _ h_ => h_.1))
  replace HO200 := Aside0.mk (Kd.R_mono (Kd.R_told (Kd.R_told (Kd.R_old (rup HO200.out) hb) (Kd.R_base ho0)) (Kd.R_base ho1)) (fun _ h_ => h_.1))
  replace BK183 := bku BK183.out hb
  replace BK204 := bku BK204.out hb
  replace HB := hbs2 HB.out GE183.out GE204.out hb
  (try clear hb)
  (try clear hb2)
  (try clear hk)
  (try clear hi)
  (try clear ho0)
  (try clear ho1)
  obtain ⟨Ao35, co35, eo35⟩ := Kd.R_slice HO208.out
  (first | subst eo35 | (injection eo35 with f1_ f2_ f3_; have f4_ := f1_.symm; have f5_ := f3_.symm; clear f1_ f2_ f3_; subst f4_; subst f5_))
  obtain ⟨Ao36, co36, eo36⟩ := Kd.R_slice HO211.out
  (first | subst eo36 | (injection eo36 with f1_ f2_ f3_; have f4_ := f1_.symm; have f5_ := f3_.symm; clear f1_ f2_ f3_; subst f4_; subst f5_))
  refine hK.out _ _ ⟨(blk_cell BK204.out 0).trans rfl, (blk_cell BK204.out 1).trans rfl, (blk_cell BK204.out 2).trans rfl, (blk_cell BK204.out 3).trans rfl, (blk_cell BK204.out 4).trans rfl, (blk_cell BK183.out 0).trans rfl, (blk_cell BK183.out 1).trans rfl, (blk_cell BK183.out 2).trans rfl, (blk_cell BK183.out 3).trans rfl, (blk_cell BK183.out 4).trans rfl⟩ (fun hHeld => ?_)
  clear hK K
  refine norm_ (a' := ?_) ?_ ?_
  rotate_left
  · show Act.put _ (some 24) _ = _
    simp only [Act.put, List.setIfInBounds_toArray, List.set_cons_zero, List.set_cons_succ, i64_w, i32_w]
    rfl
  refine one_ (i := 3) (N := some 25) #[true, true, true, true, false] rfl rfl (by kernel_rfl) (by decide) (fun K hK => ?_)
  refine goes_ Try.func26 (by kernel_rfl) rfl #[.agg #[.slice Ao26 t195.length co26, .slice Ao29 t198.length co29, .int .i64 t201, .int .i64 t202, .int .i64 t203], .agg #[.slice Ao35 t206.length co35, .slice Ao36 t209.length co36, .int .i64 t212, .int .i64 t213, .int .i64 t214]] (by rfl) rfl rfl (by (try simp only [List.map_toArray, List.map_cons, List.map_nil]); first | done | rfl | (simp only [List.length_drop, List.length_take]; rfl)) ?_
  with_reducible refine (laws_eqInput.calls k _ _ t195 _ _ t198 t201 t202 t203 _ _ t206 _ _ t209 t212 t213 t214 true _ ?side1 ?side2 ?side3 ?side4 ?side5 ?side6 ?side7 ?side8 A13.out).mono ?_
  (case side1 => exact csd ((Kd.R_reads' HO197.out).2.2))
  (case side2 => exact (Kd.R_reads' HO197.out).2.1)
  (case side3 => exact csd ((Kd.R_reads' HO200.out).2.2))
  (case side4 => exact (Kd.R_reads' HO200.out).2.1)
  (case side5 => exact csd ((Kd.R_reads' HO208.out).2.2))
  (case side6 => exact (Kd.R_reads' HO208.out).2.1)
  (case side7 => exact csd ((Kd.R_reads' HO211.out).2.2))
  (case side8 => exact (Kd.R_reads' HO211.out).2.1)
  rintro e w37 ⟨rfl, hb⟩
  refine ⟨_, rfl, ?_⟩
  replace HO187 := Aside0.mk (Kd.R_below (rup HO187.out) hb)
  replace HO190 := Aside0.mk (Kd.R_below (rup HO190.out) hb)
  replace HO197 := Aside0.mk (Kd.R_below (rup HO197.out) hb)
  replace HO200 := Aside0.mk (Kd.R_below (rup HO200.out) hb)
  replace HO208 := Aside0.mk (Kd.R_below (rup HO208.out) hb)
  replace HO211 := Aside0.mk (Kd.R_below (rup HO211.out) hb)
  replace BK183 := bku BK183.out hb
  replace BK204 := bku BK204.out hb
  replace HB := hbs2 HB.out GE183.out GE204.out hb
  (try clear hb)
  (try clear hb2)
  (try clear hk)
  (try clear hi)
  refine hK.out _ _ ⟨(blk_cell BK204.out 0).trans rfl, (blk_cell BK204.out 1).trans rfl, (blk_cell BK204.out 2).trans rfl, (blk_cell BK204.out 3).trans rfl, (blk_cell BK204.out 4).trans rfl, (blk_cell BK183.out 0).trans rfl, (blk_cell BK183.out 1).trans rfl, (blk_cell BK183.out 2).trans rfl, (blk_cell BK183.out 3).trans rfl, (blk_cell BK183.out 4).trans rfl⟩ (fun hHeld => ?_)
  clear hK K
  refine norm_ (a' := ?_) ?_ ?_
  rotate_left
  · show Act.put _ (some 25) _ = _
    simp only [Act.put, List.setIfInBounds_toArray, List.set_cons_zero, List.set_cons_succ, i64_w, i32_w]
    rfl
  refine pure_ (i := 4) (N := some 26) (v := ?_) (a' := ?_) #[true, true, true, true, true] rfl rfl (by kernel_rfl) (fun _ _ _ h => h) (Or.inl ⟨by rfl, ?_⟩) ?_ ?_
  rotate_left
  · intro w'
    go_simp
    with_reducible rfl
  rotate_left
  · simp only [Act.put, List.setIfInBounds_toArray, List.set_cons_zero, List.set_cons_succ, i64_w, i32_w]
    rfl
  refine done_ (by kernel_rfl) ?_
  try go_wp2
  go_ret
  exact ⟨by first | rfl | (simp <;> rfl) | (simp [*] <;> rfl), hbe2 HB.out GE183.out GE204.out⟩

/-! ### spec_l1fail: function 58 -/
def spec_l1fail.f (a0 : Int) : Option (Int × Int × Int × Nat × ByteArray × Int) := some (a0, 0, 0, 0, (⟨#[]⟩ : ByteArray), 0)
set_option maxHeartbeats 8000000 in
set_option maxRecDepth 100000 in
theorem spec_l1fail.calls (a0 : Int) (r1 : Int) (r2 : Int) (r3 : Int) (r4 : Nat) (r5 : ByteArray) (r6 : Int) (w : World) (h : spec_l1fail.f a0 = some (r1, r2, r3, r4, r5, r6)) :
    Calls Try.prog 58 #[.int .i64 a0] w fun e w' => e = .returned (.agg #[.int .i64 r1, .int .i64 r2, .int .i64 r3, .float .f64 r4, .string r5, .int .i64 r6]) ∧ Below w.heap.size w w' := by
  have hu41 := Try.underlying41
  have HB := Aside0.mk (Below.refl w.heap.size w)
  have H : (some (a0, 0, 0, 0, (⟨#[]⟩ : ByteArray), 0)) = some (r1, r2, r3, r4, r5, r6) := h
  clear h
  simp only [Option.some.injEq, Prod.mk.injEq] at H
  obtain ⟨rfl, rfl, rfl, rfl, rfl, rfl⟩ := H
  go_enter Try.func58, Try.ntmps58
  go_wp2_with (first | ((with_reducible refine gate_dst (N := 2) rfl ?_); refine box_event rfl (N := 2) rfl (cs := #[.int .i64 0, .int .i64 0, .int .i64 0, .float .f64 0, .string (⟨#[]⟩ : ByteArray), .int .i64 0]) (t := 41) (by first | (go_simp; done) | (go_simp; rfl)) ?_; intro gb216 hg w2 hbox hb; have BK216 := Aside0.mk (hbox); have GW216 := (gws hg (hbe HB.out) : Aside0 (w.heap.size ≤ gb216)); have GE216 := (gws hg (hbe HB.out) : Aside0 (w.heap.size ≤ gb216)); replace HB := hbs HB.out hb; clear hb hbox hg; obtain ⟨hcz3_0, hcz3_1, hcz3_2, hcz3_3, hcz3_4, hcz3_5, hfz3_0, hfz3_1, hfz3_2, hfz3_3, hfz3_4, hfz3_5⟩ := cells6 BK216.out))
  refine bodyPost_ret (results_cell_row rfl _ _ gb216 41 #[.int .i64 a0, .int .i64 0, .int .i64 0, .float .f64 0, .string (⟨#[]⟩ : ByteArray), .int .i64 0] (0, 0) _ rfl (by (with_reducible repeat (first | refine blk_drewN ?_ _ | refine blk_drew ?_ | refine blk_alloc ?_ _)); refine blk_put (cs := #[.int .i64 a0, .int .i64 0, .int .i64 0, .float .f64 0, .string (⟨#[]⟩ : ByteArray), .int .i64 0]) ?_ 5 _ rfl; (with_reducible repeat (first | refine blk_drewN ?_ _ | refine blk_drew ?_ | refine blk_alloc ?_ _)); refine blk_put (cs := #[.int .i64 a0, .int .i64 0, .int .i64 0, .float .f64 0, .string (⟨#[]⟩ : ByteArray), .int .i64 0]) ?_ 4 _ rfl; (with_reducible repeat (first | refine blk_drewN ?_ _ | refine blk_drew ?_ | refine blk_alloc ?_ _)); refine blk_put (cs := #[.int .i64 a0, .int .i64 0, .int .i64 0, .float .f64 0, .string (⟨#[]⟩ : ByteArray), .int .i64 0]) ?_ 3 _ rfl; (with_reducible repeat (first | refine blk_drewN ?_ _ | refine blk_drew ?_ | refine blk_alloc ?_ _)); refine blk_put (cs := #[.int .i64 a0, .int .i64 0, .int .i64 0, .float .f64 0, .string (⟨#[]⟩ : ByteArray), .int .i64 0]) ?_ 2 _ rfl; (with_reducible repeat (first | refine blk_drewN ?_ _ | refine blk_drew ?_ | refine blk_alloc ?_ _)); refine blk_put (cs := #[.int .i64 a0, .int .i64 0, .int .i64 0, .float .f64 0, .string (⟨#[]⟩ : ByteArray), .int .i64 0]) ?_ 1 _ rfl; (with_reducible repeat (first | refine blk_drewN ?_ _ | refine blk_drew ?_ | refine blk_alloc ?_ _)); refine blk_put (cs := #[.int .i64 0, .int .i64 0, .int .i64 0, .float .f64 0, .string (⟨#[]⟩ : ByteArray), .int .i64 0]) ?_ 0 _ rfl; (with_reducible repeat (first | refine blk_drewN ?_ _ | refine blk_drew ?_ | refine blk_alloc ?_ _)); exact BK216.out) Try.underlying41 rfl (by kernel_rfl)) rfl ?_
  exact ⟨by first | rfl | (simp <;> rfl) | (simp [*] <;> rfl), hbe1 HB.out GE216.out⟩

/-! ### spec_l1nan: function 59 -/
def spec_l1nan.f (a0 : Nat) : Option (Bool) := some (fne a0 a0)
set_option maxHeartbeats 8000000 in
set_option maxRecDepth 100000 in
theorem spec_l1nan.calls (a0 : Nat) (r : Bool) (w : World) (h : spec_l1nan.f a0 = some r) :
    Calls Try.prog 59 #[.float .f64 a0] w fun e w' => e = .returned (.bool r) ∧ Drawn0 w w' := by
  have H : (some (fne a0 a0)) = some r := h
  clear h
  obtain rfl := Option.some.inj H
  go_enter Try.func59, Try.ntmps59
  go_wp2
  go_ret
  exact ⟨by first | rfl | (simp; done) | (simp [*]; done), by repeat (first | exact Drawn0.refl _ | apply Drawn0.step)⟩

/-! ### spec_l1floor: function 60 -/
def spec_l1floor.j0 : Nat → Nat → Bool → Option (Nat)
  | 0, _, _ => none
  | k + 1, x0, x17 => if x17 = true then (some x0) else (if (f2iOk .i64 x0) = true then (if (fgtr (i2f (f2i x0)) x0) = true then (if (fok .sub (i2f (f2i x0)) 4607182418800017408) = true then (some (fres .sub (i2f (f2i x0)) 4607182418800017408)) else (none)) else (some (i2f (f2i x0)))) else (none))
def spec_l1floor.f (k : Nat) (a0 : Nat) : Option (Nat) := (spec_l1nan.f a0).bind fun t217 => (if t217 = true then (spec_l1floor.j0 k a0 true) else (if (feq a0 0) = true then (spec_l1floor.j0 k a0 true) else (if (fgeq a0 4890909195324358656) = true then (spec_l1floor.j0 k a0 true) else (spec_l1floor.j0 k a0 (fleq a0 14114281232179134464)))))
theorem spec_l1floor.mono_l : ∀ k, (∀ y0 y1, LeO (spec_l1floor.j0 k y0 y1) (spec_l1floor.j0 (k + 1) y0 y1))
  | 0 => fun _ _ r h => by simp [spec_l1floor.j0] at h
  | k + 1 => by
    have ih0 := spec_l1floor.mono_l k
    · intro y0 y1
      unfold spec_l1floor.j0
      repeat' first
      | (with_reducible exact ih0 _ _)
      | (with_reducible exact LeO.refl _)
      | (with_reducible exact LeO.none _)
      | (with_reducible refine LeO.ite ?_ ?_)
      | (with_reducible refine LeO.bind ?_ (fun _ => ?_))
      | exact ih0 _ _
      | exact LeO.none _
      | refine LeO.ite ?_ ?_
      | refine LeO.bind ?_ (fun _ => ?_)
theorem spec_l1floor.mono : ∀ a0 k, LeO (spec_l1floor.f k a0) (spec_l1floor.f (k + 1) a0) := by
  intro a0 k
  have ih0 := spec_l1floor.mono_l k
  unfold spec_l1floor.f
  repeat' first
      | (with_reducible exact ih0 _ _)
      | (with_reducible exact LeO.refl _)
      | (with_reducible exact LeO.none _)
      | (with_reducible refine LeO.ite ?_ ?_)
      | (with_reducible refine LeO.bind ?_ (fun _ => ?_))
      | exact ih0 _ _
      | exact LeO.none _
      | refine LeO.ite ?_ ?_
      | refine LeO.bind ?_ (fun _ => ?_)
set_option maxHeartbeats 8000000 in
set_option maxRecDepth 100000 in
theorem spec_l1floor.calls (k : Nat) (a0 : Nat) (r : Nat) (w : World) (h : spec_l1floor.f k a0 = some r) :
    Calls Try.prog 60 #[.float .f64 a0] w fun e w' => e = .returned (.float .f64 r) ∧ Drawn0 w w' := by
  have H : ((spec_l1nan.f a0).bind fun t217 => (if t217 = true then (spec_l1floor.j0 k a0 true) else (if (feq a0 0) = true then (spec_l1floor.j0 k a0 true) else (if (fgeq a0 4890909195324358656) = true then (spec_l1floor.j0 k a0 true) else (spec_l1floor.j0 k a0 (fleq a0 14114281232179134464)))))) = some r := h
  clear h
  have HC2 := Aside0.mk H
  clear H
  go_enter Try.func60, Try.ntmps60
  go_upto_region 1 with (fail)
  go_cut [17] (fun v17 wc => ∃ (kq : Nat) (x17_1 : Bool), v17 = .bool x17_1 ∧ Aside0 (spec_l1floor.j0 kq a0 x17_1 = some r) ∧ Aside0 (kq ≤ k) ∧ Drawn0 w wc)
  case first =>
    have H := HC2.out
    clear HC2
    replace H := Option.bind_eq_some_iff.mp H
    obtain ⟨t217, A30, H⟩ := H
    replace H : (if t217 = true then (spec_l1floor.j0 k a0 true) else (if (feq a0 0) = true then (spec_l1floor.j0 k a0 true) else (if (fgeq a0 4890909195324358656) = true then (spec_l1floor.j0 k a0 true) else (spec_l1floor.j0 k a0 (fleq a0 14114281232179134464))))) = some r := H
    have A3 := Aside0.mk A30
    clear A30
    by_cases c4 : t217 = true
    · subst c4
      have H1 : (spec_l1floor.j0 k a0 true) = some r := by rw [if_pos rfl] at H; exact H
      clear H
      have H := H1
      clear H1
      have H' := Aside0.mk H
      clear H
      go_wp2_with (first | ((with_reducible refine gate_callee (f := 59) rfl ?_); refine goesS (some 5) rfl Try.func59 #[.float .f64 a0] rfl ?_; (with_reducible refine (spec_l1nan.calls a0 true _ A3.out).mono ?_); rintro e w' ⟨rfl, ⟨nd, rfl⟩⟩; refine ⟨_, rfl, ?_⟩))
      go_meet
      case rel => exact ⟨_, (true), (by first | rfl | (simp; done) | (simp [*]; done)), H', ⟨by first | omega | exact Nat.le_refl _⟩, by repeat (first | exact Drawn0.refl _ | apply Drawn0.step)⟩
    focus
     replace c4 := Bool.eq_false_iff.mpr c4
     subst c4
     have H1 : (if (feq a0 0) = true then (spec_l1floor.j0 k a0 true) else (if (fgeq a0 4890909195324358656) = true then (spec_l1floor.j0 k a0 true) else (spec_l1floor.j0 k a0 (fleq a0 14114281232179134464)))) = some r := by rw [if_neg (show ¬ (false = true) by decide)] at H; exact H
     clear H
     have H := H1
     clear H1
     by_cases c5 : (feq a0 0) = true
     focus
      rw [if_pos c5] at H
      have c5b0 : (feq a0 0) = true := c5
      clear c5
      (first | rw [c5b0] | (simp only [i64_w, i32_w]; rw [c5b0]) | skip)
      have H' := Aside0.mk H
      clear H
     rotate_left 1
     focus
      rw [if_neg c5] at H
      have c5b0 : (feq a0 0) = false := by simpa using c5
      clear c5
      (first | rw [c5b0] | (simp only [i64_w, i32_w]; rw [c5b0]) | skip)
      by_cases c6 : (fgeq a0 4890909195324358656) = true
      focus
       rw [if_pos c6] at H
       have c6b0 : (fgeq a0 4890909195324358656) = true := c6
       clear c6
       have H' := Aside0.mk H
       clear H
      rotate_left 1
      focus
       rw [if_neg c6] at H
       have c6b0 : (fgeq a0 4890909195324358656) = false := by simpa using c6
       clear c6
       have H' := Aside0.mk H
       clear H
    all_goals
     go_wp2_with (first | ((with_reducible refine gate_callee (f := 59) rfl ?_); refine goesS (some 5) rfl Try.func59 #[.float .f64 a0] rfl ?_; (with_reducible refine (spec_l1nan.calls a0 false _ A3.out).mono ?_); rintro e w' ⟨rfl, ⟨nd, rfl⟩⟩; refine ⟨_, rfl, ?_⟩))
     go_meet
    · case rel => exact ⟨_, ((fleq a0 14114281232179134464)), (by first | rfl | (simp; done) | (simp [*]; done)), H', ⟨by first | omega | exact Nat.le_refl _⟩, by repeat (first | exact Drawn0.refl _ | apply Drawn0.step)⟩
    · case rel => exact ⟨_, (true), (by first | rfl | (simp; done) | (simp [*]; done)), H', ⟨by first | omega | exact Nat.le_refl _⟩, by repeat (first | exact Drawn0.refl _ | apply Drawn0.step)⟩
    · case rel => exact ⟨_, (true), (by first | rfl | (simp; done) | (simp [*]; done)), H', ⟨by first | omega | exact Nat.le_refl _⟩, by repeat (first | exact Drawn0.refl _ | apply Drawn0.step)⟩
  clear HC2
  obtain ⟨kq, x17_1, rfl, HA, HJ1, ⟨mc1, rfl⟩⟩ := hcut
  rcases kq with _ | kj1
  · exact absurd HA.out (by simp [spec_l1floor.j0])
  have H := HA.out
  clear HA
  simp only [spec_l1floor.j0] at H
  by_cases c7 : x17_1 = true
  · subst c7
    have H1 : (some a0) = some r := by rw [if_pos rfl] at H; exact H
    clear H
    have H := H1
    clear H1
    obtain rfl := Option.some.inj H
    go_wp2
    go_ret
    exact ⟨by first | rfl | (simp; done) | (simp [*]; done), by repeat (first | exact Drawn0.refl _ | apply Drawn0.step)⟩
  replace c7 := Bool.eq_false_iff.mpr c7
  subst c7
  have H1 : (if (f2iOk .i64 a0) = true then (if (fgtr (i2f (f2i a0)) a0) = true then (if (fok .sub (i2f (f2i a0)) 4607182418800017408) = true then (some (fres .sub (i2f (f2i a0)) 4607182418800017408)) else (none)) else (some (i2f (f2i a0)))) else (none)) = some r := by rw [if_neg (show ¬ (false = true) by decide)] at H; exact H
  clear H
  have H := H1
  clear H1
  by_cases c8 : (f2iOk .i64 a0) = true
  rotate_left 1
  · rw [if_neg c8] at H
    exact absurd H (by simp)
  rw [if_pos c8] at H
  have c8b0 : (f2iOk .i64 a0) = true := c8
  clear c8
  by_cases c9 : (fgtr (i2f (f2i a0)) a0) = true
  rotate_left 1
  · rw [if_neg c9] at H
    have c9b0 : (fgtr (i2f (f2i a0)) a0) = false := by simpa using c9
    clear c9
    obtain rfl := Option.some.inj H
    go_wp2
    go_ret
    exact ⟨by first | rfl | (simp; done) | (simp [*]; done), by repeat (first | exact Drawn0.refl _ | apply Drawn0.step)⟩
  rw [if_pos c9] at H
  have c9b0 : (fgtr (i2f (f2i a0)) a0) = true := c9
  clear c9
  by_cases c10 : (fok .sub (i2f (f2i a0)) 4607182418800017408) = true
  rotate_left 1
  · rw [if_neg c10] at H
    exact absurd H (by simp)
  rw [if_pos c10] at H
  have c10b0 : (fok .sub (i2f (f2i a0)) 4607182418800017408) = true := c10
  clear c10
  obtain rfl := Option.some.inj H
  go_wp2
  go_ret
  exact ⟨by first | rfl | (simp; done) | (simp [*]; done), by repeat (first | exact Drawn0.refl _ | apply Drawn0.step)⟩

/-! ### spec_l1got: function 61 -/
def spec_l1got.f (a0_0 : Int) (a0_1 : Int) (a0_2 : Nat) (a0_3 : ByteArray) (a0_4 : Int) : Option (Int × Int × Int × Nat × ByteArray × Int) := some (0, a0_0, a0_1, a0_2, a0_3, a0_4)
set_option maxHeartbeats 8000000 in
set_option maxRecDepth 100000 in
theorem spec_l1got.calls (a0_0 : Int) (a0_1 : Int) (a0_2 : Nat) (a0_3 : ByteArray) (a0_4 : Int) (r1 : Int) (r2 : Int) (r3 : Int) (r4 : Nat) (r5 : ByteArray) (r6 : Int) (w : World) (h : spec_l1got.f a0_0 a0_1 a0_2 a0_3 a0_4 = some (r1, r2, r3, r4, r5, r6)) :
    Calls Try.prog 61 #[.agg #[.int .i64 a0_0, .int .i64 a0_1, .float .f64 a0_2, .string a0_3, .int .i64 a0_4]] w fun e w' => e = .returned (.agg #[.int .i64 r1, .int .i64 r2, .int .i64 r3, .float .f64 r4, .string r5, .int .i64 r6]) ∧ Below w.heap.size w w' := by
  have hu28 := Try.underlying28
  have hu41 := Try.underlying41
  have HB := Aside0.mk (Below.refl w.heap.size w)
  have H : (some (0, a0_0, a0_1, a0_2, a0_3, a0_4)) = some (r1, r2, r3, r4, r5, r6) := h
  clear h
  simp only [Option.some.injEq, Prod.mk.injEq] at H
  obtain ⟨rfl, rfl, rfl, rfl, rfl, rfl⟩ := H
  go_enter Try.func61, Try.ntmps61
  go_wp2_with (first | ((with_reducible refine gate_dst (N := 1) rfl ?_); refine box_event rfl (N := 1) rfl (cs := #[.int .i64 a0_0, .int .i64 a0_1, .float .f64 a0_2, .string a0_3, .int .i64 a0_4]) (t := 28) (by first | (go_simp; done) | (go_simp; rfl)) ?_; intro gb218 hg w2 hbox hb; have BK218 := Aside0.mk (hbox); have GW218 := (gws hg (hbe HB.out) : Aside0 (w.heap.size ≤ gb218)); have GE218 := (gws hg (hbe HB.out) : Aside0 (w.heap.size ≤ gb218)); replace HB := hbs HB.out hb; clear hb hbox hg) | ((with_reducible refine gate_dst (N := 2) rfl ?_); refine box_event rfl (N := 2) rfl (cs := #[.int .i64 0, .int .i64 0, .int .i64 0, .float .f64 0, .string (⟨#[]⟩ : ByteArray), .int .i64 0]) (t := 41) (by first | (go_simp; done) | (go_simp; rfl)) ?_; intro gb219 hg w3 hbox hb; have BK219 := Aside0.mk (hbox); have GW219 := (gws hg (hbe1 HB.out GE218.out) : Aside0 (w.heap.size ≤ gb219)); have GE219 := (gws hg (hbe1 HB.out GE218.out) : Aside0 (w.heap.size ≤ gb219)); replace HB := hbs1 HB.out GE218.out hb; have NB218_219 := nlt hg BK218.out; have NB219_218 := ngt hg BK218.out; replace BK218 := bku BK218.out hb; clear hb hbox hg; have hnb4 := NB218_219.out; have hnc4 := NB219_218.out; obtain ⟨hcz5_0, hcz5_1, hcz5_2, hcz5_3, hcz5_4, hfz5_0, hfz5_1, hfz5_2, hfz5_3, hfz5_4⟩ := cells5 BK218.out; obtain ⟨hcz6_0, hcz6_1, hcz6_2, hcz6_3, hcz6_4, hcz6_5, hfz6_0, hfz6_1, hfz6_2, hfz6_3, hfz6_4, hfz6_5⟩ := cells6 BK219.out))
  refine bodyPost_ret (results_cell_row rfl _ _ gb219 41 #[.int .i64 0, .int .i64 a0_0, .int .i64 a0_1, .float .f64 a0_2, .string a0_3, .int .i64 a0_4] (0, 0) _ rfl (by (with_reducible repeat (first | refine blk_drewN ?_ _ | refine blk_drew ?_ | refine blk_alloc ?_ _)); refine blk_put (cs := #[.int .i64 0, .int .i64 a0_0, .int .i64 a0_1, .float .f64 a0_2, .string a0_3, .int .i64 0]) ?_ 5 _ rfl; (with_reducible repeat (first | refine blk_drewN ?_ _ | refine blk_drew ?_ | refine blk_alloc ?_ _)); refine blk_put (cs := #[.int .i64 0, .int .i64 a0_0, .int .i64 a0_1, .float .f64 a0_2, .string (⟨#[]⟩ : ByteArray), .int .i64 0]) ?_ 4 _ rfl; (with_reducible repeat (first | refine blk_drewN ?_ _ | refine blk_drew ?_ | refine blk_alloc ?_ _)); refine blk_put (cs := #[.int .i64 0, .int .i64 a0_0, .int .i64 a0_1, .float .f64 0, .string (⟨#[]⟩ : ByteArray), .int .i64 0]) ?_ 3 _ rfl; (with_reducible repeat (first | refine blk_drewN ?_ _ | refine blk_drew ?_ | refine blk_alloc ?_ _)); refine blk_put (cs := #[.int .i64 0, .int .i64 a0_0, .int .i64 0, .float .f64 0, .string (⟨#[]⟩ : ByteArray), .int .i64 0]) ?_ 2 _ rfl; (with_reducible repeat (first | refine blk_drewN ?_ _ | refine blk_drew ?_ | refine blk_alloc ?_ _)); refine blk_put (cs := #[.int .i64 0, .int .i64 0, .int .i64 0, .float .f64 0, .string (⟨#[]⟩ : ByteArray), .int .i64 0]) ?_ 1 _ rfl; (with_reducible repeat (first | refine blk_drewN ?_ _ | refine blk_drew ?_ | refine blk_alloc ?_ _)); refine blk_put (cs := #[.int .i64 0, .int .i64 0, .int .i64 0, .float .f64 0, .string (⟨#[]⟩ : ByteArray), .int .i64 0]) ?_ 0 _ rfl; (with_reducible repeat (first | refine blk_drewN ?_ _ | refine blk_drew ?_ | refine blk_alloc ?_ _)); exact BK219.out) Try.underlying41 rfl (by kernel_rfl)) rfl ?_
  exact ⟨by first | rfl | (simp <;> rfl) | (simp [*] <;> rfl), hbe2 HB.out GE218.out GE219.out⟩

/-! ### spec_l1int: function 62 -/
def spec_l1int.f (a0 : Int) : Option (Int × Int × Nat × ByteArray × Int) := some (2, a0, 0, (⟨#[]⟩ : ByteArray), 0)
set_option maxHeartbeats 8000000 in
set_option maxRecDepth 100000 in
theorem spec_l1int.calls (a0 : Int) (r1 : Int) (r2 : Int) (r3 : Nat) (r4 : ByteArray) (r5 : Int) (w : World) (h : spec_l1int.f a0 = some (r1, r2, r3, r4, r5)) :
    Calls Try.prog 62 #[.int .i64 a0] w fun e w' => e = .returned (.agg #[.int .i64 r1, .int .i64 r2, .float .f64 r3, .string r4, .int .i64 r5]) ∧ Below w.heap.size w w' := by
  have hu28 := Try.underlying28
  have HB := Aside0.mk (Below.refl w.heap.size w)
  have H : (some (2, a0, 0, (⟨#[]⟩ : ByteArray), 0)) = some (r1, r2, r3, r4, r5) := h
  clear h
  simp only [Option.some.injEq, Prod.mk.injEq] at H
  obtain ⟨rfl, rfl, rfl, rfl, rfl⟩ := H
  go_enter Try.func62, Try.ntmps62
  go_wp2_with (first | ((with_reducible refine gate_dst (N := 2) rfl ?_); refine box_event rfl (N := 2) rfl (cs := #[.int .i64 0, .int .i64 0, .float .f64 0, .string (⟨#[]⟩ : ByteArray), .int .i64 0]) (t := 28) (by first | (go_simp; done) | (go_simp; rfl)) ?_; intro gb220 hg w2 hbox hb; have BK220 := Aside0.mk (hbox); have GW220 := (gws hg (hbe HB.out) : Aside0 (w.heap.size ≤ gb220)); have GE220 := (gws hg (hbe HB.out) : Aside0 (w.heap.size ≤ gb220)); replace HB := hbs HB.out hb; clear hb hbox hg; obtain ⟨hcz3_0, hcz3_1, hcz3_2, hcz3_3, hcz3_4, hfz3_0, hfz3_1, hfz3_2, hfz3_3, hfz3_4⟩ := cells5 BK220.out))
  refine bodyPost_ret (results_cell_row rfl _ _ gb220 28 #[.int .i64 2, .int .i64 a0, .float .f64 0, .string (⟨#[]⟩ : ByteArray), .int .i64 0] (0, 0) _ rfl (by (with_reducible repeat (first | refine blk_drewN ?_ _ | refine blk_drew ?_ | refine blk_alloc ?_ _)); refine blk_put (cs := #[.int .i64 2, .int .i64 a0, .float .f64 0, .string (⟨#[]⟩ : ByteArray), .int .i64 0]) ?_ 4 _ rfl; (with_reducible repeat (first | refine blk_drewN ?_ _ | refine blk_drew ?_ | refine blk_alloc ?_ _)); refine blk_put (cs := #[.int .i64 2, .int .i64 a0, .float .f64 0, .string (⟨#[]⟩ : ByteArray), .int .i64 0]) ?_ 3 _ rfl; (with_reducible repeat (first | refine blk_drewN ?_ _ | refine blk_drew ?_ | refine blk_alloc ?_ _)); refine blk_put (cs := #[.int .i64 2, .int .i64 a0, .float .f64 0, .string (⟨#[]⟩ : ByteArray), .int .i64 0]) ?_ 2 _ rfl; (with_reducible repeat (first | refine blk_drewN ?_ _ | refine blk_drew ?_ | refine blk_alloc ?_ _)); refine blk_put (cs := #[.int .i64 2, .int .i64 0, .float .f64 0, .string (⟨#[]⟩ : ByteArray), .int .i64 0]) ?_ 1 _ rfl; (with_reducible repeat (first | refine blk_drewN ?_ _ | refine blk_drew ?_ | refine blk_alloc ?_ _)); refine blk_put (cs := #[.int .i64 0, .int .i64 0, .float .f64 0, .string (⟨#[]⟩ : ByteArray), .int .i64 0]) ?_ 0 _ rfl; (with_reducible repeat (first | refine blk_drewN ?_ _ | refine blk_drew ?_ | refine blk_alloc ?_ _)); exact BK220.out) Try.underlying28 rfl (by kernel_rfl)) rfl ?_
  exact ⟨by first | rfl | (simp <;> rfl) | (simp [*] <;> rfl), hbe1 HB.out GE220.out⟩

end Go.Proofs.Ytdjlbfaiccdbfaa.PAll
