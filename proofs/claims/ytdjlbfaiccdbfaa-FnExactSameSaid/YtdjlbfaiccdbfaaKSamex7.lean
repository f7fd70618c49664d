/- Cut down from the texts of the same job by wip/shake.py to what this claim reaches. -/
import Derived.Test.YtdjlbfaiccdbfaaKSamex0
import Derived.Test.YtdjlbfaiccdbfaaKSamex4
import Derived.Test.YtdjlbfaiccdbfaaKSamex5
import Derived.Test.YtdjlbfaiccdbfaaKSamex6
namespace Go.Proofs.Ytdjlbfaiccdbfaa.PAll
open Go.RowKit Go.Proofs.YtdjlbfaiccdbfaaW.PrintWords Go.Proofs.YtdjlbfaiccdbfaaW.PrintLast Go.Proofs.YtdjlbfaiccdbfaaW.PrintMore
attribute [local go_sem] max2_int min2_int max_two min_two max_three min_three max_four min_four   -- for this text's walks alone
set_option linter.unusedVariables false
set_option linter.unusedSimpArgs false
def spec_l1nan.f (a0 : Nat) : Option (Bool) := some (fne a0 a0)
set_option maxHeartbeats 8000000 in
set_option maxRecDepth 100000 in
theorem spec_l1nan.calls (a0 : Nat) (r : Bool) (w : World) (h : spec_l1nan.f a0 = some r) :
    Calls Try.prog 59 #[.float .f64 a0] w fun e w' => e = .returned (.bool r) ∧ Drawn0 w w' := by
  have H : (some (fne a0 a0)) = some r := h
  clear h
  obtain rfl := Option.some.inj H
  go_enter Try.func59, Try.ntmps59
  go_wp2
  go_ret
  exact ⟨by first | rfl | (simp; done) | (simp [*]; done), by repeat (first | exact Drawn0.refl _ | apply Drawn0.step)⟩
def spec_l1floor.j0 : Nat → Nat → Bool → Option (Nat)
  | 0, _, _ => none
  | k + 1, x0, x17 => if x17 = true then (some x0) else (if (f2iOk .i64 x0) = true then (if (fgtr (i2f (f2i x0)) x0) = true then (if (fok .sub (i2f (f2i x0)) 4607182418800017408) = true then (some (fres .sub (i2f (f2i x0)) 4607182418800017408)) else (none)) else (some (i2f (f2i x0)))) else (none))
def spec_l1floor.f (k : Nat) (a0 : Nat) : Option (Nat) := (spec_l1nan.f a0).bind fun t217 => (if t217 = true then (spec_l1floor.j0 k a0 true) else (if (feq a0 0) = true then (spec_l1floor.j0 k a0 true) else (if (fgeq a0 4890909195324358656) = true then (spec_l1floor.j0 k a0 true) else (spec_l1floor.j0 k a0 (fleq a0 14114281232179134464)))))
set_option maxHeartbeats 8000000 in
set_option maxRecDepth 100000 in
theorem spec_l1floor.calls (k : Nat) (a0 : Nat) (r : Nat) (w : World) (h : spec_l1floor.f k a0 = some r) :
    Calls Try.prog 60 #[.float .f64 a0] w fun e w' => e = .returned (.float .f64 r) ∧ Drawn0 w w' := by
  have H : ((spec_l1nan.f a0).bind fun t217 => (if t217 = true then (spec_l1floor.j0 k a0 true) else (if (feq a0 0) = true then (spec_l1floor.j0 k a0 true) else (if (fgeq a0 4890909195324358656) = true then (spec_l1floor.j0 k a0 true) else (spec_l1floor.j0 k a0 (fleq a0 14114281232179134464)))))) = some r := h
  clear h
  have HC2 := Aside0.mk H
  clear H
  go_enter Try.func60, Try.ntmps60
  go_upto_region 1 with (fail)
  go_cut [17] (fun v17 wc => ∃ (kq : Nat) (x17_1 : Bool), v17 = .bool x17_1 ∧ Aside0 (spec_l1floor.j0 kq a0 x17_1 = some r) ∧ Aside0 (kq ≤ k) ∧ Drawn0 w wc)
  case first =>
    have H := HC2.out
    clear HC2
    replace H := Option.bind_eq_some_iff.mp H
    obtain ⟨t217, A30, H⟩ := H
    replace H : (if t217 = true then (spec_l1floor.j0 k a0 true) else (if (feq a0 0) = true then (spec_l1floor.j0 k a0 true) else (if (fgeq a0 4890909195324358656) = true then (spec_l1floor.j0 k a0 true) else (spec_l1floor.j0 k a0 (fleq a0 14114281232179134464))))) = some r := H
    have A3 := Aside0.mk A30
    clear A30
    by_cases c4 : t217 = true
    · subst c4
      have H1 : (spec_l1floor.j0 k a0 true) = some r := by rw [if_pos rfl] at H; exact H
      clear H
      have H := H1
      clear H1
      have H' := Aside0.mk H
      clear H
      go_wp2_with (first | ((with_reducible refine gate_callee (f := 59) rfl ?_); refine goesS (some 5) rfl Try.func59 #[.float .f64 a0] rfl ?_; (with_reducible refine (spec_l1nan.calls a0 true _ A3.out).mono ?_); rintro e w' ⟨rfl, ⟨nd, rfl⟩⟩; refine ⟨_, rfl, ?_⟩))
      go_meet
      case rel => exact ⟨_, (true), (by first | rfl | (simp; done) | (simp [*]; done)), H', ⟨by first | omega | exact Nat.le_refl _⟩, by repeat (first | exact Drawn0.refl _ | apply Drawn0.step)⟩
    focus
     replace c4 := Bool.eq_false_iff.mpr c4
     subst c4
     have H1 : (if (feq a0 0) = true then (spec_l1floor.j0 k a0 true) else (if (fgeq a0 4890909195324358656) = true then (spec_l1floor.j0 k a0 true) else (spec_l1floor.j0 k a0 (fleq a0 14114281232179134464)))) = some r := by rw [if_neg (show ¬ (false = true) by decide)] at H; exact H
     clear H
     have H := H1
     clear H1
     by_cases c5 : (feq a0 0) = true
     focus
      rw [if_pos c5] at H
      have c5b0 : (feq a0 0) = true := c5
      clear c5
      (first | rw [c5b0] | (simp only [i64_w, i32_w]; rw [c5b0]) | skip)
      have H' := Aside0.mk H
      clear H
     rotate_left 1
     focus
      rw [if_neg c5] at H
      have c5b0 : (feq a0 0) = false := by simpa using c5
      clear c5
      (first | rw [c5b0] | (simp only [i64_w, i32_w]; rw [c5b0]) | skip)
      by_cases c6 : (fgeq a0 4890909195324358656) = true
      focus
       rw [if_pos c6] at H
       have c6b0 : (fgeq a0 4890909195324358656) = true := c6
       clear c6
       have H' := Aside0.mk H
       clear H
      rotate_left 1
      focus
       rw [if_neg c6] at H
       have c6b0 : (fgeq a0 4890909195324358656) = false := by simpa using c6
       clear c6
       have H' := Aside0.mk H
       clear H
    all_goals
     go_wp2_with (first | ((with_reducible refine gate_callee (f := 59) rfl ?_); refine goesS (some 5) rfl Try.func59 #[.float .f64 a0] rfl ?_; (with_reducible refine (spec_l1nan.calls a0 false _ A3.out).mono ?_); rintro e w' ⟨rfl, ⟨nd, rfl⟩⟩; refine ⟨_, rfl, ?_⟩))
     go_meet
    · case rel => exact ⟨_, ((fleq a0 14114281232179134464)), (by first | rfl | (simp; done) | (simp [*]; done)), H', ⟨by first | omega | exact Nat.le_refl _⟩, by repeat (first | exact Drawn0.refl _ | apply Drawn0.step)⟩
    · case rel => exact ⟨_, (true), (by first | rfl | (simp; done) | (simp [*]; done)), H', ⟨by first | omega | exact Nat.le_refl _⟩, by repeat (first | exact Drawn0.refl _ | apply Drawn0.step)⟩
    · case rel => exact ⟨_, (true), (by first | rfl | (simp; done) | (simp [*]; done)), H', ⟨by first | omega | exact Nat.le_refl _⟩, by repeat (first | exact Drawn0.refl _ | apply Drawn0.step)⟩
  clear HC2
  obtain ⟨kq, x17_1, rfl, HA, HJ1, ⟨mc1, rfl⟩⟩ := hcut
  rcases kq with _ | kj1
  · exact absurd HA.out (by simp [spec_l1floor.j0])
  have H := HA.out
  clear HA
  simp only [spec_l1floor.j0] at H
  by_cases c7 : x17_1 = true
  · subst c7
    have H1 : (some a0) = some r := by rw [if_pos rfl] at H; exact H
    clear H
    have H := H1
    clear H1
    obtain rfl := Option.some.inj H
    go_wp2
    go_ret
    exact ⟨by first | rfl | (simp; done) | (simp [*]; done), by repeat (first | exact Drawn0.refl _ | apply Drawn0.step)⟩
  replace c7 := Bool.eq_false_iff.mpr c7
  subst c7
  have H1 : (if (f2iOk .i64 a0) = true then (if (fgtr (i2f (f2i a0)) a0) = true then (if (fok .sub (i2f (f2i a0)) 4607182418800017408) = true then (some (fres .sub (i2f (f2i a0)) 4607182418800017408)) else (none)) else (some (i2f (f2i a0)))) else (none)) = some r := by rw [if_neg (show ¬ (false = true) by decide)] at H; exact H
  clear H
  have H := H1
  clear H1
  by_cases c8 : (f2iOk .i64 a0) = true
  rotate_left 1
  · rw [if_neg c8] at H
    exact absurd H (by simp)
  rw [if_pos c8] at H
  have c8b0 : (f2iOk .i64 a0) = true := c8
  clear c8
  by_cases c9 : (fgtr (i2f (f2i a0)) a0) = true
  rotate_left 1
  · rw [if_neg c9] at H
    have c9b0 : (fgtr (i2f (f2i a0)) a0) = false := by simpa using c9
    clear c9
    obtain rfl := Option.some.inj H
    go_wp2
    go_ret
    exact ⟨by first | rfl | (simp; done) | (simp [*]; done), by repeat (first | exact Drawn0.refl _ | apply Drawn0.step)⟩
  rw [if_pos c9] at H
  have c9b0 : (fgtr (i2f (f2i a0)) a0) = true := c9
  clear c9
  by_cases c10 : (fok .sub (i2f (f2i a0)) 4607182418800017408) = true
  rotate_left 1
  · rw [if_neg c10] at H
    exact absurd H (by simp)
  rw [if_pos c10] at H
  have c10b0 : (fok .sub (i2f (f2i a0)) 4607182418800017408) = true := c10
  clear c10
  obtain rfl := Option.some.inj H
  go_wp2
  go_ret
  exact ⟨by first | rfl | (simp; done) | (simp [*]; done), by repeat (first | exact Drawn0.refl _ | apply Drawn0.step)⟩
end Go.Proofs.Ytdjlbfaiccdbfaa.PAll
