/- Cut down from the texts of the same job by wip/shake.py to what this claim reaches. -/
import Derived.Test.YtdjlbfaiccdbfaaKLGx10
import Derived.Test.YtdjlbfaiccdbfaaKLGL1
import Derived.Test.YtdjlbfaiccdbfaaKLGFltQ
namespace Go.Proofs.Ytdjlbfaiccdbfaa.PAll
open Go.RowKit Go.Proofs.YtdjlbfaiccdbfaaW.PrintWords Go.Proofs.YtdjlbfaiccdbfaaW.PrintLast Go.Proofs.YtdjlbfaiccdbfaaW.PrintMore Go.Proofs.Flt Ieee
set_option linter.unusedVariables false
set_option linter.unusedSimpArgs false
theorem spec_floor (k b : Nat) : ∃ t, spec_l1floor.f (k + 1) b = some t ∧ (inr b → nan t = false ∧ val t = val b / U * U) ∧ (¬ inr b → t = b) := by
  have hU := Ui_pos
  unfold spec_l1floor.f spec_l1nan.f
  simp only [Option.bind_some, spec_l1floor.j0, if_true]
  have hself : ∀ t, val t / (U : Int) * U = val t ↔ tr t * U = val t := fun t => (whole_iff t).symm
  by_cases hn : fne b b = true
  · rw [if_pos hn]
    refine ⟨b, rfl, fun h => ?_, fun _ => rfl⟩
    rw [fne_iff, feq_iff] at hn
    have := h.1
    rw [this] at hn
    simp at hn
  have hn' : nan b = false := by
    rw [fne_iff, feq_iff] at hn
    cases h : nan b <;> simp [h] at hn ⊢
  rw [if_neg hn]
  by_cases h0 : feq b 0 = true
  · rw [if_pos h0]
    rw [feq_iff, val_zero] at h0
    simp [hn', nan_consts] at h0
    refine ⟨b, rfl, fun h => ⟨hn', ?_⟩, fun _ => rfl⟩
    rw [h0]; simp
  rw [if_neg h0]
  by_cases h1 : fgeq b 4890909195324358656 = true
  · rw [if_pos h1]
    rw [fgeq_iff, val_two63] at h1
    simp only [hn', nan_consts, Bool.not_false, Bool.true_and, decide_eq_true_eq] at h1
    exact ⟨b, rfl, fun h => absurd h.2.2 (by omega), fun _ => rfl⟩
  rw [if_neg h1]
  have h1' : val b < ((K63 * U : Nat) : Int) := by
    rw [fgeq_iff, val_two63] at h1
    simp only [hn', nan_consts, Bool.not_false, Bool.true_and, decide_eq_true_eq] at h1
    omega
  by_cases h2 : fleq b 14114281232179134464 = true
  · rw [if_pos h2]
    rw [fleq_iff, val_m63] at h2
    simp only [hn', nan_consts, Bool.not_false, Bool.true_and, decide_eq_true_eq] at h2
    refine ⟨b, rfl, fun h => ⟨hn', ?_⟩, fun _ => rfl⟩
    have e : val b = (-(K63 : Int)) * U := by have := h.2.1; rw [Int.neg_mul]; push_cast at *; omega
    rw [e, Int.mul_ediv_cancel _ (Int.ne_of_gt hU)]
  rw [if_neg h2]
  have hi : inr b := by
    rw [fleq_iff, val_m63] at h2
    simp only [hn', nan_consts, Bool.not_false, Bool.true_and, decide_eq_true_eq] at h2
    exact ⟨hn', by omega, h1'⟩
  have hf := inr_fin hi
  obtain ⟨ok, ei⟩ := inr_f2i hi
  rw [if_pos ok, ei]
  obtain ⟨v1, n1⟩ := val_i2f_tr hf
  by_cases h3 : fgtr (i2f (tr b)) b = true
  · rw [if_pos h3]
    rw [fgtr_iff, v1, n1, hn'] at h3
    simp only [Bool.not_false, Bool.true_and, decide_eq_true_eq] at h3
    have h4 : val b ≤ 0 ∧ (tr b - 1) * U < val b := by
      rcases tr_cases b with ⟨_, h5, _⟩ | ⟨h5, _, h6, _⟩
      · omega
      · exact ⟨h5, h6⟩
    -- below nought and no whole number: the whole part is small
    obtain ⟨r', r1, r2, r3, r4⟩ := i2f_tr hf
    have hlt : M (rung b) / U < 9007199254740992 := by
      rcases r4 with r4 | r4
      · exfalso
        rw [r4] at r2
        have e1 := natAbs_val b
        have e2 : tr b = -((M (rung b) / U : Nat) : Int) ∨ tr b = ((M (rung b) / U : Nat) : Int) := by unfold tr; split <;> simp
        have e3 : (M (rung b) : Int) = ((M (rung b) / U : Nat) : Int) * U := by exact_mod_cast r2
        generalize M (rung b) / U = q at e2 e3
        generalize hz : tr b * (U : Int) = z at h3 h4 ⊢
        have e4 : z = -(M (rung b) : Int) ∨ z = (M (rung b) : Int) := by
          rcases e2 with e2 | e2
          · left; rw [← hz, e2, Int.neg_mul, ← e3]
          · right; rw [← hz, e2, ← e3]
        rcases tr_cases b with ⟨q1, q2, _⟩ | ⟨q1, q2, q3, q4⟩
        · omega
        · have : z ≤ 0 := by rw [← hz]; exact Int.mul_nonpos_of_nonpos_of_nonneg (by omega) (Int.natCast_nonneg _)
          omega
      · exact r4
    have htr : tr b = -((M (rung b) / U : Nat) : Int) := by
      have e2 : tr b = -((M (rung b) / U : Nat) : Int) ∨ tr b = ((M (rung b) / U : Nat) : Int) := by unfold tr; split <;> simp
      generalize M (rung b) / U = q at e2 ⊢
      rcases tr_cases b with ⟨_, h5, _⟩ | ⟨_, _, _, h6⟩
      · omega
      · omega
    obtain ⟨r2', s1, s2⟩ := whole_rung (M (rung b) / U + 1) (by omega)
    have hfin : rung (i2f (tr b)) < infR := by
      rw [r3, rung_word _ _ (by unfold infR at r1; omega)]; exact r1
    have h1fin : rung 4607182418800017408 < infR := by decide
    have hd : val (i2f (tr b)) - val 4607182418800017408 = -(((M (rung b) / U + 1 : Nat) : Int) * U) := by
      rw [v1, val_one, htr]
      generalize M (rung b) / U = q
      push_cast
      rw [Int.add_mul, Int.neg_mul]; omega
    have hsub := sub_exact hfin h1fin (r := r2') (by omega) (by rw [hd, s2, Int.natAbs_neg, Int.natAbs_mul, Int.natAbs_natCast, Int.natAbs_natCast]) (by
      rw [hd]
      have : 0 < ((M (rung b) / U + 1 : Nat) : Int) * U := Int.mul_pos (by exact_mod_cast Nat.succ_pos _) hU
      generalize ((M (rung b) / U + 1 : Nat) : Int) * U = z at *
      omega)
    have hfop : fop .sub (i2f (tr b)) 4607182418800017408 = _ := hsub
    have hlt2 : r2' < 9223372036854775808 := by unfold infR at s1; omega
    rw [if_pos (show fok .sub (i2f (tr b)) 4607182418800017408 = true by unfold fok; rw [hfop]; rfl)]
    refine ⟨_, rfl, fun _ => ?_, fun h => absurd hi h⟩
    unfold fres
    rw [hfop]
    simp only [Option.getD_some]
    refine ⟨nan_word _ _ (by omega), ?_⟩
    rw [val_word _ _ hlt2, hd, if_pos (by
      have : 0 < ((M (rung b) / U + 1 : Nat) : Int) * U := Int.mul_pos (by exact_mod_cast Nat.succ_pos _) hU
      simp only [decide_eq_true_eq]
      generalize ((M (rung b) / U + 1 : Nat) : Int) * U = z at *
      omega), s2]
    rw [floor_unique (q := tr b - 1) hU (by omega) (by rw [Int.sub_add_cancel]; exact h3)]
    rw [htr]
    generalize M (rung b) / U = q
    push_cast
    rw [Int.sub_mul, Int.add_mul, Int.neg_mul]; omega
  · rw [if_neg h3]
    refine ⟨_, rfl, fun _ => ⟨n1, ?_⟩, fun h => absurd hi h⟩
    rw [fgtr_iff, v1, n1, hn'] at h3
    simp only [Bool.not_false, Bool.true_and, decide_eq_true_eq] at h3
    rw [v1, floor_unique (q := tr b) hU (by omega) ?_]
    rcases tr_cases b with ⟨_, _, h5, _⟩ | ⟨_, h5, _, _⟩
    · exact h5
    · rw [Int.add_mul]; omega
def wholeIn (b : Nat) : Prop := inr b ∧ val b / (U : Int) * U = val b
open Classical in
noncomputable def keyOf (a n : Int) (f : Nat) (s : ByteArray) (r : Int) : Int × Int × Int × Nat × ByteArray × Int :=
  if vok a n f s r = true then
    if a = 0 ∨ a = 3 ∧ nan f = true then (5, 0, 0, 0, ⟨#[]⟩, 0)
    else if a = 3 ∧ wholeIn f then (0, 2, f2i f, 0, ⟨#[]⟩, 0)
    else (0, a, n, f, s, r)
  else (1, 0, 0, 0, ⟨#[]⟩, 0)
theorem fne_self (b : Nat) : fne b b = nan b := by rw [fne_iff, feq_iff]; cases nan b <;> simp
theorem spec_key (k : Nat) (a n : Int) (f : Nat) (s : ByteArray) (r : Int) : spec_Key.f (k + 2) a n f s r = some (keyOf a n f s r) := by
  suffices h : ∃ q, spec_Key.f (k + 2) a n f s r = some q ∧ q = keyOf a n f s r by
    obtain ⟨q, h1, h2⟩ := h; rw [h1, h2]
  unfold spec_Key.f keyOf
  rw [spec_valueOk]
  simp only [Option.bind_some, spec_l1nan.f, spec_l1fail.f, fne_self]
  cases hv : vok a n f s r with
  | false => exact ⟨_, rfl, by simp⟩
  | true =>
    simp only [if_true]
    by_cases h0 : a = 0
    · subst h0
      exact ⟨(5, 0, 0, 0, ⟨#[]⟩, 0), by simp [spec_Key.j0, spec_l1fail.f], by simp⟩
    by_cases h3 : a = 3
    · subst h3
      cases hn : nan f with
      | true => exact ⟨(5, 0, 0, 0, ⟨#[]⟩, 0), by simp [spec_Key.j0, spec_l1fail.f], by simp⟩
      | false =>
        obtain ⟨t, ht, t1, t2⟩ := spec_floor k f
        by_cases hw : wholeIn f
        · obtain ⟨hi, hw'⟩ := hw
          obtain ⟨b1, b2⟩ := (inr_iff f).1 hi
          have hq : feq f t = true := by
            obtain ⟨u1, u2⟩ := t1 hi
            rw [feq_iff, u1, u2, hw']; simp [hn]
          refine ⟨(0, 2, f2i f, 0, ⟨#[]⟩, 0), ?_, by simp [wholeIn, hi, hw']⟩
          simp [spec_Key.j0, spec_Key.j1, ht, hq, b1, b2, (inr_f2i hi).1, spec_l1int.f, spec_l1got.f]
        · refine ⟨(0, 3, n, f, s, r), ?_, by simp [hw]⟩
          by_cases hi : inr f
          · obtain ⟨u1, u2⟩ := t1 hi
            have hq : feq f t = false := by
              rw [feq_iff, u1, u2, hn]
              simp
              intro h
              exact hw ⟨hi, h.symm⟩
            simp [spec_Key.j0, spec_Key.j1, ht, hq, spec_l1got.f]
          · have : ¬ (fgeq f 14114281232179134464 = true ∧ flss f 4890909195324358656 = true) := fun h => hi ((inr_iff f).2 h)
            cases hq : feq f t <;> cases b1 : fgeq f 14114281232179134464 <;> cases b2 : flss f 4890909195324358656 <;> simp [spec_Key.j0, spec_Key.j1, ht, hq, b1, b2, spec_l1got.f] <;> simp [b1, b2] at this
    · exact ⟨(0, a, n, f, s, r), by simp [spec_Key.j0, spec_Key.j1, h0, h3, spec_l1got.f], by simp [h0, h3]⟩
theorem impl_key (k : Nat) (a n : Int) (f : Nat) (s : ByteArray) (r : Int) : impl_Key.f (k + 2) a n f s r = some (keyOf a n f s r) := by
  suffices h : ∃ q, impl_Key.f (k + 2) a n f s r = some q ∧ q = keyOf a n f s r by
    obtain ⟨q, h1, h2⟩ := h; rw [h1, h2]
  unfold impl_Key.f keyOf
  rw [impl_valueOk]
  simp only [Option.bind_some, impl_bad.f, fne_self]
  cases hv : vok a n f s r with
  | false => exact ⟨_, rfl, by simp⟩
  | true =>
    simp only [if_true]
    by_cases h0 : a = 0
    · subst h0
      exact ⟨(5, 0, 0, 0, ⟨#[]⟩, 0), by simp [impl_Key.j0, impl_bad.f], by simp⟩
    by_cases h3 : a = 3
    · subst h3
      cases hn : nan f with
      | true => exact ⟨(5, 0, 0, 0, ⟨#[]⟩, 0), by simp [impl_Key.j0, impl_bad.f], by simp⟩
      | false =>
        by_cases hi : inr f
        · obtain ⟨b1, b2⟩ := (inr_iff f).1 hi
          obtain ⟨v1, v2⟩ := val_ftrunc (inr_fin hi)
          have hq : feq (ftrunc f) f = decide (tr f * U = val f) := by rw [feq_iff, v1, v2, hn]; simp
          by_cases hw : val f / (U : Int) * U = val f
          · have hq' : feq (ftrunc f) f = true := by rw [hq]; simpa using (whole_iff f).2 hw
            refine ⟨(0, 2, f2i f, 0, ⟨#[]⟩, 0), ?_, by simp [wholeIn, hi, hw]⟩
            simp [impl_Key.j0, impl_Key.j1, b1, b2, hq', math_Trunc.f, fnan_eq, hn, (inr_f2i hi).1, impl_vInt.f, impl_good.f]
          · have hq' : feq (ftrunc f) f = false := by rw [hq]; simpa using fun h => hw ((whole_iff f).1 h)
            refine ⟨(0, 3, n, f, s, r), ?_, by simp [wholeIn, hi, hw]⟩
            simp [impl_Key.j0, impl_Key.j1, b1, b2, hq', math_Trunc.f, fnan_eq, hn, impl_good.f]
        · have : ¬ (fgeq f 14114281232179134464 = true ∧ flss f 4890909195324358656 = true) := fun h => hi ((inr_iff f).2 h)
          refine ⟨(0, 3, n, f, s, r), ?_, by simp [wholeIn, hi]⟩
          cases b1 : fgeq f 14114281232179134464 <;> cases b2 : flss f 4890909195324358656 <;> simp [impl_Key.j0, impl_Key.j1, b1, b2, impl_good.f] <;> simp [b1, b2] at this
    · exact ⟨(0, a, n, f, s, r), by simp [impl_Key.j0, impl_Key.j1, h0, h3, impl_good.f], by simp [h0, h3]⟩
theorem same_float (k b : Nat) (hb : b < 18446744073709551616) : laws_sameFloat.f (k + 1) b b = some true := by
  unfold laws_sameFloat.f
  simp only [laws_sameFloat.j0, fne_self]
  cases hn : nan b with
  | true => simp
  | false =>
    simp only [Bool.false_eq_true, if_false]
    have hself : feq b b = true := by rw [feq_iff, hn]; simp
    cases h0 : feq b 0 with
    | false => simp [hself]
    | true =>
      rw [feq_iff, val_zero] at h0
      simp only [hn, nan_consts, Bool.not_false, Bool.true_and, decide_eq_true_eq] at h0
      have hr : rung b = 0 := by
        have := natAbs_val b
        rw [h0] at this
        rcases Nat.eq_zero_or_pos (rung b) with h | h
        · exact h
        · have := M_pos h; simp at *; omega
      have : b = 0 ∨ b = 9223372036854775808 := by unfold rung at hr; omega
      rcases this with rfl | rfl
      · have e : fok .quo 4607182418800017408 0 = true := by decide
        simp [e]
      · have e : fok .quo 4607182418800017408 9223372036854775808 = true := by decide
        simp [e]
theorem eq_value (k : Nat) (a n : Int) (f : Nat) (s : ByteArray) (r : Int) (hf : f < 18446744073709551616) : laws_eqValue.f (k + 1) a n f s r a n f s r = some true := by
  unfold laws_eqValue.f
  rw [same_float k f hf]
  simp
end Go.Proofs.Ytdjlbfaiccdbfaa.PAll
