/- Cut down from the texts of the same job by wip/shake.py to what this claim reaches. -/
import Derived.Test.YtdjlbfaiccdbfaaKLGFltP
namespace Go.Proofs.YtdjlbfaiccdbfaaW.PrintWords
open Go.Proofs.Flt Ieee
set_option linter.unusedSimpArgs false
theorem floor_unique {v q u : Int} (hu : 0 < u) (h1 : q * u ≤ v) (h2 : v < (q + 1) * u) : v / u = q := by
  have a := Int.le_ediv_of_mul_le hu h1
  have b := Int.ediv_lt_of_lt_mul hu h2
  omega
theorem Ui_pos : (0 : Int) < (U : Int) := by exact_mod_cast U_pos
theorem tr_cases (b : Nat) : (0 ≤ val b ∧ tr b * U ≤ val b ∧ val b < (tr b + 1) * U ∧ 0 ≤ tr b) ∨ (val b ≤ 0 ∧ val b ≤ tr b * U ∧ (tr b - 1) * U < val b ∧ tr b ≤ 0) := by
  have hU := U_pos
  have h1 := Nat.div_add_mod (M (rung b)) U
  have h2 := Nat.mod_lt (M (rung b)) hU
  unfold tr val
  generalize M (rung b) / U = q at *
  generalize M (rung b) % U = p at *
  have hm : (M (rung b) : Int) = U * q + p := by rw [← h1]; push_cast; rfl
  have hq : (0 : Int) ≤ (U : Int) * q := Int.mul_nonneg (Int.natCast_nonneg _) (Int.natCast_nonneg _)
  have hc : (U : Int) * q = (q : Int) * U := Int.mul_comm _ _
  cases neg b
  · left
    simp only [Bool.false_eq_true, if_false]
    rw [Int.add_mul]
    omega
  · right
    simp only [if_true]
    rw [Int.sub_mul, Int.neg_mul]
    omega
theorem tr_of_whole {b : Nat} {q : Int} (h : val b = q * U) : tr b = q := by
  have hp := Ui_pos
  rcases tr_cases b with ⟨_, h1, h2, _⟩ | ⟨_, h1, h2, _⟩
  · rw [h] at h1 h2
    have a := Int.le_of_mul_le_mul_right h1 hp
    have c := Int.lt_of_mul_lt_mul_right h2 (Int.le_of_lt hp)
    omega
  · rw [h] at h1 h2
    have a := Int.le_of_mul_le_mul_right h1 hp
    have c := Int.lt_of_mul_lt_mul_right h2 (Int.le_of_lt hp)
    omega
theorem whole_iff (b : Nat) : (tr b * U = val b) ↔ (val b / U * U = val b) := by
  have hp := Ui_pos
  constructor
  · intro h
    rw [← h, Int.mul_ediv_cancel _ (Int.ne_of_gt hp)]
  · intro h
    rw [tr_of_whole h.symm, h]
theorem val_ftrunc {b : Nat} (h : rung b < infR) : val (ftrunc b) = tr b * U ∧ nan (ftrunc b) = false := by
  obtain ⟨r', h1, h2, _⟩ := trunc_rung (rung b) h
  have hlt : r' < 9223372036854775808 := by unfold infR at h1; omega
  have e : ftrunc b = word (neg b) r' := by
    unfold ftrunc
    rw [integral_zero b h]
    show double.nearest (neg b) (M (rung b) / U) 0 = _
    refine nearest_exact _ _ _ r' (by omega) ?_
    rw [h2, show ((0 : Int) + 1074).toNat = k0 from rfl, show (-((0 : Int) + 1074)).toNat = 0 from rfl, Nat.pow_zero, Nat.mul_one, pow_k0]
  rw [e]
  refine ⟨?_, nan_word _ _ (by omega)⟩
  rw [val_word _ _ hlt, h2]
  unfold tr
  generalize M (rung b) / U = q
  cases neg b
  · simp only [Bool.false_eq_true, if_false, Int.natCast_mul]
  · simp only [if_true, Int.natCast_mul, Int.neg_mul]
def inr (b : Nat) : Prop := nan b = false ∧ -((K63 * U : Nat) : Int) ≤ val b ∧ val b < ((K63 * U : Nat) : Int)
theorem inr_fin {b : Nat} (h : inr b) : rung b < infR := by
  obtain ⟨h1, h2, h3⟩ := h
  refine fin_of_range h1 ?_
  have := M_inf_big
  omega
theorem inr_tr {b : Nat} (h : inr b) : -9223372036854775808 ≤ tr b ∧ tr b ≤ 9223372036854775807 := by
  obtain ⟨h1, h2, h3⟩ := h
  have hp := Ui_pos
  have e : ((K63 * U : Nat) : Int) = (K63 : Int) * U := by push_cast; rfl
  have eK : (K63 : Int) = 9223372036854775808 := rfl
  rw [e] at h2 h3
  rcases tr_cases b with ⟨h4, h5, h6, h7⟩ | ⟨h4, h5, h6, h7⟩
  · have a := Int.lt_of_mul_lt_mul_right (Int.lt_of_le_of_lt h5 h3) (Int.le_of_lt hp)
    omega
  · have h8 : (-(K63 : Int)) * U ≤ tr b * U := by rw [Int.neg_mul]; omega
    have a := Int.le_of_mul_le_mul_right h8 hp
    omega
theorem inr_f2i {b : Nat} (h : inr b) : f2iOk .i64 b = true ∧ f2i b = tr b := by
  refine ⟨?_, f2i_fin (inr_fin h)⟩
  rw [f2iOk_fin (inr_fin h)]
  have := inr_tr h
  simp [IntKind.min, IntKind.max, IntKind.signed, IntKind.bits]
  omega
theorem inr_iff (b : Nat) : inr b ↔ (fgeq b 14114281232179134464 = true ∧ flss b 4890909195324358656 = true) := by
  rw [fgeq_iff, flss_iff, val_m63, val_two63, nan_consts.1, nan_consts.2.1]
  unfold inr
  cases nan b <;> simp
end Go.Proofs.YtdjlbfaiccdbfaaW.PrintWords
