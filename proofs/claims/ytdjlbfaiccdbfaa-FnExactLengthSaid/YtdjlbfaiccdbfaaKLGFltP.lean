/- Cut down from the texts of the same job by wip/shake.py to what this claim reaches. -/
import Derived.Test.YtdjlbfaiccdbfaaKLGFlt
import Derived.Test.YtdjlbfaiccdbfaaKLGW0
namespace Go.Proofs.YtdjlbfaiccdbfaaW.PrintWords
open Go.Proofs.Flt Ieee
set_option linter.unusedSimpArgs false
theorem feq_iff (a b : Nat) : feq a b = (!nan a && !nan b && decide (val a = val b)) := by
  unfold feq
  rw [show FloatKind.f64.format.order a b = double.order a b from rfl, order_eq]
  cases nan a <;> cases nan b <;> simp
  rcases Int.lt_trichotomy (val a) (val b) with h | h | h
  · rw [Int.compare_eq_lt.2 h, show decide (val a = val b) = false by simp; omega]; decide
  · rw [h]; simp
  · rw [Int.compare_eq_gt.2 h, show decide (val a = val b) = false by simp; omega]; decide
theorem fne_iff (a b : Nat) : fne a b = !feq a b := rfl
theorem flss_iff (a b : Nat) : flss a b = (!nan a && !nan b && decide (val a < val b)) := by
  unfold flss
  rw [show FloatKind.f64.format.order a b = double.order a b from rfl, order_eq]
  cases nan a <;> cases nan b <;> simp
  rcases Int.lt_trichotomy (val a) (val b) with h | h | h
  · rw [Int.compare_eq_lt.2 h, show decide (val a < val b) = true by simpa using h]; decide
  · rw [h]; simp
  · rw [Int.compare_eq_gt.2 h, show decide (val a < val b) = false by simp; omega]; decide
theorem fgtr_iff (a b : Nat) : fgtr a b = (!nan a && !nan b && decide (val b < val a)) := by
  unfold fgtr
  rw [show FloatKind.f64.format.order a b = double.order a b from rfl, order_eq]
  cases nan a <;> cases nan b <;> simp
  rcases Int.lt_trichotomy (val a) (val b) with h | h | h
  · rw [Int.compare_eq_lt.2 h, show decide (val b < val a) = false by simp; omega]; decide
  · rw [h]; simp
  · rw [Int.compare_eq_gt.2 h, show decide (val b < val a) = true by simpa using h]; decide
theorem fleq_iff (a b : Nat) : fleq a b = (!nan a && !nan b && decide (val a ≤ val b)) := by
  have h1 := flss_iff a b
  have h2 := feq_iff a b
  have e : fleq a b = (flss a b || feq a b) := rfl
  rw [e, h1, h2]
  cases nan a <;> cases nan b <;> simp
  rw [Bool.eq_iff_iff]; simp; omega
theorem fgeq_iff (a b : Nat) : fgeq a b = (!nan a && !nan b && decide (val b ≤ val a)) := by
  have h1 := fgtr_iff a b
  have h2 := feq_iff a b
  have e : fgeq a b = (fgtr a b || feq a b) := rfl
  rw [e, h1, h2]
  cases nan a <;> cases nan b <;> simp
  rw [Bool.eq_iff_iff]; simp; omega
theorem fnan_eq (b : Nat) : fnan b = nan b := by
  unfold fnan nan
  by_cases h : infR < rung b
  · rw [read_nan b h]; simp [h, Datum.isNaN]
  by_cases h1 : rung b = infR
  · rw [read_inf b h1]; simp [h, Datum.isNaN]
  · obtain ⟨m, e, hr, _⟩ := read_finite b (by omega)
    rw [hr]; simp [h, Datum.isNaN]
theorem rung_word (s : Bool) (r : Nat) (h : r < 9223372036854775808) : rung (word s r) = r := by
  unfold rung word; cases s <;> simp <;> omega
theorem neg_word (s : Bool) (r : Nat) (h : r < 9223372036854775808) : neg (word s r) = s := by
  unfold neg word
  cases s
  · simp; omega
  · simp
    omega
theorem val_word (s : Bool) (r : Nat) (h : r < 9223372036854775808) : val (word s r) = if s then -(M r : Int) else (M r : Int) := by
  unfold val; rw [neg_word s r h, rung_word s r h]
theorem nan_word (s : Bool) (r : Nat) (h : r ≤ infR) : nan (word s r) = false := by
  unfold nan
  rw [rung_word s r (by unfold infR at h; omega)]
  simp; omega
def K63 : Nat := 9223372036854775808
theorem val_two63 : val 4890909195324358656 = (K63 * U : Nat) := by
  have h1 : neg 4890909195324358656 = false := by decide
  have h2 : rung 4890909195324358656 = 4890909195324358656 := by decide
  unfold val
  rw [h1, h2, M_big (by decide), show 4890909195324358656 % 4503599627370496 = 0 by decide, show 4890909195324358656 / 4503599627370496 - 1 = 11 + k0 by decide, Nat.pow_add, ← Nat.mul_assoc, show (4503599627370496 + 0) * 2 ^ 11 = K63 by decide, pow_k0]
  simp only [Bool.false_eq_true, if_false, if_true]
theorem val_m63 : val 14114281232179134464 = -((K63 * U : Nat) : Int) := by
  have h1 : neg 14114281232179134464 = true := by decide
  have h2 : rung 14114281232179134464 = 4890909195324358656 := by decide
  unfold val
  rw [h1, h2, M_big (by decide), show 4890909195324358656 % 4503599627370496 = 0 by decide, show 4890909195324358656 / 4503599627370496 - 1 = 11 + k0 by decide, Nat.pow_add, ← Nat.mul_assoc, show (4503599627370496 + 0) * 2 ^ 11 = K63 by decide, pow_k0]
  simp only [Bool.false_eq_true, if_false, if_true]
theorem val_one : val 4607182418800017408 = (U : Nat) := by
  have h1 : neg 4607182418800017408 = false := by decide
  have h2 : rung 4607182418800017408 = 4607182418800017408 := by decide
  unfold val
  rw [h1, h2, M_big (by decide), show 4607182418800017408 % 4503599627370496 = 0 by decide, show 4607182418800017408 / 4503599627370496 - 1 = k0 - 52 by decide]
  have h3 : (2 : Nat) ^ k0 = 2 ^ 52 * 2 ^ (k0 - 52) := by rw [← Nat.pow_add, show 52 + (k0 - 52) = k0 by decide]
  rw [pow_k0, two52] at h3
  rw [h3]
  simp only [Bool.false_eq_true, if_false, Nat.add_zero]
theorem val_zero : val 0 = 0 := by
  unfold val
  rw [show rung 0 = 0 by decide, M_zero]; simp
theorem nan_consts : nan 4890909195324358656 = false ∧ nan 14114281232179134464 = false ∧ nan 4607182418800017408 = false ∧ nan 0 = false := by decide
theorem natAbs_val (b : Nat) : (val b).natAbs = M (rung b) := by unfold val; split <;> omega
theorem fin_of_range {b : Nat} (hn : nan b = false) (h : (val b).natAbs < M infR) : rung b < infR := by
  have h1 : ¬ infR < rung b := by simpa [nan] using hn
  rw [natAbs_val] at h
  exact M_lt_iff.1 h
theorem M_inf_big : K63 * U < M infR := by
  have h : K63 * U = M 4890909195324358656 := by
    have := natAbs_val 4890909195324358656
    rw [val_two63, show rung 4890909195324358656 = 4890909195324358656 by decide] at this
    omega
  rw [h]
  exact M_lt (by decide)
theorem f2i_fin {b : Nat} (h : rung b < infR) : f2i b = tr b := by unfold f2i; rw [toInt_zero b h]; rfl
theorem f2iOk_fin {b : Nat} (h : rung b < infR) (k : IntKind) : f2iOk k b = decide (k.min ≤ tr b ∧ tr b ≤ k.max) := by unfold f2iOk; rw [toInt_zero b h]
theorem i2f_tr {b : Nat} (h : rung b < infR) : ∃ r', r' < infR ∧ M r' = M (rung b) / U * U ∧ i2f (tr b) = word (decide (tr b < 0)) r' ∧ (r' = rung b ∨ M (rung b) / U < 9007199254740992) := by
  obtain ⟨r', h1, h2, h3⟩ := trunc_rung (rung b) h
  refine ⟨r', h1, h2, ?_, h3⟩
  unfold i2f FloatKind.nearest FloatKind.encode
  have e : (tr b).natAbs = M (rung b) / U := by unfold tr; generalize M (rung b) / U = q; split <;> omega
  rw [show FloatKind.f64.format.write (.number (decide (tr b < 0)) (tr b).natAbs 0) = double.nearest (decide (tr b < 0)) (tr b).natAbs 0 from rfl]
  refine nearest_exact _ _ _ r' (by omega) ?_
  rw [e, h2]
  unfold U
  rw [show ((0 : Int) + 1074).toNat = k0 from rfl, show (-((0 : Int) + 1074)).toNat = 0 from rfl, Nat.pow_zero, Nat.mul_one]
theorem val_i2f_tr {b : Nat} (h : rung b < infR) : val (i2f (tr b)) = tr b * U ∧ nan (i2f (tr b)) = false := by
  obtain ⟨r', h1, h2, h3, _⟩ := i2f_tr h
  have hlt : r' < 9223372036854775808 := by unfold infR at h1; omega
  rw [h3]
  refine ⟨?_, nan_word _ _ (by omega)⟩
  rw [val_word _ _ hlt, h2]
  unfold tr
  generalize M (rung b) / U = q
  split
  · by_cases h0 : q = 0
    · subst h0; simp
    · rw [if_pos (by simp; omega), Int.natCast_mul, Int.neg_mul]
  · rw [if_neg (by simp), Int.natCast_mul]
theorem sum_val {a b : Nat} (ha : rung a < infR) (hb : rung b < infR) : ∃ mag e : Nat, ∃ s : Bool, (double.read a).sum (double.read b) = some (.number s mag ((e : Int) - 1074)) ∧ mag * 2 ^ e = (val a + val b).natAbs ∧ (val a + val b ≠ 0 → s = decide (val a + val b < 0)) ∧ (val a + val b = 0 → s = (neg a && neg b)) := by
  obtain ⟨m, e, hr, hm, _⟩ := read_finite a ha
  obtain ⟨n, f, hs, hn, _⟩ := read_finite b hb
  rw [hr, hs]
  simp only [Datum.sum]
  have hmin : min ((e : Int) - 1074) ((f : Int) - 1074) = ((min e f : Nat) : Int) - 1074 := by omega
  rw [hmin]
  have h1 : ((e : Int) - 1074 - (((min e f : Nat) : Int) - 1074)).toNat = e - min e f := by omega
  have h2 : ((f : Int) - 1074 - (((min e f : Nat) : Int) - 1074)).toNat = f - min e f := by omega
  rw [h1, h2]
  have k1 := signed_mul (neg a) m (e - min e f) (min e f)
  have k2 := signed_mul (neg b) n (f - min e f) (min e f)
  rw [show e - min e f + min e f = e by omega, signed_val a m e hm] at k1
  rw [show f - min e f + min e f = f by omega, signed_val b n f hn] at k2
  generalize signed (neg a) m (e - min e f) = x at *
  generalize signed (neg b) n (f - min e f) = y at *
  have hp : (0 : Int) < ((2 ^ min e f : Nat) : Int) := by exact_mod_cast Nat.two_pow_pos (min e f)
  have hsum : (x + y) * ((2 ^ min e f : Nat) : Int) = val a + val b := by rw [Int.add_mul, k1, k2]
  refine ⟨(x + y).natAbs, min e f, _, rfl, ?_, fun h => ?_, fun h => ?_⟩
  · rw [← hsum, Int.natAbs_mul, Int.natAbs_natCast]
  · rw [if_neg (by intro h0; rw [h0] at hsum; omega)]
    rw [← hsum]
    by_cases hx : x + y < 0
    · have := Int.mul_neg_of_neg_of_pos hx hp
      rw [decide_eq_true hx, decide_eq_true this]
    · have := Int.mul_nonneg (by omega : 0 ≤ x + y) (Int.le_of_lt hp)
      rw [decide_eq_false hx, decide_eq_false (by omega)]
  · rw [if_pos]
    rcases Int.mul_eq_zero.1 (hsum.trans h) with h0 | h0
    · exact h0
    · omega
theorem write_exact (s : Bool) (mag e r : Nat) (hr : r ≤ infR) (h : mag * 2 ^ e = M r) : double.write (.number s mag ((e : Int) - 1074)) = word s r := by
  refine nearest_exact s mag _ r hr ?_
  rw [show ((e : Int) - 1074 + 1074).toNat = e by omega, show (-((e : Int) - 1074 + 1074)).toNat = 0 by omega, Nat.pow_zero, Nat.mul_one, h]
theorem read_opposite (b : Nat) (h : rung b < infR) : ∃ c, rung c = rung b ∧ neg c = !neg b ∧ (double.read b).opposite = double.read c := by
  obtain ⟨m, e, hr, hm, hlt⟩ := read_finite b h
  have hb : rung b < 9223372036854775808 := by unfold infR at h; omega
  refine ⟨word (!neg b) (rung b), rung_word _ _ hb, neg_word _ _ hb, ?_⟩
  unfold Format.read
  rw [dbl_sign, dbl_binade, dbl_inf, dbl_least]
  simp only [show ∀ x, x % 9223372036854775808 = rung x from fun _ => rfl, show ∀ x, (x / 9223372036854775808 % 2 == 1) = neg x from fun _ => rfl, rung_word _ _ hb, neg_word _ _ hb]
  by_cases h1 : rung b < 4503599627370496
  · rw [if_pos h1, if_pos h1]; rfl
  · rw [if_neg h1, if_pos h, if_neg h1, if_pos h]; rfl
theorem sub_exact {a b r : Nat} (ha : rung a < infR) (hb : rung b < infR) (hr : r ≤ infR) (h : M r = (val a - val b).natAbs) (h0 : val a - val b ≠ 0) : double.sub a b = some (word (decide (val a - val b < 0)) r) := by
  obtain ⟨c, c1, c2, c3⟩ := read_opposite b hb
  have hv : val c = -val b := by unfold val; rw [c1, c2]; cases neg b <;> simp
  obtain ⟨mag, e, s, k1, k2, k3, _⟩ := sum_val ha (by rw [c1]; exact hb : rung c < infR)
  unfold Format.sub
  rw [c3, k1]
  rw [hv, show val a + -val b = val a - val b by omega] at k2 k3
  simp only [Option.map_some, Option.some.injEq]
  rw [k3 h0]
  exact write_exact _ mag e r hr (k2.trans h.symm)
end Go.Proofs.YtdjlbfaiccdbfaaW.PrintWords
