/- Floats for the abstract machine: words for what it asks of them, and what these come to in whole numbers. Plain law. -/
import Derived.Test.YtdonkjepjobhnaaDoorFlt
import Derived.Test.YtdonkjepjobhnaaDoorIV
namespace Go.Proofs.IM
open Go Go.Proofs.Flt Ieee
set_option linter.unusedSimpArgs false
def feq (a b : Nat) : Bool := FloatKind.f64.format.order a b == some .eq
def fne (a b : Nat) : Bool := FloatKind.f64.format.order a b != some .eq
def flss (a b : Nat) : Bool := FloatKind.f64.format.order a b == some .lt
def fleq (a b : Nat) : Bool := FloatKind.f64.format.order a b == some .lt || FloatKind.f64.format.order a b == some .eq
def fgtr (a b : Nat) : Bool := FloatKind.f64.format.order a b == some .gt
def fgeq (a b : Nat) : Bool := FloatKind.f64.format.order a b == some .gt || FloatKind.f64.format.order a b == some .eq
def i2f (n : Int) : Nat := FloatKind.f64.nearest n
def f2iOk (k : IntKind) (x : Nat) : Bool := match (Ieee.double.read x).toInt .zero with | some n => decide (k.min ≤ n ∧ n ≤ k.max) | none => false
def f2i (x : Nat) : Int := ((Ieee.double.read x).toInt .zero).getD 0
def fneg (b : Nat) : Nat := Op.negFloat .f64 b
def fnan (b : Nat) : Bool := (Ieee.double.read b).isNaN
def ftrunc (b : Nat) : Nat := Ieee.double.write ((Ieee.double.read b).integral .zero)
def ffloor (b : Nat) : Nat := Ieee.double.write ((Ieee.double.read b).integral .down)
theorem fold_le (a b : Nat) : (FloatKind.f64.format.order a b == some .lt || FloatKind.f64.format.order a b == some .eq) = fleq a b := rfl
theorem fold_ge (a b : Nat) : (FloatKind.f64.format.order a b == some .gt || FloatKind.f64.format.order a b == some .eq) = fgeq a b := rfl


theorem feq_iff (a b : Nat) : feq a b = (!nan a && !nan b && decide (val a = val b)) := by
  unfold feq
  rw [show FloatKind.f64.format.order a b = double.order a b from rfl, order_eq]
  cases nan a <;> cases nan b <;> simp
  rcases Int.lt_trichotomy (val a) (val b) with h | h | h
  · rw [Int.compare_eq_lt.2 h, show decide (val a = val b) = false by simp; omega]; decide
  · rw [h]; simp
  · rw [Int.compare_eq_gt.2 h, show decide (val a = val b) = false by simp; omega]; decide
theorem fne_iff (a b : Nat) : fne a b = !feq a b := rfl
theorem flss_iff (a b : Nat) : flss a b = (!nan a && !nan b && decide (val a < val b)) := by
  unfold flss
  rw [show FloatKind.f64.format.order a b = double.order a b from rfl, order_eq]
  cases nan a <;> cases nan b <;> simp
  rcases Int.lt_trichotomy (val a) (val b) with h | h | h
  · rw [Int.compare_eq_lt.2 h, show decide (val a < val b) = true by simpa using h]; decide
  · rw [h]; simp
  · rw [Int.compare_eq_gt.2 h, show decide (val a < val b) = false by simp; omega]; decide
theorem fgtr_iff (a b : Nat) : fgtr a b = (!nan a && !nan b && decide (val b < val a)) := by
  unfold fgtr
  rw [show FloatKind.f64.format.order a b = double.order a b from rfl, order_eq]
  cases nan a <;> cases nan b <;> simp
  rcases Int.lt_trichotomy (val a) (val b) with h | h | h
  · rw [Int.compare_eq_lt.2 h, show decide (val b < val a) = false by simp; omega]; decide
  · rw [h]; simp
  · rw [Int.compare_eq_gt.2 h, show decide (val b < val a) = true by simpa using h]; decide
theorem fleq_iff (a b : Nat) : fleq a b = (!nan a && !nan b && decide (val a ≤ val b)) := by
  have h1 := flss_iff a b
  have h2 := feq_iff a b
  have e : fleq a b = (flss a b || feq a b) := rfl
  rw [e, h1, h2]
  cases nan a <;> cases nan b <;> simp
  rw [Bool.eq_iff_iff]; simp; omega
theorem fgeq_iff (a b : Nat) : fgeq a b = (!nan a && !nan b && decide (val b ≤ val a)) := by
  have h1 := fgtr_iff a b
  have h2 := feq_iff a b
  have e : fgeq a b = (fgtr a b || feq a b) := rfl
  rw [e, h1, h2]
  cases nan a <;> cases nan b <;> simp
  rw [Bool.eq_iff_iff]; simp; omega
theorem fnan_eq (b : Nat) : fnan b = nan b := by
  unfold fnan nan
  by_cases h : infR < rung b
  · rw [read_nan b h]; simp [h, Datum.isNaN]
  by_cases h1 : rung b = infR
  · rw [read_inf b h1]; simp [h, Datum.isNaN]
  · obtain ⟨m, e, hr, _⟩ := read_finite b (by omega)
    rw [hr]; simp [h, Datum.isNaN]

theorem rung_word (s : Bool) (r : Nat) (h : r < 9223372036854775808) : rung (word s r) = r := by
  unfold rung word; cases s <;> simp <;> omega
theorem neg_word (s : Bool) (r : Nat) (h : r < 9223372036854775808) : neg (word s r) = s := by
  unfold neg word
  cases s
  · simp; omega
  · simp
    omega
theorem val_word (s : Bool) (r : Nat) (h : r < 9223372036854775808) : val (word s r) = if s then -(M r : Int) else (M r : Int) := by
  unfold val; rw [neg_word s r h, rung_word s r h]
theorem nan_word (s : Bool) (r : Nat) (h : r ≤ infR) : nan (word s r) = false := by
  unfold nan
  rw [rung_word s r (by unfold infR at h; omega)]
  simp; omega
theorem word_self (b : Nat) (h : b < 18446744073709551616) : word (neg b) (rung b) = b := by
  unfold word neg rung
  by_cases h1 : b < 9223372036854775808
  · rw [show b / 9223372036854775808 = 0 by omega]; simp; omega
  · rw [show b / 9223372036854775808 = 1 by omega]; simp; omega

/-! constants -/
def K63 : Nat := 9223372036854775808
theorem val_two63 : val 4890909195324358656 = (K63 * U : Nat) := by
  have h1 : neg 4890909195324358656 = false := by decide
  have h2 : rung 4890909195324358656 = 4890909195324358656 := by decide
  unfold val
  rw [h1, h2, M_big (by decide), show 4890909195324358656 % 4503599627370496 = 0 by decide, show 4890909195324358656 / 4503599627370496 - 1 = 11 + k0 by decide, Nat.pow_add, ← Nat.mul_assoc, show (4503599627370496 + 0) * 2 ^ 11 = K63 by decide, pow_k0]
  simp only [Bool.false_eq_true, if_false, if_true]
theorem val_m63 : val 14114281232179134464 = -((K63 * U : Nat) : Int) := by
  have h1 : neg 14114281232179134464 = true := by decide
  have h2 : rung 14114281232179134464 = 4890909195324358656 := by decide
  unfold val
  rw [h1, h2, M_big (by decide), show 4890909195324358656 % 4503599627370496 = 0 by decide, show 4890909195324358656 / 4503599627370496 - 1 = 11 + k0 by decide, Nat.pow_add, ← Nat.mul_assoc, show (4503599627370496 + 0) * 2 ^ 11 = K63 by decide, pow_k0]
  simp only [Bool.false_eq_true, if_false, if_true]
theorem val_one : val 4607182418800017408 = (U : Nat) := by
  have h1 : neg 4607182418800017408 = false := by decide
  have h2 : rung 4607182418800017408 = 4607182418800017408 := by decide
  unfold val
  rw [h1, h2, M_big (by decide), show 4607182418800017408 % 4503599627370496 = 0 by decide, show 4607182418800017408 / 4503599627370496 - 1 = k0 - 52 by decide]
  have h3 : (2 : Nat) ^ k0 = 2 ^ 52 * 2 ^ (k0 - 52) := by rw [← Nat.pow_add, show 52 + (k0 - 52) = k0 by decide]
  rw [pow_k0, two52] at h3
  rw [h3]
  simp only [Bool.false_eq_true, if_false, Nat.add_zero]
theorem val_zero : val 0 = 0 := by
  unfold val
  rw [show rung 0 = 0 by decide, M_zero]; simp
theorem nan_consts : nan 4890909195324358656 = false ∧ nan 14114281232179134464 = false ∧ nan 4607182418800017408 = false ∧ nan 0 = false := by decide

/-! ### cutting, and floats of whole numbers -/
theorem natAbs_val (b : Nat) : (val b).natAbs = M (rung b) := by unfold val; split <;> omega
theorem fin_of_range {b : Nat} (hn : nan b = false) (h : (val b).natAbs < M infR) : rung b < infR := by
  have h1 : ¬ infR < rung b := by simpa [nan] using hn
  rw [natAbs_val] at h
  exact M_lt_iff.1 h
theorem M_inf_big : K63 * U < M infR := by
  have h : K63 * U = M 4890909195324358656 := by
    have := natAbs_val 4890909195324358656
    rw [val_two63, show rung 4890909195324358656 = 4890909195324358656 by decide] at this
    omega
  rw [h]
  exact M_lt (by decide)

theorem f2i_fin {b : Nat} (h : rung b < infR) : f2i b = tr b := by unfold f2i; rw [toInt_zero b h]; rfl
theorem f2iOk_fin {b : Nat} (h : rung b < infR) (k : IntKind) : f2iOk k b = decide (k.min ≤ tr b ∧ tr b ≤ k.max) := by unfold f2iOk; rw [toInt_zero b h]

/-- 'float64' of the whole part of a float is that very number. -/
theorem i2f_tr {b : Nat} (h : rung b < infR) : ∃ r', r' < infR ∧ M r' = M (rung b) / U * U ∧ i2f (tr b) = word (decide (tr b < 0)) r' ∧ (r' = rung b ∨ M (rung b) / U < 9007199254740992) := by
  obtain ⟨r', h1, h2, h3⟩ := trunc_rung (rung b) h
  refine ⟨r', h1, h2, ?_, h3⟩
  unfold i2f FloatKind.nearest FloatKind.encode
  have e : (tr b).natAbs = M (rung b) / U := by unfold tr; generalize M (rung b) / U = q; split <;> omega
  rw [show FloatKind.f64.format.write (.number (decide (tr b < 0)) (tr b).natAbs 0) = double.nearest (decide (tr b < 0)) (tr b).natAbs 0 from rfl]
  refine nearest_exact _ _ _ r' (by omega) ?_
  rw [e, h2]
  unfold U
  rw [show ((0 : Int) + 1074).toNat = k0 from rfl, show (-((0 : Int) + 1074)).toNat = 0 from rfl, Nat.pow_zero, Nat.mul_one]
theorem val_i2f_tr {b : Nat} (h : rung b < infR) : val (i2f (tr b)) = tr b * U ∧ nan (i2f (tr b)) = false := by
  obtain ⟨r', h1, h2, h3, _⟩ := i2f_tr h
  have hlt : r' < 9223372036854775808 := by unfold infR at h1; omega
  rw [h3]
  refine ⟨?_, nan_word _ _ (by omega)⟩
  rw [val_word _ _ hlt, h2]
  unfold tr
  generalize M (rung b) / U = q
  split
  · by_cases h0 : q = 0
    · subst h0; simp
    · rw [if_pos (by simp; omega), Int.natCast_mul, Int.neg_mul]
  · rw [if_neg (by simp), Int.natCast_mul]

/-! ### exact sums -/
theorem sum_val {a b : Nat} (ha : rung a < infR) (hb : rung b < infR) : ∃ mag e : Nat, ∃ s : Bool, (double.read a).sum (double.read b) = some (.number s mag ((e : Int) - 1074)) ∧ mag * 2 ^ e = (val a + val b).natAbs ∧ (val a + val b ≠ 0 → s = decide (val a + val b < 0)) ∧ (val a + val b = 0 → s = (neg a && neg b)) := by
  obtain ⟨m, e, hr, hm, _⟩ := read_finite a ha
  obtain ⟨n, f, hs, hn, _⟩ := read_finite b hb
  rw [hr, hs]
  simp only [Datum.sum]
  have hmin : min ((e : Int) - 1074) ((f : Int) - 1074) = ((min e f : Nat) : Int) - 1074 := by omega
  rw [hmin]
  have h1 : ((e : Int) - 1074 - (((min e f : Nat) : Int) - 1074)).toNat = e - min e f := by omega
  have h2 : ((f : Int) - 1074 - (((min e f : Nat) : Int) - 1074)).toNat = f - min e f := by omega
  rw [h1, h2]
  have k1 := signed_mul (neg a) m (e - min e f) (min e f)
  have k2 := signed_mul (neg b) n (f - min e f) (min e f)
  rw [show e - min e f + min e f = e by omega, signed_val a m e hm] at k1
  rw [show f - min e f + min e f = f by omega, signed_val b n f hn] at k2
  generalize signed (neg a) m (e - min e f) = x at *
  generalize signed (neg b) n (f - min e f) = y at *
  have hp : (0 : Int) < ((2 ^ min e f : Nat) : Int) := by exact_mod_cast Nat.two_pow_pos (min e f)
  have hsum : (x + y) * ((2 ^ min e f : Nat) : Int) = val a + val b := by rw [Int.add_mul, k1, k2]
  refine ⟨(x + y).natAbs, min e f, _, rfl, ?_, fun h => ?_, fun h => ?_⟩
  · rw [← hsum, Int.natAbs_mul, Int.natAbs_natCast]
  · rw [if_neg (by intro h0; rw [h0] at hsum; omega)]
    rw [← hsum]
    by_cases hx : x + y < 0
    · have := Int.mul_neg_of_neg_of_pos hx hp
      rw [decide_eq_true hx, decide_eq_true this]
    · have := Int.mul_nonneg (by omega : 0 ≤ x + y) (Int.le_of_lt hp)
      rw [decide_eq_false hx, decide_eq_false (by omega)]
  · rw [if_pos]
    rcases Int.mul_eq_zero.1 (hsum.trans h) with h0 | h0
    · exact h0
    · omega
theorem write_exact (s : Bool) (mag e r : Nat) (hr : r ≤ infR) (h : mag * 2 ^ e = M r) : double.write (.number s mag ((e : Int) - 1074)) = word s r := by
  refine nearest_exact s mag _ r hr ?_
  rw [show ((e : Int) - 1074 + 1074).toNat = e by omega, show (-((e : Int) - 1074 + 1074)).toNat = 0 by omega, Nat.pow_zero, Nat.mul_one, h]
theorem read_opposite (b : Nat) (h : rung b < infR) : ∃ c, rung c = rung b ∧ neg c = !neg b ∧ (double.read b).opposite = double.read c := by
  obtain ⟨m, e, hr, hm, hlt⟩ := read_finite b h
  have hb : rung b < 9223372036854775808 := by unfold infR at h; omega
  refine ⟨word (!neg b) (rung b), rung_word _ _ hb, neg_word _ _ hb, ?_⟩
  unfold Format.read
  rw [dbl_sign, dbl_binade, dbl_inf, dbl_least]
  simp only [show ∀ x, x % 9223372036854775808 = rung x from fun _ => rfl, show ∀ x, (x / 9223372036854775808 % 2 == 1) = neg x from fun _ => rfl, rung_word _ _ hb, neg_word _ _ hb]
  by_cases h1 : rung b < 4503599627370496
  · rw [if_pos h1, if_pos h1]; rfl
  · rw [if_neg h1, if_pos h, if_neg h1, if_pos h]; rfl
/-- A difference that is a word. -/
theorem sub_exact {a b r : Nat} (ha : rung a < infR) (hb : rung b < infR) (hr : r ≤ infR) (h : M r = (val a - val b).natAbs) (h0 : val a - val b ≠ 0) : double.sub a b = some (word (decide (val a - val b < 0)) r) := by
  obtain ⟨c, c1, c2, c3⟩ := read_opposite b hb
  have hv : val c = -val b := by unfold val; rw [c1, c2]; cases neg b <;> simp
  obtain ⟨mag, e, s, k1, k2, k3, _⟩ := sum_val ha (by rw [c1]; exact hb : rung c < infR)
  unfold Format.sub
  rw [c3, k1]
  rw [hv, show val a + -val b = val a - val b by omega] at k2 k3
  simp only [Option.map_some, Option.some.injEq]
  rw [k3 h0]
  exact write_exact _ mag e r hr (k2.trans h.symm)


theorem floor_unique {v q u : Int} (hu : 0 < u) (h1 : q * u ≤ v) (h2 : v < (q + 1) * u) : v / u = q := by
  have a := Int.le_ediv_of_mul_le hu h1
  have b := Int.ediv_lt_of_lt_mul hu h2
  omega
theorem Ui_pos : (0 : Int) < (U : Int) := by exact_mod_cast U_pos
/-- The whole part and the number: towards zero. -/
theorem tr_cases (b : Nat) : (0 ≤ val b ∧ tr b * U ≤ val b ∧ val b < (tr b + 1) * U ∧ 0 ≤ tr b) ∨ (val b ≤ 0 ∧ val b ≤ tr b * U ∧ (tr b - 1) * U < val b ∧ tr b ≤ 0) := by
  have hU := U_pos
  have h1 := Nat.div_add_mod (M (rung b)) U
  have h2 := Nat.mod_lt (M (rung b)) hU
  unfold tr val
  generalize M (rung b) / U = q at *
  generalize M (rung b) % U = p at *
  have hm : (M (rung b) : Int) = U * q + p := by rw [← h1]; push_cast; rfl
  have hq : (0 : Int) ≤ (U : Int) * q := Int.mul_nonneg (Int.natCast_nonneg _) (Int.natCast_nonneg _)
  have hc : (U : Int) * q = (q : Int) * U := Int.mul_comm _ _
  cases neg b
  · left
    simp only [Bool.false_eq_true, if_false]
    rw [Int.add_mul]
    omega
  · right
    simp only [if_true]
    rw [Int.sub_mul, Int.neg_mul]
    omega
theorem tr_of_whole {b : Nat} {q : Int} (h : val b = q * U) : tr b = q := by
  have hp := Ui_pos
  rcases tr_cases b with ⟨_, h1, h2, _⟩ | ⟨_, h1, h2, _⟩
  · rw [h] at h1 h2
    have a := Int.le_of_mul_le_mul_right h1 hp
    have c := Int.lt_of_mul_lt_mul_right h2 (Int.le_of_lt hp)
    omega
  · rw [h] at h1 h2
    have a := Int.le_of_mul_le_mul_right h1 hp
    have c := Int.lt_of_mul_lt_mul_right h2 (Int.le_of_lt hp)
    omega
theorem whole_iff (b : Nat) : (tr b * U = val b) ↔ (val b / U * U = val b) := by
  have hp := Ui_pos
  constructor
  · intro h
    rw [← h, Int.mul_ediv_cancel _ (Int.ne_of_gt hp)]
  · intro h
    rw [tr_of_whole h.symm, h]

theorem val_ftrunc {b : Nat} (h : rung b < infR) : val (ftrunc b) = tr b * U ∧ nan (ftrunc b) = false := by
  obtain ⟨r', h1, h2, _⟩ := trunc_rung (rung b) h
  have hlt : r' < 9223372036854775808 := by unfold infR at h1; omega
  have e : ftrunc b = word (neg b) r' := by
    unfold ftrunc
    rw [integral_zero b h]
    show double.nearest (neg b) (M (rung b) / U) 0 = _
    refine nearest_exact _ _ _ r' (by omega) ?_
    rw [h2, show ((0 : Int) + 1074).toNat = k0 from rfl, show (-((0 : Int) + 1074)).toNat = 0 from rfl, Nat.pow_zero, Nat.mul_one, pow_k0]
  rw [e]
  refine ⟨?_, nan_word _ _ (by omega)⟩
  rw [val_word _ _ hlt, h2]
  unfold tr
  generalize M (rung b) / U = q
  cases neg b
  · simp only [Bool.false_eq_true, if_false, Int.natCast_mul]
  · simp only [if_true, Int.natCast_mul, Int.neg_mul]

/-- In the range of int64. -/
def inr (b : Nat) : Prop := nan b = false ∧ -((K63 * U : Nat) : Int) ≤ val b ∧ val b < ((K63 * U : Nat) : Int)
theorem inr_fin {b : Nat} (h : inr b) : rung b < infR := by
  obtain ⟨h1, h2, h3⟩ := h
  refine fin_of_range h1 ?_
  have := M_inf_big
  omega
theorem inr_tr {b : Nat} (h : inr b) : -9223372036854775808 ≤ tr b ∧ tr b ≤ 9223372036854775807 := by
  obtain ⟨h1, h2, h3⟩ := h
  have hp := Ui_pos
  have e : ((K63 * U : Nat) : Int) = (K63 : Int) * U := by push_cast; rfl
  have eK : (K63 : Int) = 9223372036854775808 := rfl
  rw [e] at h2 h3
  rcases tr_cases b with ⟨h4, h5, h6, h7⟩ | ⟨h4, h5, h6, h7⟩
  · have a := Int.lt_of_mul_lt_mul_right (Int.lt_of_le_of_lt h5 h3) (Int.le_of_lt hp)
    omega
  · have h8 : (-(K63 : Int)) * U ≤ tr b * U := by rw [Int.neg_mul]; omega
    have a := Int.le_of_mul_le_mul_right h8 hp
    omega
theorem inr_f2i {b : Nat} (h : inr b) : f2iOk .i64 b = true ∧ f2i b = tr b := by
  refine ⟨?_, f2i_fin (inr_fin h)⟩
  rw [f2iOk_fin (inr_fin h)]
  have := inr_tr h
  simp [IntKind.min, IntKind.max, IntKind.signed, IntKind.bits]
  omega
theorem inr_iff (b : Nat) : inr b ↔ (fgeq b 14114281232179134464 = true ∧ flss b 4890909195324358656 = true) := by
  rw [fgeq_iff, flss_iff, val_m63, val_two63, nan_consts.1, nan_consts.2.1]
  unfold inr
  cases nan b <;> simp

theorem read_rung0 {a : Nat} (h : rung a = 0) : ∃ e, double.read a = .number (neg a) 0 e := by
  obtain ⟨m, e, hr, hm, _⟩ := read_finite a (by rw [h]; decide)
  rw [h, M_zero] at hm
  have : m = 0 := by
    rcases Nat.mul_eq_zero.1 hm with h | h
    · exact h
    · exact absurd h (Nat.ne_of_gt (Nat.two_pow_pos _))
  exact ⟨_, by rw [hr, this]⟩
/-- One over a zero. -/
theorem one_over {a : Nat} (h : rung a = 0) : double.div 4607182418800017408 a = some (word (neg a) infR) := by
  obtain ⟨e, ha⟩ := read_rung0 h
  obtain ⟨m, e', h1, hm, _⟩ := read_finite 4607182418800017408 (by decide)
  have hm0 : m ≠ 0 := by
    intro e0
    rw [e0, Nat.zero_mul] at hm
    have := M_pos (r := rung 4607182418800017408) (by decide)
    omega
  have hn : neg 4607182418800017408 = false := by decide
  show double.div _ _ = _
  simp [Format.div, ha, h1, Datum.quotient, hm0, Format.write, hn, dbl_word, dbl_inf]
theorem feq_zero {a : Nat} (h : feq a 0 = true) : rung a = 0 := by
  rw [feq_iff, val_zero] at h
  simp at h
  have := natAbs_val a
  rw [h.2] at this
  rcases Nat.eq_zero_or_pos (rung a) with e | e
  · exact e
  · have := M_pos e; omega
/-- The same float, as the laws ask it. -/
def SameF (a b : Nat) : Prop := a = b ∨ nan a = true ∧ nan b = true
theorem feq_self (a : Nat) : feq a a = !nan a := by rw [feq_iff]; simp
theorem fgtr_inf (s : Bool) : fgtr (word s infR) 0 = !s := by cases s <;> decide +kernel
theorem flss_inf (s : Bool) : flss (word s infR) 0 = s := by cases s <;> decide +kernel
section
variable {C : Cx} {ty s d : TypeId} {l : Loc} {m : Mem} {K : KS} {a b : Nat}
theorem bin_feq : aBinK C ty .eql (.flt a) (.flt b) l m K = K (.bool (feq a b)) l m := rfl
theorem bin_fne : aBinK C ty .neq (.flt a) (.flt b) l m K = K (.bool (fne a b)) l m := rfl
theorem bin_fl : aBinK C ty .lss (.flt a) (.flt b) l m K = K (.bool (flss a b)) l m := rfl
theorem bin_fle : aBinK C ty .leq (.flt a) (.flt b) l m K = K (.bool (fleq a b)) l m := rfl
theorem bin_fg : aBinK C ty .gtr (.flt a) (.flt b) l m K = K (.bool (fgtr a b)) l m := rfl
theorem bin_fge : aBinK C ty .geq (.flt a) (.flt b) l m K = K (.bool (fgeq a b)) l m := rfl
theorem bin_fadd : aBinK C ty .add (.flt a) (.flt b) l m K = nanK (double.add a b) K l m := by
  rw [bin_flt]; rfl
theorem bin_fsub : aBinK C ty .sub (.flt a) (.flt b) l m K = nanK (double.sub a b) K l m := by
  rw [bin_flt]; rfl
theorem bin_fmul : aBinK C ty .mul (.flt a) (.flt b) l m K = nanK (double.mul a b) K l m := by
  rw [bin_flt]; rfl
theorem bin_fquo : aBinK C ty .quo (.flt a) (.flt b) l m K = nanK (double.div a b) K l m := by
  rw [bin_flt]; rfl
def cvtI (x : Option TK) (n : Int) (K : KS) (l : Loc) (m : Mem) : Prop := match x with
  | some (.int k) => K (.int k (k.wrap n)) l m
  | some .flt => K (.flt (i2f n)) l m
  | _ => False
def cvtF (x : Option TK) (b : Nat) (K : KS) (l : Loc) (m : Mem) : Prop := match x with
  | some (.int k) => (f2iOk k b = true → K (.int k (f2i b)) l m) ∧ (f2iOk k b = false → ∀ q : Nat, K (.int k (k.wrap (q : Int))) l m)
  | some .flt => K (.flt b) l m
  | _ => False
theorem cvtI_int {k : IntKind} {n : Int} : cvtI (some (.int k)) n K l m = K (.int k (k.wrap n)) l m := rfl
theorem cvtI_flt {n : Int} : cvtI (some .flt) n K l m = K (.flt (i2f n)) l m := rfl
theorem cvtF_int {k : IntKind} : cvtF (some (.int k)) b K l m = ((f2iOk k b = true → K (.int k (f2i b)) l m) ∧ (f2iOk k b = false → ∀ q : Nat, K (.int k (k.wrap (q : Int))) l m)) := rfl
theorem cvtF_flt : cvtF (some .flt) b K l m = K (.flt b) l m := rfl
theorem conv_int {k : IntKind} {n : Int} (hs : isSl (kd C s) = false) (hd : (C.T s).isSome = true) : aConv C s d (.int k n) l m K = cvtI (kd C d) n K l m := by
  unfold aConv kd cvtI
  unfold kd at hs
  cases h1 : C.T s with
  | none => simp [h1] at hd
  | some Ts =>
    cases h2 : C.T d with
    | none => rfl
    | some Td =>
      simp only [h1, Option.map_some] at hs ⊢
      cases h3 : Td.kind <;> try rfl
      cases h4 : Ts.kind <;> first | rfl | (rw [h4] at hs; simp [isSl] at hs)
theorem conv_flt (hs : isSl (kd C s) = false) (hd : (C.T s).isSome = true) : aConv C s d (.flt b) l m K = cvtF (kd C d) b K l m := by
  unfold aConv kd cvtF
  unfold kd at hs
  cases h1 : C.T s with
  | none => simp [h1] at hd
  | some Ts =>
    cases h2 : C.T d with
    | none => rfl
    | some Td =>
      simp only [h1, Option.map_some] at hs ⊢
      cases h3 : Td.kind <;> try rfl
      · rename_i k
        simp only [f2iOk, f2i]
        have e : (FloatKind.f64.decode b).toInt .zero = (double.read b).toInt .zero := rfl
        rw [e]
        cases (double.read b).toInt .zero with
        | none => simp
        | some n =>
          dsimp only
          by_cases hn : k.min ≤ n ∧ n ≤ k.max
          · simp [hn]
          · rw [if_neg hn]; simp [hn]
      · cases h4 : Ts.kind <;> first | rfl | (rw [h4] at hs; simp [isSl] at hs)
theorem conv_str {x : ByteArray} (hd : (C.T s).isSome = true) : aConv C s d (.str x) l m K = (kd C d = some .str ∧ K (.str x) l m) := by
  unfold aConv kd
  cases h1 : C.T s with
  | none => simp [h1] at hd
  | some Ts =>
    cases h2 : C.T d with
    | none => simp
    | some Td => simp only [Option.map_some, Option.some.injEq]; cases h3 : Td.kind <;> simp
def isByteSl (C : Cx) (s : TypeId) : Bool := match kd C s with
  | some (.sl e) => match kd C e with
    | some (.int .u8) => true
    | _ => false
  | _ => false
theorem conv_sl {a : AA} {i n c : Nat} (hs : isByteSl C s = true) (hd : kd C d = some .str) : aConv C s d (.sl a i n c) l m K = someK ((rows? l m a i n).bind bytes?) fun bs => K (.str ⟨bs.toArray⟩) l m := by
  unfold isByteSl kd at hs
  unfold kd at hd
  unfold aConv
  cases h1 : C.T s with
  | none => simp [h1] at hs
  | some Ts =>
    cases h2 : C.T d with
    | none => simp [h2] at hd
    | some Td =>
      simp only [h1, h2, Option.map_some, Option.some.injEq] at hs hd ⊢
      rw [hd]
      cases h4 : Ts.kind <;> simp only [h4] at hs <;> try cases hs
      rename_i e
      dsimp only
      split at hs
      · rename_i he
        simp only [kd, he, true_and, sliceRows, someK]
        cases (rows? l m a i n).bind bytes? <;> rfl
      · cases hs
theorem conv_nils (hs : isByteSl C s = true) (hd : kd C d = some .str) : aConv C s d .nils l m K = K (.str ⟨#[]⟩) l m := by
  unfold isByteSl kd at hs
  unfold kd at hd
  unfold aConv
  cases h1 : C.T s with
  | none => simp [h1] at hs
  | some Ts =>
    cases h2 : C.T d with
    | none => simp [h2] at hd
    | some Td =>
      simp only [h1, h2, Option.map_some, Option.some.injEq] at hs hd ⊢
      rw [hd]
      cases h4 : Ts.kind <;> simp only [h4] at hs <;> try cases hs
      rename_i e
      dsimp only
      split at hs
      · rename_i he
        simp [kd, he, sliceRows, bytes?]
      · cases hs
end
end Go.Proofs.IM
