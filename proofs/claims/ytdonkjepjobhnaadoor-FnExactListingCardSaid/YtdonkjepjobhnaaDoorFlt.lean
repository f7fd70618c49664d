/- Floats of 64 bits as whole numbers: a word's magnitude in units of 2^-1074, what the model's rounding gives where the result is exact. Plain law, no program in sight. -/
import Ieee.Arith
namespace Go.Proofs.Flt
open Ieee

theorem two52 : (2 : Nat) ^ 52 = 4503599627370496 := by decide
theorem two53 : (2 : Nat) ^ 53 = 9007199254740992 := by decide
theorem two63 : (2 : Nat) ^ 63 = 9223372036854775808 := by decide

/-- The magnitude of a rung, in units of 2^-1074. -/
def M (r : Nat) : Nat := if r < 4503599627370496 then r else (4503599627370496 + r % 4503599627370496) * 2 ^ (r / 4503599627370496 - 1)

def infR : Nat := 9218868437227405312
def rung (b : Nat) : Nat := b % 9223372036854775808
def neg (b : Nat) : Bool := b / 9223372036854775808 % 2 == 1
def nan (b : Nat) : Bool := decide (infR < rung b)
def val (b : Nat) : Int := if neg b then -(M (rung b) : Int) else (M (rung b) : Int)
def word (s : Bool) (r : Nat) : Nat := if s then 9223372036854775808 + r else r

theorem dbl_binade : double.binade = 4503599627370496 := by decide
theorem dbl_inf : double.infRung = infR := by decide
theorem dbl_sign : double.signWeight = 9223372036854775808 := by decide
theorem dbl_least : double.leastPlace = -1074 := by decide
theorem dbl_frac : double.fractionBits = 52 := rfl
theorem dbl_word (s : Bool) (r : Nat) : double.word s r = word s r := by unfold Format.word word; rw [dbl_sign]

theorem M_small {r : Nat} (h : r < 4503599627370496) : M r = r := by unfold M; rw [if_pos h]
theorem M_big {r : Nat} (h : 4503599627370496 ≤ r) : M r = (4503599627370496 + r % 4503599627370496) * 2 ^ (r / 4503599627370496 - 1) := by unfold M; rw [if_neg (by omega)]
theorem M_low {r : Nat} (h : r < 9007199254740992) : M r = r := by
  by_cases h1 : r < 4503599627370496
  · exact M_small h1
  · rw [M_big (by omega), show r / 4503599627370496 - 1 = 0 by omega, Nat.pow_zero, Nat.mul_one]; omega

theorem M_succ (r : Nat) : M r < M (r + 1) := by
  by_cases h : r + 1 < 9007199254740992
  · rw [M_low h, M_low (by omega)]; omega
  · rw [M_big (r := r) (by omega), M_big (r := r + 1) (by omega)]
    by_cases hx : r % 4503599627370496 + 1 < 4503599627370496
    · rw [show (r + 1) / 4503599627370496 = r / 4503599627370496 by omega, show (r + 1) % 4503599627370496 = r % 4503599627370496 + 1 by omega]
      exact Nat.mul_lt_mul_of_pos_right (by omega) (Nat.two_pow_pos _)
    · rw [show (r + 1) / 4503599627370496 = r / 4503599627370496 + 1 by omega, show (r + 1) % 4503599627370496 = 0 by omega,
        show r / 4503599627370496 + 1 - 1 = (r / 4503599627370496 - 1) + 1 by omega, Nat.pow_succ, Nat.mul_comm (2 ^ _) 2, ← Nat.mul_assoc]
      exact Nat.mul_lt_mul_of_pos_right (by omega) (Nat.two_pow_pos _)

theorem M_lt {r s : Nat} (h : r < s) : M r < M s := by
  induction s with
  | zero => omega
  | succ s ih =>
    rcases Nat.lt_or_ge r s with h1 | h1
    · exact Nat.lt_trans (ih h1) (M_succ s)
    · rw [show r = s by omega]; exact M_succ s
theorem M_le {r s : Nat} (h : r ≤ s) : M r ≤ M s := by
  rcases Nat.lt_or_ge r s with h1 | h1
  · exact Nat.le_of_lt (M_lt h1)
  · rw [show r = s by omega]; exact Nat.le_refl _
theorem M_inj {r s : Nat} (h : M r = M s) : r = s := by
  rcases Nat.lt_trichotomy r s with h1 | h1 | h1
  · exact absurd h (Nat.ne_of_lt (M_lt h1))
  · exact h1
  · exact absurd h.symm (Nat.ne_of_lt (M_lt h1))
theorem M_lt_iff {r s : Nat} : M r < M s ↔ r < s := ⟨fun h => by
  rcases Nat.lt_or_ge r s with h1 | h1
  · exact h1
  · exact absurd (M_le h1) (by omega), M_lt⟩
theorem M_zero : M 0 = 0 := M_small (by decide)
theorem M_pos {r : Nat} (h : 0 < r) : 0 < M r := by have := M_lt h; rw [M_zero] at this; exact this

/-- What a finite word reads as. -/
theorem read_finite (b : Nat) (h : rung b < infR) : ∃ m : Nat, ∃ e : Nat, double.read b = .number (neg b) m ((e : Int) - 1074) ∧ m * 2 ^ e = M (rung b) ∧ m < 9007199254740992 := by
  unfold Format.read
  rw [dbl_sign, dbl_binade, dbl_inf, dbl_least]
  simp only [show b % 9223372036854775808 = rung b from rfl, show (b / 9223372036854775808 % 2 == 1) = neg b from rfl]
  by_cases h1 : rung b < 4503599627370496
  · rw [if_pos h1]
    exact ⟨rung b, 0, rfl, by rw [M_small h1]; simp, by omega⟩
  · rw [if_neg h1, if_pos h]
    refine ⟨4503599627370496 + rung b % 4503599627370496, rung b / 4503599627370496 - 1, ?_, (M_big (by omega)).symm, by omega⟩
    rw [Int.add_comm]
    rfl
theorem read_inf (b : Nat) (h : rung b = infR) : double.read b = .infinity (neg b) := by
  unfold Format.read
  rw [dbl_sign, dbl_binade, dbl_inf, dbl_least]
  simp only [show b % 9223372036854775808 = rung b from rfl, show (b / 9223372036854775808 % 2 == 1) = neg b from rfl]
  rw [if_neg (by rw [h]; decide), if_neg (by omega), if_pos h]
theorem read_nan (b : Nat) (h : infR < rung b) : double.read b = .nan (neg b) (rung b - infR) := by
  unfold Format.read
  rw [dbl_sign, dbl_binade, dbl_inf, dbl_least]
  simp only [show b % 9223372036854775808 = rung b from rfl, show (b / 9223372036854775808 % 2 == 1) = neg b from rfl]
  rw [if_neg (by have : (4503599627370496 : Nat) ≤ infR := by decide
                 omega), if_neg (by omega), if_neg (by omega)]

/-! ### order -/
theorem compare_mul (x y : Int) {k : Int} (hk : 0 < k) : compare (x * k) (y * k) = compare x y := by
  rcases Int.lt_trichotomy x y with h | h | h
  · rw [Int.compare_eq_lt.2 h, Int.compare_eq_lt.2 (Int.mul_lt_mul_of_pos_right h hk)]
  · subst h; simp
  · rw [Int.compare_eq_gt.2 h, Int.compare_eq_gt.2 (Int.mul_lt_mul_of_pos_right h hk)]

theorem signed_mul (s : Bool) (m up k : Nat) : signed s m up * (2 ^ k : Nat) = signed s m (up + k) := by
  unfold signed
  cases s <;> simp [Nat.shiftLeft_eq, Nat.pow_add, Int.mul_assoc, Int.neg_mul]

theorem signed_val (b m e : Nat) (h : m * 2 ^ e = M (rung b)) : signed (neg b) m e = val b := by
  unfold signed val
  rw [Nat.shiftLeft_eq, h]

theorem order_finite (a b : Nat) (ha : rung a < infR) (hb : rung b < infR) : double.order a b = some (compare (val a) (val b)) := by
  obtain ⟨m, e, hr, hm, _⟩ := read_finite a ha
  obtain ⟨n, f, hs, hn, _⟩ := read_finite b hb
  unfold Format.order
  rw [hr, hs]
  simp only [Datum.order]
  congr 1
  have hmin : min ((e : Int) - 1074) ((f : Int) - 1074) = ((min e f : Nat) : Int) - 1074 := by omega
  rw [hmin]
  have h1 : ((e : Int) - 1074 - (((min e f : Nat) : Int) - 1074)).toNat = e - min e f := by omega
  have h2 : ((f : Int) - 1074 - (((min e f : Nat) : Int) - 1074)).toNat = f - min e f := by omega
  rw [h1, h2, ← signed_val a m e hm, ← signed_val b n f hn]
  have k1 := signed_mul (neg a) m (e - min e f) (min e f)
  have k2 := signed_mul (neg b) n (f - min e f) (min e f)
  rw [show e - min e f + min e f = e by omega] at k1
  rw [show f - min e f + min e f = f by omega] at k2
  rw [← k1, ← k2]
  exact (compare_mul _ _ (by exact_mod_cast Nat.two_pow_pos (min e f))).symm

theorem val_lt_inf (a : Nat) (ha : rung a < infR) : -(M infR : Int) < val a ∧ val a < M infR := by
  have := M_lt ha
  unfold val
  split <;> omega

/-- The order of two words is their values' order; an infinity is the rung behind the greatest number. -/
theorem order_eq (a b : Nat) : double.order a b = if nan a || nan b then none else some (compare (val a) (val b)) := by
  by_cases na : infR < rung a
  · have : nan a = true := by simpa [nan] using na
    rw [this]
    unfold Format.order
    rw [read_nan a na]
    rfl
  by_cases nb : infR < rung b
  · have : nan b = true := by simpa [nan] using nb
    rw [this]
    unfold Format.order
    rw [read_nan b nb]
    cases double.read a <;> simp [Datum.order]
  have h1 : nan a = false := by simpa [nan] using na
  have h2 : nan b = false := by simpa [nan] using nb
  rw [h1, h2]
  simp only [Bool.or_false, Bool.false_eq_true, if_false]
  by_cases ha : rung a < infR
  · by_cases hb : rung b < infR
    · exact order_finite a b ha hb
    · have hb' : rung b = infR := by omega
      have hv := val_lt_inf a ha
      obtain ⟨m, e, hr, _⟩ := read_finite a ha
      unfold Format.order
      rw [hr, read_inf b hb']
      simp only [Datum.order]
      congr 1
      by_cases s : neg b = true
      · rw [s, if_pos rfl]
        have : val b = -(M infR : Int) := by unfold val; rw [if_pos s, hb']
        rw [this]
        exact (Int.compare_eq_gt.2 hv.1).symm
      · have s' : neg b = false := by simpa using s
        rw [s', if_neg (by simp)]
        have : val b = (M infR : Int) := by unfold val; rw [if_neg s, hb']
        rw [this]
        exact (Int.compare_eq_lt.2 hv.2).symm
  · have ha' : rung a = infR := by omega
    by_cases hb : rung b < infR
    · have hv := val_lt_inf b hb
      obtain ⟨m, e, hr, _⟩ := read_finite b hb
      unfold Format.order
      rw [hr, read_inf a ha']
      simp only [Datum.order]
      congr 1
      by_cases s : neg a = true
      · rw [s, if_pos rfl]
        have : val a = -(M infR : Int) := by unfold val; rw [if_pos s, ha']
        rw [this]
        exact (Int.compare_eq_lt.2 hv.1).symm
      · have s' : neg a = false := by simpa using s
        rw [s', if_neg (by simp)]
        have : val a = (M infR : Int) := by unfold val; rw [if_neg s, ha']
        rw [this]
        exact (Int.compare_eq_gt.2 hv.2).symm
    · have hb' : rung b = infR := by omega
      have hp : 0 < M infR := M_pos (by decide)
      unfold Format.order
      rw [read_inf a ha', read_inf b hb']
      simp only [Datum.order]
      congr 1
      cases sa : neg a <;> cases sb : neg b <;> simp only [val, sa, sb, ha', hb', Bool.toNat_true, Bool.toNat_false, Bool.false_eq_true, if_false, if_true]
      · simp
      · rw [Int.compare_eq_gt.2 (by omega)]; decide
      · rw [Int.compare_eq_lt.2 (by omega)]; decide
      · simp


/-! ### rounding where the result is exact -/
theorem log2_of {n k : Nat} (h1 : 2 ^ k ≤ n) (h2 : n < 2 ^ (k + 1)) : n.log2 = k :=
  (Nat.log2_eq_iff (by have := Nat.two_pow_pos k; omega)).2 ⟨h1, h2⟩

theorem log2_mul_pow {n : Nat} (h : n ≠ 0) (k : Nat) : (n * 2 ^ k).log2 = n.log2 + k := by
  have h1 := Nat.log2_self_le h
  have h2 := @Nat.lt_log2_self n
  refine log2_of ?_ ?_
  · rw [Nat.pow_add]; exact Nat.mul_le_mul_right _ h1
  · rw [show n.log2 + k + 1 = (n.log2 + 1) + k by omega, Nat.pow_add]; exact Nat.mul_lt_mul_of_pos_right h2 (Nat.two_pow_pos k)

theorem cut_exact (way : Toward) (s : Bool) (K d : Nat) : way.cut s (K * 2 ^ d) d = K := by
  unfold Toward.cut
  by_cases hK : K = 0
  · subst hK
    cases way <;> simp [Nat.shiftLeft_eq]
  · have hd : d ≤ (K * 2 ^ d).log2 := by rw [log2_mul_pow hK]; omega
    rw [show min d ((K * 2 ^ d).log2 + 2) = d by omega]
    have hp := Nat.two_pow_pos d
    simp only [Nat.shiftLeft_eq, Nat.one_mul, Nat.mul_div_cancel _ hp, Nat.mul_mod_left]
    cases way <;> simp <;> omega

/-- The place of the last digit kept, as a number of binades. -/
def low (r : Nat) : Nat := if r < 9007199254740992 then 0 else r / 4503599627370496 - 1
def sig (r : Nat) : Nat := if r < 9007199254740992 then r else 4503599627370496 + r % 4503599627370496
theorem sig_lt (r : Nat) : sig r < 9007199254740992 := by unfold sig; split <;> omega
theorem M_sig (r : Nat) : M r = sig r * 2 ^ low r := by
  unfold sig low
  split
  · rename_i h; rw [M_low h]; simp
  · rename_i h; exact M_big (by omega)
theorem low_sig (r : Nat) : low r * 4503599627370496 + sig r = r := by
  unfold sig low
  split <;> omega
theorem sig_ge {r : Nat} (h : 9007199254740992 ≤ r) : 4503599627370496 ≤ sig r := by unfold sig; rw [if_neg (by omega)]; omega

theorem nearest_exact (s : Bool) (mag : Nat) (place : Int) (r : Nat) (hr : r ≤ infR) (h : mag * 2 ^ (place + 1074).toNat = M r * 2 ^ (-(place + 1074)).toNat) :
    double.nearest s mag place = word s r := by
  unfold Format.nearest
  rw [dbl_least, dbl_frac, dbl_binade, dbl_inf]
  simp only [dbl_word]
  by_cases hm : mag = 0
  · subst hm
    rw [if_pos rfl]
    have h0 : M r * 2 ^ (-(place + 1074)).toNat = 0 := by rw [← h]; simp
    have : M r = 0 := by
      rcases Nat.mul_eq_zero.1 h0 with h0 | h0
      · exact h0
      · have := Nat.two_pow_pos (-(place + 1074)).toNat; omega
    rw [M_inj (this.trans M_zero.symm)]
  rw [if_neg hm]
  have hr0 : r ≠ 0 := by
    intro e
    subst e
    rw [M_zero, Nat.zero_mul] at h
    rcases Nat.mul_eq_zero.1 h with h0 | h0
    · exact hm h0
    · have := Nat.two_pow_pos (place + 1074).toNat; omega
  have hs0 : sig r ≠ 0 := by
    intro e
    have := M_pos (r := r) (by omega)
    rw [M_sig, e] at this
    omega
  have hlog : (mag.log2 : Int) + (place + 1074) = (sig r).log2 + low r := by
    have e1 := log2_mul_pow hm (place + 1074).toNat
    have e2 := log2_mul_pow (n := M r) (by have := M_pos (r := r) (by omega); omega) (-(place + 1074)).toNat
    rw [h, e2, M_sig, log2_mul_pow hs0] at e1
    omega
  have hlt : (sig r).log2 < 53 := (Nat.log2_lt hs0).2 (by have := sig_lt r; omega)
  have hlast : max (place + (mag.log2 : Int) - (52 : Nat)) (-1074) = (low r : Int) - 1074 := by
    by_cases h53 : r < 9007199254740992
    · have : low r = 0 := by unfold low; rw [if_pos h53]
      omega
    · have hg := sig_ge (r := r) (by omega)
      have : (sig r).log2 = 52 := log2_of (by rw [two52]; exact hg) (by rw [two53]; exact sig_lt r)
      omega
  rw [hlast]
  have hcut : mag <<< (place - ((low r : Int) - 1074)).toNat = sig r * 2 ^ ((low r : Int) - 1074 - place).toNat := by
    rw [Nat.shiftLeft_eq]
    rw [M_sig] at h
    by_cases c1 : (low r : Int) ≤ place + 1074
    · rw [show ((low r : Int) - 1074 - place).toNat = 0 by omega, Nat.pow_zero, Nat.mul_one]
      rw [show (-(place + 1074)).toNat = 0 by omega, Nat.pow_zero, Nat.mul_one, show (place + 1074).toNat = (place - ((low r : Int) - 1074)).toNat + low r by omega, Nat.pow_add, ← Nat.mul_assoc] at h
      exact Nat.eq_of_mul_eq_mul_right (Nat.two_pow_pos _) h
    · rw [show (place - ((low r : Int) - 1074)).toNat = 0 by omega, Nat.pow_zero, Nat.mul_one]
      by_cases c2 : 0 ≤ place + 1074
      · rw [show (-(place + 1074)).toNat = 0 by omega, Nat.pow_zero, Nat.mul_one, show low r = ((low r : Int) - 1074 - place).toNat + (place + 1074).toNat by omega, Nat.pow_add, ← Nat.mul_assoc] at h
        exact Nat.eq_of_mul_eq_mul_right (Nat.two_pow_pos _) h
      · rw [show (place + 1074).toNat = 0 by omega, Nat.pow_zero, Nat.mul_one, Nat.mul_assoc, ← Nat.pow_add, show low r + (-(place + 1074)).toNat = ((low r : Int) - 1074 - place).toNat by omega] at h
        exact h
  rw [hcut, cut_exact, show ((low r : Int) - 1074 - -1074).toNat = low r by omega, low_sig]
  rw [show min r infR = r by omega]

/-! ### truncation -/
theorem cut_zero (s : Bool) (n d : Nat) : Toward.zero.cut s n d = n / 2 ^ d := by
  unfold Toward.cut
  simp only [Bool.toNat_false, Nat.add_zero, Nat.shiftLeft_eq, Nat.one_mul]
  by_cases h : d ≤ n.log2 + 2
  · rw [show min d (n.log2 + 2) = d by omega]
  · rw [show min d (n.log2 + 2) = n.log2 + 2 by omega]
    have h1 := @Nat.lt_log2_self n
    have h2 : 2 ^ (n.log2 + 1) ≤ 2 ^ (n.log2 + 2) := Nat.pow_le_pow_right (by decide) (by omega)
    have h3 : 2 ^ (n.log2 + 1) ≤ 2 ^ d := Nat.pow_le_pow_right (by decide) (by omega)
    rw [Nat.div_eq_of_lt (by omega), Nat.div_eq_of_lt (by omega)]

/-- The least place, behind a name: no power of two is to be reckoned out. -/
def k0 : Nat := 1074
theorem k0_eq : k0 = 1074 := rfl
def U : Nat := 2 ^ k0
theorem pow_k0 : (2 : Nat) ^ k0 = U := by unfold U; rfl
theorem U_pos : 0 < U := Nat.two_pow_pos _

theorem shift_div0 (m e k : Nat) : (m <<< ((e : Int) - k).toNat) / 2 ^ (-((e : Int) - k)).toNat = m * 2 ^ e / 2 ^ k := by
  rw [Nat.shiftLeft_eq]
  by_cases h : k ≤ e
  · rw [show (-((e : Int) - k)).toNat = 0 by omega, Nat.pow_zero, Nat.div_one, show m * 2 ^ e = m * 2 ^ ((e : Int) - k).toNat * 2 ^ k by rw [Nat.mul_assoc, ← Nat.pow_add]; congr 2; omega, Nat.mul_div_cancel _ (Nat.two_pow_pos _)]
  · rw [show ((e : Int) - k).toNat = 0 by omega, Nat.pow_zero, Nat.mul_one, show 2 ^ k = 2 ^ (-((e : Int) - k)).toNat * 2 ^ e by rw [← Nat.pow_add]; congr 1; omega, Nat.mul_div_mul_right _ _ (Nat.two_pow_pos _)]
theorem shift_div (m e : Nat) : (m <<< ((e : Int) - 1074).toNat) / 2 ^ (-((e : Int) - 1074)).toNat = m * 2 ^ e / U := by
  exact shift_div0 m e k0

/-- The whole part of a finite word, towards zero. -/
def tr (b : Nat) : Int := if neg b then -((M (rung b) / U : Nat) : Int) else ((M (rung b) / U : Nat) : Int)
theorem integral_zero (b : Nat) (h : rung b < infR) : (double.read b).integral .zero = .number (neg b) (M (rung b) / U) 0 := by
  obtain ⟨m, e, hr, hm, _⟩ := read_finite b h
  rw [hr]
  simp only [Datum.integral, cut_zero, shift_div, hm]
theorem toInt_zero (b : Nat) (h : rung b < infR) : (double.read b).toInt .zero = some (tr b) := by
  unfold Datum.toInt
  rw [integral_zero b h]
  simp [signed, tr]

/-- The rung of a whole number below 2^53. -/
theorem whole_rung (K : Nat) (h : K ≤ 9007199254740992) : ∃ r, r < infR ∧ M r = K * U := by
  rcases Nat.eq_zero_or_pos K with h0 | h0
  · exact ⟨0, by decide, by rw [M_zero, h0]; simp⟩
  have h1 := Nat.log2_self_le (n := K) (by omega)
  have h2 := @Nat.lt_log2_self K
  by_cases hK : K = 9007199254740992
  · refine ⟨(1023 + 53) * 4503599627370496, by decide, ?_⟩
    rw [M_big (by decide), hK, show ((1023 + 53) * 4503599627370496) % 4503599627370496 = 0 by decide, show ((1023 + 53) * 4503599627370496) / 4503599627370496 - 1 = 1 + k0 by decide, Nat.pow_add]
    unfold U
    omega
  have h3 : K.log2 ≤ 52 := by
    have := (Nat.log2_lt (n := K) (k := 53) (by omega)).2 (by rw [two53]; omega)
    omega
  have hp : 2 ^ K.log2 * 2 ^ (52 - K.log2) = 4503599627370496 := by rw [← Nat.pow_add, show K.log2 + (52 - K.log2) = 52 by omega, two52]
  have h4 : 4503599627370496 ≤ K * 2 ^ (52 - K.log2) := by rw [← hp]; exact Nat.mul_le_mul_right _ h1
  have h5 : K * 2 ^ (52 - K.log2) < 9007199254740992 := by
    have : K * 2 ^ (52 - K.log2) < 2 ^ (K.log2 + 1) * 2 ^ (52 - K.log2) := Nat.mul_lt_mul_of_pos_right h2 (Nat.two_pow_pos _)
    rw [Nat.pow_succ, Nat.mul_assoc, Nat.mul_comm 2, ← Nat.mul_assoc, hp] at this
    omega
  refine ⟨(1023 + K.log2) * 4503599627370496 + (K * 2 ^ (52 - K.log2) - 4503599627370496), by unfold infR; omega, ?_⟩
  rw [M_big (by omega), show ((1023 + K.log2) * 4503599627370496 + (K * 2 ^ (52 - K.log2) - 4503599627370496)) % 4503599627370496 = K * 2 ^ (52 - K.log2) - 4503599627370496 by omega,
    show ((1023 + K.log2) * 4503599627370496 + (K * 2 ^ (52 - K.log2) - 4503599627370496)) / 4503599627370496 = 1023 + K.log2 by omega,
    show 4503599627370496 + (K * 2 ^ (52 - K.log2) - 4503599627370496) = K * 2 ^ (52 - K.log2) by omega, Nat.mul_assoc, ← Nat.pow_add]
  unfold U
  rw [show 52 - K.log2 + (1023 + K.log2 - 1) = k0 by rw [k0_eq]; omega]

/-- What is cut off a word leaves a word. -/
theorem trunc_rung (r : Nat) (h : r < infR) : ∃ r', r' < infR ∧ M r' = M r / U * U ∧ (r' = r ∨ M r / U < 9007199254740992) := by
  by_cases hb : 1074 ≤ low r
  · refine ⟨r, h, ?_, .inl rfl⟩
    rw [M_sig, show low r = (low r - k0) + k0 by rw [k0_eq]; omega, Nat.pow_add, ← Nat.mul_assoc]
    unfold U
    rw [Nat.mul_div_cancel _ (Nat.two_pow_pos _)]
  · have hlt : M r / U < 9007199254740992 := by
      rw [Nat.div_lt_iff_lt_mul U_pos, M_sig]
      unfold U
      exact Nat.lt_of_le_of_lt (Nat.mul_le_mul_left _ (Nat.pow_le_pow_right (by decide) (show low r ≤ k0 by rw [k0_eq]; omega))) (Nat.mul_lt_mul_of_pos_right (sig_lt r) (Nat.two_pow_pos _))
    obtain ⟨r', h1, h2⟩ := whole_rung (M r / U) (by omega)
    exact ⟨r', h1, h2, .inr hlt⟩
end Go.Proofs.Flt
