/- Cut down from the texts of the same job by wip/shake.py to what this claim reaches. -/
import Derived.Laws.Strings
import Derived.Test.YtdjlbfaiccdbfaaKLGx16
import Derived.Test.YtdjlbfaiccdbfaaKLGL2
namespace Go.Proofs.Ytdjlbfaiccdbfaa.PAll
open Go Go.RowKit Go.Proofs.YtdjlbfaiccdbfaaW.PrintWords Go.Proofs.YtdjlbfaiccdbfaaW.PrintLast Go.Proofs.YtdjlbfaiccdbfaaW.PrintMore Go.Proofs.Flt Ieee
set_option linter.unusedVariables false
set_option linter.unusedSimpArgs false
def sgn (a b : Int) : Int := if a < b then -1 else if a > b then 1 else 0
theorem sgn_range (a b : Int) : -1 ≤ sgn a b ∧ sgn a b ≤ 1 := by
  unfold sgn
  by_cases h : a < b
  · rw [if_pos h]; decide
  · rw [if_neg h]
    by_cases h : a > b
    · rw [if_pos h]; decide
    · rw [if_neg h]; decide
def iff_ (n : Int) (f : Nat) : Int := sgn (n * U) (val f)
theorem le_mul {a b : Int} (h : a ≤ b) : a * (U : Int) ≤ b * U := Int.mul_le_mul_of_nonneg_right h (Int.natCast_nonneg _)
theorem lt_mul {a b : Int} (h : a < b) : a * (U : Int) < b * U := Int.mul_lt_mul_of_pos_right h Ui_pos
theorem lo_mul {n : Int} (h : -9223372036854775808 ≤ n) : -((K63 * U : Nat) : Int) ≤ n * U := by
  have := le_mul h
  have e : (-9223372036854775808 : Int) * U = -((K63 * U : Nat) : Int) := by
    have : ((K63 : Nat) : Int) = 9223372036854775808 := by decide
    push_cast; rw [this, Int.neg_mul]
  omega
theorem hi_mul {n : Int} (h : n ≤ 9223372036854775807) : n * U < ((K63 * U : Nat) : Int) := by
  have := lt_mul (show n < 9223372036854775808 by omega)
  have e : (9223372036854775808 : Int) * U = ((K63 * U : Nat) : Int) := by
    have : ((K63 : Nat) : Int) = 9223372036854775808 := by decide
    push_cast; rw [this]
  omega
theorem out_cases {n : Int} {f : Nat} (hn : nan f = false) (hlo : -9223372036854775808 ≤ n) (hhi : n ≤ 9223372036854775807) :
    (fgeq f 4890909195324358656 = true ∧ iff_ n f = -1) ∨ (fgeq f 4890909195324358656 = false ∧ flss f 14114281232179134464 = true ∧ iff_ n f = 1) ∨ (fgeq f 4890909195324358656 = false ∧ flss f 14114281232179134464 = false ∧ inr f) := by
  have e1 : fgeq f 4890909195324358656 = decide (((K63 * U : Nat) : Int) ≤ val f) := by
    rw [fgeq_iff, val_two63]; simp [hn, nan_consts]
  have e2 : flss f 14114281232179134464 = decide (val f < -((K63 * U : Nat) : Int)) := by
    rw [flss_iff, val_m63]; simp [hn, nan_consts]
  have l := lo_mul hlo
  have h := hi_mul hhi
  rw [e1, e2]
  unfold iff_ sgn
  simp only [decide_eq_true_eq, decide_eq_false_iff_not]
  by_cases c1 : ((K63 * U : Nat) : Int) ≤ val f
  · left; exact ⟨c1, by rw [if_pos (by omega)]⟩
  · right
    by_cases c2 : val f < -((K63 * U : Nat) : Int)
    · left; exact ⟨c1, c2, by rw [if_neg (by omega), if_pos (by omega)]⟩
    · right; exact ⟨c1, c2, hn, by omega, by omega⟩
theorem spec_iff (k : Nat) {n : Int} {f : Nat} (hn : nan f = false) (hlo : -9223372036854775808 ≤ n) (hhi : n ≤ 9223372036854775807) : spec_l1intflt.f (k + 1) n f = some (iff_ n f) := by
  unfold spec_l1intflt.f
  rcases out_cases hn hlo hhi with ⟨a, b⟩ | ⟨a, b, c⟩ | ⟨a, b, hi⟩
  · rw [if_pos a, b]
  · rw [if_neg (by simp [a]), if_pos b, c]
  · rw [if_neg (by simp [a]), if_neg (by simp [b])]
    obtain ⟨t, ht, h1, _⟩ := spec_floor k f
    obtain ⟨n1, v1⟩ := h1 hi
    rw [ht]
    simp only [Option.bind_some]
    have hU := Ui_pos
    have g1 : val f / (U : Int) * U ≤ val f := Int.ediv_mul_le _ (Int.ne_of_gt hU)
    have g2 : val f < (val f / (U : Int) + 1) * U := Int.lt_ediv_add_one_mul_self _ hU
    obtain ⟨_, i1, i2⟩ := hi
    generalize hq : val f / (U : Int) = q at *
    have l : -((K63 * U : Nat) : Int) ≤ q * U := by
      rcases Int.lt_or_le q (-9223372036854775808) with c | c
      · exfalso
        have := le_mul (show q + 1 ≤ -9223372036854775808 by omega)
        have e : (-9223372036854775808 : Int) * U = -((K63 * U : Nat) : Int) := by
          have : ((K63 : Nat) : Int) = 9223372036854775808 := by decide
          push_cast; rw [this, Int.neg_mul]
        omega
      · exact lo_mul c
    have hit : inr t := ⟨n1, by rw [v1]; exact l, by rw [v1]; omega⟩
    obtain ⟨k1, k2⟩ := inr_f2i hit
    have k3 : tr t = q := tr_of_whole v1
    rw [if_pos k1, k2, k3]
    have e3 : fgtr f t = decide (q * (U : Int) < val f) := by rw [fgtr_iff, v1]; simp [hn, n1]
    rw [e3]
    unfold iff_ sgn
    rcases Int.lt_trichotomy n q with c | c | c
    · have := lt_mul c
      rw [if_pos c, if_pos (by omega)]
    · subst c
      rw [if_neg (by omega), if_neg (by omega)]
      by_cases c : n * (U : Int) < val f
      · rw [if_pos (by simpa using c), if_pos c]
      · rw [if_neg (by simpa using c), if_neg c, if_neg (by omega)]
    · have := le_mul (show q + 1 ≤ n by omega)
      rw [if_neg (by omega), if_pos c, if_neg (by omega), if_pos (by omega)]
theorem impl_iff {n : Int} {f : Nat} (hn : nan f = false) (hlo : -9223372036854775808 ≤ n) (hhi : n ≤ 9223372036854775807) : impl_intFloat.f n f = some (iff_ n f) := by
  unfold impl_intFloat.f
  rcases out_cases hn hlo hhi with ⟨a, b⟩ | ⟨a, b, c⟩ | ⟨a, b, hi⟩
  · rw [if_pos a, b]
  · rw [if_neg (by simp [a]), if_pos b, c]
  · rw [if_neg (by simp [a]), if_neg (by simp [b])]
    unfold math_Trunc.f
    rw [fnan_eq, hn]
    simp only [Bool.false_eq_true, if_false, Option.bind_some]
    obtain ⟨v1, n1⟩ := val_ftrunc (inr_fin hi)
    have ht := inr_tr hi
    have hit : inr (ftrunc f) := ⟨n1, by rw [v1]; exact lo_mul ht.1, by rw [v1]; exact hi_mul ht.2⟩
    obtain ⟨k1, k2⟩ := inr_f2i hit
    have k3 : tr (ftrunc f) = tr f := tr_of_whole v1
    rw [if_pos k1, k2, k3]
    have e3 : fgtr f (ftrunc f) = decide (tr f * (U : Int) < val f) := by rw [fgtr_iff, v1]; simp [hn, n1]
    have e4 : flss f (ftrunc f) = decide (val f < tr f * (U : Int)) := by rw [flss_iff, v1]; simp [hn, n1]
    rw [e3, e4]
    have hc := tr_cases f
    generalize tr f = q at *
    unfold iff_ sgn impl_order64.f
    rcases Int.lt_trichotomy n q with c | c | c
    · have g := lt_mul c
      have g2 := le_mul (show n ≤ q - 1 by omega)
      rw [if_pos c]
      simp only [Option.bind_some]
      rw [if_neg (by decide), if_pos (by omega)]
    · subst c
      rw [if_neg (by omega), if_neg (by omega)]
      simp only [Option.bind_some, if_true]
      by_cases c : n * (U : Int) < val f
      · rw [if_pos (by simpa using c), if_pos c]
      · rw [if_neg (by simpa using c), if_neg c]
        by_cases c' : n * (U : Int) > val f
        · rw [if_pos (by simpa using c'), if_pos c']
        · rw [if_neg (by simpa using c'), if_neg c']
    · have g := le_mul (show q + 1 ≤ n by omega)
      have g2 := lt_mul c
      rw [if_neg (by omega), if_pos c]
      simp only [Option.bind_some]
      rw [if_neg (by decide), if_neg (by omega), if_pos (by omega)]
def scmp (x y : List UInt8) : Int := if Op.bytesLess x y = true then -1 else if Op.bytesLess y x = true then 1 else 0
theorem scmp_cons (a b : UInt8) (x y : List UInt8) : scmp (a :: x) (b :: y) = if a < b then -1 else if b < a then 1 else scmp x y := by
  unfold scmp
  simp only [Op.bytesLess]
  by_cases h1 : a < b
  · simp [h1]
  · by_cases h2 : b < a
    · have hne : ¬ a = b := by rintro rfl; exact h1 h2
      simp [h1, h2, hne]
    · have : a = b := by
        apply UInt8.toNat_inj.mp
        rw [UInt8.lt_iff_toNat_lt] at h1 h2
        omega
      subst this
      simp
theorem toList_len (s : ByteArray) : s.toList.length = s.size := by rw [ByteArray.toList_eq]; exact Array.length_toList
theorem toList_at (s : ByteArray) {i : Nat} (h : i < s.size) : s.toList[i]'(by rw [toList_len]; exact h) = s[i]'h := by
  have e := ByteArray.toList_eq s
  have : s.toList[i]? = s.data.toList[i]? := by rw [e]
  have h1 : s.toList[i]? = some (s.toList[i]'(by rw [toList_len]; exact h)) := List.getElem?_eq_getElem _
  have h2 : s.data.toList[i]? = some (s[i]'h) := by
    rw [List.getElem?_eq_getElem (by rw [Array.length_toList]; exact h)]; rfl
  rw [h1, h2] at this
  exact Option.some.inj this
theorem btn (s : ByteArray) {i : Nat} (h : i < s.size) : bt s (i : Int) = ((s[i]'h).toNat : Int) := (bt_at s (i : Int) (by simpa using h)).symm
theorem spec_strings_l0 (x y : ByteArray) (hx : x.size ≤ 9223372036854775806) : ∀ (n i : Nat) (k : Nat), i + n = x.size → i ≤ y.size →
    spec_l1strings.l0 (2 * n + 2 + k) x y i = some (scmp (x.toList.drop i) (y.toList.drop i))
  | 0, i, k, h, hy => by
    rw [show 2 * 0 + 2 + k = (k + 1) + 1 by omega, spec_l1strings.l0, if_neg (by omega), spec_l1strings.j1, if_neg (by simp)]
    rw [List.drop_of_length_le (l := x.toList) (by rw [toList_len]; omega)]
    by_cases c : (x.size : Int) < y.size
    · rw [if_pos c]
      have : y.toList.drop i = (y.toList[i]'(by rw [toList_len]; omega)) :: y.toList.drop (i + 1) := List.drop_eq_getElem_cons _
      rw [this]; simp [scmp, Op.bytesLess]
    · rw [if_neg c, if_neg (by omega), List.drop_of_length_le (l := y.toList) (by rw [toList_len]; omega)]
      simp [scmp, Op.bytesLess]
  | n + 1, i, k, h, hy => by
    have hi : i < x.size := by omega
    rw [show 2 * (n + 1) + 2 + k = ((2 * n + 2 + k) + 1) + 1 by omega, spec_l1strings.l0, if_pos (by omega), spec_l1strings.j1]
    have ex : x.toList.drop i = (x.toList[i]'(by rw [toList_len]; omega)) :: x.toList.drop (i + 1) := List.drop_eq_getElem_cons _
    rw [ex, toList_at x hi]
    by_cases c : i < y.size
    · have ey : y.toList.drop i = (y.toList[i]'(by rw [toList_len]; omega)) :: y.toList.drop (i + 1) := List.drop_eq_getElem_cons _
      rw [ey, toList_at y c, scmp_cons, if_pos (by simpa using c), if_pos (by omega), if_pos (by omega), if_pos (by omega), btn x hi, btn y c]
      by_cases c1 : x[i] < y[i]
      · rw [if_pos c1, if_pos (by rw [UInt8.lt_iff_toNat_lt] at c1; omega)]
      · rw [if_neg c1, if_neg (by rw [UInt8.lt_iff_toNat_lt] at c1; omega)]
        by_cases c2 : y[i] < x[i]
        · rw [if_pos c2, if_pos (by rw [UInt8.lt_iff_toNat_lt] at c2; omega)]
        · rw [if_neg c2, if_neg (by rw [UInt8.lt_iff_toNat_lt] at c2; omega)]
          rw [show wrap64 ((i : Int) + 1) = ((i + 1 : Nat) : Int) by unfold wrap64; omega]
          exact spec_strings_l0 x y hx n (i + 1) k (by omega) (by omega)
    · rw [if_neg (by simpa using c), if_neg (by omega), if_pos (by omega), List.drop_of_length_le (l := y.toList) (by rw [toList_len]; omega)]
      simp [scmp, Op.bytesLess]
theorem spec_strings (x y : ByteArray) (hx : x.size ≤ 9223372036854775806) (k : Nat) : spec_l1strings.f (2 * x.size + 2 + k) x y = some (scmp x.toList y.toList) := by
  have := spec_strings_l0 x y hx x.size 0 k (by omega) (by omega)
  simpa [spec_l1strings.f] using this
def cmpOf (a n : Int) (f : Nat) (s : ByteArray) (r : Int) (a' n' : Int) (f' : Nat) (s' : ByteArray) (r' : Int) : Int :=
  if ¬ (vok a n f s r = true ∧ vok a' n' f' s' r' = true) then 3
  else if a = 4 ∧ a' = 4 then scmp s.toList s'.toList
  else if ¬ ((a = 2 ∨ a = 3) ∧ (a' = 2 ∨ a' = 3)) then 3
  else if (a = 3 ∧ nan f = true) ∨ (a' = 3 ∧ nan f' = true) then 2
  else if a = 2 ∧ a' = 3 then iff_ n f'
  else if a = 3 ∧ a' = 2 then - iff_ n' f
  else if a = 2 then sgn n n'
  else if flss f f' = true then -1 else if fgtr f f' = true then 1 else 0
theorem iff_neg_wrap (n : Int) (f : Nat) : wrap64 (-(iff_ n f)) = -(iff_ n f) := by
  have := sgn_range (n * U) (val f)
  unfold iff_ wrap64
  omega
theorem spec_compare (k : Nat) (a n : Int) (f : Nat) (s : ByteArray) (r : Int) (a' n' : Int) (f' : Nat) (s' : ByteArray) (r' : Int)
    (hs : s.size ≤ 9223372036854775806) (hn : -9223372036854775808 ≤ n ∧ n ≤ 9223372036854775807) (hn' : -9223372036854775808 ≤ n' ∧ n' ≤ 9223372036854775807) :
    spec_Compare.f (2 * s.size + k + 12) a n f s r a' n' f' s' r' = some (cmpOf a n f s r a' n' f' s' r') := by
  unfold spec_Compare.f
  rw [show 2 * s.size + k + 12 = (2 * s.size + k + 11) + 1 by omega, spec_valueOk, spec_valueOk]
  unfold cmpOf
  cases h1 : vok a n f s r with
  | false => simp [spec_Compare.j0]
  | true =>
  cases h2 : vok a' n' f' s' r' with
  | false => simp [spec_Compare.j0]
  | true =>
  simp only [Option.bind_some, if_true, Bool.not_true, spec_Compare.j0, Bool.false_eq_true, if_false, not_true_eq_false, and_self]
  by_cases h4 : a = 4 ∧ a' = 4
  · rw [if_pos h4.1, if_pos h4]
    rw [show 2 * s.size + k + 11 = (2 * s.size + 2 + (k + 8)) + 1 by omega, spec_Compare.j1, if_pos (by simp [h4.2]), spec_strings s s' hs]
    rfl
  · rw [if_neg h4]
    have e : (if a = 4 then spec_Compare.j1 (2 * s.size + k + 11) (a' == 4) a n f s r a' n' f' s' r' else spec_Compare.j1 (2 * s.size + k + 11) false a n f s r a' n' f' s' r') = spec_Compare.j1 (2 * s.size + k + 11) false a n f s r a' n' f' s' r' := by
      by_cases c : a = 4
      · rw [if_pos c]
        have : (a' == 4) = false := by simp; exact fun h => h4 ⟨c, h⟩
        rw [this]
      · rw [if_neg c]
    rw [e, show 2 * s.size + k + 11 = (2 * s.size + k + 6) + 5 by omega, spec_Compare.j1]
    simp only [spec_l1num.f, spec_l1nan.f, fne_self]
    by_cases a2 : a = 2
    · subst a2
      by_cases b2 : a' = 2
      · subst b2; simp [spec_Compare.j2, spec_Compare.j3, spec_Compare.j4, spec_Compare.j5, spec_l1nan.f, fne_self, sgn]
        repeat' split
        all_goals rfl
      · by_cases b3 : a' = 3
        · subst b3
          cases hf : nan f' with
          | true => simp [spec_Compare.j2, spec_Compare.j3, spec_Compare.j4, spec_Compare.j5, spec_l1nan.f, fne_self, hf]
          | false => simp [spec_Compare.j2, spec_Compare.j3, spec_Compare.j4, spec_Compare.j5, spec_l1nan.f, fne_self, hf, spec_iff _ hf hn.1 hn.2]
        · simp [spec_Compare.j2, b2, b3]
    · by_cases a3 : a = 3
      · subst a3
        by_cases b2 : a' = 2
        · subst b2
          cases hf : nan f with
          | true => simp [spec_Compare.j2, spec_Compare.j3, spec_Compare.j4, spec_Compare.j5, spec_l1nan.f, fne_self, hf]
          | false => simp [spec_Compare.j2, spec_Compare.j3, spec_Compare.j4, spec_Compare.j5, spec_l1nan.f, fne_self, hf, spec_iff _ hf hn'.1 hn'.2, iff_neg_wrap]
        · by_cases b3 : a' = 3
          · subst b3
            cases hf : nan f <;> cases hf' : nan f' <;> simp [spec_Compare.j2, spec_Compare.j3, spec_Compare.j4, spec_Compare.j5, spec_l1nan.f, fne_self, hf, hf']
            repeat' split
            all_goals rfl
          · simp [spec_Compare.j2, b2, b3]
      · simp [spec_Compare.j2, a2, a3]
theorem impl_compare (k : Nat) (a n : Int) (f : Nat) (s : ByteArray) (r : Int) (a' n' : Int) (f' : Nat) (s' : ByteArray) (r' : Int)
    (hn : -9223372036854775808 ≤ n ∧ n ≤ 9223372036854775807) (hn' : -9223372036854775808 ≤ n' ∧ n' ≤ 9223372036854775807) :
    impl_Compare.f (k + 12) a n f s r a' n' f' s' r' = some (cmpOf a n f s r a' n' f' s' r') := by
  unfold impl_Compare.f
  rw [impl_valueOk, impl_valueOk]
  unfold cmpOf
  cases h1 : vok a n f s r with
  | false => simp [impl_Compare.j0]
  | true =>
  cases h2 : vok a' n' f' s' r' with
  | false => simp [impl_Compare.j0]
  | true =>
  simp only [Option.bind_some, if_true, Bool.not_true, impl_Compare.j0, Bool.false_eq_true, if_false, not_true_eq_false, and_self]
  by_cases h4 : a = 4 ∧ a' = 4
  · rw [if_pos h4.1, if_pos h4]
    rw [impl_Compare.j1, if_pos (by simp [h4.2])]
    unfold scmp
    repeat' split
    all_goals rfl
  · rw [if_neg h4]
    have e : (if a = 4 then impl_Compare.j1 (k + 11) (a' == 4) a n f s r a' n' f' s' r' else impl_Compare.j1 (k + 11) false a n f s r a' n' f' s' r') = impl_Compare.j1 (k + 11) false a n f s r a' n' f' s' r' := by
      by_cases c : a = 4
      · rw [if_pos c]
        have : (a' == 4) = false := by simp; exact fun h => h4 ⟨c, h⟩
        rw [this]
      · rw [if_neg c]
    rw [e, impl_Compare.j1]
    simp only [impl_number.f, fne_self]
    by_cases a2 : a = 2
    · subst a2
      by_cases b2 : a' = 2
      · subst b2; simp [impl_Compare.j2, impl_Compare.j3, impl_Compare.j4, fne_self, impl_order64.f, sgn]
        repeat' split
        all_goals rfl
      · by_cases b3 : a' = 3
        · subst b3
          cases hf : nan f' with
          | true => simp [impl_Compare.j2, impl_Compare.j3, impl_Compare.j4, fne_self, hf]
          | false => simp [impl_Compare.j2, impl_Compare.j3, impl_Compare.j4, fne_self, hf, impl_iff hf hn.1 hn.2]
        · simp [impl_Compare.j2, b2, b3]
    · by_cases a3 : a = 3
      · subst a3
        by_cases b2 : a' = 2
        · subst b2
          cases hf : nan f with
          | true => simp [impl_Compare.j2, impl_Compare.j3, impl_Compare.j4, fne_self, hf]
          | false => simp [impl_Compare.j2, impl_Compare.j3, impl_Compare.j4, fne_self, hf, impl_iff hf hn'.1 hn'.2, iff_neg_wrap]
        · by_cases b3 : a' = 3
          · subst b3
            cases hf : nan f <;> cases hf' : nan f' <;> simp [impl_Compare.j2, impl_Compare.j3, impl_Compare.j4, fne_self, hf, hf']
            repeat' split
            all_goals rfl
          · simp [impl_Compare.j2, b2, b3]
      · simp [impl_Compare.j2, a2, a3]
end Go.Proofs.Ytdjlbfaiccdbfaa.PAll
