/- Values: the order of numbers, sameness; both ways. -/
import Derived.Test.YtgfkbcmdegnneaaPB
namespace Go.Proofs.IM
open Go Go.RowKit Go.Proofs.Flt Ieee
def sgn (a b : Int) : Int := if a < b then -1 else if a > b then 1 else 0
theorem sgn_range (a b : Int) : -1 ≤ sgn a b ∧ sgn a b ≤ 1 := by
  unfold sgn
  by_cases h : a < b
  · rw [if_pos h]; decide
  · rw [if_neg h]
    by_cases h : a > b
    · rw [if_pos h]; decide
    · rw [if_neg h]; decide
/-- The order of an integer and a float that is no NaN. -/
def iff_ (n : Int) (f : Nat) : Int := sgn (n * Flt.U) (val f)
theorem le_mul {a b : Int} (h : a ≤ b) : a * (Flt.U : Int) ≤ b * Flt.U := Int.mul_le_mul_of_nonneg_right h (Int.natCast_nonneg _)
theorem lt_mul {a b : Int} (h : a < b) : a * (Flt.U : Int) < b * Flt.U := Int.mul_lt_mul_of_pos_right h Ui_pos
theorem lo_mul {n : Int} (h : -9223372036854775808 ≤ n) : -((K63 * Flt.U : Nat) : Int) ≤ n * Flt.U := by
  have := le_mul h
  have e : (-9223372036854775808 : Int) * Flt.U = -((K63 * Flt.U : Nat) : Int) := by
    have : ((K63 : Nat) : Int) = 9223372036854775808 := by decide
    push_cast; rw [this, Int.neg_mul]
  omega
theorem hi_mul {n : Int} (h : n ≤ 9223372036854775807) : n * Flt.U < ((K63 * Flt.U : Nat) : Int) := by
  have := lt_mul (show n < 9223372036854775808 by omega)
  have e : (9223372036854775808 : Int) * Flt.U = ((K63 * Flt.U : Nat) : Int) := by
    have : ((K63 : Nat) : Int) = 9223372036854775808 := by decide
    push_cast; rw [this]
  omega
/-- The three cases that both sides begin with. -/
theorem out_cases {n : Int} {f : Nat} (hn : nan f = false) (hlo : -9223372036854775808 ≤ n) (hhi : n ≤ 9223372036854775807) :
    (fgeq f 4890909195324358656 = true ∧ iff_ n f = -1) ∨ (fgeq f 4890909195324358656 = false ∧ flss f 14114281232179134464 = true ∧ iff_ n f = 1) ∨ (fgeq f 4890909195324358656 = false ∧ flss f 14114281232179134464 = false ∧ inr f) := by
  have e1 : fgeq f 4890909195324358656 = decide (((K63 * Flt.U : Nat) : Int) ≤ val f) := by
    rw [fgeq_iff, val_two63]; simp [hn, nan_consts]
  have e2 : flss f 14114281232179134464 = decide (val f < -((K63 * Flt.U : Nat) : Int)) := by
    rw [flss_iff, val_m63]; simp [hn, nan_consts]
  have l := lo_mul hlo
  have h := hi_mul hhi
  rw [e1, e2]
  unfold iff_ sgn
  simp only [decide_eq_true_eq, decide_eq_false_iff_not]
  by_cases c1 : ((K63 * Flt.U : Nat) : Int) ≤ val f
  · left; exact ⟨c1, by rw [if_pos (by omega)]⟩
  · right
    by_cases c2 : val f < -((K63 * Flt.U : Nat) : Int)
    · left; exact ⟨c1, c2, by rw [if_neg (by omega), if_pos (by omega)]⟩
    · right; exact ⟨c1, c2, hn, by omega, by omega⟩
theorem iff_spec {n : Int} {f t : Nat} (hn : nan f = false) (hi : inr f) (n1 : nan t = false) (v1 : val t = val f / Flt.U * Flt.U) : ∃ q, f2iOk .i64 t = true ∧ f2i t = q ∧ (if n < q then -1 else if n > q then 1 else if fgtr f t = true then -1 else 0) = iff_ n f := by
  have hU := Ui_pos
  have g1 : val f / (Flt.U : Int) * Flt.U ≤ val f := Int.ediv_mul_le _ (Int.ne_of_gt hU)
  have g2 : val f < (val f / (Flt.U : Int) + 1) * Flt.U := Int.lt_ediv_add_one_mul_self _ hU
  obtain ⟨_, i1, i2⟩ := hi
  generalize hq : val f / (Flt.U : Int) = q at *
  have l : -((K63 * Flt.U : Nat) : Int) ≤ q * Flt.U := by
    rcases Int.lt_or_le q (-9223372036854775808) with c | c
    · exfalso
      have := le_mul (show q + 1 ≤ -9223372036854775808 by omega)
      have e : (-9223372036854775808 : Int) * Flt.U = -((K63 * Flt.U : Nat) : Int) := by
        have : ((K63 : Nat) : Int) = 9223372036854775808 := by decide
        push_cast; rw [this, Int.neg_mul]
      omega
    · exact lo_mul c
  have hit : inr t := ⟨n1, by rw [v1]; exact l, by rw [v1]; omega⟩
  obtain ⟨k1, k2⟩ := inr_f2i hit
  have k3 : tr t = q := tr_of_whole v1
  have e3 : fgtr f t = decide (q * (Flt.U : Int) < val f) := by rw [fgtr_iff, v1]; simp [hn, n1]
  refine ⟨q, k1, by rw [k2, k3], ?_⟩
  rw [e3]
  unfold iff_ sgn
  rcases Int.lt_trichotomy n q with c | c | c
  · have := lt_mul c
    rw [if_pos c, if_pos (by omega)]
  · subst c
    rw [if_neg (by omega), if_neg (by omega)]
    by_cases c : n * (Flt.U : Int) < val f
    · rw [if_pos (by simpa using c), if_pos c]
    · rw [if_neg (by simpa using c), if_neg c, if_neg (by omega)]
  · have := le_mul (show q + 1 ≤ n by omega)
    rw [if_neg (by omega), if_pos c, if_neg (by omega), if_pos (by omega)]
theorem iff_impl {n : Int} {f : Nat} (hn : nan f = false) (hi : inr f) : ∃ q, f2iOk .i64 (ftrunc f) = true ∧ f2i (ftrunc f) = q ∧ (if sgn n q ≠ 0 then sgn n q else if fgtr f (ftrunc f) = true then -1 else if flss f (ftrunc f) = true then 1 else 0) = iff_ n f := by
  obtain ⟨v1, n1⟩ := val_ftrunc (inr_fin hi)
  have ht := inr_tr hi
  have hit : inr (ftrunc f) := ⟨n1, by rw [v1]; exact lo_mul ht.1, by rw [v1]; exact hi_mul ht.2⟩
  obtain ⟨k1, k2⟩ := inr_f2i hit
  have k3 : tr (ftrunc f) = tr f := tr_of_whole v1
  have e3 : fgtr f (ftrunc f) = decide (tr f * (Flt.U : Int) < val f) := by rw [fgtr_iff, v1]; simp [hn, n1]
  have e4 : flss f (ftrunc f) = decide (val f < tr f * (Flt.U : Int)) := by rw [flss_iff, v1]; simp [hn, n1]
  refine ⟨_, k1, k2.trans k3, ?_⟩
  rw [e3, e4]
  have hc := tr_cases f
  generalize tr f = q at *
  unfold iff_
  rcases Int.lt_trichotomy n q with c | c | c
  · have g := lt_mul c
    have g2 := le_mul (show n ≤ q - 1 by omega)
    have hs : sgn n q = -1 := by unfold sgn; rw [if_pos c]
    rw [hs, if_pos (by decide)]
    unfold sgn; rw [if_pos (by omega)]
  · subst c
    have hs : sgn n n = 0 := by unfold sgn; rw [if_neg (by omega), if_neg (by omega)]
    rw [hs, if_neg (by decide)]
    unfold sgn
    by_cases c : n * (Flt.U : Int) < val f
    · rw [if_pos (by simpa using c), if_pos c]
    · rw [if_neg (by simpa using c), if_neg c]
      by_cases c' : n * (Flt.U : Int) > val f
      · rw [if_pos (by simpa using c'), if_pos c']
      · rw [if_neg (by simpa using c'), if_neg c']
  · have g := le_mul (show q + 1 ≤ n by omega)
    have g2 := lt_mul c
    have hs : sgn n q = 1 := by unfold sgn; rw [if_neg (by omega), if_pos c]
    rw [hs, if_pos (by decide)]
    unfold sgn; rw [if_neg (by omega), if_pos (by omega)]
theorem sgn_mul {a b : Int} : sgn (a * Flt.U) (b * Flt.U) = sgn a b := by
  unfold sgn
  rcases Int.lt_trichotomy a b with c | c | c
  · rw [if_pos (lt_mul c), if_pos c]
  · subst c; simp
  · have := lt_mul c
    rw [if_neg (by omega), if_pos (by omega), if_neg (by omega), if_pos c]
theorem sgn_neg {a b : Int} : -sgn a b = sgn b a := by
  unfold sgn
  rcases Int.lt_trichotomy a b with c | c | c
  · rw [if_pos c, if_neg (by omega), if_pos (by omega)]; decide
  · subst c; simp
  · rw [if_neg (by omega), if_pos (by omega), if_pos (by omega)]
def numK (v : V) : Bool := v.k == 2 || v.k == 3
def nanV (v : V) : Bool := v.k == 3 && nan v.f
def numV (v : V) : Int := if v.k = 2 then v.n * Flt.U else val v.f
def cmpN (a b : V) : Int := if nanV a || nanV b then 2 else sgn (numV a) (numV b)
/-- Whether two values are the same one. -/
def sameV (a b : V) : Bool := vok a && vok b && (if numK a && numK b then cmpN a b == 0 else a.k == b.k && a.n == b.n && a.s.toList == b.s.toList && a.r == b.r)
end Go.Proofs.IM
namespace Go.Proofs.Ytgfkbcmdegnneaa.IM
open Go Go.Proofs.IM Go.Proofs.Flt
set_option maxHeartbeats 8000000
set_option maxRecDepth 100000
theorem s_l1num {k n r : Int} {f : Nat} {s : ByteArray} {m : Mem} {K : AR → Mem → Prop} (h : K (.ret (.bool (numK ⟨k, n, f, s, r⟩))) m) :
    Sim Try.prog 44 [.agg [.int .i64 k, .int .i64 n, .flt f, .str s, .int .i64 r]] m K := by
  refine entry (cxok []) Try.func44 rfl rfl (by decide) (by decide) ?_
  simp only [numK] at h
  by_cases h2 : k = 2
  · subst h2; replace h : K (.ret (.bool true)) m := h; exact gox_
  have e : (k == 2) = false := by simpa using h2
  rw [e, Bool.false_or] at h
  exact gox_
theorem s_number {k n r : Int} {f : Nat} {s : ByteArray} {m : Mem} {K : AR → Mem → Prop} (h : K (.ret (.bool (numK ⟨k, n, f, s, r⟩))) m) :
    Sim Try.prog 46 [.agg [.int .i64 k, .int .i64 n, .flt f, .str s, .int .i64 r]] m K := by
  refine entry (cxok []) Try.func46 rfl rfl (by decide) (by decide) ?_
  simp only [numK] at h
  by_cases h2 : k = 2
  · subst h2; replace h : K (.ret (.bool true)) m := h; exact gox_
  have e : (k == 2) = false := by simpa using h2
  rw [e, Bool.false_or] at h
  exact gox_
theorem s_order64 {a b : Int} {m : Mem} {K : AR → Mem → Prop} (h : K (.ret (.int .i64 (sgn a b))) m) : Sim Try.prog 53 [.int .i64 a, .int .i64 b] m K := by
  refine entry (cxok []) Try.func53 rfl rfl (by decide) (by decide) ?_
  simp only [sgn] at h
  by_cases c : a < b
  · rw [if_pos c] at h; exact gox_
  rw [if_neg c] at h
  by_cases d : a > b
  · rw [if_pos d] at h; exact gox_
  rw [if_neg d] at h; exact gox_
theorem s_l1intflt {n : Int} {f : Nat} {m : Mem} {K : AR → Mem → Prop} (hn : nan f = false) (hg : -9223372036854775808 ≤ n ∧ n ≤ 9223372036854775807) (h : K (.ret (.int .i64 (iff_ n f))) m) : Sim Try.prog 52 [.int .i64 n, .flt f] m K := by
  refine entry (cxok []) Try.func52 rfl rfl (by decide) (by decide) ?_
  rcases out_cases hn hg.1 hg.2 with ⟨a, b⟩ | ⟨a, b, c⟩ | ⟨a, b, hi⟩
  · rw [b] at h; clear hg; exact gox_
  · rw [c] at h; clear hg; exact gox_
  · clear hg
    refine goh_ ?_
    refine s_l1floor fun t h1 _ => ?_
    obtain ⟨n1, v1⟩ := h1 hi
    obtain ⟨q, k1, k2, k3⟩ := iff_spec (n := n) hn hi n1 v1
    rw [← k3] at h
    clear k3 hi h1 v1
    by_cases c : n < q
    · rw [if_pos c] at h; exact gox_
    rw [if_neg c] at h
    by_cases d : n > q
    · rw [if_pos d] at h; exact gox_
    rw [if_neg d] at h
    cases e : fgtr f t with
    | true => rw [e, if_pos rfl] at h; exact gox_
    | false => rw [e, if_neg (by decide)] at h; exact gox_
theorem s_intFloat {n : Int} {f : Nat} {m : Mem} {K : AR → Mem → Prop} (hn : nan f = false) (hg : -9223372036854775808 ≤ n ∧ n ≤ 9223372036854775807) (h : K (.ret (.int .i64 (iff_ n f))) m) : Sim Try.prog 54 [.int .i64 n, .flt f] m K := by
  refine entry (cxok []) Try.func54 rfl rfl (by decide) (by decide) ?_
  rcases out_cases hn hg.1 hg.2 with ⟨a, b⟩ | ⟨a, b, c⟩ | ⟨a, b, hi⟩
  · rw [b] at h; clear hg; exact gox_
  · rw [c] at h; clear hg; exact gox_
  · clear hg
    refine goh_ ?_
    refine s_Trunc hn ?_
    obtain ⟨q, k1, k2, k3⟩ := iff_impl (n := n) hn hi
    rw [← k3] at h
    clear k3 hi
    refine goh_ ?_
    refine s_order64 ?_
    generalize sgn n q = sg at h ⊢
    by_cases c : sg ≠ 0
    · rw [if_pos c] at h
      have c' : (sg != 0) = true := by simpa using c
      exact gox_
    rw [if_neg c] at h
    simp only [ne_eq, Decidable.not_not] at c
    subst c
    cases e : fgtr f (ftrunc f) with
    | true => rw [e, if_pos rfl] at h; exact gox_
    | false =>
      rw [e, if_neg (by decide)] at h
      cases e2 : flss f (ftrunc f) with
      | true => rw [e2, if_pos rfl] at h; exact gox_
      | false => rw [e2, if_neg (by decide)] at h; exact gox_
end Go.Proofs.Ytgfkbcmdegnneaa.IM
