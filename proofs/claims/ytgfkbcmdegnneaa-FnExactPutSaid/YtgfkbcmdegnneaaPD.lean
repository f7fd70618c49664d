/- Values: Compare of numbers, Same; both ways. -/
import Derived.Test.YtgfkbcmdegnneaaPC
namespace Go.Proofs.IM
open Go Go.RowKit Go.Proofs.Flt Ieee
theorem numK_cases {k n r : Int} {f : Nat} {s : ByteArray} (h : numK ⟨k, n, f, s, r⟩ = true) : k = 2 ∨ k = 3 := by simpa [numK] using h
def i64r (n : Int) : Prop := -9223372036854775808 ≤ n ∧ n ≤ 9223372036854775807
theorem sgn_w64 {a b : Int} : w64 (-sgn a b) = sgn b a := by
  rw [sgn_neg]
  have := sgn_range b a
  exact w64_id (by omega)
theorem sgn_val {f g : Nat} (hf : nan f = false) (hg : nan g = false) : sgn (val f) (val g) = if flss f g then -1 else if fgtr f g then 1 else 0 := by
  rw [flss_iff, fgtr_iff, hf, hg]
  unfold sgn
  simp
end Go.Proofs.IM
namespace Go.Proofs.Ytgfkbcmdegnneaa.IM
open Go Go.Proofs.IM Go.Proofs.Flt
set_option maxHeartbeats 8000000
set_option maxRecDepth 100000
theorem s_specCompareN {k n r k' n' r' : Int} {f f' : Nat} {s s' : ByteArray} {m : Mem} {K : AR → Mem → Prop} (ha : vok ⟨k, n, f, s, r⟩ = true) (hb : vok ⟨k', n', f', s', r'⟩ = true) (na : numK ⟨k, n, f, s, r⟩ = true) (nb : numK ⟨k', n', f', s', r'⟩ = true) (hn : i64r n) (hn' : i64r n')
    (h : K (.ret (.int .i64 (cmpN ⟨k, n, f, s, r⟩ ⟨k', n', f', s', r'⟩))) m) :
    Sim Try.prog 45 [.agg [.int .i64 k, .int .i64 n, .flt f, .str s, .int .i64 r], .agg [.int .i64 k', .int .i64 n', .flt f', .str s', .int .i64 r']] m K := by
  refine entry (cxok []) Try.func45 rfl rfl (by decide) (by decide) ?_
  refine goh_ ?_
  refine s_specValueOk ?_
  rw [ha]
  refine goh_ ?_
  refine s_specValueOk ?_
  rw [hb]
  clear ha hb
  rcases numK_cases na with rfl | rfl <;> rcases numK_cases nb with rfl | rfl
  · clear hn hn'
    replace h : K (.ret (.int .i64 (sgn n n'))) m := by have e : cmpN ⟨2, n, f, s, r⟩ ⟨2, n', f', s', r'⟩ = sgn n n' := sgn_mul; rw [e] at h; exact h
    refine goh_ ?_
    refine s_l1num ?_
    refine goh_ ?_
    refine s_l1num ?_
    unfold sgn at h
    by_cases c : n < n'
    · rw [if_pos c] at h; exact gox_
    rw [if_neg c] at h
    by_cases d : n > n'
    · rw [if_pos d] at h; exact gox_
    rw [if_neg d] at h; exact gox_
  · replace h : K (.ret (.int .i64 (if nan f' then 2 else iff_ n f'))) m := h
    refine goh_ ?_
    refine s_l1num ?_
    refine goh_ ?_
    refine s_l1num ?_
    refine goh_ ?_
    refine s_l1nan ?_
    cases nf : nan f' with
    | true =>
      rw [nf] at h; replace h : K (.ret (.int .i64 2)) m := h
      have e9 : fne f' f' = nan f' := by rw [fne_iff, feq_self, Bool.not_not]
      exact gox_
    | false =>
      rw [nf] at h; replace h : K (.ret (.int .i64 (iff_ n f'))) m := h
      have e9 : fne f' f' = nan f' := by rw [fne_iff, feq_self, Bool.not_not]
      clear hn'
      refine goh_ ?_
      refine s_l1intflt nf hn ?_
      clear hn
      exact gox_
  · replace h : K (.ret (.int .i64 (if nan f then 2 else sgn (val f) (n' * Flt.U)))) m := by
      have e : cmpN ⟨3, n, f, s, r⟩ ⟨2, n', f', s', r'⟩ = (if nan f then 2 else sgn (val f) (n' * Flt.U)) := by simp [cmpN, nanV, numV]
      rw [e] at h; exact h
    refine goh_ ?_
    refine s_l1num ?_
    refine goh_ ?_
    refine s_l1num ?_
    refine goh_ ?_
    refine s_l1nan ?_
    cases nf : nan f with
    | true =>
      rw [nf] at h; replace h : K (.ret (.int .i64 2)) m := h
      have e9 : fne f f = nan f := by rw [fne_iff, feq_self, Bool.not_not]
      exact gox_
    | false =>
      rw [nf] at h; replace h : K (.ret (.int .i64 (sgn (val f) (n' * Flt.U)))) m := h
      have e9 : fne f f = nan f := by rw [fne_iff, feq_self, Bool.not_not]
      clear hn
      refine goh_ ?_
      refine s_l1intflt nf hn' ?_
      clear hn'
      have e : w64 (0 - iff_ n' f) = sgn (val f) (n' * Flt.U) := by rw [Int.zero_sub]; exact sgn_w64
      exact gox_
  · clear hn hn'
    replace h : K (.ret (.int .i64 (if nan f || nan f' then 2 else sgn (val f) (val f')))) m := by
      have e : cmpN ⟨3, n, f, s, r⟩ ⟨3, n', f', s', r'⟩ = (if nan f || nan f' then 2 else sgn (val f) (val f')) := by simp [cmpN, nanV, numV]
      rw [e] at h; exact h
    refine goh_ ?_
    refine s_l1num ?_
    refine goh_ ?_
    refine s_l1num ?_
    refine goh_ ?_
    refine s_l1nan ?_
    have e9 : fne f f = nan f := by rw [fne_iff, feq_self, Bool.not_not]
    have e8 : fne f' f' = nan f' := by rw [fne_iff, feq_self, Bool.not_not]
    cases nf : nan f with
    | true => rw [nf, Bool.true_or] at h; replace h : K (.ret (.int .i64 2)) m := h; exact gox_
    | false =>
      rw [nf, Bool.false_or] at h
      refine goh_ ?_
      refine s_l1nan ?_
      cases nf' : nan f' with
      | true => rw [nf'] at h; replace h : K (.ret (.int .i64 2)) m := h; exact gox_
      | false =>
        rw [nf'] at h; replace h : K (.ret (.int .i64 (sgn (val f) (val f')))) m := h
        rw [sgn_val nf nf'] at h
        cases c : flss f f' with
        | true => rw [c] at h; replace h : K (.ret (.int .i64 (-1))) m := h; exact gox_
        | false =>
          rw [c] at h
          cases d : fgtr f f' with
          | true => rw [d] at h; replace h : K (.ret (.int .i64 1)) m := h; exact gox_
          | false => rw [d] at h; replace h : K (.ret (.int .i64 0)) m := h; exact gox_
theorem s_implCompareN {k n r k' n' r' : Int} {f f' : Nat} {s s' : ByteArray} {m : Mem} {K : AR → Mem → Prop} (ha : vok ⟨k, n, f, s, r⟩ = true) (hb : vok ⟨k', n', f', s', r'⟩ = true) (na : numK ⟨k, n, f, s, r⟩ = true) (nb : numK ⟨k', n', f', s', r'⟩ = true) (hn : i64r n) (hn' : i64r n')
    (h : K (.ret (.int .i64 (cmpN ⟨k, n, f, s, r⟩ ⟨k', n', f', s', r'⟩))) m) :
    Sim Try.prog 47 [.agg [.int .i64 k, .int .i64 n, .flt f, .str s, .int .i64 r], .agg [.int .i64 k', .int .i64 n', .flt f', .str s', .int .i64 r']] m K := by
  refine entry (cxok []) Try.func47 rfl rfl (by decide) (by decide) ?_
  refine goh_ ?_
  refine s_implValueOk ?_
  rw [ha]
  refine goh_ ?_
  refine s_implValueOk ?_
  rw [hb]
  clear ha hb
  rcases numK_cases na with rfl | rfl <;> rcases numK_cases nb with rfl | rfl
  · clear hn hn'
    replace h : K (.ret (.int .i64 (sgn n n'))) m := by have e : cmpN ⟨2, n, f, s, r⟩ ⟨2, n', f', s', r'⟩ = sgn n n' := sgn_mul; rw [e] at h; exact h
    refine goh_ ?_
    refine s_number ?_
    refine goh_ ?_
    refine s_number ?_
    refine goh_ ?_
    refine s_order64 ?_
    exact gox_
  · replace h : K (.ret (.int .i64 (if nan f' then 2 else iff_ n f'))) m := h
    refine goh_ ?_
    refine s_number ?_
    refine goh_ ?_
    refine s_number ?_
    cases nf : nan f' with
    | true =>
      rw [nf] at h; replace h : K (.ret (.int .i64 2)) m := h
      have e9 : fne f' f' = nan f' := by rw [fne_iff, feq_self, Bool.not_not]
      exact gox_
    | false =>
      rw [nf] at h; replace h : K (.ret (.int .i64 (iff_ n f'))) m := h
      have e9 : fne f' f' = nan f' := by rw [fne_iff, feq_self, Bool.not_not]
      clear hn'
      refine goh_ ?_
      refine s_intFloat nf hn ?_
      clear hn
      exact gox_
  · replace h : K (.ret (.int .i64 (if nan f then 2 else sgn (val f) (n' * Flt.U)))) m := by
      have e : cmpN ⟨3, n, f, s, r⟩ ⟨2, n', f', s', r'⟩ = (if nan f then 2 else sgn (val f) (n' * Flt.U)) := by simp [cmpN, nanV, numV]
      rw [e] at h; exact h
    refine goh_ ?_
    refine s_number ?_
    refine goh_ ?_
    refine s_number ?_
    cases nf : nan f with
    | true =>
      rw [nf] at h; replace h : K (.ret (.int .i64 2)) m := h
      have e9 : fne f f = nan f := by rw [fne_iff, feq_self, Bool.not_not]
      exact gox_
    | false =>
      rw [nf] at h; replace h : K (.ret (.int .i64 (sgn (val f) (n' * Flt.U)))) m := h
      have e9 : fne f f = nan f := by rw [fne_iff, feq_self, Bool.not_not]
      clear hn
      refine goh_ ?_
      refine s_intFloat nf hn' ?_
      clear hn'
      have e : w64 (0 - iff_ n' f) = sgn (val f) (n' * Flt.U) := by rw [Int.zero_sub]; exact sgn_w64
      exact gox_
  · clear hn hn'
    replace h : K (.ret (.int .i64 (if nan f || nan f' then 2 else sgn (val f) (val f')))) m := by
      have e : cmpN ⟨3, n, f, s, r⟩ ⟨3, n', f', s', r'⟩ = (if nan f || nan f' then 2 else sgn (val f) (val f')) := by simp [cmpN, nanV, numV]
      rw [e] at h; exact h
    refine goh_ ?_
    refine s_number ?_
    refine goh_ ?_
    refine s_number ?_
    have e9 : fne f f = nan f := by rw [fne_iff, feq_self, Bool.not_not]
    have e8 : fne f' f' = nan f' := by rw [fne_iff, feq_self, Bool.not_not]
    cases nf : nan f with
    | true => rw [nf, Bool.true_or] at h; replace h : K (.ret (.int .i64 2)) m := h; exact gox_
    | false =>
      rw [nf, Bool.false_or] at h
      cases nf' : nan f' with
      | true => rw [nf'] at h; replace h : K (.ret (.int .i64 2)) m := h; exact gox_
      | false =>
        rw [nf'] at h; replace h : K (.ret (.int .i64 (sgn (val f) (val f')))) m := h
        rw [sgn_val nf nf'] at h
        cases c : flss f f' with
        | true => rw [c] at h; replace h : K (.ret (.int .i64 (-1))) m := h; exact gox_
        | false =>
          rw [c] at h
          cases d : fgtr f f' with
          | true => rw [d] at h; replace h : K (.ret (.int .i64 1)) m := h; exact gox_
          | false => rw [d] at h; replace h : K (.ret (.int .i64 0)) m := h; exact gox_
theorem s_specSame {k n r k' n' r' : Int} {f f' : Nat} {s s' : ByteArray} {m : Mem} {K : AR → Mem → Prop} (hn : i64r n) (hn' : i64r n')
    (h : K (.ret (.bool (sameV ⟨k, n, f, s, r⟩ ⟨k', n', f', s', r'⟩))) m) :
    Sim Try.prog 33 [.agg [.int .i64 k, .int .i64 n, .flt f, .str s, .int .i64 r], .agg [.int .i64 k', .int .i64 n', .flt f', .str s', .int .i64 r']] m K := by
  refine entry (cxok []) Try.func33 rfl rfl (by decide) (by decide) ?_
  refine goh_ ?_
  refine s_specValueOk ?_
  simp only [sameV] at h
  cases ha : vok ⟨k, n, f, s, r⟩ with
  | false => rw [ha] at h; replace h : K (.ret (.bool false)) m := h; clear hn hn'; exact gox_
  | true =>
  rw [ha, Bool.true_and] at h
  refine goh_ ?_
  refine s_specValueOk ?_
  cases hb : vok ⟨k', n', f', s', r'⟩ with
  | false => rw [hb] at h; replace h : K (.ret (.bool false)) m := h; clear hn hn'; exact gox_
  | true =>
  rw [hb, Bool.true_and] at h
  refine goh_ ?_
  refine s_l1num ?_
  cases na : numK ⟨k, n, f, s, r⟩ with
  | true =>
    rw [na, Bool.true_and] at h
    refine goh_ ?_
    refine s_l1num ?_
    cases nb : numK ⟨k', n', f', s', r'⟩ with
    | true =>
      rw [nb, if_pos rfl] at h
      refine goh_ ?_
      refine s_specCompareN ha hb na nb hn hn' ?_
      clear hn hn'
      exact gox_
    | false =>
      rw [nb, if_neg (by decide)] at h
      clear hn hn' na nb ha hb
      refine goh_ ?_; revert h; grind
  | false =>
    rw [na, Bool.false_and, if_neg (by decide)] at h
    clear hn hn' na ha hb
    refine goh_ ?_; revert h; grind
theorem s_implSame {k n r k' n' r' : Int} {f f' : Nat} {s s' : ByteArray} {m : Mem} {K : AR → Mem → Prop} (hn : i64r n) (hn' : i64r n')
    (h : K (.ret (.bool (sameV ⟨k, n, f, s, r⟩ ⟨k', n', f', s', r'⟩))) m) :
    Sim Try.prog 36 [.agg [.int .i64 k, .int .i64 n, .flt f, .str s, .int .i64 r], .agg [.int .i64 k', .int .i64 n', .flt f', .str s', .int .i64 r']] m K := by
  refine entry (cxok []) Try.func36 rfl rfl (by decide) (by decide) ?_
  refine goh_ ?_
  refine s_implValueOk ?_
  simp only [sameV] at h
  cases ha : vok ⟨k, n, f, s, r⟩ with
  | false => rw [ha] at h; replace h : K (.ret (.bool false)) m := h; clear hn hn'; exact gox_
  | true =>
  rw [ha, Bool.true_and] at h
  refine goh_ ?_
  refine s_implValueOk ?_
  cases hb : vok ⟨k', n', f', s', r'⟩ with
  | false => rw [hb] at h; replace h : K (.ret (.bool false)) m := h; clear hn hn'; exact gox_
  | true =>
  rw [hb, Bool.true_and] at h
  refine goh_ ?_
  refine s_number ?_
  cases na : numK ⟨k, n, f, s, r⟩ with
  | true =>
    rw [na, Bool.true_and] at h
    refine goh_ ?_
    refine s_number ?_
    cases nb : numK ⟨k', n', f', s', r'⟩ with
    | true =>
      rw [nb, if_pos rfl] at h
      refine goh_ ?_
      refine s_implCompareN ha hb na nb hn hn' ?_
      clear hn hn'
      exact gox_
    | false =>
      rw [nb, if_neg (by decide)] at h
      clear hn hn' na nb ha hb
      refine goh_ ?_; revert h; grind
  | false =>
    rw [na, Bool.false_and, if_neg (by decide)] at h
    clear hn hn' na ha hb
    refine goh_ ?_; revert h; grind
end Go.Proofs.Ytgfkbcmdegnneaa.IM
