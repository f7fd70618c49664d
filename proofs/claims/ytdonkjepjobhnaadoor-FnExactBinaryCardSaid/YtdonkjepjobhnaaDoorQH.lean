/- Walks and laws, joined into one text. -/
import Derived.Test.YtdonkjepjobhnaaDoorQG
import Derived.Test.YtdonkjepjobhnaaDoorQA
set_option linter.unusedSimpArgs false
set_option linter.unusedVariables false
namespace Go.Proofs.YtdonkjepjobhnaaDoor.IM
open Go Go.Proofs.IM Go.Proofs.Flt
set_option maxHeartbeats 8000000
set_option maxRecDepth 100000
theorem s_specSame_13 {k n r k' n' r' : Int} {f f' : Nat} {s s' : ByteArray} {m : Mem} {K : AR → Mem → Prop} (ha : vok ⟨k, n, f, s, r⟩ = true) (hb : vok ⟨k', n', f', s', r'⟩ = true) (hn : i64r n) (hn' : i64r n') (h : ∀ v, (binI 13 ⟨k, n, f, s, r⟩ ⟨k', n', f', s', r'⟩).av v → K (.ret v) m) :
    Sim Tryd.prog 26 [.int .i64 13, .agg [.int .i64 k, .int .i64 n, .flt f, .str s, .int .i64 r], .agg [.int .i64 k', .int .i64 n', .flt f', .str s', .int .i64 r']] m K := by
  replace h : K (.ret (gotA 1 (b2i (sameV ⟨k, n, f, s, r⟩ ⟨k', n', f', s', r'⟩)) 0 ByteArray.empty)) m := h _ rfl
  refine entry (cxok []) Tryd.func26 rfl rfl (by decide) (by decide) ?_
  refine go_ ?_
  refine s_specValueOk ?_
  rw [ha]
  refine go_ ?_
  refine s_specValueOk ?_
  rw [hb]
  clear ha hb
  refine go_ ?_
  refine s_specSame hn hn' ?_
  generalize sameV ⟨k, n, f, s, r⟩ ⟨k', n', f', s', r'⟩ = z at h ⊢
  clear hn hn'
  refine goh_ ?_
  refine s_l1bool ?_
  refine goh_ ?_
  refine s_l1got ?_
  exact gox_
theorem s_specSame_14 {k n r k' n' r' : Int} {f f' : Nat} {s s' : ByteArray} {m : Mem} {K : AR → Mem → Prop} (ha : vok ⟨k, n, f, s, r⟩ = true) (hb : vok ⟨k', n', f', s', r'⟩ = true) (hn : i64r n) (hn' : i64r n') (h : ∀ v, (binI 14 ⟨k, n, f, s, r⟩ ⟨k', n', f', s', r'⟩).av v → K (.ret v) m) :
    Sim Tryd.prog 26 [.int .i64 14, .agg [.int .i64 k, .int .i64 n, .flt f, .str s, .int .i64 r], .agg [.int .i64 k', .int .i64 n', .flt f', .str s', .int .i64 r']] m K := by
  replace h : K (.ret (gotA 1 (b2i (!sameV ⟨k, n, f, s, r⟩ ⟨k', n', f', s', r'⟩)) 0 ByteArray.empty)) m := h _ rfl
  refine entry (cxok []) Tryd.func26 rfl rfl (by decide) (by decide) ?_
  refine go_ ?_
  refine s_specValueOk ?_
  rw [ha]
  refine go_ ?_
  refine s_specValueOk ?_
  rw [hb]
  clear ha hb
  refine go_ ?_
  refine s_specSame hn hn' ?_
  generalize sameV ⟨k, n, f, s, r⟩ ⟨k', n', f', s', r'⟩ = z at h ⊢
  clear hn hn'
  refine goh_ ?_
  refine s_l1bool ?_
  refine goh_ ?_
  refine s_l1got ?_
  exact gox_
theorem s_specOrd_15 {k n r k' n' r' : Int} {f f' : Nat} {s s' : ByteArray} {m : Mem} {K : AR → Mem → Prop} (ha : vok ⟨k, n, f, s, r⟩ = true) (hb : vok ⟨k', n', f', s', r'⟩ = true) (hn : i64r n) (hn' : i64r n') (h : ∀ v, (binI 15 ⟨k, n, f, s, r⟩ ⟨k', n', f', s', r'⟩).av v → K (.ret v) m) :
    Sim Tryd.prog 26 [.int .i64 15, .agg [.int .i64 k, .int .i64 n, .flt f, .str s, .int .i64 r], .agg [.int .i64 k', .int .i64 n', .flt f', .str s', .int .i64 r']] m K := by
  replace h : ∀ v, (ordO 15 (cmpV ⟨k, n, f, s, r⟩ ⟨k', n', f', s', r'⟩)).av v → K (.ret v) m := h
  refine entry (cxok []) Tryd.func26 rfl rfl (by decide) (by decide) ?_
  refine go_ ?_
  refine s_specValueOk ?_
  rw [ha]
  refine go_ ?_
  refine s_specValueOk ?_
  rw [hb]
  clear ha hb
  refine go_ ?_
  refine s_specCompare hn hn' ?_
  have hc := cmpV_range ⟨k, n, f, s, r⟩ ⟨k', n', f', s', r'⟩
  generalize cmpV ⟨k, n, f, s, r⟩ ⟨k', n', f', s', r'⟩ = z at h hc ⊢
  clear hn hn'
  rcases hc with rfl | rfl | rfl | rfl | rfl
  · replace h : K (.ret (gotA 1 (b2i true) 0 ByteArray.empty)) m := h _ rfl
    refine goh_ ?_
    refine s_l1bool ?_
    refine goh_ ?_
    refine s_l1got ?_
    exact gox_
  · replace h : K (.ret (gotA 1 (b2i false) 0 ByteArray.empty)) m := h _ rfl
    refine goh_ ?_
    refine s_l1bool ?_
    refine goh_ ?_
    refine s_l1got ?_
    exact gox_
  · replace h : K (.ret (gotA 1 (b2i false) 0 ByteArray.empty)) m := h _ rfl
    refine goh_ ?_
    refine s_l1bool ?_
    refine goh_ ?_
    refine s_l1got ?_
    exact gox_
  · replace h : K (.ret (gotA 1 (b2i false) 0 ByteArray.empty)) m := h _ rfl
    refine goh_ ?_
    refine s_l1bool ?_
    refine goh_ ?_
    refine s_l1got ?_
    exact gox_
  · replace h : K (.ret (failA 1)) m := h _ rfl
    refine goh_ ?_
    refine s_l1fail ?_
    exact gox_
theorem s_specOrd_16 {k n r k' n' r' : Int} {f f' : Nat} {s s' : ByteArray} {m : Mem} {K : AR → Mem → Prop} (ha : vok ⟨k, n, f, s, r⟩ = true) (hb : vok ⟨k', n', f', s', r'⟩ = true) (hn : i64r n) (hn' : i64r n') (h : ∀ v, (binI 16 ⟨k, n, f, s, r⟩ ⟨k', n', f', s', r'⟩).av v → K (.ret v) m) :
    Sim Tryd.prog 26 [.int .i64 16, .agg [.int .i64 k, .int .i64 n, .flt f, .str s, .int .i64 r], .agg [.int .i64 k', .int .i64 n', .flt f', .str s', .int .i64 r']] m K := by
  replace h : ∀ v, (ordO 16 (cmpV ⟨k, n, f, s, r⟩ ⟨k', n', f', s', r'⟩)).av v → K (.ret v) m := h
  refine entry (cxok []) Tryd.func26 rfl rfl (by decide) (by decide) ?_
  refine go_ ?_
  refine s_specValueOk ?_
  rw [ha]
  refine go_ ?_
  refine s_specValueOk ?_
  rw [hb]
  clear ha hb
  refine go_ ?_
  refine s_specCompare hn hn' ?_
  have hc := cmpV_range ⟨k, n, f, s, r⟩ ⟨k', n', f', s', r'⟩
  generalize cmpV ⟨k, n, f, s, r⟩ ⟨k', n', f', s', r'⟩ = z at h hc ⊢
  clear hn hn'
  rcases hc with rfl | rfl | rfl | rfl | rfl
  · replace h : K (.ret (gotA 1 (b2i true) 0 ByteArray.empty)) m := h _ rfl
    refine goh_ ?_
    refine s_l1bool ?_
    refine goh_ ?_
    refine s_l1got ?_
    exact gox_
  · replace h : K (.ret (gotA 1 (b2i true) 0 ByteArray.empty)) m := h _ rfl
    refine goh_ ?_
    refine s_l1bool ?_
    refine goh_ ?_
    refine s_l1got ?_
    exact gox_
  · replace h : K (.ret (gotA 1 (b2i false) 0 ByteArray.empty)) m := h _ rfl
    refine goh_ ?_
    refine s_l1bool ?_
    refine goh_ ?_
    refine s_l1got ?_
    exact gox_
  · replace h : K (.ret (gotA 1 (b2i false) 0 ByteArray.empty)) m := h _ rfl
    refine goh_ ?_
    refine s_l1bool ?_
    refine goh_ ?_
    refine s_l1got ?_
    exact gox_
  · replace h : K (.ret (failA 1)) m := h _ rfl
    refine goh_ ?_
    refine s_l1fail ?_
    exact gox_
theorem s_specOrd_17 {k n r k' n' r' : Int} {f f' : Nat} {s s' : ByteArray} {m : Mem} {K : AR → Mem → Prop} (ha : vok ⟨k, n, f, s, r⟩ = true) (hb : vok ⟨k', n', f', s', r'⟩ = true) (hn : i64r n) (hn' : i64r n') (h : ∀ v, (binI 17 ⟨k, n, f, s, r⟩ ⟨k', n', f', s', r'⟩).av v → K (.ret v) m) :
    Sim Tryd.prog 26 [.int .i64 17, .agg [.int .i64 k, .int .i64 n, .flt f, .str s, .int .i64 r], .agg [.int .i64 k', .int .i64 n', .flt f', .str s', .int .i64 r']] m K := by
  replace h : ∀ v, (ordO 17 (cmpV ⟨k, n, f, s, r⟩ ⟨k', n', f', s', r'⟩)).av v → K (.ret v) m := h
  refine entry (cxok []) Tryd.func26 rfl rfl (by decide) (by decide) ?_
  refine go_ ?_
  refine s_specValueOk ?_
  rw [ha]
  refine go_ ?_
  refine s_specValueOk ?_
  rw [hb]
  clear ha hb
  refine go_ ?_
  refine s_specCompare hn hn' ?_
  have hc := cmpV_range ⟨k, n, f, s, r⟩ ⟨k', n', f', s', r'⟩
  generalize cmpV ⟨k, n, f, s, r⟩ ⟨k', n', f', s', r'⟩ = z at h hc ⊢
  clear hn hn'
  rcases hc with rfl | rfl | rfl | rfl | rfl
  · replace h : K (.ret (gotA 1 (b2i false) 0 ByteArray.empty)) m := h _ rfl
    refine goh_ ?_
    refine s_l1bool ?_
    refine goh_ ?_
    refine s_l1got ?_
    exact gox_
  · replace h : K (.ret (gotA 1 (b2i false) 0 ByteArray.empty)) m := h _ rfl
    refine goh_ ?_
    refine s_l1bool ?_
    refine goh_ ?_
    refine s_l1got ?_
    exact gox_
  · replace h : K (.ret (gotA 1 (b2i true) 0 ByteArray.empty)) m := h _ rfl
    refine goh_ ?_
    refine s_l1bool ?_
    refine goh_ ?_
    refine s_l1got ?_
    exact gox_
  · replace h : K (.ret (gotA 1 (b2i false) 0 ByteArray.empty)) m := h _ rfl
    refine goh_ ?_
    refine s_l1bool ?_
    refine goh_ ?_
    refine s_l1got ?_
    exact gox_
  · replace h : K (.ret (failA 1)) m := h _ rfl
    refine goh_ ?_
    refine s_l1fail ?_
    exact gox_
theorem s_specOrd_18 {k n r k' n' r' : Int} {f f' : Nat} {s s' : ByteArray} {m : Mem} {K : AR → Mem → Prop} (ha : vok ⟨k, n, f, s, r⟩ = true) (hb : vok ⟨k', n', f', s', r'⟩ = true) (hn : i64r n) (hn' : i64r n') (h : ∀ v, (binI 18 ⟨k, n, f, s, r⟩ ⟨k', n', f', s', r'⟩).av v → K (.ret v) m) :
    Sim Tryd.prog 26 [.int .i64 18, .agg [.int .i64 k, .int .i64 n, .flt f, .str s, .int .i64 r], .agg [.int .i64 k', .int .i64 n', .flt f', .str s', .int .i64 r']] m K := by
  replace h : ∀ v, (ordO 18 (cmpV ⟨k, n, f, s, r⟩ ⟨k', n', f', s', r'⟩)).av v → K (.ret v) m := h
  refine entry (cxok []) Tryd.func26 rfl rfl (by decide) (by decide) ?_
  refine go_ ?_
  refine s_specValueOk ?_
  rw [ha]
  refine go_ ?_
  refine s_specValueOk ?_
  rw [hb]
  clear ha hb
  refine go_ ?_
  refine s_specCompare hn hn' ?_
  have hc := cmpV_range ⟨k, n, f, s, r⟩ ⟨k', n', f', s', r'⟩
  generalize cmpV ⟨k, n, f, s, r⟩ ⟨k', n', f', s', r'⟩ = z at h hc ⊢
  clear hn hn'
  rcases hc with rfl | rfl | rfl | rfl | rfl
  · replace h : K (.ret (gotA 1 (b2i false) 0 ByteArray.empty)) m := h _ rfl
    refine goh_ ?_
    refine s_l1bool ?_
    refine goh_ ?_
    refine s_l1got ?_
    exact gox_
  · replace h : K (.ret (gotA 1 (b2i true) 0 ByteArray.empty)) m := h _ rfl
    refine goh_ ?_
    refine s_l1bool ?_
    refine goh_ ?_
    refine s_l1got ?_
    exact gox_
  · replace h : K (.ret (gotA 1 (b2i true) 0 ByteArray.empty)) m := h _ rfl
    refine goh_ ?_
    refine s_l1bool ?_
    refine goh_ ?_
    refine s_l1got ?_
    exact gox_
  · replace h : K (.ret (gotA 1 (b2i false) 0 ByteArray.empty)) m := h _ rfl
    refine goh_ ?_
    refine s_l1bool ?_
    refine goh_ ?_
    refine s_l1got ?_
    exact gox_
  · replace h : K (.ret (failA 1)) m := h _ rfl
    refine goh_ ?_
    refine s_l1fail ?_
    exact gox_
theorem s_l1joins {k n r : Int} {f : Nat} {s : ByteArray} {m : Mem} {K : AR → Mem → Prop} (h : K (.ret (.bool (joinK ⟨k, n, f, s, r⟩))) m) : Sim Tryd.prog 62 [.agg [.int .i64 k, .int .i64 n, .flt f, .str s, .int .i64 r]] m K := by
  refine entry (cxok []) Tryd.func62 rfl rfl (by decide) (by decide) ?_
  refine go_ ?_
  refine s_l1num ?_
  unfold joinK at h
  cases c : numK ⟨k, n, f, s, r⟩ with
  | true => rw [c] at h; replace h : K (.ret (.bool true)) m := h; exact gox_
  | false => rw [c, Bool.false_or] at h; exact gox_
theorem s_specJoin_12 {k n r k' n' r' : Int} {f f' : Nat} {s s' : ByteArray} {m : Mem} {K : AR → Mem → Prop} (ha : vok ⟨k, n, f, s, r⟩ = true) (hb : vok ⟨k', n', f', s', r'⟩ = true) (hn : i64r n) (hn' : i64r n') (hf : f < 18446744073709551616) (hf' : f' < 18446744073709551616) (h : ∀ v, (binI 12 ⟨k, n, f, s, r⟩ ⟨k', n', f', s', r'⟩).av v → K (.ret v) m) :
    Sim Tryd.prog 26 [.int .i64 12, .agg [.int .i64 k, .int .i64 n, .flt f, .str s, .int .i64 r], .agg [.int .i64 k', .int .i64 n', .flt f', .str s', .int .i64 r']] m K := by
  refine entry (cxok []) Tryd.func26 rfl rfl (by decide) (by decide) ?_
  refine go_ ?_
  refine s_specValueOk ?_
  rw [ha]
  refine go_ ?_
  refine s_specValueOk ?_
  rw [hb]
  have la := textV_len (v := ⟨k, n, f, s, r⟩) hn
  have lb := textV_len (v := ⟨k', n', f', s', r'⟩) hn'
  clear ha hb
  cases ja : joinK ⟨k, n, f, s, r⟩ with
  | false =>
    replace h : K (.ret (failA 1)) m := h _ (by rw [binI_join, ja]; rfl)
    clear la lb hn hn' hf hf'
    refine goh_ ?_
    refine s_l1joins ?_
    rw [ja]
    clear ja
    refine goh_ ?_
    refine s_l1fail ?_
    exact gox_
  | true =>
  cases jb : joinK ⟨k', n', f', s', r'⟩ with
  | false =>
    replace h : K (.ret (failA 1)) m := h _ (by rw [binI_join, ja, jb]; rfl)
    clear la lb hn hn' hf hf'
    refine goh_ ?_
    refine s_l1joins ?_
    rw [ja]
    refine goh_ ?_
    refine s_l1joins ?_
    rw [jb]
    clear ja jb
    refine goh_ ?_
    refine s_l1fail ?_
    exact gox_
  | true =>
  replace h : ∀ v, (joinO (textV ⟨k, n, f, s, r⟩) (textV ⟨k', n', f', s', r'⟩)).av v → K (.ret v) m := fun v hv => h v (by rw [binI_join, ja, jb]; exact hv)
  refine go_ ?_
  refine s_l1joins ?_
  rw [ja]
  refine go_ ?_
  refine s_l1joins ?_
  rw [jb]
  clear ja jb
  refine goh_ ?_
  refine s_specText hn hf ?_
  refine goh_ ?_
  refine s_specText hn' hf' ?_
  generalize textV ⟨k, n, f, s, r⟩ = x at h la ⊢
  generalize textV ⟨k', n', f', s', r'⟩ = y at h lb ⊢
  clear hn hn' hf hf'
  have w1 : (x.size + y.size ≤ 9223372036854775807) = True := by rw [eq_iff_iff, iff_true]; omega
  have w2 : w64 ((x.size : Int) + (y.size : Int)) = ((x.size + y.size : Nat) : Int) := by rw [w64_id (by omega)]; omega
  have w3 : (x ++ y).size = x.size + y.size := ByteArray.size_append
  by_cases hc : x.size + y.size > 4000
  · replace h : K (.ret (failA 4)) m := h _ (by unfold joinO; rw [if_pos hc]; rfl)
    have w4 : ((4000 : Int) < ((x.size + y.size : Nat) : Int)) = True := by rw [eq_iff_iff, iff_true]; omega
    clear la lb hc
    refine goh_ ?_
    refine s_l1fail ?_
    exact gox_
  · replace h : K (.ret (gotA 4 0 0 (x ++ y))) m := h _ (by unfold joinO; rw [if_neg hc]; rfl)
    have w4 : ((4000 : Int) < ((x.size + y.size : Nat) : Int)) = False := by rw [eq_iff_iff, iff_false]; omega
    clear la lb hc
    refine goh_ ?_
    refine s_l1str ?_
    refine goh_ ?_
    refine s_l1got ?_
    exact gox_
theorem s_specAr_1 {k n r k' n' r' : Int} {f f' : Nat} {s s' : ByteArray} {m : Mem} {K : AR → Mem → Prop} (ha : vok ⟨k, n, f, s, r⟩ = true) (hb : vok ⟨k', n', f', s', r'⟩ = true) (hn : i64r n) (hn' : i64r n') (h : ∀ v, (binI 1 ⟨k, n, f, s, r⟩ ⟨k', n', f', s', r'⟩).av v → K (.ret v) m) :
    Sim Tryd.prog 26 [.int .i64 1, .agg [.int .i64 k, .int .i64 n, .flt f, .str s, .int .i64 r], .agg [.int .i64 k', .int .i64 n', .flt f', .str s', .int .i64 r']] m K := by
  refine entry (cxok []) Tryd.func26 rfl rfl (by decide) (by decide) ?_
  refine go_ ?_
  refine s_specValueOk ?_
  rw [ha]
  refine go_ ?_
  refine s_specValueOk ?_
  rw [hb]
  clear ha hb
  cases na : numK ⟨k, n, f, s, r⟩ with
  | false =>
    replace h : K (.ret (failA 1)) m := h _ (by rw [binI_fail (by decide) (.inl na)]; rfl)
    have j2 : (k == 2) = false := (num2 na).1
    refine goh_ ?_
    refine s_l1num ?_
    rw [na]
    clear na
    refine goh_ ?_
    refine s_l1fail ?_
    exact gox_
  | true =>
  cases nb : numK ⟨k', n', f', s', r'⟩ with
  | false =>
    replace h : K (.ret (failA 1)) m := h _ (by rw [binI_fail (by decide) (.inr nb)]; rfl)
    have j2 : (k' == 2) = false := (num2 nb).1
    rcases numK_cases na with rfl | rfl
    · skip
      clear na
      refine goh_ ?_
      refine s_l1num ?_
      rw [show numK ⟨2, n, f, s, r⟩ = true from rfl]
      refine goh_ ?_
      refine s_l1num ?_
      rw [nb]
      clear nb
      refine goh_ ?_
      refine s_l1fail ?_
      exact gox_
    · skip
      clear na
      refine goh_ ?_
      refine s_l1num ?_
      rw [show numK ⟨3, n, f, s, r⟩ = true from rfl]
      refine goh_ ?_
      refine s_l1num ?_
      rw [nb]
      clear nb
      refine goh_ ?_
      refine s_l1fail ?_
      exact gox_
  | true =>
  rcases numK_cases na with rfl | rfl
  all_goals rcases numK_cases nb with rfl | rfl
  · clear na nb
    replace h : ∀ v, (intO 1 n n').av v → K (.ret v) m := h
    refine goh_ ?_
    refine s_l1ints (by omega) fun v hv => ?_
    replace h := h v hv
    obtain ⟨a0, a1, a2, a3, a4, a5, rfl⟩ := Out.av_agg hv
    clear hv
    exact gox_
  · clear na nb
    replace h : ∀ v, (Out.flt (fltO 1 (i2f n) f')).av v → K (.ret v) m := h
    refine goh_ ?_
    refine s_l1num ?_
    rw [show numK ⟨2, n, f, s, r⟩ = true from rfl]
    refine goh_ ?_
    refine s_l1num ?_
    rw [show numK ⟨3, n', f', s', r'⟩ = true from rfl]
    refine goh_ ?_
    refine draw_ [(0, .pure), (1, .read), (3, .read), (2, .step [3]), (4, .step []), (5, .step []), (6, .step [])] (by kernel_rfl) ?_
    refine goh_ ?_
    refine s_l1asflt ?_
    refine goh_ ?_
    refine s_l1asflt ?_
    refine goh_ ?_
    refine s_l1floats (by omega) fun v hv => ?_
    replace h := h v hv
    obtain ⟨a0, a1, a2, a3, a4, a5, rfl⟩ := Out.av_agg hv
    clear hv
    exact gox_
  · clear na nb
    replace h : ∀ v, (Out.flt (fltO 1 f (i2f n'))).av v → K (.ret v) m := h
    refine goh_ ?_
    refine s_l1num ?_
    rw [show numK ⟨3, n, f, s, r⟩ = true from rfl]
    refine goh_ ?_
    refine s_l1num ?_
    rw [show numK ⟨2, n', f', s', r'⟩ = true from rfl]
    refine goh_ ?_
    refine draw_ [(0, .pure), (1, .read), (3, .read), (2, .step [3]), (4, .step []), (5, .step []), (6, .step [])] (by kernel_rfl) ?_
    refine goh_ ?_
    refine s_l1asflt ?_
    refine goh_ ?_
    refine s_l1asflt ?_
    refine goh_ ?_
    refine s_l1floats (by omega) fun v hv => ?_
    replace h := h v hv
    obtain ⟨a0, a1, a2, a3, a4, a5, rfl⟩ := Out.av_agg hv
    clear hv
    exact gox_
  · clear na nb
    replace h : ∀ v, (Out.flt (fltO 1 f f')).av v → K (.ret v) m := h
    refine goh_ ?_
    refine s_l1num ?_
    rw [show numK ⟨3, n, f, s, r⟩ = true from rfl]
    refine goh_ ?_
    refine s_l1num ?_
    rw [show numK ⟨3, n', f', s', r'⟩ = true from rfl]
    refine goh_ ?_
    refine draw_ [(0, .pure), (1, .read), (3, .read), (2, .step [3]), (4, .step []), (5, .step []), (6, .step [])] (by kernel_rfl) ?_
    refine goh_ ?_
    refine s_l1asflt ?_
    refine goh_ ?_
    refine s_l1asflt ?_
    refine goh_ ?_
    refine s_l1floats (by omega) fun v hv => ?_
    replace h := h v hv
    obtain ⟨a0, a1, a2, a3, a4, a5, rfl⟩ := Out.av_agg hv
    clear hv
    exact gox_
theorem s_specAr_2 {k n r k' n' r' : Int} {f f' : Nat} {s s' : ByteArray} {m : Mem} {K : AR → Mem → Prop} (ha : vok ⟨k, n, f, s, r⟩ = true) (hb : vok ⟨k', n', f', s', r'⟩ = true) (hn : i64r n) (hn' : i64r n') (h : ∀ v, (binI 2 ⟨k, n, f, s, r⟩ ⟨k', n', f', s', r'⟩).av v → K (.ret v) m) :
    Sim Tryd.prog 26 [.int .i64 2, .agg [.int .i64 k, .int .i64 n, .flt f, .str s, .int .i64 r], .agg [.int .i64 k', .int .i64 n', .flt f', .str s', .int .i64 r']] m K := by
  refine entry (cxok []) Tryd.func26 rfl rfl (by decide) (by decide) ?_
  refine go_ ?_
  refine s_specValueOk ?_
  rw [ha]
  refine go_ ?_
  refine s_specValueOk ?_
  rw [hb]
  clear ha hb
  cases na : numK ⟨k, n, f, s, r⟩ with
  | false =>
    replace h : K (.ret (failA 1)) m := h _ (by rw [binI_fail (by decide) (.inl na)]; rfl)
    have j2 : (k == 2) = false := (num2 na).1
    refine goh_ ?_
    refine s_l1num ?_
    rw [na]
    clear na
    refine goh_ ?_
    refine s_l1fail ?_
    exact gox_
  | true =>
  cases nb : numK ⟨k', n', f', s', r'⟩ with
  | false =>
    replace h : K (.ret (failA 1)) m := h _ (by rw [binI_fail (by decide) (.inr nb)]; rfl)
    have j2 : (k' == 2) = false := (num2 nb).1
    rcases numK_cases na with rfl | rfl
    · skip
      clear na
      refine goh_ ?_
      refine s_l1num ?_
      rw [show numK ⟨2, n, f, s, r⟩ = true from rfl]
      refine goh_ ?_
      refine s_l1num ?_
      rw [nb]
      clear nb
      refine goh_ ?_
      refine s_l1fail ?_
      exact gox_
    · skip
      clear na
      refine goh_ ?_
      refine s_l1num ?_
      rw [show numK ⟨3, n, f, s, r⟩ = true from rfl]
      refine goh_ ?_
      refine s_l1num ?_
      rw [nb]
      clear nb
      refine goh_ ?_
      refine s_l1fail ?_
      exact gox_
  | true =>
  rcases numK_cases na with rfl | rfl
  all_goals rcases numK_cases nb with rfl | rfl
  · clear na nb
    replace h : ∀ v, (intO 2 n n').av v → K (.ret v) m := h
    refine goh_ ?_
    refine s_l1ints (by omega) fun v hv => ?_
    replace h := h v hv
    obtain ⟨a0, a1, a2, a3, a4, a5, rfl⟩ := Out.av_agg hv
    clear hv
    exact gox_
  · clear na nb
    replace h : ∀ v, (Out.flt (fltO 2 (i2f n) f')).av v → K (.ret v) m := h
    refine goh_ ?_
    refine s_l1num ?_
    rw [show numK ⟨2, n, f, s, r⟩ = true from rfl]
    refine goh_ ?_
    refine s_l1num ?_
    rw [show numK ⟨3, n', f', s', r'⟩ = true from rfl]
    refine goh_ ?_
    refine draw_ [(0, .pure), (1, .read), (3, .read), (2, .step [3]), (4, .step []), (5, .step []), (6, .step [])] (by kernel_rfl) ?_
    refine goh_ ?_
    refine s_l1asflt ?_
    refine goh_ ?_
    refine s_l1asflt ?_
    refine goh_ ?_
    refine s_l1floats (by omega) fun v hv => ?_
    replace h := h v hv
    obtain ⟨a0, a1, a2, a3, a4, a5, rfl⟩ := Out.av_agg hv
    clear hv
    exact gox_
  · clear na nb
    replace h : ∀ v, (Out.flt (fltO 2 f (i2f n'))).av v → K (.ret v) m := h
    refine goh_ ?_
    refine s_l1num ?_
    rw [show numK ⟨3, n, f, s, r⟩ = true from rfl]
    refine goh_ ?_
    refine s_l1num ?_
    rw [show numK ⟨2, n', f', s', r'⟩ = true from rfl]
    refine goh_ ?_
    refine draw_ [(0, .pure), (1, .read), (3, .read), (2, .step [3]), (4, .step []), (5, .step []), (6, .step [])] (by kernel_rfl) ?_
    refine goh_ ?_
    refine s_l1asflt ?_
    refine goh_ ?_
    refine s_l1asflt ?_
    refine goh_ ?_
    refine s_l1floats (by omega) fun v hv => ?_
    replace h := h v hv
    obtain ⟨a0, a1, a2, a3, a4, a5, rfl⟩ := Out.av_agg hv
    clear hv
    exact gox_
  · clear na nb
    replace h : ∀ v, (Out.flt (fltO 2 f f')).av v → K (.ret v) m := h
    refine goh_ ?_
    refine s_l1num ?_
    rw [show numK ⟨3, n, f, s, r⟩ = true from rfl]
    refine goh_ ?_
    refine s_l1num ?_
    rw [show numK ⟨3, n', f', s', r'⟩ = true from rfl]
    refine goh_ ?_
    refine draw_ [(0, .pure), (1, .read), (3, .read), (2, .step [3]), (4, .step []), (5, .step []), (6, .step [])] (by kernel_rfl) ?_
    refine goh_ ?_
    refine s_l1asflt ?_
    refine goh_ ?_
    refine s_l1asflt ?_
    refine goh_ ?_
    refine s_l1floats (by omega) fun v hv => ?_
    replace h := h v hv
    obtain ⟨a0, a1, a2, a3, a4, a5, rfl⟩ := Out.av_agg hv
    clear hv
    exact gox_
theorem s_specAr_3 {k n r k' n' r' : Int} {f f' : Nat} {s s' : ByteArray} {m : Mem} {K : AR → Mem → Prop} (ha : vok ⟨k, n, f, s, r⟩ = true) (hb : vok ⟨k', n', f', s', r'⟩ = true) (hn : i64r n) (hn' : i64r n') (h : ∀ v, (binI 3 ⟨k, n, f, s, r⟩ ⟨k', n', f', s', r'⟩).av v → K (.ret v) m) :
    Sim Tryd.prog 26 [.int .i64 3, .agg [.int .i64 k, .int .i64 n, .flt f, .str s, .int .i64 r], .agg [.int .i64 k', .int .i64 n', .flt f', .str s', .int .i64 r']] m K := by
  refine entry (cxok []) Tryd.func26 rfl rfl (by decide) (by decide) ?_
  refine go_ ?_
  refine s_specValueOk ?_
  rw [ha]
  refine go_ ?_
  refine s_specValueOk ?_
  rw [hb]
  clear ha hb
  cases na : numK ⟨k, n, f, s, r⟩ with
  | false =>
    replace h : K (.ret (failA 1)) m := h _ (by rw [binI_fail (by decide) (.inl na)]; rfl)
    have j2 : (k == 2) = false := (num2 na).1
    refine goh_ ?_
    refine s_l1num ?_
    rw [na]
    clear na
    refine goh_ ?_
    refine s_l1fail ?_
    exact gox_
  | true =>
  cases nb : numK ⟨k', n', f', s', r'⟩ with
  | false =>
    replace h : K (.ret (failA 1)) m := h _ (by rw [binI_fail (by decide) (.inr nb)]; rfl)
    have j2 : (k' == 2) = false := (num2 nb).1
    rcases numK_cases na with rfl | rfl
    · skip
      clear na
      refine goh_ ?_
      refine s_l1num ?_
      rw [show numK ⟨2, n, f, s, r⟩ = true from rfl]
      refine goh_ ?_
      refine s_l1num ?_
      rw [nb]
      clear nb
      refine goh_ ?_
      refine s_l1fail ?_
      exact gox_
    · skip
      clear na
      refine goh_ ?_
      refine s_l1num ?_
      rw [show numK ⟨3, n, f, s, r⟩ = true from rfl]
      refine goh_ ?_
      refine s_l1num ?_
      rw [nb]
      clear nb
      refine goh_ ?_
      refine s_l1fail ?_
      exact gox_
  | true =>
  rcases numK_cases na with rfl | rfl
  all_goals rcases numK_cases nb with rfl | rfl
  · clear na nb
    replace h : ∀ v, (intO 3 n n').av v → K (.ret v) m := h
    refine goh_ ?_
    refine s_l1ints (by omega) fun v hv => ?_
    replace h := h v hv
    obtain ⟨a0, a1, a2, a3, a4, a5, rfl⟩ := Out.av_agg hv
    clear hv
    exact gox_
  · clear na nb
    replace h : ∀ v, (Out.flt (fltO 3 (i2f n) f')).av v → K (.ret v) m := h
    refine goh_ ?_
    refine s_l1num ?_
    rw [show numK ⟨2, n, f, s, r⟩ = true from rfl]
    refine goh_ ?_
    refine s_l1num ?_
    rw [show numK ⟨3, n', f', s', r'⟩ = true from rfl]
    refine goh_ ?_
    refine draw_ [(0, .pure), (1, .read), (3, .read), (2, .step [3]), (4, .step []), (5, .step []), (6, .step [])] (by kernel_rfl) ?_
    refine goh_ ?_
    refine s_l1asflt ?_
    refine goh_ ?_
    refine s_l1asflt ?_
    refine goh_ ?_
    refine s_l1floats (by omega) fun v hv => ?_
    replace h := h v hv
    obtain ⟨a0, a1, a2, a3, a4, a5, rfl⟩ := Out.av_agg hv
    clear hv
    exact gox_
  · clear na nb
    replace h : ∀ v, (Out.flt (fltO 3 f (i2f n'))).av v → K (.ret v) m := h
    refine goh_ ?_
    refine s_l1num ?_
    rw [show numK ⟨3, n, f, s, r⟩ = true from rfl]
    refine goh_ ?_
    refine s_l1num ?_
    rw [show numK ⟨2, n', f', s', r'⟩ = true from rfl]
    refine goh_ ?_
    refine draw_ [(0, .pure), (1, .read), (3, .read), (2, .step [3]), (4, .step []), (5, .step []), (6, .step [])] (by kernel_rfl) ?_
    refine goh_ ?_
    refine s_l1asflt ?_
    refine goh_ ?_
    refine s_l1asflt ?_
    refine goh_ ?_
    refine s_l1floats (by omega) fun v hv => ?_
    replace h := h v hv
    obtain ⟨a0, a1, a2, a3, a4, a5, rfl⟩ := Out.av_agg hv
    clear hv
    exact gox_
  · clear na nb
    replace h : ∀ v, (Out.flt (fltO 3 f f')).av v → K (.ret v) m := h
    refine goh_ ?_
    refine s_l1num ?_
    rw [show numK ⟨3, n, f, s, r⟩ = true from rfl]
    refine goh_ ?_
    refine s_l1num ?_
    rw [show numK ⟨3, n', f', s', r'⟩ = true from rfl]
    refine goh_ ?_
    refine draw_ [(0, .pure), (1, .read), (3, .read), (2, .step [3]), (4, .step []), (5, .step []), (6, .step [])] (by kernel_rfl) ?_
    refine goh_ ?_
    refine s_l1asflt ?_
    refine goh_ ?_
    refine s_l1asflt ?_
    refine goh_ ?_
    refine s_l1floats (by omega) fun v hv => ?_
    replace h := h v hv
    obtain ⟨a0, a1, a2, a3, a4, a5, rfl⟩ := Out.av_agg hv
    clear hv
    exact gox_
theorem s_specAr_4 {k n r k' n' r' : Int} {f f' : Nat} {s s' : ByteArray} {m : Mem} {K : AR → Mem → Prop} (ha : vok ⟨k, n, f, s, r⟩ = true) (hb : vok ⟨k', n', f', s', r'⟩ = true) (hn : i64r n) (hn' : i64r n') (h : ∀ v, (binI 4 ⟨k, n, f, s, r⟩ ⟨k', n', f', s', r'⟩).av v → K (.ret v) m) :
    Sim Tryd.prog 26 [.int .i64 4, .agg [.int .i64 k, .int .i64 n, .flt f, .str s, .int .i64 r], .agg [.int .i64 k', .int .i64 n', .flt f', .str s', .int .i64 r']] m K := by
  refine entry (cxok []) Tryd.func26 rfl rfl (by decide) (by decide) ?_
  refine go_ ?_
  refine s_specValueOk ?_
  rw [ha]
  refine go_ ?_
  refine s_specValueOk ?_
  rw [hb]
  clear ha hb
  cases na : numK ⟨k, n, f, s, r⟩ with
  | false =>
    replace h : K (.ret (failA 1)) m := h _ (by rw [binI_fail (by decide) (.inl na)]; rfl)
    have j2 : (k == 2) = false := (num2 na).1
    refine goh_ ?_
    refine s_l1num ?_
    rw [na]
    clear na
    refine goh_ ?_
    refine s_l1fail ?_
    exact gox_
  | true =>
  cases nb : numK ⟨k', n', f', s', r'⟩ with
  | false =>
    replace h : K (.ret (failA 1)) m := h _ (by rw [binI_fail (by decide) (.inr nb)]; rfl)
    have j2 : (k' == 2) = false := (num2 nb).1
    rcases numK_cases na with rfl | rfl
    · skip
      clear na
      refine goh_ ?_
      refine s_l1num ?_
      rw [show numK ⟨2, n, f, s, r⟩ = true from rfl]
      refine goh_ ?_
      refine s_l1num ?_
      rw [nb]
      clear nb
      refine goh_ ?_
      refine s_l1fail ?_
      exact gox_
    · skip
      clear na
      refine goh_ ?_
      refine s_l1num ?_
      rw [show numK ⟨3, n, f, s, r⟩ = true from rfl]
      refine goh_ ?_
      refine s_l1num ?_
      rw [nb]
      clear nb
      refine goh_ ?_
      refine s_l1fail ?_
      exact gox_
  | true =>
  rcases numK_cases na with rfl | rfl
  all_goals rcases numK_cases nb with rfl | rfl
  · clear na nb
    replace h : ∀ v, (intO 4 n n').av v → K (.ret v) m := h
    refine goh_ ?_
    refine s_l1ints (by omega) fun v hv => ?_
    replace h := h v hv
    obtain ⟨a0, a1, a2, a3, a4, a5, rfl⟩ := Out.av_agg hv
    clear hv
    exact gox_
  · clear na nb
    replace h : ∀ v, (Out.flt (fltO 4 (i2f n) f')).av v → K (.ret v) m := h
    refine goh_ ?_
    refine s_l1num ?_
    rw [show numK ⟨2, n, f, s, r⟩ = true from rfl]
    refine goh_ ?_
    refine s_l1num ?_
    rw [show numK ⟨3, n', f', s', r'⟩ = true from rfl]
    refine goh_ ?_
    refine draw_ [(0, .pure), (1, .read), (3, .read), (2, .step [3]), (4, .step []), (5, .step []), (6, .step [])] (by kernel_rfl) ?_
    refine goh_ ?_
    refine s_l1asflt ?_
    refine goh_ ?_
    refine s_l1asflt ?_
    refine goh_ ?_
    refine s_l1floats (by omega) fun v hv => ?_
    replace h := h v hv
    obtain ⟨a0, a1, a2, a3, a4, a5, rfl⟩ := Out.av_agg hv
    clear hv
    exact gox_
  · clear na nb
    replace h : ∀ v, (Out.flt (fltO 4 f (i2f n'))).av v → K (.ret v) m := h
    refine goh_ ?_
    refine s_l1num ?_
    rw [show numK ⟨3, n, f, s, r⟩ = true from rfl]
    refine goh_ ?_
    refine s_l1num ?_
    rw [show numK ⟨2, n', f', s', r'⟩ = true from rfl]
    refine goh_ ?_
    refine draw_ [(0, .pure), (1, .read), (3, .read), (2, .step [3]), (4, .step []), (5, .step []), (6, .step [])] (by kernel_rfl) ?_
    refine goh_ ?_
    refine s_l1asflt ?_
    refine goh_ ?_
    refine s_l1asflt ?_
    refine goh_ ?_
    refine s_l1floats (by omega) fun v hv => ?_
    replace h := h v hv
    obtain ⟨a0, a1, a2, a3, a4, a5, rfl⟩ := Out.av_agg hv
    clear hv
    exact gox_
  · clear na nb
    replace h : ∀ v, (Out.flt (fltO 4 f f')).av v → K (.ret v) m := h
    refine goh_ ?_
    refine s_l1num ?_
    rw [show numK ⟨3, n, f, s, r⟩ = true from rfl]
    refine goh_ ?_
    refine s_l1num ?_
    rw [show numK ⟨3, n', f', s', r'⟩ = true from rfl]
    refine goh_ ?_
    refine draw_ [(0, .pure), (1, .read), (3, .read), (2, .step [3]), (4, .step []), (5, .step []), (6, .step [])] (by kernel_rfl) ?_
    refine goh_ ?_
    refine s_l1asflt ?_
    refine goh_ ?_
    refine s_l1asflt ?_
    refine goh_ ?_
    refine s_l1floats (by omega) fun v hv => ?_
    replace h := h v hv
    obtain ⟨a0, a1, a2, a3, a4, a5, rfl⟩ := Out.av_agg hv
    clear hv
    exact gox_
theorem s_specAr_5 {k n r k' n' r' : Int} {f f' : Nat} {s s' : ByteArray} {m : Mem} {K : AR → Mem → Prop} (ha : vok ⟨k, n, f, s, r⟩ = true) (hb : vok ⟨k', n', f', s', r'⟩ = true) (hn : i64r n) (hn' : i64r n') (h : ∀ v, (binI 5 ⟨k, n, f, s, r⟩ ⟨k', n', f', s', r'⟩).av v → K (.ret v) m) :
    Sim Tryd.prog 26 [.int .i64 5, .agg [.int .i64 k, .int .i64 n, .flt f, .str s, .int .i64 r], .agg [.int .i64 k', .int .i64 n', .flt f', .str s', .int .i64 r']] m K := by
  refine entry (cxok []) Tryd.func26 rfl rfl (by decide) (by decide) ?_
  refine go_ ?_
  refine s_specValueOk ?_
  rw [ha]
  refine go_ ?_
  refine s_specValueOk ?_
  rw [hb]
  clear ha hb
  cases na : numK ⟨k, n, f, s, r⟩ with
  | false =>
    replace h : K (.ret (failA 1)) m := h _ (by rw [binI_fail (by decide) (.inl na)]; rfl)
    have j2 : (k == 2) = false := (num2 na).1
    refine goh_ ?_
    refine s_l1num ?_
    rw [na]
    clear na
    refine goh_ ?_
    refine s_l1fail ?_
    exact gox_
  | true =>
  cases nb : numK ⟨k', n', f', s', r'⟩ with
  | false =>
    replace h : K (.ret (failA 1)) m := h _ (by rw [binI_fail (by decide) (.inr nb)]; rfl)
    have j2 : (k' == 2) = false := (num2 nb).1
    rcases numK_cases na with rfl | rfl
    · skip
      clear na
      refine goh_ ?_
      refine s_l1num ?_
      rw [show numK ⟨2, n, f, s, r⟩ = true from rfl]
      refine goh_ ?_
      refine s_l1num ?_
      rw [nb]
      clear nb
      refine goh_ ?_
      refine s_l1fail ?_
      exact gox_
    · skip
      clear na
      refine goh_ ?_
      refine s_l1num ?_
      rw [show numK ⟨3, n, f, s, r⟩ = true from rfl]
      refine goh_ ?_
      refine s_l1num ?_
      rw [nb]
      clear nb
      refine goh_ ?_
      refine s_l1fail ?_
      exact gox_
  | true =>
  rcases numK_cases na with rfl | rfl
  all_goals rcases numK_cases nb with rfl | rfl
  · clear na nb
    replace h : ∀ v, (intO 5 n n').av v → K (.ret v) m := h
    refine goh_ ?_
    refine s_l1ints (by omega) fun v hv => ?_
    replace h := h v hv
    obtain ⟨a0, a1, a2, a3, a4, a5, rfl⟩ := Out.av_agg hv
    clear hv
    exact gox_
  · clear na nb
    replace h : ∀ v, (Out.flt (fltO 5 (i2f n) f')).av v → K (.ret v) m := h
    refine goh_ ?_
    refine s_l1num ?_
    rw [show numK ⟨2, n, f, s, r⟩ = true from rfl]
    refine goh_ ?_
    refine s_l1num ?_
    rw [show numK ⟨3, n', f', s', r'⟩ = true from rfl]
    refine goh_ ?_
    refine draw_ [(0, .pure), (1, .read), (3, .read), (2, .step [3]), (4, .step []), (5, .step []), (6, .step [])] (by kernel_rfl) ?_
    refine goh_ ?_
    refine s_l1asflt ?_
    refine goh_ ?_
    refine s_l1asflt ?_
    refine goh_ ?_
    refine s_l1floats (by omega) fun v hv => ?_
    replace h := h v hv
    obtain ⟨a0, a1, a2, a3, a4, a5, rfl⟩ := Out.av_agg hv
    clear hv
    exact gox_
  · clear na nb
    replace h : ∀ v, (Out.flt (fltO 5 f (i2f n'))).av v → K (.ret v) m := h
    refine goh_ ?_
    refine s_l1num ?_
    rw [show numK ⟨3, n, f, s, r⟩ = true from rfl]
    refine goh_ ?_
    refine s_l1num ?_
    rw [show numK ⟨2, n', f', s', r'⟩ = true from rfl]
    refine goh_ ?_
    refine draw_ [(0, .pure), (1, .read), (3, .read), (2, .step [3]), (4, .step []), (5, .step []), (6, .step [])] (by kernel_rfl) ?_
    refine goh_ ?_
    refine s_l1asflt ?_
    refine goh_ ?_
    refine s_l1asflt ?_
    refine goh_ ?_
    refine s_l1floats (by omega) fun v hv => ?_
    replace h := h v hv
    obtain ⟨a0, a1, a2, a3, a4, a5, rfl⟩ := Out.av_agg hv
    clear hv
    exact gox_
  · clear na nb
    replace h : ∀ v, (Out.flt (fltO 5 f f')).av v → K (.ret v) m := h
    refine goh_ ?_
    refine s_l1num ?_
    rw [show numK ⟨3, n, f, s, r⟩ = true from rfl]
    refine goh_ ?_
    refine s_l1num ?_
    rw [show numK ⟨3, n', f', s', r'⟩ = true from rfl]
    refine goh_ ?_
    refine draw_ [(0, .pure), (1, .read), (3, .read), (2, .step [3]), (4, .step []), (5, .step []), (6, .step [])] (by kernel_rfl) ?_
    refine goh_ ?_
    refine s_l1asflt ?_
    refine goh_ ?_
    refine s_l1asflt ?_
    refine goh_ ?_
    refine s_l1floats (by omega) fun v hv => ?_
    replace h := h v hv
    obtain ⟨a0, a1, a2, a3, a4, a5, rfl⟩ := Out.av_agg hv
    clear hv
    exact gox_
theorem s_specAr_6 {k n r k' n' r' : Int} {f f' : Nat} {s s' : ByteArray} {m : Mem} {K : AR → Mem → Prop} (ha : vok ⟨k, n, f, s, r⟩ = true) (hb : vok ⟨k', n', f', s', r'⟩ = true) (hn : i64r n) (hn' : i64r n') (h : ∀ v, (binI 6 ⟨k, n, f, s, r⟩ ⟨k', n', f', s', r'⟩).av v → K (.ret v) m) :
    Sim Tryd.prog 26 [.int .i64 6, .agg [.int .i64 k, .int .i64 n, .flt f, .str s, .int .i64 r], .agg [.int .i64 k', .int .i64 n', .flt f', .str s', .int .i64 r']] m K := by
  refine entry (cxok []) Tryd.func26 rfl rfl (by decide) (by decide) ?_
  refine go_ ?_
  refine s_specValueOk ?_
  rw [ha]
  refine go_ ?_
  refine s_specValueOk ?_
  rw [hb]
  clear ha hb
  cases na : numK ⟨k, n, f, s, r⟩ with
  | false =>
    replace h : K (.ret (failA 1)) m := h _ (by rw [binI_fail (by decide) (.inl na)]; rfl)
    have j2 : (k == 2) = false := (num2 na).1
    refine goh_ ?_
    refine s_l1num ?_
    rw [na]
    clear na
    refine goh_ ?_
    refine s_l1fail ?_
    exact gox_
  | true =>
  cases nb : numK ⟨k', n', f', s', r'⟩ with
  | false =>
    replace h : K (.ret (failA 1)) m := h _ (by rw [binI_fail (by decide) (.inr nb)]; rfl)
    have j2 : (k' == 2) = false := (num2 nb).1
    rcases numK_cases na with rfl | rfl
    · skip
      clear na
      refine goh_ ?_
      refine s_l1num ?_
      rw [show numK ⟨2, n, f, s, r⟩ = true from rfl]
      refine goh_ ?_
      refine s_l1num ?_
      rw [nb]
      clear nb
      refine goh_ ?_
      refine s_l1fail ?_
      exact gox_
    · skip
      clear na
      refine goh_ ?_
      refine s_l1num ?_
      rw [show numK ⟨3, n, f, s, r⟩ = true from rfl]
      refine goh_ ?_
      refine s_l1num ?_
      rw [nb]
      clear nb
      refine goh_ ?_
      refine s_l1fail ?_
      exact gox_
  | true =>
  rcases numK_cases na with rfl | rfl
  all_goals rcases numK_cases nb with rfl | rfl
  · clear na nb
    replace h : ∀ v, (intO 6 n n').av v → K (.ret v) m := h
    refine goh_ ?_
    refine s_l1ints (by omega) fun v hv => ?_
    replace h := h v hv
    obtain ⟨a0, a1, a2, a3, a4, a5, rfl⟩ := Out.av_agg hv
    clear hv
    exact gox_
  · clear na nb
    replace h : ∀ v, (Out.flt (fltO 6 (i2f n) f')).av v → K (.ret v) m := h
    refine goh_ ?_
    refine s_l1num ?_
    rw [show numK ⟨2, n, f, s, r⟩ = true from rfl]
    refine goh_ ?_
    refine s_l1num ?_
    rw [show numK ⟨3, n', f', s', r'⟩ = true from rfl]
    refine goh_ ?_
    refine draw_ [(0, .pure), (1, .read), (3, .read), (2, .step [3]), (4, .step []), (5, .step []), (6, .step [])] (by kernel_rfl) ?_
    refine goh_ ?_
    refine s_l1asflt ?_
    refine goh_ ?_
    refine s_l1asflt ?_
    refine goh_ ?_
    refine s_l1floats (by omega) fun v hv => ?_
    replace h := h v hv
    obtain ⟨a0, a1, a2, a3, a4, a5, rfl⟩ := Out.av_agg hv
    clear hv
    exact gox_
  · clear na nb
    replace h : ∀ v, (Out.flt (fltO 6 f (i2f n'))).av v → K (.ret v) m := h
    refine goh_ ?_
    refine s_l1num ?_
    rw [show numK ⟨3, n, f, s, r⟩ = true from rfl]
    refine goh_ ?_
    refine s_l1num ?_
    rw [show numK ⟨2, n', f', s', r'⟩ = true from rfl]
    refine goh_ ?_
    refine draw_ [(0, .pure), (1, .read), (3, .read), (2, .step [3]), (4, .step []), (5, .step []), (6, .step [])] (by kernel_rfl) ?_
    refine goh_ ?_
    refine s_l1asflt ?_
    refine goh_ ?_
    refine s_l1asflt ?_
    refine goh_ ?_
    refine s_l1floats (by omega) fun v hv => ?_
    replace h := h v hv
    obtain ⟨a0, a1, a2, a3, a4, a5, rfl⟩ := Out.av_agg hv
    clear hv
    exact gox_
  · clear na nb
    replace h : ∀ v, (Out.flt (fltO 6 f f')).av v → K (.ret v) m := h
    refine goh_ ?_
    refine s_l1num ?_
    rw [show numK ⟨3, n, f, s, r⟩ = true from rfl]
    refine goh_ ?_
    refine s_l1num ?_
    rw [show numK ⟨3, n', f', s', r'⟩ = true from rfl]
    refine goh_ ?_
    refine draw_ [(0, .pure), (1, .read), (3, .read), (2, .step [3]), (4, .step []), (5, .step []), (6, .step [])] (by kernel_rfl) ?_
    refine goh_ ?_
    refine s_l1asflt ?_
    refine goh_ ?_
    refine s_l1asflt ?_
    refine goh_ ?_
    refine s_l1floats (by omega) fun v hv => ?_
    replace h := h v hv
    obtain ⟨a0, a1, a2, a3, a4, a5, rfl⟩ := Out.av_agg hv
    clear hv
    exact gox_
theorem s_specAr_7 {k n r k' n' r' : Int} {f f' : Nat} {s s' : ByteArray} {m : Mem} {K : AR → Mem → Prop} (ha : vok ⟨k, n, f, s, r⟩ = true) (hb : vok ⟨k', n', f', s', r'⟩ = true) (hn : i64r n) (hn' : i64r n') (h : ∀ v, (binI 7 ⟨k, n, f, s, r⟩ ⟨k', n', f', s', r'⟩).av v → K (.ret v) m) :
    Sim Tryd.prog 26 [.int .i64 7, .agg [.int .i64 k, .int .i64 n, .flt f, .str s, .int .i64 r], .agg [.int .i64 k', .int .i64 n', .flt f', .str s', .int .i64 r']] m K := by
  refine entry (cxok []) Tryd.func26 rfl rfl (by decide) (by decide) ?_
  refine go_ ?_
  refine s_specValueOk ?_
  rw [ha]
  refine go_ ?_
  refine s_specValueOk ?_
  rw [hb]
  clear ha hb
  cases na : numK ⟨k, n, f, s, r⟩ with
  | false =>
    replace h : K (.ret (failA 1)) m := h _ (by rw [binI_fail (by decide) (.inl na)]; rfl)
    have j2 : (k == 2) = false := (num2 na).1
    refine goh_ ?_
    refine s_l1num ?_
    rw [na]
    clear na
    refine goh_ ?_
    refine s_l1fail ?_
    exact gox_
  | true =>
  cases nb : numK ⟨k', n', f', s', r'⟩ with
  | false =>
    replace h : K (.ret (failA 1)) m := h _ (by rw [binI_fail (by decide) (.inr nb)]; rfl)
    have j2 : (k' == 2) = false := (num2 nb).1
    rcases numK_cases na with rfl | rfl
    · skip
      clear na
      refine goh_ ?_
      refine s_l1num ?_
      rw [show numK ⟨2, n, f, s, r⟩ = true from rfl]
      refine goh_ ?_
      refine s_l1num ?_
      rw [nb]
      clear nb
      refine goh_ ?_
      refine s_l1fail ?_
      exact gox_
    · skip
      clear na
      refine goh_ ?_
      refine s_l1num ?_
      rw [show numK ⟨3, n, f, s, r⟩ = true from rfl]
      refine goh_ ?_
      refine s_l1num ?_
      rw [nb]
      clear nb
      refine goh_ ?_
      refine s_l1fail ?_
      exact gox_
  | true =>
  rcases numK_cases na with rfl | rfl
  all_goals rcases numK_cases nb with rfl | rfl
  · clear na nb
    replace h : ∀ v, (intO 7 n n').av v → K (.ret v) m := h
    refine goh_ ?_
    refine s_l1ints (by omega) fun v hv => ?_
    replace h := h v hv
    obtain ⟨a0, a1, a2, a3, a4, a5, rfl⟩ := Out.av_agg hv
    clear hv
    exact gox_
  · clear na nb
    replace h : K (.ret (failA 1)) m := h _ rfl
    refine goh_ ?_
    refine s_l1num ?_
    rw [show numK ⟨2, n, f, s, r⟩ = true from rfl]
    refine goh_ ?_
    refine s_l1num ?_
    rw [show numK ⟨3, n', f', s', r'⟩ = true from rfl]
    refine goh_ ?_
    refine draw_ [(0, .pure), (1, .read), (3, .read), (2, .step [3]), (4, .step []), (5, .step []), (6, .step [])] (by kernel_rfl) ?_
    refine goh_ ?_
    refine s_l1asflt ?_
    refine goh_ ?_
    refine s_l1asflt ?_
    refine goh_ ?_
    refine s_l1floatsX (by omega) ?_
    exact gox_
  · clear na nb
    replace h : K (.ret (failA 1)) m := h _ rfl
    refine goh_ ?_
    refine s_l1num ?_
    rw [show numK ⟨3, n, f, s, r⟩ = true from rfl]
    refine goh_ ?_
    refine s_l1num ?_
    rw [show numK ⟨2, n', f', s', r'⟩ = true from rfl]
    refine goh_ ?_
    refine draw_ [(0, .pure), (1, .read), (3, .read), (2, .step [3]), (4, .step []), (5, .step []), (6, .step [])] (by kernel_rfl) ?_
    refine goh_ ?_
    refine s_l1asflt ?_
    refine goh_ ?_
    refine s_l1asflt ?_
    refine goh_ ?_
    refine s_l1floatsX (by omega) ?_
    exact gox_
  · clear na nb
    replace h : K (.ret (failA 1)) m := h _ rfl
    refine goh_ ?_
    refine s_l1num ?_
    rw [show numK ⟨3, n, f, s, r⟩ = true from rfl]
    refine goh_ ?_
    refine s_l1num ?_
    rw [show numK ⟨3, n', f', s', r'⟩ = true from rfl]
    refine goh_ ?_
    refine draw_ [(0, .pure), (1, .read), (3, .read), (2, .step [3]), (4, .step []), (5, .step []), (6, .step [])] (by kernel_rfl) ?_
    refine goh_ ?_
    refine s_l1asflt ?_
    refine goh_ ?_
    refine s_l1asflt ?_
    refine goh_ ?_
    refine s_l1floatsX (by omega) ?_
    exact gox_
theorem s_specAr_8 {k n r k' n' r' : Int} {f f' : Nat} {s s' : ByteArray} {m : Mem} {K : AR → Mem → Prop} (ha : vok ⟨k, n, f, s, r⟩ = true) (hb : vok ⟨k', n', f', s', r'⟩ = true) (hn : i64r n) (hn' : i64r n') (h : ∀ v, (binI 8 ⟨k, n, f, s, r⟩ ⟨k', n', f', s', r'⟩).av v → K (.ret v) m) :
    Sim Tryd.prog 26 [.int .i64 8, .agg [.int .i64 k, .int .i64 n, .flt f, .str s, .int .i64 r], .agg [.int .i64 k', .int .i64 n', .flt f', .str s', .int .i64 r']] m K := by
  refine entry (cxok []) Tryd.func26 rfl rfl (by decide) (by decide) ?_
  refine go_ ?_
  refine s_specValueOk ?_
  rw [ha]
  refine go_ ?_
  refine s_specValueOk ?_
  rw [hb]
  clear ha hb
  cases na : numK ⟨k, n, f, s, r⟩ with
  | false =>
    replace h : K (.ret (failA 1)) m := h _ (by rw [binI_fail (by decide) (.inl na)]; rfl)
    have j2 : (k == 2) = false := (num2 na).1
    refine goh_ ?_
    refine s_l1num ?_
    rw [na]
    clear na
    refine goh_ ?_
    refine s_l1fail ?_
    exact gox_
  | true =>
  cases nb : numK ⟨k', n', f', s', r'⟩ with
  | false =>
    replace h : K (.ret (failA 1)) m := h _ (by rw [binI_fail (by decide) (.inr nb)]; rfl)
    have j2 : (k' == 2) = false := (num2 nb).1
    rcases numK_cases na with rfl | rfl
    · skip
      clear na
      refine goh_ ?_
      refine s_l1num ?_
      rw [show numK ⟨2, n, f, s, r⟩ = true from rfl]
      refine goh_ ?_
      refine s_l1num ?_
      rw [nb]
      clear nb
      refine goh_ ?_
      refine s_l1fail ?_
      exact gox_
    · skip
      clear na
      refine goh_ ?_
      refine s_l1num ?_
      rw [show numK ⟨3, n, f, s, r⟩ = true from rfl]
      refine goh_ ?_
      refine s_l1num ?_
      rw [nb]
      clear nb
      refine goh_ ?_
      refine s_l1fail ?_
      exact gox_
  | true =>
  rcases numK_cases na with rfl | rfl
  all_goals rcases numK_cases nb with rfl | rfl
  · clear na nb
    replace h : ∀ v, (intO 8 n n').av v → K (.ret v) m := h
    refine goh_ ?_
    refine s_l1ints (by omega) fun v hv => ?_
    replace h := h v hv
    obtain ⟨a0, a1, a2, a3, a4, a5, rfl⟩ := Out.av_agg hv
    clear hv
    exact gox_
  · clear na nb
    replace h : K (.ret (failA 1)) m := h _ rfl
    refine goh_ ?_
    refine s_l1num ?_
    rw [show numK ⟨2, n, f, s, r⟩ = true from rfl]
    refine goh_ ?_
    refine s_l1num ?_
    rw [show numK ⟨3, n', f', s', r'⟩ = true from rfl]
    refine goh_ ?_
    refine draw_ [(0, .pure), (1, .read), (3, .read), (2, .step [3]), (4, .step []), (5, .step []), (6, .step [])] (by kernel_rfl) ?_
    refine goh_ ?_
    refine s_l1asflt ?_
    refine goh_ ?_
    refine s_l1asflt ?_
    refine goh_ ?_
    refine s_l1floatsX (by omega) ?_
    exact gox_
  · clear na nb
    replace h : K (.ret (failA 1)) m := h _ rfl
    refine goh_ ?_
    refine s_l1num ?_
    rw [show numK ⟨3, n, f, s, r⟩ = true from rfl]
    refine goh_ ?_
    refine s_l1num ?_
    rw [show numK ⟨2, n', f', s', r'⟩ = true from rfl]
    refine goh_ ?_
    refine draw_ [(0, .pure), (1, .read), (3, .read), (2, .step [3]), (4, .step []), (5, .step []), (6, .step [])] (by kernel_rfl) ?_
    refine goh_ ?_
    refine s_l1asflt ?_
    refine goh_ ?_
    refine s_l1asflt ?_
    refine goh_ ?_
    refine s_l1floatsX (by omega) ?_
    exact gox_
  · clear na nb
    replace h : K (.ret (failA 1)) m := h _ rfl
    refine goh_ ?_
    refine s_l1num ?_
    rw [show numK ⟨3, n, f, s, r⟩ = true from rfl]
    refine goh_ ?_
    refine s_l1num ?_
    rw [show numK ⟨3, n', f', s', r'⟩ = true from rfl]
    refine goh_ ?_
    refine draw_ [(0, .pure), (1, .read), (3, .read), (2, .step [3]), (4, .step []), (5, .step []), (6, .step [])] (by kernel_rfl) ?_
    refine goh_ ?_
    refine s_l1asflt ?_
    refine goh_ ?_
    refine s_l1asflt ?_
    refine goh_ ?_
    refine s_l1floatsX (by omega) ?_
    exact gox_
theorem s_specAr_9 {k n r k' n' r' : Int} {f f' : Nat} {s s' : ByteArray} {m : Mem} {K : AR → Mem → Prop} (ha : vok ⟨k, n, f, s, r⟩ = true) (hb : vok ⟨k', n', f', s', r'⟩ = true) (hn : i64r n) (hn' : i64r n') (h : ∀ v, (binI 9 ⟨k, n, f, s, r⟩ ⟨k', n', f', s', r'⟩).av v → K (.ret v) m) :
    Sim Tryd.prog 26 [.int .i64 9, .agg [.int .i64 k, .int .i64 n, .flt f, .str s, .int .i64 r], .agg [.int .i64 k', .int .i64 n', .flt f', .str s', .int .i64 r']] m K := by
  refine entry (cxok []) Tryd.func26 rfl rfl (by decide) (by decide) ?_
  refine go_ ?_
  refine s_specValueOk ?_
  rw [ha]
  refine go_ ?_
  refine s_specValueOk ?_
  rw [hb]
  clear ha hb
  cases na : numK ⟨k, n, f, s, r⟩ with
  | false =>
    replace h : K (.ret (failA 1)) m := h _ (by rw [binI_fail (by decide) (.inl na)]; rfl)
    have j2 : (k == 2) = false := (num2 na).1
    refine goh_ ?_
    refine s_l1num ?_
    rw [na]
    clear na
    refine goh_ ?_
    refine s_l1fail ?_
    exact gox_
  | true =>
  cases nb : numK ⟨k', n', f', s', r'⟩ with
  | false =>
    replace h : K (.ret (failA 1)) m := h _ (by rw [binI_fail (by decide) (.inr nb)]; rfl)
    have j2 : (k' == 2) = false := (num2 nb).1
    rcases numK_cases na with rfl | rfl
    · skip
      clear na
      refine goh_ ?_
      refine s_l1num ?_
      rw [show numK ⟨2, n, f, s, r⟩ = true from rfl]
      refine goh_ ?_
      refine s_l1num ?_
      rw [nb]
      clear nb
      refine goh_ ?_
      refine s_l1fail ?_
      exact gox_
    · skip
      clear na
      refine goh_ ?_
      refine s_l1num ?_
      rw [show numK ⟨3, n, f, s, r⟩ = true from rfl]
      refine goh_ ?_
      refine s_l1num ?_
      rw [nb]
      clear nb
      refine goh_ ?_
      refine s_l1fail ?_
      exact gox_
  | true =>
  rcases numK_cases na with rfl | rfl
  all_goals rcases numK_cases nb with rfl | rfl
  · clear na nb
    replace h : ∀ v, (intO 9 n n').av v → K (.ret v) m := h
    refine goh_ ?_
    refine s_l1ints (by omega) fun v hv => ?_
    replace h := h v hv
    obtain ⟨a0, a1, a2, a3, a4, a5, rfl⟩ := Out.av_agg hv
    clear hv
    exact gox_
  · clear na nb
    replace h : K (.ret (failA 1)) m := h _ rfl
    refine goh_ ?_
    refine s_l1num ?_
    rw [show numK ⟨2, n, f, s, r⟩ = true from rfl]
    refine goh_ ?_
    refine s_l1num ?_
    rw [show numK ⟨3, n', f', s', r'⟩ = true from rfl]
    refine goh_ ?_
    refine draw_ [(0, .pure), (1, .read), (3, .read), (2, .step [3]), (4, .step []), (5, .step []), (6, .step [])] (by kernel_rfl) ?_
    refine goh_ ?_
    refine s_l1asflt ?_
    refine goh_ ?_
    refine s_l1asflt ?_
    refine goh_ ?_
    refine s_l1floatsX (by omega) ?_
    exact gox_
  · clear na nb
    replace h : K (.ret (failA 1)) m := h _ rfl
    refine goh_ ?_
    refine s_l1num ?_
    rw [show numK ⟨3, n, f, s, r⟩ = true from rfl]
    refine goh_ ?_
    refine s_l1num ?_
    rw [show numK ⟨2, n', f', s', r'⟩ = true from rfl]
    refine goh_ ?_
    refine draw_ [(0, .pure), (1, .read), (3, .read), (2, .step [3]), (4, .step []), (5, .step []), (6, .step [])] (by kernel_rfl) ?_
    refine goh_ ?_
    refine s_l1asflt ?_
    refine goh_ ?_
    refine s_l1asflt ?_
    refine goh_ ?_
    refine s_l1floatsX (by omega) ?_
    exact gox_
  · clear na nb
    replace h : K (.ret (failA 1)) m := h _ rfl
    refine goh_ ?_
    refine s_l1num ?_
    rw [show numK ⟨3, n, f, s, r⟩ = true from rfl]
    refine goh_ ?_
    refine s_l1num ?_
    rw [show numK ⟨3, n', f', s', r'⟩ = true from rfl]
    refine goh_ ?_
    refine draw_ [(0, .pure), (1, .read), (3, .read), (2, .step [3]), (4, .step []), (5, .step []), (6, .step [])] (by kernel_rfl) ?_
    refine goh_ ?_
    refine s_l1asflt ?_
    refine goh_ ?_
    refine s_l1asflt ?_
    refine goh_ ?_
    refine s_l1floatsX (by omega) ?_
    exact gox_
theorem s_specAr_10 {k n r k' n' r' : Int} {f f' : Nat} {s s' : ByteArray} {m : Mem} {K : AR → Mem → Prop} (ha : vok ⟨k, n, f, s, r⟩ = true) (hb : vok ⟨k', n', f', s', r'⟩ = true) (hn : i64r n) (hn' : i64r n') (h : ∀ v, (binI 10 ⟨k, n, f, s, r⟩ ⟨k', n', f', s', r'⟩).av v → K (.ret v) m) :
    Sim Tryd.prog 26 [.int .i64 10, .agg [.int .i64 k, .int .i64 n, .flt f, .str s, .int .i64 r], .agg [.int .i64 k', .int .i64 n', .flt f', .str s', .int .i64 r']] m K := by
  refine entry (cxok []) Tryd.func26 rfl rfl (by decide) (by decide) ?_
  refine go_ ?_
  refine s_specValueOk ?_
  rw [ha]
  refine go_ ?_
  refine s_specValueOk ?_
  rw [hb]
  clear ha hb
  cases na : numK ⟨k, n, f, s, r⟩ with
  | false =>
    replace h : K (.ret (failA 1)) m := h _ (by rw [binI_fail (by decide) (.inl na)]; rfl)
    have j2 : (k == 2) = false := (num2 na).1
    refine goh_ ?_
    refine s_l1num ?_
    rw [na]
    clear na
    refine goh_ ?_
    refine s_l1fail ?_
    exact gox_
  | true =>
  cases nb : numK ⟨k', n', f', s', r'⟩ with
  | false =>
    replace h : K (.ret (failA 1)) m := h _ (by rw [binI_fail (by decide) (.inr nb)]; rfl)
    have j2 : (k' == 2) = false := (num2 nb).1
    rcases numK_cases na with rfl | rfl
    · skip
      clear na
      refine goh_ ?_
      refine s_l1num ?_
      rw [show numK ⟨2, n, f, s, r⟩ = true from rfl]
      refine goh_ ?_
      refine s_l1num ?_
      rw [nb]
      clear nb
      refine goh_ ?_
      refine s_l1fail ?_
      exact gox_
    · skip
      clear na
      refine goh_ ?_
      refine s_l1num ?_
      rw [show numK ⟨3, n, f, s, r⟩ = true from rfl]
      refine goh_ ?_
      refine s_l1num ?_
      rw [nb]
      clear nb
      refine goh_ ?_
      refine s_l1fail ?_
      exact gox_
  | true =>
  rcases numK_cases na with rfl | rfl
  all_goals rcases numK_cases nb with rfl | rfl
  · clear na nb
    replace h : ∀ v, (intO 10 n n').av v → K (.ret v) m := h
    refine goh_ ?_
    refine s_l1ints (by omega) fun v hv => ?_
    replace h := h v hv
    obtain ⟨a0, a1, a2, a3, a4, a5, rfl⟩ := Out.av_agg hv
    clear hv
    exact gox_
  · clear na nb
    replace h : K (.ret (failA 1)) m := h _ rfl
    refine goh_ ?_
    refine s_l1num ?_
    rw [show numK ⟨2, n, f, s, r⟩ = true from rfl]
    refine goh_ ?_
    refine s_l1num ?_
    rw [show numK ⟨3, n', f', s', r'⟩ = true from rfl]
    refine goh_ ?_
    refine draw_ [(0, .pure), (1, .read), (3, .read), (2, .step [3]), (4, .step []), (5, .step []), (6, .step [])] (by kernel_rfl) ?_
    refine goh_ ?_
    refine s_l1asflt ?_
    refine goh_ ?_
    refine s_l1asflt ?_
    refine goh_ ?_
    refine s_l1floatsX (by omega) ?_
    exact gox_
  · clear na nb
    replace h : K (.ret (failA 1)) m := h _ rfl
    refine goh_ ?_
    refine s_l1num ?_
    rw [show numK ⟨3, n, f, s, r⟩ = true from rfl]
    refine goh_ ?_
    refine s_l1num ?_
    rw [show numK ⟨2, n', f', s', r'⟩ = true from rfl]
    refine goh_ ?_
    refine draw_ [(0, .pure), (1, .read), (3, .read), (2, .step [3]), (4, .step []), (5, .step []), (6, .step [])] (by kernel_rfl) ?_
    refine goh_ ?_
    refine s_l1asflt ?_
    refine goh_ ?_
    refine s_l1asflt ?_
    refine goh_ ?_
    refine s_l1floatsX (by omega) ?_
    exact gox_
  · clear na nb
    replace h : K (.ret (failA 1)) m := h _ rfl
    refine goh_ ?_
    refine s_l1num ?_
    rw [show numK ⟨3, n, f, s, r⟩ = true from rfl]
    refine goh_ ?_
    refine s_l1num ?_
    rw [show numK ⟨3, n', f', s', r'⟩ = true from rfl]
    refine goh_ ?_
    refine draw_ [(0, .pure), (1, .read), (3, .read), (2, .step [3]), (4, .step []), (5, .step []), (6, .step [])] (by kernel_rfl) ?_
    refine goh_ ?_
    refine s_l1asflt ?_
    refine goh_ ?_
    refine s_l1asflt ?_
    refine goh_ ?_
    refine s_l1floatsX (by omega) ?_
    exact gox_
theorem s_specAr_11 {k n r k' n' r' : Int} {f f' : Nat} {s s' : ByteArray} {m : Mem} {K : AR → Mem → Prop} (ha : vok ⟨k, n, f, s, r⟩ = true) (hb : vok ⟨k', n', f', s', r'⟩ = true) (hn : i64r n) (hn' : i64r n') (h : ∀ v, (binI 11 ⟨k, n, f, s, r⟩ ⟨k', n', f', s', r'⟩).av v → K (.ret v) m) :
    Sim Tryd.prog 26 [.int .i64 11, .agg [.int .i64 k, .int .i64 n, .flt f, .str s, .int .i64 r], .agg [.int .i64 k', .int .i64 n', .flt f', .str s', .int .i64 r']] m K := by
  refine entry (cxok []) Tryd.func26 rfl rfl (by decide) (by decide) ?_
  refine go_ ?_
  refine s_specValueOk ?_
  rw [ha]
  refine go_ ?_
  refine s_specValueOk ?_
  rw [hb]
  clear ha hb
  cases na : numK ⟨k, n, f, s, r⟩ with
  | false =>
    replace h : K (.ret (failA 1)) m := h _ (by rw [binI_fail (by decide) (.inl na)]; rfl)
    have j2 : (k == 2) = false := (num2 na).1
    refine goh_ ?_
    refine s_l1num ?_
    rw [na]
    clear na
    refine goh_ ?_
    refine s_l1fail ?_
    exact gox_
  | true =>
  cases nb : numK ⟨k', n', f', s', r'⟩ with
  | false =>
    replace h : K (.ret (failA 1)) m := h _ (by rw [binI_fail (by decide) (.inr nb)]; rfl)
    have j2 : (k' == 2) = false := (num2 nb).1
    rcases numK_cases na with rfl | rfl
    · skip
      clear na
      refine goh_ ?_
      refine s_l1num ?_
      rw [show numK ⟨2, n, f, s, r⟩ = true from rfl]
      refine goh_ ?_
      refine s_l1num ?_
      rw [nb]
      clear nb
      refine goh_ ?_
      refine s_l1fail ?_
      exact gox_
    · skip
      clear na
      refine goh_ ?_
      refine s_l1num ?_
      rw [show numK ⟨3, n, f, s, r⟩ = true from rfl]
      refine goh_ ?_
      refine s_l1num ?_
      rw [nb]
      clear nb
      refine goh_ ?_
      refine s_l1fail ?_
      exact gox_
  | true =>
  rcases numK_cases na with rfl | rfl
  all_goals rcases numK_cases nb with rfl | rfl
  · clear na nb
    replace h : ∀ v, (intO 11 n n').av v → K (.ret v) m := h
    refine goh_ ?_
    refine s_l1ints (by omega) fun v hv => ?_
    replace h := h v hv
    obtain ⟨a0, a1, a2, a3, a4, a5, rfl⟩ := Out.av_agg hv
    clear hv
    exact gox_
  · clear na nb
    replace h : K (.ret (failA 1)) m := h _ rfl
    refine goh_ ?_
    refine s_l1num ?_
    rw [show numK ⟨2, n, f, s, r⟩ = true from rfl]
    refine goh_ ?_
    refine s_l1num ?_
    rw [show numK ⟨3, n', f', s', r'⟩ = true from rfl]
    refine goh_ ?_
    refine draw_ [(0, .pure), (1, .read), (3, .read), (2, .step [3]), (4, .step []), (5, .step []), (6, .step [])] (by kernel_rfl) ?_
    refine goh_ ?_
    refine s_l1asflt ?_
    refine goh_ ?_
    refine s_l1asflt ?_
    refine goh_ ?_
    refine s_l1floatsX (by omega) ?_
    exact gox_
  · clear na nb
    replace h : K (.ret (failA 1)) m := h _ rfl
    refine goh_ ?_
    refine s_l1num ?_
    rw [show numK ⟨3, n, f, s, r⟩ = true from rfl]
    refine goh_ ?_
    refine s_l1num ?_
    rw [show numK ⟨2, n', f', s', r'⟩ = true from rfl]
    refine goh_ ?_
    refine draw_ [(0, .pure), (1, .read), (3, .read), (2, .step [3]), (4, .step []), (5, .step []), (6, .step [])] (by kernel_rfl) ?_
    refine goh_ ?_
    refine s_l1asflt ?_
    refine goh_ ?_
    refine s_l1asflt ?_
    refine goh_ ?_
    refine s_l1floatsX (by omega) ?_
    exact gox_
  · clear na nb
    replace h : K (.ret (failA 1)) m := h _ rfl
    refine goh_ ?_
    refine s_l1num ?_
    rw [show numK ⟨3, n, f, s, r⟩ = true from rfl]
    refine goh_ ?_
    refine s_l1num ?_
    rw [show numK ⟨3, n', f', s', r'⟩ = true from rfl]
    refine goh_ ?_
    refine draw_ [(0, .pure), (1, .read), (3, .read), (2, .step [3]), (4, .step []), (5, .step []), (6, .step [])] (by kernel_rfl) ?_
    refine goh_ ?_
    refine s_l1asflt ?_
    refine goh_ ?_
    refine s_l1asflt ?_
    refine goh_ ?_
    refine s_l1floatsX (by omega) ?_
    exact gox_
theorem s_specBinary {op : Int} {k n r k' n' r' : Int} {f f' : Nat} {s s' : ByteArray} {m : Mem} {K : AR → Mem → Prop} (hn : i64r n) (hn' : i64r n') (hf : f < 18446744073709551616) (hf' : f' < 18446744073709551616) (h : ∀ v, (binO op ⟨k, n, f, s, r⟩ ⟨k', n', f', s', r'⟩).av v → K (.ret v) m) :
    Sim Tryd.prog 26 [.int .i64 op, .agg [.int .i64 k, .int .i64 n, .flt f, .str s, .int .i64 r], .agg [.int .i64 k', .int .i64 n', .flt f', .str s', .int .i64 r']] m K := by
  cases ha : vok ⟨k, n, f, s, r⟩ with
  | false =>
    replace h : K (.ret (failA 1)) m := h _ (by unfold binO; rw [if_neg (fun c => by rw [ha] at c; cases c.1)]; rfl)
    refine entry (cxok []) Tryd.func26 rfl rfl (by decide) (by decide) ?_
    refine go_ ?_
    refine s_specValueOk ?_
    rw [ha]
    clear hn hn' hf hf' ha
    refine goh_ ?_
    refine s_l1fail ?_
    exact gox_
  | true =>
  cases hb : vok ⟨k', n', f', s', r'⟩ with
  | false =>
    replace h : K (.ret (failA 1)) m := h _ (by unfold binO; rw [if_neg (fun c => by rw [hb] at c; cases c.2.1)]; rfl)
    refine entry (cxok []) Tryd.func26 rfl rfl (by decide) (by decide) ?_
    refine go_ ?_
    refine s_specValueOk ?_
    rw [ha]
    refine go_ ?_
    refine s_specValueOk ?_
    rw [hb]
    clear hn hn' hf hf' ha hb
    refine goh_ ?_
    refine s_l1fail ?_
    exact gox_
  | true =>
  by_cases ho : 1 ≤ op ∧ op ≤ 18
  · rw [binO_in ha hb ho] at h
    have hop : op = 1 ∨ op = 2 ∨ op = 3 ∨ op = 4 ∨ op = 5 ∨ op = 6 ∨ op = 7 ∨ op = 8 ∨ op = 9 ∨ op = 10 ∨ op = 11 ∨ op = 12 ∨ op = 13 ∨ op = 14 ∨ op = 15 ∨ op = 16 ∨ op = 17 ∨ op = 18 := by omega
    clear ho
    rcases hop with rfl | rfl | rfl | rfl | rfl | rfl | rfl | rfl | rfl | rfl | rfl | rfl | rfl | rfl | rfl | rfl | rfl | rfl
    · exact s_specAr_1 ha hb hn hn' h
    · exact s_specAr_2 ha hb hn hn' h
    · exact s_specAr_3 ha hb hn hn' h
    · exact s_specAr_4 ha hb hn hn' h
    · exact s_specAr_5 ha hb hn hn' h
    · exact s_specAr_6 ha hb hn hn' h
    · exact s_specAr_7 ha hb hn hn' h
    · exact s_specAr_8 ha hb hn hn' h
    · exact s_specAr_9 ha hb hn hn' h
    · exact s_specAr_10 ha hb hn hn' h
    · exact s_specAr_11 ha hb hn hn' h
    · exact s_specJoin_12 ha hb hn hn' hf hf' h
    · exact s_specSame_13 ha hb hn hn' h
    · exact s_specSame_14 ha hb hn hn' h
    · exact s_specOrd_15 ha hb hn hn' h
    · exact s_specOrd_16 ha hb hn hn' h
    · exact s_specOrd_17 ha hb hn hn' h
    · exact s_specOrd_18 ha hb hn hn' h
  · replace h : K (.ret (failA 1)) m := h _ (by unfold binO; rw [if_neg (fun c => ho c.2.2)]; rfl)
    refine entry (cxok []) Tryd.func26 rfl rfl (by decide) (by decide) ?_
    refine go_ ?_
    refine s_specValueOk ?_
    rw [ha]
    refine go_ ?_
    refine s_specValueOk ?_
    rw [hb]
    clear hn hn' hf hf' ha hb
    by_cases c1 : op < 1
    · clear ho
      refine goh_ ?_
      refine s_l1fail ?_
      exact gox_
    · have c2 : 18 < op := by omega
      clear ho
      refine goh_ ?_
      refine s_l1fail ?_
      exact gox_
end Go.Proofs.YtdonkjepjobhnaaDoor.IM
namespace Go.Proofs.YtdonkjepjobhnaaDoor.IM
open Go Go.Proofs.IM Go.Proofs.Flt
set_option maxHeartbeats 8000000
set_option maxRecDepth 100000
theorem s_implSame_13 {k n r k' n' r' : Int} {f f' : Nat} {s s' : ByteArray} {m : Mem} {K : AR → Mem → Prop} (hl : L10 m) (ha : vok ⟨k, n, f, s, r⟩ = true) (hb : vok ⟨k', n', f', s', r'⟩ = true) (hn : i64r n) (hn' : i64r n') (h : ∀ v, (binI 13 ⟨k, n, f, s, r⟩ ⟨k', n', f', s', r'⟩).av v → K (.ret v) m) :
    Sim Tryd.prog 27 [.int .i64 13, .agg [.int .i64 k, .int .i64 n, .flt f, .str s, .int .i64 r], .agg [.int .i64 k', .int .i64 n', .flt f', .str s', .int .i64 r']] m K := by
  replace h : K (.ret (gotA 1 (b2i (sameV ⟨k, n, f, s, r⟩ ⟨k', n', f', s', r'⟩)) 0 ByteArray.empty)) m := h _ rfl
  refine entry (cxok []) Tryd.func27 rfl rfl (by decide) (by decide) ?_
  refine go_ ?_
  refine s_implValueOk ?_
  rw [ha]
  refine go_ ?_
  refine s_implValueOk ?_
  rw [hb]
  clear ha hb
  refine go_ ?_
  refine s_implSame hn hn' ?_
  generalize sameV ⟨k, n, f, s, r⟩ ⟨k', n', f', s', r'⟩ = z at h ⊢
  clear hn hn'
  refine goh_ ?_
  refine s_vBool ?_
  refine goh_ ?_
  refine s_good ?_
  exact gox_
theorem s_implSame_14 {k n r k' n' r' : Int} {f f' : Nat} {s s' : ByteArray} {m : Mem} {K : AR → Mem → Prop} (hl : L10 m) (ha : vok ⟨k, n, f, s, r⟩ = true) (hb : vok ⟨k', n', f', s', r'⟩ = true) (hn : i64r n) (hn' : i64r n') (h : ∀ v, (binI 14 ⟨k, n, f, s, r⟩ ⟨k', n', f', s', r'⟩).av v → K (.ret v) m) :
    Sim Tryd.prog 27 [.int .i64 14, .agg [.int .i64 k, .int .i64 n, .flt f, .str s, .int .i64 r], .agg [.int .i64 k', .int .i64 n', .flt f', .str s', .int .i64 r']] m K := by
  replace h : K (.ret (gotA 1 (b2i (!sameV ⟨k, n, f, s, r⟩ ⟨k', n', f', s', r'⟩)) 0 ByteArray.empty)) m := h _ rfl
  refine entry (cxok []) Tryd.func27 rfl rfl (by decide) (by decide) ?_
  refine go_ ?_
  refine s_implValueOk ?_
  rw [ha]
  refine go_ ?_
  refine s_implValueOk ?_
  rw [hb]
  clear ha hb
  refine go_ ?_
  refine s_implSame hn hn' ?_
  generalize sameV ⟨k, n, f, s, r⟩ ⟨k', n', f', s', r'⟩ = z at h ⊢
  clear hn hn'
  refine goh_ ?_
  refine s_vBool ?_
  refine goh_ ?_
  refine s_good ?_
  exact gox_
theorem s_implOrd_15 {k n r k' n' r' : Int} {f f' : Nat} {s s' : ByteArray} {m : Mem} {K : AR → Mem → Prop} (hl : L10 m) (ha : vok ⟨k, n, f, s, r⟩ = true) (hb : vok ⟨k', n', f', s', r'⟩ = true) (hn : i64r n) (hn' : i64r n') (h : ∀ v, (binI 15 ⟨k, n, f, s, r⟩ ⟨k', n', f', s', r'⟩).av v → K (.ret v) m) :
    Sim Tryd.prog 27 [.int .i64 15, .agg [.int .i64 k, .int .i64 n, .flt f, .str s, .int .i64 r], .agg [.int .i64 k', .int .i64 n', .flt f', .str s', .int .i64 r']] m K := by
  replace h : ∀ v, (ordO 15 (cmpV ⟨k, n, f, s, r⟩ ⟨k', n', f', s', r'⟩)).av v → K (.ret v) m := h
  refine entry (cxok []) Tryd.func27 rfl rfl (by decide) (by decide) ?_
  refine go_ ?_
  refine s_implValueOk ?_
  rw [ha]
  refine go_ ?_
  refine s_implValueOk ?_
  rw [hb]
  clear ha hb
  refine go_ ?_
  refine s_implCompare hn hn' ?_
  have hc := cmpV_range ⟨k, n, f, s, r⟩ ⟨k', n', f', s', r'⟩
  generalize cmpV ⟨k, n, f, s, r⟩ ⟨k', n', f', s', r'⟩ = z at h hc ⊢
  clear hn hn'
  rcases hc with rfl | rfl | rfl | rfl | rfl
  · replace h : K (.ret (gotA 1 (b2i true) 0 ByteArray.empty)) m := h _ rfl
    refine goh_ ?_
    refine s_vBool ?_
    refine goh_ ?_
    refine s_good ?_
    exact gox_
  · replace h : K (.ret (gotA 1 (b2i false) 0 ByteArray.empty)) m := h _ rfl
    refine goh_ ?_
    refine s_vBool ?_
    refine goh_ ?_
    refine s_good ?_
    exact gox_
  · replace h : K (.ret (gotA 1 (b2i false) 0 ByteArray.empty)) m := h _ rfl
    refine goh_ ?_
    refine s_vBool ?_
    refine goh_ ?_
    refine s_good ?_
    exact gox_
  · replace h : K (.ret (gotA 1 (b2i false) 0 ByteArray.empty)) m := h _ rfl
    refine goh_ ?_
    refine s_vBool ?_
    refine goh_ ?_
    refine s_good ?_
    exact gox_
  · replace h : K (.ret (failA 1)) m := h _ rfl
    refine goh_ ?_
    refine s_bad ?_
    exact gox_
theorem s_implOrd_16 {k n r k' n' r' : Int} {f f' : Nat} {s s' : ByteArray} {m : Mem} {K : AR → Mem → Prop} (hl : L10 m) (ha : vok ⟨k, n, f, s, r⟩ = true) (hb : vok ⟨k', n', f', s', r'⟩ = true) (hn : i64r n) (hn' : i64r n') (h : ∀ v, (binI 16 ⟨k, n, f, s, r⟩ ⟨k', n', f', s', r'⟩).av v → K (.ret v) m) :
    Sim Tryd.prog 27 [.int .i64 16, .agg [.int .i64 k, .int .i64 n, .flt f, .str s, .int .i64 r], .agg [.int .i64 k', .int .i64 n', .flt f', .str s', .int .i64 r']] m K := by
  replace h : ∀ v, (ordO 16 (cmpV ⟨k, n, f, s, r⟩ ⟨k', n', f', s', r'⟩)).av v → K (.ret v) m := h
  refine entry (cxok []) Tryd.func27 rfl rfl (by decide) (by decide) ?_
  refine go_ ?_
  refine s_implValueOk ?_
  rw [ha]
  refine go_ ?_
  refine s_implValueOk ?_
  rw [hb]
  clear ha hb
  refine go_ ?_
  refine s_implCompare hn hn' ?_
  have hc := cmpV_range ⟨k, n, f, s, r⟩ ⟨k', n', f', s', r'⟩
  generalize cmpV ⟨k, n, f, s, r⟩ ⟨k', n', f', s', r'⟩ = z at h hc ⊢
  clear hn hn'
  rcases hc with rfl | rfl | rfl | rfl | rfl
  · replace h : K (.ret (gotA 1 (b2i true) 0 ByteArray.empty)) m := h _ rfl
    refine goh_ ?_
    refine s_vBool ?_
    refine goh_ ?_
    refine s_good ?_
    exact gox_
  · replace h : K (.ret (gotA 1 (b2i true) 0 ByteArray.empty)) m := h _ rfl
    refine goh_ ?_
    refine s_vBool ?_
    refine goh_ ?_
    refine s_good ?_
    exact gox_
  · replace h : K (.ret (gotA 1 (b2i false) 0 ByteArray.empty)) m := h _ rfl
    refine goh_ ?_
    refine s_vBool ?_
    refine goh_ ?_
    refine s_good ?_
    exact gox_
  · replace h : K (.ret (gotA 1 (b2i false) 0 ByteArray.empty)) m := h _ rfl
    refine goh_ ?_
    refine s_vBool ?_
    refine goh_ ?_
    refine s_good ?_
    exact gox_
  · replace h : K (.ret (failA 1)) m := h _ rfl
    refine goh_ ?_
    refine s_bad ?_
    exact gox_
theorem s_implOrd_17 {k n r k' n' r' : Int} {f f' : Nat} {s s' : ByteArray} {m : Mem} {K : AR → Mem → Prop} (hl : L10 m) (ha : vok ⟨k, n, f, s, r⟩ = true) (hb : vok ⟨k', n', f', s', r'⟩ = true) (hn : i64r n) (hn' : i64r n') (h : ∀ v, (binI 17 ⟨k, n, f, s, r⟩ ⟨k', n', f', s', r'⟩).av v → K (.ret v) m) :
    Sim Tryd.prog 27 [.int .i64 17, .agg [.int .i64 k, .int .i64 n, .flt f, .str s, .int .i64 r], .agg [.int .i64 k', .int .i64 n', .flt f', .str s', .int .i64 r']] m K := by
  replace h : ∀ v, (ordO 17 (cmpV ⟨k, n, f, s, r⟩ ⟨k', n', f', s', r'⟩)).av v → K (.ret v) m := h
  refine entry (cxok []) Tryd.func27 rfl rfl (by decide) (by decide) ?_
  refine go_ ?_
  refine s_implValueOk ?_
  rw [ha]
  refine go_ ?_
  refine s_implValueOk ?_
  rw [hb]
  clear ha hb
  refine go_ ?_
  refine s_implCompare hn hn' ?_
  have hc := cmpV_range ⟨k, n, f, s, r⟩ ⟨k', n', f', s', r'⟩
  generalize cmpV ⟨k, n, f, s, r⟩ ⟨k', n', f', s', r'⟩ = z at h hc ⊢
  clear hn hn'
  rcases hc with rfl | rfl | rfl | rfl | rfl
  · replace h : K (.ret (gotA 1 (b2i false) 0 ByteArray.empty)) m := h _ rfl
    refine goh_ ?_
    refine s_vBool ?_
    refine goh_ ?_
    refine s_good ?_
    exact gox_
  · replace h : K (.ret (gotA 1 (b2i false) 0 ByteArray.empty)) m := h _ rfl
    refine goh_ ?_
    refine s_vBool ?_
    refine goh_ ?_
    refine s_good ?_
    exact gox_
  · replace h : K (.ret (gotA 1 (b2i true) 0 ByteArray.empty)) m := h _ rfl
    refine goh_ ?_
    refine s_vBool ?_
    refine goh_ ?_
    refine s_good ?_
    exact gox_
  · replace h : K (.ret (gotA 1 (b2i false) 0 ByteArray.empty)) m := h _ rfl
    refine goh_ ?_
    refine s_vBool ?_
    refine goh_ ?_
    refine s_good ?_
    exact gox_
  · replace h : K (.ret (failA 1)) m := h _ rfl
    refine goh_ ?_
    refine s_bad ?_
    exact gox_
theorem s_implOrd_18 {k n r k' n' r' : Int} {f f' : Nat} {s s' : ByteArray} {m : Mem} {K : AR → Mem → Prop} (hl : L10 m) (ha : vok ⟨k, n, f, s, r⟩ = true) (hb : vok ⟨k', n', f', s', r'⟩ = true) (hn : i64r n) (hn' : i64r n') (h : ∀ v, (binI 18 ⟨k, n, f, s, r⟩ ⟨k', n', f', s', r'⟩).av v → K (.ret v) m) :
    Sim Tryd.prog 27 [.int .i64 18, .agg [.int .i64 k, .int .i64 n, .flt f, .str s, .int .i64 r], .agg [.int .i64 k', .int .i64 n', .flt f', .str s', .int .i64 r']] m K := by
  replace h : ∀ v, (ordO 18 (cmpV ⟨k, n, f, s, r⟩ ⟨k', n', f', s', r'⟩)).av v → K (.ret v) m := h
  refine entry (cxok []) Tryd.func27 rfl rfl (by decide) (by decide) ?_
  refine go_ ?_
  refine s_implValueOk ?_
  rw [ha]
  refine go_ ?_
  refine s_implValueOk ?_
  rw [hb]
  clear ha hb
  refine go_ ?_
  refine s_implCompare hn hn' ?_
  have hc := cmpV_range ⟨k, n, f, s, r⟩ ⟨k', n', f', s', r'⟩
  generalize cmpV ⟨k, n, f, s, r⟩ ⟨k', n', f', s', r'⟩ = z at h hc ⊢
  clear hn hn'
  rcases hc with rfl | rfl | rfl | rfl | rfl
  · replace h : K (.ret (gotA 1 (b2i false) 0 ByteArray.empty)) m := h _ rfl
    refine goh_ ?_
    refine s_vBool ?_
    refine goh_ ?_
    refine s_good ?_
    exact gox_
  · replace h : K (.ret (gotA 1 (b2i true) 0 ByteArray.empty)) m := h _ rfl
    refine goh_ ?_
    refine s_vBool ?_
    refine goh_ ?_
    refine s_good ?_
    exact gox_
  · replace h : K (.ret (gotA 1 (b2i true) 0 ByteArray.empty)) m := h _ rfl
    refine goh_ ?_
    refine s_vBool ?_
    refine goh_ ?_
    refine s_good ?_
    exact gox_
  · replace h : K (.ret (gotA 1 (b2i false) 0 ByteArray.empty)) m := h _ rfl
    refine goh_ ?_
    refine s_vBool ?_
    refine goh_ ?_
    refine s_good ?_
    exact gox_
  · replace h : K (.ret (failA 1)) m := h _ rfl
    refine goh_ ?_
    refine s_bad ?_
    exact gox_
theorem s_implJoin_12 {k n r k' n' r' : Int} {f f' : Nat} {s s' : ByteArray} {m : Mem} {K : AR → Mem → Prop} (hl : L10 m) (ha : vok ⟨k, n, f, s, r⟩ = true) (hb : vok ⟨k', n', f', s', r'⟩ = true) (hn : i64r n) (hn' : i64r n') (hf : f < 18446744073709551616) (hf' : f' < 18446744073709551616) (h : ∀ v, (binI 12 ⟨k, n, f, s, r⟩ ⟨k', n', f', s', r'⟩).av v → K (.ret v) m) :
    Sim Tryd.prog 27 [.int .i64 12, .agg [.int .i64 k, .int .i64 n, .flt f, .str s, .int .i64 r], .agg [.int .i64 k', .int .i64 n', .flt f', .str s', .int .i64 r']] m K := by
  refine entry (cxok []) Tryd.func27 rfl rfl (by decide) (by decide) ?_
  refine go_ ?_
  refine s_implValueOk ?_
  rw [ha]
  refine go_ ?_
  refine s_implValueOk ?_
  rw [hb]
  have la := textV_len (v := ⟨k, n, f, s, r⟩) hn
  have lb := textV_len (v := ⟨k', n', f', s', r'⟩) hn'
  clear ha hb
  cases ja : joinK ⟨k, n, f, s, r⟩ with
  | false =>
    replace h : K (.ret (failA 1)) m := h _ (by rw [binI_join, ja]; rfl)
    obtain ⟨j1, j2⟩ := join_not ja
    clear la lb hn hn' hf hf' ja
    refine goh_ ?_
    refine s_number ?_
    rw [j1]
    have j2 : (k == 4) = false := j2
    refine goh_ ?_
    refine s_bad ?_
    exact gox_
  | true =>
  cases jb : joinK ⟨k', n', f', s', r'⟩ with
  | false =>
    replace h : K (.ret (failA 1)) m := h _ (by rw [binI_join, ja, jb]; rfl)
    obtain ⟨j1, j2⟩ := join_not jb
    have j2 : (k' == 4) = false := j2
    clear la lb hn hn' hf hf' jb
    refine goh_ ?_
    refine s_number ?_
    cases na : numK ⟨k, n, f, s, r⟩ with
    | true =>
      clear ja
      refine goh_ ?_
      refine s_number ?_
      rw [j1]
      refine goh_ ?_
      refine s_bad ?_
      exact gox_
    | false =>
      have j3 : (k == 4) = true := by unfold joinK at ja; rw [na, Bool.false_or] at ja; exact ja
      clear ja
      refine goh_ ?_
      refine s_number ?_
      rw [j1]
      refine goh_ ?_
      refine s_bad ?_
      exact gox_
  | true =>
  replace h : ∀ v, (joinO (textV ⟨k, n, f, s, r⟩) (textV ⟨k', n', f', s', r'⟩)).av v → K (.ret v) m := fun v hv => h v (by rw [binI_join, ja, jb]; exact hv)
  refine go_ ?_
  refine s_number ?_
  cases na : numK ⟨k, n, f, s, r⟩ with
  | true =>
    clear ja
    refine goh_ ?_
    refine s_number ?_
    cases nb : numK ⟨k', n', f', s', r'⟩ with
    | true =>
      clear jb na nb
      refine goh_ ?_
      refine draw_ [(0, .read), (2, .read), (1, .step [2]), (3, .step []), (4, .pure), (5, .pure)] (by kernel_rfl) ?_
      refine goh_ ?_
      refine s_implText hl hn hf ?_
      refine goh_ ?_
      refine s_implText hl hn' hf' ?_
      generalize textV ⟨k, n, f, s, r⟩ = x at h la ⊢
      generalize textV ⟨k', n', f', s', r'⟩ = y at h lb ⊢
      clear hn hn' hf hf'
      have w1 : (x.size + y.size ≤ 9223372036854775807) = True := by rw [eq_iff_iff, iff_true]; omega
      have w2 : w64 ((x.size : Int) + (y.size : Int)) = ((x.size + y.size : Nat) : Int) := by rw [w64_id (by omega)]; omega
      have w3 : (x ++ y).size = x.size + y.size := ByteArray.size_append
      by_cases hc : x.size + y.size > 4000
      · replace h : K (.ret (failA 4)) m := h _ (by unfold joinO; rw [if_pos hc]; rfl)
        have w4 : ((4000 : Int) < ((x.size + y.size : Nat) : Int)) = True := by rw [eq_iff_iff, iff_true]; omega
        clear la lb hc
        refine goh_ ?_
        refine s_bad ?_
        exact gox_
      · replace h : K (.ret (gotA 4 0 0 (x ++ y))) m := h _ (by unfold joinO; rw [if_neg hc]; rfl)
        have w4 : ((4000 : Int) < ((x.size + y.size : Nat) : Int)) = False := by rw [eq_iff_iff, iff_false]; omega
        clear la lb hc
        refine goh_ ?_
        refine s_vStrB ?_
        refine goh_ ?_
        refine s_good ?_
        exact gox_
    | false =>
      have j4 : (k' == 4) = true := by unfold joinK at jb; rw [nb, Bool.false_or] at jb; exact jb
      clear jb na nb
      refine goh_ ?_
      refine draw_ [(0, .read), (2, .read), (1, .step [2]), (3, .step []), (4, .pure), (5, .pure)] (by kernel_rfl) ?_
      refine goh_ ?_
      refine s_implText hl hn hf ?_
      refine goh_ ?_
      refine s_implText hl hn' hf' ?_
      generalize textV ⟨k, n, f, s, r⟩ = x at h la ⊢
      generalize textV ⟨k', n', f', s', r'⟩ = y at h lb ⊢
      clear hn hn' hf hf'
      have w1 : (x.size + y.size ≤ 9223372036854775807) = True := by rw [eq_iff_iff, iff_true]; omega
      have w2 : w64 ((x.size : Int) + (y.size : Int)) = ((x.size + y.size : Nat) : Int) := by rw [w64_id (by omega)]; omega
      have w3 : (x ++ y).size = x.size + y.size := ByteArray.size_append
      by_cases hc : x.size + y.size > 4000
      · replace h : K (.ret (failA 4)) m := h _ (by unfold joinO; rw [if_pos hc]; rfl)
        have w4 : ((4000 : Int) < ((x.size + y.size : Nat) : Int)) = True := by rw [eq_iff_iff, iff_true]; omega
        clear la lb hc
        refine goh_ ?_
        refine s_bad ?_
        exact gox_
      · replace h : K (.ret (gotA 4 0 0 (x ++ y))) m := h _ (by unfold joinO; rw [if_neg hc]; rfl)
        have w4 : ((4000 : Int) < ((x.size + y.size : Nat) : Int)) = False := by rw [eq_iff_iff, iff_false]; omega
        clear la lb hc
        refine goh_ ?_
        refine s_vStrB ?_
        refine goh_ ?_
        refine s_good ?_
        exact gox_
  | false =>
    have j3 : (k == 4) = true := by unfold joinK at ja; rw [na, Bool.false_or] at ja; exact ja
    clear ja
    refine goh_ ?_
    refine s_number ?_
    cases nb : numK ⟨k', n', f', s', r'⟩ with
    | true =>
      clear jb na nb
      refine goh_ ?_
      refine draw_ [(0, .read), (2, .read), (1, .step [2]), (3, .step []), (4, .pure), (5, .pure)] (by kernel_rfl) ?_
      refine goh_ ?_
      refine s_implText hl hn hf ?_
      refine goh_ ?_
      refine s_implText hl hn' hf' ?_
      generalize textV ⟨k, n, f, s, r⟩ = x at h la ⊢
      generalize textV ⟨k', n', f', s', r'⟩ = y at h lb ⊢
      clear hn hn' hf hf'
      have w1 : (x.size + y.size ≤ 9223372036854775807) = True := by rw [eq_iff_iff, iff_true]; omega
      have w2 : w64 ((x.size : Int) + (y.size : Int)) = ((x.size + y.size : Nat) : Int) := by rw [w64_id (by omega)]; omega
      have w3 : (x ++ y).size = x.size + y.size := ByteArray.size_append
      by_cases hc : x.size + y.size > 4000
      · replace h : K (.ret (failA 4)) m := h _ (by unfold joinO; rw [if_pos hc]; rfl)
        have w4 : ((4000 : Int) < ((x.size + y.size : Nat) : Int)) = True := by rw [eq_iff_iff, iff_true]; omega
        clear la lb hc
        refine goh_ ?_
        refine s_bad ?_
        exact gox_
      · replace h : K (.ret (gotA 4 0 0 (x ++ y))) m := h _ (by unfold joinO; rw [if_neg hc]; rfl)
        have w4 : ((4000 : Int) < ((x.size + y.size : Nat) : Int)) = False := by rw [eq_iff_iff, iff_false]; omega
        clear la lb hc
        refine goh_ ?_
        refine s_vStrB ?_
        refine goh_ ?_
        refine s_good ?_
        exact gox_
    | false =>
      have j4 : (k' == 4) = true := by unfold joinK at jb; rw [nb, Bool.false_or] at jb; exact jb
      clear jb na nb
      refine goh_ ?_
      refine draw_ [(0, .read), (2, .read), (1, .step [2]), (3, .step []), (4, .pure), (5, .pure)] (by kernel_rfl) ?_
      refine goh_ ?_
      refine s_implText hl hn hf ?_
      refine goh_ ?_
      refine s_implText hl hn' hf' ?_
      generalize textV ⟨k, n, f, s, r⟩ = x at h la ⊢
      generalize textV ⟨k', n', f', s', r'⟩ = y at h lb ⊢
      clear hn hn' hf hf'
      have w1 : (x.size + y.size ≤ 9223372036854775807) = True := by rw [eq_iff_iff, iff_true]; omega
      have w2 : w64 ((x.size : Int) + (y.size : Int)) = ((x.size + y.size : Nat) : Int) := by rw [w64_id (by omega)]; omega
      have w3 : (x ++ y).size = x.size + y.size := ByteArray.size_append
      by_cases hc : x.size + y.size > 4000
      · replace h : K (.ret (failA 4)) m := h _ (by unfold joinO; rw [if_pos hc]; rfl)
        have w4 : ((4000 : Int) < ((x.size + y.size : Nat) : Int)) = True := by rw [eq_iff_iff, iff_true]; omega
        clear la lb hc
        refine goh_ ?_
        refine s_bad ?_
        exact gox_
      · replace h : K (.ret (gotA 4 0 0 (x ++ y))) m := h _ (by unfold joinO; rw [if_neg hc]; rfl)
        have w4 : ((4000 : Int) < ((x.size + y.size : Nat) : Int)) = False := by rw [eq_iff_iff, iff_false]; omega
        clear la lb hc
        refine goh_ ?_
        refine s_vStrB ?_
        refine goh_ ?_
        refine s_good ?_
        exact gox_
theorem s_implAr_1 {k n r k' n' r' : Int} {f f' : Nat} {s s' : ByteArray} {m : Mem} {K : AR → Mem → Prop} (hl : L10 m) (ha : vok ⟨k, n, f, s, r⟩ = true) (hb : vok ⟨k', n', f', s', r'⟩ = true) (hn : i64r n) (hn' : i64r n') (h : ∀ v, (binI 1 ⟨k, n, f, s, r⟩ ⟨k', n', f', s', r'⟩).av v → K (.ret v) m) :
    Sim Tryd.prog 27 [.int .i64 1, .agg [.int .i64 k, .int .i64 n, .flt f, .str s, .int .i64 r], .agg [.int .i64 k', .int .i64 n', .flt f', .str s', .int .i64 r']] m K := by
  refine entry (cxok []) Tryd.func27 rfl rfl (by decide) (by decide) ?_
  refine go_ ?_
  refine s_implValueOk ?_
  rw [ha]
  refine go_ ?_
  refine s_implValueOk ?_
  rw [hb]
  clear ha hb
  cases na : numK ⟨k, n, f, s, r⟩ with
  | false =>
    replace h : K (.ret (failA 1)) m := h _ (by rw [binI_fail (by decide) (.inl na)]; rfl)
    have j2 : (k == 2) = false := (num2 na).1
    refine goh_ ?_
    refine s_number ?_
    rw [na]
    clear na
    refine goh_ ?_
    refine s_bad ?_
    exact gox_
  | true =>
  cases nb : numK ⟨k', n', f', s', r'⟩ with
  | false =>
    replace h : K (.ret (failA 1)) m := h _ (by rw [binI_fail (by decide) (.inr nb)]; rfl)
    have j2 : (k' == 2) = false := (num2 nb).1
    rcases numK_cases na with rfl | rfl
    · skip
      clear na
      refine goh_ ?_
      refine s_number ?_
      rw [show numK ⟨2, n, f, s, r⟩ = true from rfl]
      refine goh_ ?_
      refine s_number ?_
      rw [nb]
      clear nb
      refine goh_ ?_
      refine s_bad ?_
      exact gox_
    · skip
      clear na
      refine goh_ ?_
      refine s_number ?_
      rw [show numK ⟨3, n, f, s, r⟩ = true from rfl]
      refine goh_ ?_
      refine s_number ?_
      rw [nb]
      clear nb
      refine goh_ ?_
      refine s_bad ?_
      exact gox_
  | true =>
  rcases numK_cases na with rfl | rfl
  all_goals rcases numK_cases nb with rfl | rfl
  · clear na nb
    replace h : ∀ v, (intO 1 n n').av v → K (.ret v) m := h
    refine goh_ ?_
    refine s_number ?_
    rw [show numK ⟨2, n, f, s, r⟩ = true from rfl]
    refine goh_ ?_
    refine s_number ?_
    rw [show numK ⟨2, n', f', s', r'⟩ = true from rfl]
    refine goh_ ?_
    refine s_intOp (by omega) fun v hv => ?_
    replace h := h v hv
    obtain ⟨a0, a1, a2, a3, a4, a5, rfl⟩ := Out.av_agg hv
    clear hv
    exact gox_
  · clear na nb
    replace h : ∀ v, (Out.flt (fltO 1 (i2f n) f')).av v → K (.ret v) m := h
    refine goh_ ?_
    refine s_number ?_
    rw [show numK ⟨2, n, f, s, r⟩ = true from rfl]
    refine goh_ ?_
    refine s_number ?_
    rw [show numK ⟨3, n', f', s', r'⟩ = true from rfl]
    refine goh_ ?_
    refine draw_ [(0, .pure), (1, .read), (3, .read), (2, .step [3]), (4, .step []), (5, .step []), (6, .step []), (7, .step []), (8, .step [])] (by kernel_rfl) ?_
    refine goh_ ?_
    refine s_flt ?_
    refine goh_ ?_
    refine s_flt ?_
    refine goh_ ?_
    refine s_fltOp (by omega) fun q hq => ?_
    replace h : K (.ret (gotA 3 0 q ByteArray.empty)) m := h _ (by revert hq; generalize fltO 1 (i2f n) f' = z; intro hq; cases z with
      | some w => cases hq; rfl
      | none => exact ⟨q, hq, rfl⟩)
    clear hq
    refine goh_ ?_
    refine s_vFltB ?_
    refine goh_ ?_
    refine s_good ?_
    exact gox_
  · clear na nb
    replace h : ∀ v, (Out.flt (fltO 1 f (i2f n'))).av v → K (.ret v) m := h
    refine goh_ ?_
    refine s_number ?_
    rw [show numK ⟨3, n, f, s, r⟩ = true from rfl]
    refine goh_ ?_
    refine s_number ?_
    rw [show numK ⟨2, n', f', s', r'⟩ = true from rfl]
    refine goh_ ?_
    refine draw_ [(0, .pure), (1, .read), (3, .read), (2, .step [3]), (4, .step []), (5, .step []), (6, .step []), (7, .step []), (8, .step [])] (by kernel_rfl) ?_
    refine goh_ ?_
    refine s_flt ?_
    refine goh_ ?_
    refine s_flt ?_
    refine goh_ ?_
    refine s_fltOp (by omega) fun q hq => ?_
    replace h : K (.ret (gotA 3 0 q ByteArray.empty)) m := h _ (by revert hq; generalize fltO 1 f (i2f n') = z; intro hq; cases z with
      | some w => cases hq; rfl
      | none => exact ⟨q, hq, rfl⟩)
    clear hq
    refine goh_ ?_
    refine s_vFltB ?_
    refine goh_ ?_
    refine s_good ?_
    exact gox_
  · clear na nb
    replace h : ∀ v, (Out.flt (fltO 1 f f')).av v → K (.ret v) m := h
    refine goh_ ?_
    refine s_number ?_
    rw [show numK ⟨3, n, f, s, r⟩ = true from rfl]
    refine goh_ ?_
    refine s_number ?_
    rw [show numK ⟨3, n', f', s', r'⟩ = true from rfl]
    refine goh_ ?_
    refine draw_ [(0, .pure), (1, .read), (3, .read), (2, .step [3]), (4, .step []), (5, .step []), (6, .step []), (7, .step []), (8, .step [])] (by kernel_rfl) ?_
    refine goh_ ?_
    refine s_flt ?_
    refine goh_ ?_
    refine s_flt ?_
    refine goh_ ?_
    refine s_fltOp (by omega) fun q hq => ?_
    replace h : K (.ret (gotA 3 0 q ByteArray.empty)) m := h _ (by revert hq; generalize fltO 1 f f' = z; intro hq; cases z with
      | some w => cases hq; rfl
      | none => exact ⟨q, hq, rfl⟩)
    clear hq
    refine goh_ ?_
    refine s_vFltB ?_
    refine goh_ ?_
    refine s_good ?_
    exact gox_
theorem s_implAr_2 {k n r k' n' r' : Int} {f f' : Nat} {s s' : ByteArray} {m : Mem} {K : AR → Mem → Prop} (hl : L10 m) (ha : vok ⟨k, n, f, s, r⟩ = true) (hb : vok ⟨k', n', f', s', r'⟩ = true) (hn : i64r n) (hn' : i64r n') (h : ∀ v, (binI 2 ⟨k, n, f, s, r⟩ ⟨k', n', f', s', r'⟩).av v → K (.ret v) m) :
    Sim Tryd.prog 27 [.int .i64 2, .agg [.int .i64 k, .int .i64 n, .flt f, .str s, .int .i64 r], .agg [.int .i64 k', .int .i64 n', .flt f', .str s', .int .i64 r']] m K := by
  refine entry (cxok []) Tryd.func27 rfl rfl (by decide) (by decide) ?_
  refine go_ ?_
  refine s_implValueOk ?_
  rw [ha]
  refine go_ ?_
  refine s_implValueOk ?_
  rw [hb]
  clear ha hb
  cases na : numK ⟨k, n, f, s, r⟩ with
  | false =>
    replace h : K (.ret (failA 1)) m := h _ (by rw [binI_fail (by decide) (.inl na)]; rfl)
    have j2 : (k == 2) = false := (num2 na).1
    refine goh_ ?_
    refine s_number ?_
    rw [na]
    clear na
    refine goh_ ?_
    refine s_bad ?_
    exact gox_
  | true =>
  cases nb : numK ⟨k', n', f', s', r'⟩ with
  | false =>
    replace h : K (.ret (failA 1)) m := h _ (by rw [binI_fail (by decide) (.inr nb)]; rfl)
    have j2 : (k' == 2) = false := (num2 nb).1
    rcases numK_cases na with rfl | rfl
    · skip
      clear na
      refine goh_ ?_
      refine s_number ?_
      rw [show numK ⟨2, n, f, s, r⟩ = true from rfl]
      refine goh_ ?_
      refine s_number ?_
      rw [nb]
      clear nb
      refine goh_ ?_
      refine s_bad ?_
      exact gox_
    · skip
      clear na
      refine goh_ ?_
      refine s_number ?_
      rw [show numK ⟨3, n, f, s, r⟩ = true from rfl]
      refine goh_ ?_
      refine s_number ?_
      rw [nb]
      clear nb
      refine goh_ ?_
      refine s_bad ?_
      exact gox_
  | true =>
  rcases numK_cases na with rfl | rfl
  all_goals rcases numK_cases nb with rfl | rfl
  · clear na nb
    replace h : ∀ v, (intO 2 n n').av v → K (.ret v) m := h
    refine goh_ ?_
    refine s_number ?_
    rw [show numK ⟨2, n, f, s, r⟩ = true from rfl]
    refine goh_ ?_
    refine s_number ?_
    rw [show numK ⟨2, n', f', s', r'⟩ = true from rfl]
    refine goh_ ?_
    refine s_intOp (by omega) fun v hv => ?_
    replace h := h v hv
    obtain ⟨a0, a1, a2, a3, a4, a5, rfl⟩ := Out.av_agg hv
    clear hv
    exact gox_
  · clear na nb
    replace h : ∀ v, (Out.flt (fltO 2 (i2f n) f')).av v → K (.ret v) m := h
    refine goh_ ?_
    refine s_number ?_
    rw [show numK ⟨2, n, f, s, r⟩ = true from rfl]
    refine goh_ ?_
    refine s_number ?_
    rw [show numK ⟨3, n', f', s', r'⟩ = true from rfl]
    refine goh_ ?_
    refine draw_ [(0, .pure), (1, .read), (3, .read), (2, .step [3]), (4, .step []), (5, .step []), (6, .step []), (7, .step []), (8, .step [])] (by kernel_rfl) ?_
    refine goh_ ?_
    refine s_flt ?_
    refine goh_ ?_
    refine s_flt ?_
    refine goh_ ?_
    refine s_fltOp (by omega) fun q hq => ?_
    replace h : K (.ret (gotA 3 0 q ByteArray.empty)) m := h _ (by revert hq; generalize fltO 2 (i2f n) f' = z; intro hq; cases z with
      | some w => cases hq; rfl
      | none => exact ⟨q, hq, rfl⟩)
    clear hq
    refine goh_ ?_
    refine s_vFltB ?_
    refine goh_ ?_
    refine s_good ?_
    exact gox_
  · clear na nb
    replace h : ∀ v, (Out.flt (fltO 2 f (i2f n'))).av v → K (.ret v) m := h
    refine goh_ ?_
    refine s_number ?_
    rw [show numK ⟨3, n, f, s, r⟩ = true from rfl]
    refine goh_ ?_
    refine s_number ?_
    rw [show numK ⟨2, n', f', s', r'⟩ = true from rfl]
    refine goh_ ?_
    refine draw_ [(0, .pure), (1, .read), (3, .read), (2, .step [3]), (4, .step []), (5, .step []), (6, .step []), (7, .step []), (8, .step [])] (by kernel_rfl) ?_
    refine goh_ ?_
    refine s_flt ?_
    refine goh_ ?_
    refine s_flt ?_
    refine goh_ ?_
    refine s_fltOp (by omega) fun q hq => ?_
    replace h : K (.ret (gotA 3 0 q ByteArray.empty)) m := h _ (by revert hq; generalize fltO 2 f (i2f n') = z; intro hq; cases z with
      | some w => cases hq; rfl
      | none => exact ⟨q, hq, rfl⟩)
    clear hq
    refine goh_ ?_
    refine s_vFltB ?_
    refine goh_ ?_
    refine s_good ?_
    exact gox_
  · clear na nb
    replace h : ∀ v, (Out.flt (fltO 2 f f')).av v → K (.ret v) m := h
    refine goh_ ?_
    refine s_number ?_
    rw [show numK ⟨3, n, f, s, r⟩ = true from rfl]
    refine goh_ ?_
    refine s_number ?_
    rw [show numK ⟨3, n', f', s', r'⟩ = true from rfl]
    refine goh_ ?_
    refine draw_ [(0, .pure), (1, .read), (3, .read), (2, .step [3]), (4, .step []), (5, .step []), (6, .step []), (7, .step []), (8, .step [])] (by kernel_rfl) ?_
    refine goh_ ?_
    refine s_flt ?_
    refine goh_ ?_
    refine s_flt ?_
    refine goh_ ?_
    refine s_fltOp (by omega) fun q hq => ?_
    replace h : K (.ret (gotA 3 0 q ByteArray.empty)) m := h _ (by revert hq; generalize fltO 2 f f' = z; intro hq; cases z with
      | some w => cases hq; rfl
      | none => exact ⟨q, hq, rfl⟩)
    clear hq
    refine goh_ ?_
    refine s_vFltB ?_
    refine goh_ ?_
    refine s_good ?_
    exact gox_
theorem s_implAr_3 {k n r k' n' r' : Int} {f f' : Nat} {s s' : ByteArray} {m : Mem} {K : AR → Mem → Prop} (hl : L10 m) (ha : vok ⟨k, n, f, s, r⟩ = true) (hb : vok ⟨k', n', f', s', r'⟩ = true) (hn : i64r n) (hn' : i64r n') (h : ∀ v, (binI 3 ⟨k, n, f, s, r⟩ ⟨k', n', f', s', r'⟩).av v → K (.ret v) m) :
    Sim Tryd.prog 27 [.int .i64 3, .agg [.int .i64 k, .int .i64 n, .flt f, .str s, .int .i64 r], .agg [.int .i64 k', .int .i64 n', .flt f', .str s', .int .i64 r']] m K := by
  refine entry (cxok []) Tryd.func27 rfl rfl (by decide) (by decide) ?_
  refine go_ ?_
  refine s_implValueOk ?_
  rw [ha]
  refine go_ ?_
  refine s_implValueOk ?_
  rw [hb]
  clear ha hb
  cases na : numK ⟨k, n, f, s, r⟩ with
  | false =>
    replace h : K (.ret (failA 1)) m := h _ (by rw [binI_fail (by decide) (.inl na)]; rfl)
    have j2 : (k == 2) = false := (num2 na).1
    refine goh_ ?_
    refine s_number ?_
    rw [na]
    clear na
    refine goh_ ?_
    refine s_bad ?_
    exact gox_
  | true =>
  cases nb : numK ⟨k', n', f', s', r'⟩ with
  | false =>
    replace h : K (.ret (failA 1)) m := h _ (by rw [binI_fail (by decide) (.inr nb)]; rfl)
    have j2 : (k' == 2) = false := (num2 nb).1
    rcases numK_cases na with rfl | rfl
    · skip
      clear na
      refine goh_ ?_
      refine s_number ?_
      rw [show numK ⟨2, n, f, s, r⟩ = true from rfl]
      refine goh_ ?_
      refine s_number ?_
      rw [nb]
      clear nb
      refine goh_ ?_
      refine s_bad ?_
      exact gox_
    · skip
      clear na
      refine goh_ ?_
      refine s_number ?_
      rw [show numK ⟨3, n, f, s, r⟩ = true from rfl]
      refine goh_ ?_
      refine s_number ?_
      rw [nb]
      clear nb
      refine goh_ ?_
      refine s_bad ?_
      exact gox_
  | true =>
  rcases numK_cases na with rfl | rfl
  all_goals rcases numK_cases nb with rfl | rfl
  · clear na nb
    replace h : ∀ v, (intO 3 n n').av v → K (.ret v) m := h
    refine goh_ ?_
    refine s_number ?_
    rw [show numK ⟨2, n, f, s, r⟩ = true from rfl]
    refine goh_ ?_
    refine s_number ?_
    rw [show numK ⟨2, n', f', s', r'⟩ = true from rfl]
    refine goh_ ?_
    refine s_intOp (by omega) fun v hv => ?_
    replace h := h v hv
    obtain ⟨a0, a1, a2, a3, a4, a5, rfl⟩ := Out.av_agg hv
    clear hv
    exact gox_
  · clear na nb
    replace h : ∀ v, (Out.flt (fltO 3 (i2f n) f')).av v → K (.ret v) m := h
    refine goh_ ?_
    refine s_number ?_
    rw [show numK ⟨2, n, f, s, r⟩ = true from rfl]
    refine goh_ ?_
    refine s_number ?_
    rw [show numK ⟨3, n', f', s', r'⟩ = true from rfl]
    refine goh_ ?_
    refine draw_ [(0, .pure), (1, .read), (3, .read), (2, .step [3]), (4, .step []), (5, .step []), (6, .step []), (7, .step []), (8, .step [])] (by kernel_rfl) ?_
    refine goh_ ?_
    refine s_flt ?_
    refine goh_ ?_
    refine s_flt ?_
    refine goh_ ?_
    refine s_fltOp (by omega) fun q hq => ?_
    replace h : K (.ret (gotA 3 0 q ByteArray.empty)) m := h _ (by revert hq; generalize fltO 3 (i2f n) f' = z; intro hq; cases z with
      | some w => cases hq; rfl
      | none => exact ⟨q, hq, rfl⟩)
    clear hq
    refine goh_ ?_
    refine s_vFltB ?_
    refine goh_ ?_
    refine s_good ?_
    exact gox_
  · clear na nb
    replace h : ∀ v, (Out.flt (fltO 3 f (i2f n'))).av v → K (.ret v) m := h
    refine goh_ ?_
    refine s_number ?_
    rw [show numK ⟨3, n, f, s, r⟩ = true from rfl]
    refine goh_ ?_
    refine s_number ?_
    rw [show numK ⟨2, n', f', s', r'⟩ = true from rfl]
    refine goh_ ?_
    refine draw_ [(0, .pure), (1, .read), (3, .read), (2, .step [3]), (4, .step []), (5, .step []), (6, .step []), (7, .step []), (8, .step [])] (by kernel_rfl) ?_
    refine goh_ ?_
    refine s_flt ?_
    refine goh_ ?_
    refine s_flt ?_
    refine goh_ ?_
    refine s_fltOp (by omega) fun q hq => ?_
    replace h : K (.ret (gotA 3 0 q ByteArray.empty)) m := h _ (by revert hq; generalize fltO 3 f (i2f n') = z; intro hq; cases z with
      | some w => cases hq; rfl
      | none => exact ⟨q, hq, rfl⟩)
    clear hq
    refine goh_ ?_
    refine s_vFltB ?_
    refine goh_ ?_
    refine s_good ?_
    exact gox_
  · clear na nb
    replace h : ∀ v, (Out.flt (fltO 3 f f')).av v → K (.ret v) m := h
    refine goh_ ?_
    refine s_number ?_
    rw [show numK ⟨3, n, f, s, r⟩ = true from rfl]
    refine goh_ ?_
    refine s_number ?_
    rw [show numK ⟨3, n', f', s', r'⟩ = true from rfl]
    refine goh_ ?_
    refine draw_ [(0, .pure), (1, .read), (3, .read), (2, .step [3]), (4, .step []), (5, .step []), (6, .step []), (7, .step []), (8, .step [])] (by kernel_rfl) ?_
    refine goh_ ?_
    refine s_flt ?_
    refine goh_ ?_
    refine s_flt ?_
    refine goh_ ?_
    refine s_fltOp (by omega) fun q hq => ?_
    replace h : K (.ret (gotA 3 0 q ByteArray.empty)) m := h _ (by revert hq; generalize fltO 3 f f' = z; intro hq; cases z with
      | some w => cases hq; rfl
      | none => exact ⟨q, hq, rfl⟩)
    clear hq
    refine goh_ ?_
    refine s_vFltB ?_
    refine goh_ ?_
    refine s_good ?_
    exact gox_
theorem s_implAr_4 {k n r k' n' r' : Int} {f f' : Nat} {s s' : ByteArray} {m : Mem} {K : AR → Mem → Prop} (hl : L10 m) (ha : vok ⟨k, n, f, s, r⟩ = true) (hb : vok ⟨k', n', f', s', r'⟩ = true) (hn : i64r n) (hn' : i64r n') (h : ∀ v, (binI 4 ⟨k, n, f, s, r⟩ ⟨k', n', f', s', r'⟩).av v → K (.ret v) m) :
    Sim Tryd.prog 27 [.int .i64 4, .agg [.int .i64 k, .int .i64 n, .flt f, .str s, .int .i64 r], .agg [.int .i64 k', .int .i64 n', .flt f', .str s', .int .i64 r']] m K := by
  refine entry (cxok []) Tryd.func27 rfl rfl (by decide) (by decide) ?_
  refine go_ ?_
  refine s_implValueOk ?_
  rw [ha]
  refine go_ ?_
  refine s_implValueOk ?_
  rw [hb]
  clear ha hb
  cases na : numK ⟨k, n, f, s, r⟩ with
  | false =>
    replace h : K (.ret (failA 1)) m := h _ (by rw [binI_fail (by decide) (.inl na)]; rfl)
    have j2 : (k == 2) = false := (num2 na).1
    refine goh_ ?_
    refine s_number ?_
    rw [na]
    clear na
    refine goh_ ?_
    refine s_bad ?_
    exact gox_
  | true =>
  cases nb : numK ⟨k', n', f', s', r'⟩ with
  | false =>
    replace h : K (.ret (failA 1)) m := h _ (by rw [binI_fail (by decide) (.inr nb)]; rfl)
    have j2 : (k' == 2) = false := (num2 nb).1
    rcases numK_cases na with rfl | rfl
    · skip
      clear na
      refine goh_ ?_
      refine s_number ?_
      rw [show numK ⟨2, n, f, s, r⟩ = true from rfl]
      refine goh_ ?_
      refine s_number ?_
      rw [nb]
      clear nb
      refine goh_ ?_
      refine s_bad ?_
      exact gox_
    · skip
      clear na
      refine goh_ ?_
      refine s_number ?_
      rw [show numK ⟨3, n, f, s, r⟩ = true from rfl]
      refine goh_ ?_
      refine s_number ?_
      rw [nb]
      clear nb
      refine goh_ ?_
      refine s_bad ?_
      exact gox_
  | true =>
  rcases numK_cases na with rfl | rfl
  all_goals rcases numK_cases nb with rfl | rfl
  · clear na nb
    replace h : ∀ v, (Out.flt (fltO 4 (i2f n) (i2f n'))).av v → K (.ret v) m := h
    refine goh_ ?_
    refine s_number ?_
    rw [show numK ⟨2, n, f, s, r⟩ = true from rfl]
    refine goh_ ?_
    refine s_number ?_
    rw [show numK ⟨2, n', f', s', r'⟩ = true from rfl]
    refine goh_ ?_
    refine draw_ [(0, .pure), (1, .read), (3, .read), (2, .step [3]), (4, .step []), (5, .step []), (6, .step []), (7, .step []), (8, .step [])] (by kernel_rfl) ?_
    refine goh_ ?_
    refine s_flt ?_
    refine goh_ ?_
    refine s_flt ?_
    refine goh_ ?_
    refine s_fltOp (by omega) fun q hq => ?_
    replace h : K (.ret (gotA 3 0 q ByteArray.empty)) m := h _ (by revert hq; generalize fltO 4 (i2f n) (i2f n') = z; intro hq; cases z with
      | some w => cases hq; rfl
      | none => exact ⟨q, hq, rfl⟩)
    clear hq
    refine goh_ ?_
    refine s_vFltB ?_
    refine goh_ ?_
    refine s_good ?_
    exact gox_
  · clear na nb
    replace h : ∀ v, (Out.flt (fltO 4 (i2f n) f')).av v → K (.ret v) m := h
    refine goh_ ?_
    refine s_number ?_
    rw [show numK ⟨2, n, f, s, r⟩ = true from rfl]
    refine goh_ ?_
    refine s_number ?_
    rw [show numK ⟨3, n', f', s', r'⟩ = true from rfl]
    refine goh_ ?_
    refine draw_ [(0, .pure), (1, .read), (3, .read), (2, .step [3]), (4, .step []), (5, .step []), (6, .step []), (7, .step []), (8, .step [])] (by kernel_rfl) ?_
    refine goh_ ?_
    refine s_flt ?_
    refine goh_ ?_
    refine s_flt ?_
    refine goh_ ?_
    refine s_fltOp (by omega) fun q hq => ?_
    replace h : K (.ret (gotA 3 0 q ByteArray.empty)) m := h _ (by revert hq; generalize fltO 4 (i2f n) f' = z; intro hq; cases z with
      | some w => cases hq; rfl
      | none => exact ⟨q, hq, rfl⟩)
    clear hq
    refine goh_ ?_
    refine s_vFltB ?_
    refine goh_ ?_
    refine s_good ?_
    exact gox_
  · clear na nb
    replace h : ∀ v, (Out.flt (fltO 4 f (i2f n'))).av v → K (.ret v) m := h
    refine goh_ ?_
    refine s_number ?_
    rw [show numK ⟨3, n, f, s, r⟩ = true from rfl]
    refine goh_ ?_
    refine s_number ?_
    rw [show numK ⟨2, n', f', s', r'⟩ = true from rfl]
    refine goh_ ?_
    refine draw_ [(0, .pure), (1, .read), (3, .read), (2, .step [3]), (4, .step []), (5, .step []), (6, .step []), (7, .step []), (8, .step [])] (by kernel_rfl) ?_
    refine goh_ ?_
    refine s_flt ?_
    refine goh_ ?_
    refine s_flt ?_
    refine goh_ ?_
    refine s_fltOp (by omega) fun q hq => ?_
    replace h : K (.ret (gotA 3 0 q ByteArray.empty)) m := h _ (by revert hq; generalize fltO 4 f (i2f n') = z; intro hq; cases z with
      | some w => cases hq; rfl
      | none => exact ⟨q, hq, rfl⟩)
    clear hq
    refine goh_ ?_
    refine s_vFltB ?_
    refine goh_ ?_
    refine s_good ?_
    exact gox_
  · clear na nb
    replace h : ∀ v, (Out.flt (fltO 4 f f')).av v → K (.ret v) m := h
    refine goh_ ?_
    refine s_number ?_
    rw [show numK ⟨3, n, f, s, r⟩ = true from rfl]
    refine goh_ ?_
    refine s_number ?_
    rw [show numK ⟨3, n', f', s', r'⟩ = true from rfl]
    refine goh_ ?_
    refine draw_ [(0, .pure), (1, .read), (3, .read), (2, .step [3]), (4, .step []), (5, .step []), (6, .step []), (7, .step []), (8, .step [])] (by kernel_rfl) ?_
    refine goh_ ?_
    refine s_flt ?_
    refine goh_ ?_
    refine s_flt ?_
    refine goh_ ?_
    refine s_fltOp (by omega) fun q hq => ?_
    replace h : K (.ret (gotA 3 0 q ByteArray.empty)) m := h _ (by revert hq; generalize fltO 4 f f' = z; intro hq; cases z with
      | some w => cases hq; rfl
      | none => exact ⟨q, hq, rfl⟩)
    clear hq
    refine goh_ ?_
    refine s_vFltB ?_
    refine goh_ ?_
    refine s_good ?_
    exact gox_
theorem s_implAr_5 {k n r k' n' r' : Int} {f f' : Nat} {s s' : ByteArray} {m : Mem} {K : AR → Mem → Prop} (hl : L10 m) (ha : vok ⟨k, n, f, s, r⟩ = true) (hb : vok ⟨k', n', f', s', r'⟩ = true) (hn : i64r n) (hn' : i64r n') (h : ∀ v, (binI 5 ⟨k, n, f, s, r⟩ ⟨k', n', f', s', r'⟩).av v → K (.ret v) m) :
    Sim Tryd.prog 27 [.int .i64 5, .agg [.int .i64 k, .int .i64 n, .flt f, .str s, .int .i64 r], .agg [.int .i64 k', .int .i64 n', .flt f', .str s', .int .i64 r']] m K := by
  refine entry (cxok []) Tryd.func27 rfl rfl (by decide) (by decide) ?_
  refine go_ ?_
  refine s_implValueOk ?_
  rw [ha]
  refine go_ ?_
  refine s_implValueOk ?_
  rw [hb]
  clear ha hb
  cases na : numK ⟨k, n, f, s, r⟩ with
  | false =>
    replace h : K (.ret (failA 1)) m := h _ (by rw [binI_fail (by decide) (.inl na)]; rfl)
    have j2 : (k == 2) = false := (num2 na).1
    refine goh_ ?_
    refine s_number ?_
    rw [na]
    clear na
    refine goh_ ?_
    refine s_bad ?_
    exact gox_
  | true =>
  cases nb : numK ⟨k', n', f', s', r'⟩ with
  | false =>
    replace h : K (.ret (failA 1)) m := h _ (by rw [binI_fail (by decide) (.inr nb)]; rfl)
    have j2 : (k' == 2) = false := (num2 nb).1
    rcases numK_cases na with rfl | rfl
    · skip
      clear na
      refine goh_ ?_
      refine s_number ?_
      rw [show numK ⟨2, n, f, s, r⟩ = true from rfl]
      refine goh_ ?_
      refine s_number ?_
      rw [nb]
      clear nb
      refine goh_ ?_
      refine s_bad ?_
      exact gox_
    · skip
      clear na
      refine goh_ ?_
      refine s_number ?_
      rw [show numK ⟨3, n, f, s, r⟩ = true from rfl]
      refine goh_ ?_
      refine s_number ?_
      rw [nb]
      clear nb
      refine goh_ ?_
      refine s_bad ?_
      exact gox_
  | true =>
  rcases numK_cases na with rfl | rfl
  all_goals rcases numK_cases nb with rfl | rfl
  · clear na nb
    replace h : ∀ v, (intO 5 n n').av v → K (.ret v) m := h
    refine goh_ ?_
    refine s_number ?_
    rw [show numK ⟨2, n, f, s, r⟩ = true from rfl]
    refine goh_ ?_
    refine s_number ?_
    rw [show numK ⟨2, n', f', s', r'⟩ = true from rfl]
    refine goh_ ?_
    refine s_intOp (by omega) fun v hv => ?_
    replace h := h v hv
    obtain ⟨a0, a1, a2, a3, a4, a5, rfl⟩ := Out.av_agg hv
    clear hv
    exact gox_
  · clear na nb
    replace h : ∀ v, (Out.flt (fltO 5 (i2f n) f')).av v → K (.ret v) m := h
    refine goh_ ?_
    refine s_number ?_
    rw [show numK ⟨2, n, f, s, r⟩ = true from rfl]
    refine goh_ ?_
    refine s_number ?_
    rw [show numK ⟨3, n', f', s', r'⟩ = true from rfl]
    refine goh_ ?_
    refine draw_ [(0, .pure), (1, .read), (3, .read), (2, .step [3]), (4, .step []), (5, .step []), (6, .step []), (7, .step []), (8, .step [])] (by kernel_rfl) ?_
    refine goh_ ?_
    refine s_flt ?_
    refine goh_ ?_
    refine s_flt ?_
    refine goh_ ?_
    refine s_fltOp (by omega) fun q hq => ?_
    replace h : K (.ret (gotA 3 0 q ByteArray.empty)) m := h _ (by revert hq; generalize fltO 5 (i2f n) f' = z; intro hq; cases z with
      | some w => cases hq; rfl
      | none => exact ⟨q, hq, rfl⟩)
    clear hq
    refine goh_ ?_
    refine s_vFltB ?_
    refine goh_ ?_
    refine s_good ?_
    exact gox_
  · clear na nb
    replace h : ∀ v, (Out.flt (fltO 5 f (i2f n'))).av v → K (.ret v) m := h
    refine goh_ ?_
    refine s_number ?_
    rw [show numK ⟨3, n, f, s, r⟩ = true from rfl]
    refine goh_ ?_
    refine s_number ?_
    rw [show numK ⟨2, n', f', s', r'⟩ = true from rfl]
    refine goh_ ?_
    refine draw_ [(0, .pure), (1, .read), (3, .read), (2, .step [3]), (4, .step []), (5, .step []), (6, .step []), (7, .step []), (8, .step [])] (by kernel_rfl) ?_
    refine goh_ ?_
    refine s_flt ?_
    refine goh_ ?_
    refine s_flt ?_
    refine goh_ ?_
    refine s_fltOp (by omega) fun q hq => ?_
    replace h : K (.ret (gotA 3 0 q ByteArray.empty)) m := h _ (by revert hq; generalize fltO 5 f (i2f n') = z; intro hq; cases z with
      | some w => cases hq; rfl
      | none => exact ⟨q, hq, rfl⟩)
    clear hq
    refine goh_ ?_
    refine s_vFltB ?_
    refine goh_ ?_
    refine s_good ?_
    exact gox_
  · clear na nb
    replace h : ∀ v, (Out.flt (fltO 5 f f')).av v → K (.ret v) m := h
    refine goh_ ?_
    refine s_number ?_
    rw [show numK ⟨3, n, f, s, r⟩ = true from rfl]
    refine goh_ ?_
    refine s_number ?_
    rw [show numK ⟨3, n', f', s', r'⟩ = true from rfl]
    refine goh_ ?_
    refine draw_ [(0, .pure), (1, .read), (3, .read), (2, .step [3]), (4, .step []), (5, .step []), (6, .step []), (7, .step []), (8, .step [])] (by kernel_rfl) ?_
    refine goh_ ?_
    refine s_flt ?_
    refine goh_ ?_
    refine s_flt ?_
    refine goh_ ?_
    refine s_fltOp (by omega) fun q hq => ?_
    replace h : K (.ret (gotA 3 0 q ByteArray.empty)) m := h _ (by revert hq; generalize fltO 5 f f' = z; intro hq; cases z with
      | some w => cases hq; rfl
      | none => exact ⟨q, hq, rfl⟩)
    clear hq
    refine goh_ ?_
    refine s_vFltB ?_
    refine goh_ ?_
    refine s_good ?_
    exact gox_
theorem s_implAr_6 {k n r k' n' r' : Int} {f f' : Nat} {s s' : ByteArray} {m : Mem} {K : AR → Mem → Prop} (hl : L10 m) (ha : vok ⟨k, n, f, s, r⟩ = true) (hb : vok ⟨k', n', f', s', r'⟩ = true) (hn : i64r n) (hn' : i64r n') (h : ∀ v, (binI 6 ⟨k, n, f, s, r⟩ ⟨k', n', f', s', r'⟩).av v → K (.ret v) m) :
    Sim Tryd.prog 27 [.int .i64 6, .agg [.int .i64 k, .int .i64 n, .flt f, .str s, .int .i64 r], .agg [.int .i64 k', .int .i64 n', .flt f', .str s', .int .i64 r']] m K := by
  refine entry (cxok []) Tryd.func27 rfl rfl (by decide) (by decide) ?_
  refine go_ ?_
  refine s_implValueOk ?_
  rw [ha]
  refine go_ ?_
  refine s_implValueOk ?_
  rw [hb]
  clear ha hb
  cases na : numK ⟨k, n, f, s, r⟩ with
  | false =>
    replace h : K (.ret (failA 1)) m := h _ (by rw [binI_fail (by decide) (.inl na)]; rfl)
    have j2 : (k == 2) = false := (num2 na).1
    refine goh_ ?_
    refine s_number ?_
    rw [na]
    clear na
    refine goh_ ?_
    refine s_bad ?_
    exact gox_
  | true =>
  cases nb : numK ⟨k', n', f', s', r'⟩ with
  | false =>
    replace h : K (.ret (failA 1)) m := h _ (by rw [binI_fail (by decide) (.inr nb)]; rfl)
    have j2 : (k' == 2) = false := (num2 nb).1
    rcases numK_cases na with rfl | rfl
    · skip
      clear na
      refine goh_ ?_
      refine s_number ?_
      rw [show numK ⟨2, n, f, s, r⟩ = true from rfl]
      refine goh_ ?_
      refine s_number ?_
      rw [nb]
      clear nb
      refine goh_ ?_
      refine s_bad ?_
      exact gox_
    · skip
      clear na
      refine goh_ ?_
      refine s_number ?_
      rw [show numK ⟨3, n, f, s, r⟩ = true from rfl]
      refine goh_ ?_
      refine s_number ?_
      rw [nb]
      clear nb
      refine goh_ ?_
      refine s_bad ?_
      exact gox_
  | true =>
  rcases numK_cases na with rfl | rfl
  all_goals rcases numK_cases nb with rfl | rfl
  · clear na nb
    replace h : ∀ v, (intO 6 n n').av v → K (.ret v) m := h
    refine goh_ ?_
    refine s_number ?_
    rw [show numK ⟨2, n, f, s, r⟩ = true from rfl]
    refine goh_ ?_
    refine s_number ?_
    rw [show numK ⟨2, n', f', s', r'⟩ = true from rfl]
    refine goh_ ?_
    refine s_intOp (by omega) fun v hv => ?_
    replace h := h v hv
    obtain ⟨a0, a1, a2, a3, a4, a5, rfl⟩ := Out.av_agg hv
    clear hv
    exact gox_
  · clear na nb
    replace h : ∀ v, (Out.flt (fltO 6 (i2f n) f')).av v → K (.ret v) m := h
    refine goh_ ?_
    refine s_number ?_
    rw [show numK ⟨2, n, f, s, r⟩ = true from rfl]
    refine goh_ ?_
    refine s_number ?_
    rw [show numK ⟨3, n', f', s', r'⟩ = true from rfl]
    refine goh_ ?_
    refine draw_ [(0, .pure), (1, .read), (3, .read), (2, .step [3]), (4, .step []), (5, .step []), (6, .step []), (7, .step []), (8, .step [])] (by kernel_rfl) ?_
    refine goh_ ?_
    refine s_flt ?_
    refine goh_ ?_
    refine s_flt ?_
    refine goh_ ?_
    refine s_fltOp (by omega) fun q hq => ?_
    replace h : K (.ret (gotA 3 0 q ByteArray.empty)) m := h _ (by revert hq; generalize fltO 6 (i2f n) f' = z; intro hq; cases z with
      | some w => cases hq; rfl
      | none => exact ⟨q, hq, rfl⟩)
    clear hq
    refine goh_ ?_
    refine s_vFltB ?_
    refine goh_ ?_
    refine s_good ?_
    exact gox_
  · clear na nb
    replace h : ∀ v, (Out.flt (fltO 6 f (i2f n'))).av v → K (.ret v) m := h
    refine goh_ ?_
    refine s_number ?_
    rw [show numK ⟨3, n, f, s, r⟩ = true from rfl]
    refine goh_ ?_
    refine s_number ?_
    rw [show numK ⟨2, n', f', s', r'⟩ = true from rfl]
    refine goh_ ?_
    refine draw_ [(0, .pure), (1, .read), (3, .read), (2, .step [3]), (4, .step []), (5, .step []), (6, .step []), (7, .step []), (8, .step [])] (by kernel_rfl) ?_
    refine goh_ ?_
    refine s_flt ?_
    refine goh_ ?_
    refine s_flt ?_
    refine goh_ ?_
    refine s_fltOp (by omega) fun q hq => ?_
    replace h : K (.ret (gotA 3 0 q ByteArray.empty)) m := h _ (by revert hq; generalize fltO 6 f (i2f n') = z; intro hq; cases z with
      | some w => cases hq; rfl
      | none => exact ⟨q, hq, rfl⟩)
    clear hq
    refine goh_ ?_
    refine s_vFltB ?_
    refine goh_ ?_
    refine s_good ?_
    exact gox_
  · clear na nb
    replace h : ∀ v, (Out.flt (fltO 6 f f')).av v → K (.ret v) m := h
    refine goh_ ?_
    refine s_number ?_
    rw [show numK ⟨3, n, f, s, r⟩ = true from rfl]
    refine goh_ ?_
    refine s_number ?_
    rw [show numK ⟨3, n', f', s', r'⟩ = true from rfl]
    refine goh_ ?_
    refine draw_ [(0, .pure), (1, .read), (3, .read), (2, .step [3]), (4, .step []), (5, .step []), (6, .step []), (7, .step []), (8, .step [])] (by kernel_rfl) ?_
    refine goh_ ?_
    refine s_flt ?_
    refine goh_ ?_
    refine s_flt ?_
    refine goh_ ?_
    refine s_fltOp (by omega) fun q hq => ?_
    replace h : K (.ret (gotA 3 0 q ByteArray.empty)) m := h _ (by revert hq; generalize fltO 6 f f' = z; intro hq; cases z with
      | some w => cases hq; rfl
      | none => exact ⟨q, hq, rfl⟩)
    clear hq
    refine goh_ ?_
    refine s_vFltB ?_
    refine goh_ ?_
    refine s_good ?_
    exact gox_
theorem s_implAr_7 {k n r k' n' r' : Int} {f f' : Nat} {s s' : ByteArray} {m : Mem} {K : AR → Mem → Prop} (hl : L10 m) (ha : vok ⟨k, n, f, s, r⟩ = true) (hb : vok ⟨k', n', f', s', r'⟩ = true) (hn : i64r n) (hn' : i64r n') (h : ∀ v, (binI 7 ⟨k, n, f, s, r⟩ ⟨k', n', f', s', r'⟩).av v → K (.ret v) m) :
    Sim Tryd.prog 27 [.int .i64 7, .agg [.int .i64 k, .int .i64 n, .flt f, .str s, .int .i64 r], .agg [.int .i64 k', .int .i64 n', .flt f', .str s', .int .i64 r']] m K := by
  refine entry (cxok []) Tryd.func27 rfl rfl (by decide) (by decide) ?_
  refine go_ ?_
  refine s_implValueOk ?_
  rw [ha]
  refine go_ ?_
  refine s_implValueOk ?_
  rw [hb]
  clear ha hb
  cases na : numK ⟨k, n, f, s, r⟩ with
  | false =>
    replace h : K (.ret (failA 1)) m := h _ (by rw [binI_fail (by decide) (.inl na)]; rfl)
    have j2 : (k == 2) = false := (num2 na).1
    clear na
    refine goh_ ?_
    refine s_bad ?_
    exact gox_
  | true =>
  cases nb : numK ⟨k', n', f', s', r'⟩ with
  | false =>
    replace h : K (.ret (failA 1)) m := h _ (by rw [binI_fail (by decide) (.inr nb)]; rfl)
    have j2 : (k' == 2) = false := (num2 nb).1
    rcases numK_cases na with rfl | rfl
    · skip
      clear na nb
      refine goh_ ?_
      refine s_bad ?_
      exact gox_
    · skip
      clear na nb
      refine goh_ ?_
      refine s_bad ?_
      exact gox_
  | true =>
  rcases numK_cases na with rfl | rfl
  all_goals rcases numK_cases nb with rfl | rfl
  · clear na nb
    replace h : ∀ v, (intO 7 n n').av v → K (.ret v) m := h
    refine goh_ ?_
    refine s_bitOp (by omega) fun v hv => ?_
    replace h := h v hv
    obtain ⟨a0, a1, a2, a3, a4, a5, rfl⟩ := Out.av_agg hv
    clear hv
    exact gox_
  · clear na nb
    replace h : K (.ret (failA 1)) m := h _ rfl
    refine goh_ ?_
    refine s_bad ?_
    exact gox_
  · clear na nb
    replace h : K (.ret (failA 1)) m := h _ rfl
    refine goh_ ?_
    refine s_bad ?_
    exact gox_
  · clear na nb
    replace h : K (.ret (failA 1)) m := h _ rfl
    refine goh_ ?_
    refine s_bad ?_
    exact gox_
theorem s_implAr_8 {k n r k' n' r' : Int} {f f' : Nat} {s s' : ByteArray} {m : Mem} {K : AR → Mem → Prop} (hl : L10 m) (ha : vok ⟨k, n, f, s, r⟩ = true) (hb : vok ⟨k', n', f', s', r'⟩ = true) (hn : i64r n) (hn' : i64r n') (h : ∀ v, (binI 8 ⟨k, n, f, s, r⟩ ⟨k', n', f', s', r'⟩).av v → K (.ret v) m) :
    Sim Tryd.prog 27 [.int .i64 8, .agg [.int .i64 k, .int .i64 n, .flt f, .str s, .int .i64 r], .agg [.int .i64 k', .int .i64 n', .flt f', .str s', .int .i64 r']] m K := by
  refine entry (cxok []) Tryd.func27 rfl rfl (by decide) (by decide) ?_
  refine go_ ?_
  refine s_implValueOk ?_
  rw [ha]
  refine go_ ?_
  refine s_implValueOk ?_
  rw [hb]
  clear ha hb
  cases na : numK ⟨k, n, f, s, r⟩ with
  | false =>
    replace h : K (.ret (failA 1)) m := h _ (by rw [binI_fail (by decide) (.inl na)]; rfl)
    have j2 : (k == 2) = false := (num2 na).1
    clear na
    refine goh_ ?_
    refine s_bad ?_
    exact gox_
  | true =>
  cases nb : numK ⟨k', n', f', s', r'⟩ with
  | false =>
    replace h : K (.ret (failA 1)) m := h _ (by rw [binI_fail (by decide) (.inr nb)]; rfl)
    have j2 : (k' == 2) = false := (num2 nb).1
    rcases numK_cases na with rfl | rfl
    · skip
      clear na nb
      refine goh_ ?_
      refine s_bad ?_
      exact gox_
    · skip
      clear na nb
      refine goh_ ?_
      refine s_bad ?_
      exact gox_
  | true =>
  rcases numK_cases na with rfl | rfl
  all_goals rcases numK_cases nb with rfl | rfl
  · clear na nb
    replace h : ∀ v, (intO 8 n n').av v → K (.ret v) m := h
    refine goh_ ?_
    refine s_bitOp (by omega) fun v hv => ?_
    replace h := h v hv
    obtain ⟨a0, a1, a2, a3, a4, a5, rfl⟩ := Out.av_agg hv
    clear hv
    exact gox_
  · clear na nb
    replace h : K (.ret (failA 1)) m := h _ rfl
    refine goh_ ?_
    refine s_bad ?_
    exact gox_
  · clear na nb
    replace h : K (.ret (failA 1)) m := h _ rfl
    refine goh_ ?_
    refine s_bad ?_
    exact gox_
  · clear na nb
    replace h : K (.ret (failA 1)) m := h _ rfl
    refine goh_ ?_
    refine s_bad ?_
    exact gox_
theorem s_implAr_9 {k n r k' n' r' : Int} {f f' : Nat} {s s' : ByteArray} {m : Mem} {K : AR → Mem → Prop} (hl : L10 m) (ha : vok ⟨k, n, f, s, r⟩ = true) (hb : vok ⟨k', n', f', s', r'⟩ = true) (hn : i64r n) (hn' : i64r n') (h : ∀ v, (binI 9 ⟨k, n, f, s, r⟩ ⟨k', n', f', s', r'⟩).av v → K (.ret v) m) :
    Sim Tryd.prog 27 [.int .i64 9, .agg [.int .i64 k, .int .i64 n, .flt f, .str s, .int .i64 r], .agg [.int .i64 k', .int .i64 n', .flt f', .str s', .int .i64 r']] m K := by
  refine entry (cxok []) Tryd.func27 rfl rfl (by decide) (by decide) ?_
  refine go_ ?_
  refine s_implValueOk ?_
  rw [ha]
  refine go_ ?_
  refine s_implValueOk ?_
  rw [hb]
  clear ha hb
  cases na : numK ⟨k, n, f, s, r⟩ with
  | false =>
    replace h : K (.ret (failA 1)) m := h _ (by rw [binI_fail (by decide) (.inl na)]; rfl)
    have j2 : (k == 2) = false := (num2 na).1
    clear na
    refine goh_ ?_
    refine s_bad ?_
    exact gox_
  | true =>
  cases nb : numK ⟨k', n', f', s', r'⟩ with
  | false =>
    replace h : K (.ret (failA 1)) m := h _ (by rw [binI_fail (by decide) (.inr nb)]; rfl)
    have j2 : (k' == 2) = false := (num2 nb).1
    rcases numK_cases na with rfl | rfl
    · skip
      clear na nb
      refine goh_ ?_
      refine s_bad ?_
      exact gox_
    · skip
      clear na nb
      refine goh_ ?_
      refine s_bad ?_
      exact gox_
  | true =>
  rcases numK_cases na with rfl | rfl
  all_goals rcases numK_cases nb with rfl | rfl
  · clear na nb
    replace h : ∀ v, (intO 9 n n').av v → K (.ret v) m := h
    refine goh_ ?_
    refine s_bitOp (by omega) fun v hv => ?_
    replace h := h v hv
    obtain ⟨a0, a1, a2, a3, a4, a5, rfl⟩ := Out.av_agg hv
    clear hv
    exact gox_
  · clear na nb
    replace h : K (.ret (failA 1)) m := h _ rfl
    refine goh_ ?_
    refine s_bad ?_
    exact gox_
  · clear na nb
    replace h : K (.ret (failA 1)) m := h _ rfl
    refine goh_ ?_
    refine s_bad ?_
    exact gox_
  · clear na nb
    replace h : K (.ret (failA 1)) m := h _ rfl
    refine goh_ ?_
    refine s_bad ?_
    exact gox_
theorem s_implAr_10 {k n r k' n' r' : Int} {f f' : Nat} {s s' : ByteArray} {m : Mem} {K : AR → Mem → Prop} (hl : L10 m) (ha : vok ⟨k, n, f, s, r⟩ = true) (hb : vok ⟨k', n', f', s', r'⟩ = true) (hn : i64r n) (hn' : i64r n') (h : ∀ v, (binI 10 ⟨k, n, f, s, r⟩ ⟨k', n', f', s', r'⟩).av v → K (.ret v) m) :
    Sim Tryd.prog 27 [.int .i64 10, .agg [.int .i64 k, .int .i64 n, .flt f, .str s, .int .i64 r], .agg [.int .i64 k', .int .i64 n', .flt f', .str s', .int .i64 r']] m K := by
  refine entry (cxok []) Tryd.func27 rfl rfl (by decide) (by decide) ?_
  refine go_ ?_
  refine s_implValueOk ?_
  rw [ha]
  refine go_ ?_
  refine s_implValueOk ?_
  rw [hb]
  clear ha hb
  cases na : numK ⟨k, n, f, s, r⟩ with
  | false =>
    replace h : K (.ret (failA 1)) m := h _ (by rw [binI_fail (by decide) (.inl na)]; rfl)
    have j2 : (k == 2) = false := (num2 na).1
    clear na
    refine goh_ ?_
    refine s_bad ?_
    exact gox_
  | true =>
  cases nb : numK ⟨k', n', f', s', r'⟩ with
  | false =>
    replace h : K (.ret (failA 1)) m := h _ (by rw [binI_fail (by decide) (.inr nb)]; rfl)
    have j2 : (k' == 2) = false := (num2 nb).1
    rcases numK_cases na with rfl | rfl
    · skip
      clear na nb
      refine goh_ ?_
      refine s_bad ?_
      exact gox_
    · skip
      clear na nb
      refine goh_ ?_
      refine s_bad ?_
      exact gox_
  | true =>
  rcases numK_cases na with rfl | rfl
  all_goals rcases numK_cases nb with rfl | rfl
  · clear na nb
    replace h : ∀ v, (intO 10 n n').av v → K (.ret v) m := h
    refine goh_ ?_
    refine s_bitOp (by omega) fun v hv => ?_
    replace h := h v hv
    obtain ⟨a0, a1, a2, a3, a4, a5, rfl⟩ := Out.av_agg hv
    clear hv
    exact gox_
  · clear na nb
    replace h : K (.ret (failA 1)) m := h _ rfl
    refine goh_ ?_
    refine s_bad ?_
    exact gox_
  · clear na nb
    replace h : K (.ret (failA 1)) m := h _ rfl
    refine goh_ ?_
    refine s_bad ?_
    exact gox_
  · clear na nb
    replace h : K (.ret (failA 1)) m := h _ rfl
    refine goh_ ?_
    refine s_bad ?_
    exact gox_
theorem s_implAr_11 {k n r k' n' r' : Int} {f f' : Nat} {s s' : ByteArray} {m : Mem} {K : AR → Mem → Prop} (hl : L10 m) (ha : vok ⟨k, n, f, s, r⟩ = true) (hb : vok ⟨k', n', f', s', r'⟩ = true) (hn : i64r n) (hn' : i64r n') (h : ∀ v, (binI 11 ⟨k, n, f, s, r⟩ ⟨k', n', f', s', r'⟩).av v → K (.ret v) m) :
    Sim Tryd.prog 27 [.int .i64 11, .agg [.int .i64 k, .int .i64 n, .flt f, .str s, .int .i64 r], .agg [.int .i64 k', .int .i64 n', .flt f', .str s', .int .i64 r']] m K := by
  refine entry (cxok []) Tryd.func27 rfl rfl (by decide) (by decide) ?_
  refine go_ ?_
  refine s_implValueOk ?_
  rw [ha]
  refine go_ ?_
  refine s_implValueOk ?_
  rw [hb]
  clear ha hb
  cases na : numK ⟨k, n, f, s, r⟩ with
  | false =>
    replace h : K (.ret (failA 1)) m := h _ (by rw [binI_fail (by decide) (.inl na)]; rfl)
    have j2 : (k == 2) = false := (num2 na).1
    clear na
    refine goh_ ?_
    refine s_bad ?_
    exact gox_
  | true =>
  cases nb : numK ⟨k', n', f', s', r'⟩ with
  | false =>
    replace h : K (.ret (failA 1)) m := h _ (by rw [binI_fail (by decide) (.inr nb)]; rfl)
    have j2 : (k' == 2) = false := (num2 nb).1
    rcases numK_cases na with rfl | rfl
    · skip
      clear na nb
      refine goh_ ?_
      refine s_bad ?_
      exact gox_
    · skip
      clear na nb
      refine goh_ ?_
      refine s_bad ?_
      exact gox_
  | true =>
  rcases numK_cases na with rfl | rfl
  all_goals rcases numK_cases nb with rfl | rfl
  · clear na nb
    replace h : ∀ v, (intO 11 n n').av v → K (.ret v) m := h
    refine goh_ ?_
    refine s_bitOp (by omega) fun v hv => ?_
    replace h := h v hv
    obtain ⟨a0, a1, a2, a3, a4, a5, rfl⟩ := Out.av_agg hv
    clear hv
    exact gox_
  · clear na nb
    replace h : K (.ret (failA 1)) m := h _ rfl
    refine goh_ ?_
    refine s_bad ?_
    exact gox_
  · clear na nb
    replace h : K (.ret (failA 1)) m := h _ rfl
    refine goh_ ?_
    refine s_bad ?_
    exact gox_
  · clear na nb
    replace h : K (.ret (failA 1)) m := h _ rfl
    refine goh_ ?_
    refine s_bad ?_
    exact gox_
theorem s_implBinary {op : Int} {k n r k' n' r' : Int} {f f' : Nat} {s s' : ByteArray} {m : Mem} {K : AR → Mem → Prop} (hl : L10 m) (hn : i64r n) (hn' : i64r n') (hf : f < 18446744073709551616) (hf' : f' < 18446744073709551616) (h : ∀ v, (binO op ⟨k, n, f, s, r⟩ ⟨k', n', f', s', r'⟩).av v → K (.ret v) m) :
    Sim Tryd.prog 27 [.int .i64 op, .agg [.int .i64 k, .int .i64 n, .flt f, .str s, .int .i64 r], .agg [.int .i64 k', .int .i64 n', .flt f', .str s', .int .i64 r']] m K := by
  cases ha : vok ⟨k, n, f, s, r⟩ with
  | false =>
    replace h : K (.ret (failA 1)) m := h _ (by unfold binO; rw [if_neg (fun c => by rw [ha] at c; cases c.1)]; rfl)
    refine entry (cxok []) Tryd.func27 rfl rfl (by decide) (by decide) ?_
    refine go_ ?_
    refine s_implValueOk ?_
    rw [ha]
    clear hn hn' hf hf' ha
    refine goh_ ?_
    refine s_bad ?_
    exact gox_
  | true =>
  cases hb : vok ⟨k', n', f', s', r'⟩ with
  | false =>
    replace h : K (.ret (failA 1)) m := h _ (by unfold binO; rw [if_neg (fun c => by rw [hb] at c; cases c.2.1)]; rfl)
    refine entry (cxok []) Tryd.func27 rfl rfl (by decide) (by decide) ?_
    refine go_ ?_
    refine s_implValueOk ?_
    rw [ha]
    refine go_ ?_
    refine s_implValueOk ?_
    rw [hb]
    clear hn hn' hf hf' ha hb
    refine goh_ ?_
    refine s_bad ?_
    exact gox_
  | true =>
  by_cases ho : 1 ≤ op ∧ op ≤ 18
  · rw [binO_in ha hb ho] at h
    have hop : op = 1 ∨ op = 2 ∨ op = 3 ∨ op = 4 ∨ op = 5 ∨ op = 6 ∨ op = 7 ∨ op = 8 ∨ op = 9 ∨ op = 10 ∨ op = 11 ∨ op = 12 ∨ op = 13 ∨ op = 14 ∨ op = 15 ∨ op = 16 ∨ op = 17 ∨ op = 18 := by omega
    clear ho
    rcases hop with rfl | rfl | rfl | rfl | rfl | rfl | rfl | rfl | rfl | rfl | rfl | rfl | rfl | rfl | rfl | rfl | rfl | rfl
    · exact s_implAr_1 hl ha hb hn hn' h
    · exact s_implAr_2 hl ha hb hn hn' h
    · exact s_implAr_3 hl ha hb hn hn' h
    · exact s_implAr_4 hl ha hb hn hn' h
    · exact s_implAr_5 hl ha hb hn hn' h
    · exact s_implAr_6 hl ha hb hn hn' h
    · exact s_implAr_7 hl ha hb hn hn' h
    · exact s_implAr_8 hl ha hb hn hn' h
    · exact s_implAr_9 hl ha hb hn hn' h
    · exact s_implAr_10 hl ha hb hn hn' h
    · exact s_implAr_11 hl ha hb hn hn' h
    · exact s_implJoin_12 hl ha hb hn hn' hf hf' h
    · exact s_implSame_13 hl ha hb hn hn' h
    · exact s_implSame_14 hl ha hb hn hn' h
    · exact s_implOrd_15 hl ha hb hn hn' h
    · exact s_implOrd_16 hl ha hb hn hn' h
    · exact s_implOrd_17 hl ha hb hn hn' h
    · exact s_implOrd_18 hl ha hb hn hn' h
  · replace h : K (.ret (failA 1)) m := h _ (by unfold binO; rw [if_neg (fun c => ho c.2.2)]; rfl)
    refine entry (cxok []) Tryd.func27 rfl rfl (by decide) (by decide) ?_
    refine go_ ?_
    refine s_implValueOk ?_
    rw [ha]
    refine go_ ?_
    refine s_implValueOk ?_
    rw [hb]
    clear hn hn' hf hf' ha hb
    have e1 : (op == 1) = false := by rw [beq_eq_false_iff_ne]; omega
    have e2 : (op == 2) = false := by rw [beq_eq_false_iff_ne]; omega
    have e3 : (op == 3) = false := by rw [beq_eq_false_iff_ne]; omega
    have e4 : (op == 4) = false := by rw [beq_eq_false_iff_ne]; omega
    have e5 : (op == 5) = false := by rw [beq_eq_false_iff_ne]; omega
    have e6 : (op == 6) = false := by rw [beq_eq_false_iff_ne]; omega
    have e7 : (op == 7) = false := by rw [beq_eq_false_iff_ne]; omega
    have e8 : (op == 8) = false := by rw [beq_eq_false_iff_ne]; omega
    have e9 : (op == 9) = false := by rw [beq_eq_false_iff_ne]; omega
    have e10 : (op == 10) = false := by rw [beq_eq_false_iff_ne]; omega
    have e11 : (op == 11) = false := by rw [beq_eq_false_iff_ne]; omega
    have e12 : (op == 12) = false := by rw [beq_eq_false_iff_ne]; omega
    have e13 : (op == 13) = false := by rw [beq_eq_false_iff_ne]; omega
    have e14 : (op == 14) = false := by rw [beq_eq_false_iff_ne]; omega
    have e15 : (op == 15) = false := by rw [beq_eq_false_iff_ne]; omega
    have e16 : (op == 16) = false := by rw [beq_eq_false_iff_ne]; omega
    have e17 : (op == 17) = false := by rw [beq_eq_false_iff_ne]; omega
    have e18 : (op == 18) = false := by rw [beq_eq_false_iff_ne]; omega
    clear ho
    refine goh_ ?_
    by_cases c1 : k = 2 <;> by_cases c2 : k' = 2
    · skip
      subst c1
      subst c2
      refine goh_ ?_
      refine s_bad ?_
      exact gox_
    · skip
      subst c1
      have d2 : (k' == 2) = false := by simpa using c2
      clear c2
      refine goh_ ?_
      refine s_bad ?_
      exact gox_
    · skip
      have d1 : (k == 2) = false := by simpa using c1
      clear c1
      subst c2
      refine goh_ ?_
      refine s_bad ?_
      exact gox_
    · skip
      have d1 : (k == 2) = false := by simpa using c1
      clear c1
      have d2 : (k' == 2) = false := by simpa using c2
      clear c2
      refine goh_ ?_
      refine s_bad ?_
      exact gox_
end Go.Proofs.YtdonkjepjobhnaaDoor.IM
namespace Go.Proofs.IM
open Go Go.Proofs.Flt
theorem draw_cutB {C : Cx} {ops : Array Oper} {KN : St → Mem → Prop} {KP : Value → Mem → Prop} {st : St} {m : Mem} (I : (Nat → AV) → Loc → Nat → Mem → Prop) (hc : ∀ t l c m, I t l c m → KN ⟨t, l, c⟩ m)
    (h : ∀ KN0 : St → Mem → Prop, (∀ t l c m, I t l c m → KN0 ⟨t, l, c⟩ m) → aDraw C ops KN0 KP st m) : aDraw C ops KN KP st m := h KN hc
theorem Out.same {o : Out} {a0 a1 a2 a5 b0 b1 b2 b5 : Int} {a3 b3 : Nat} {a4 b4 : ByteArray} (ha : o.av (.agg [.int .i64 a0, .int .i64 a1, .int .i64 a2, .flt a3, .str a4, .int .i64 a5])) (hb : o.av (.agg [.int .i64 b0, .int .i64 b1, .int .i64 b2, .flt b3, .str b4, .int .i64 b5])) :
    a0 = b0 ∧ a1 = b1 ∧ a2 = b2 ∧ SameF a3 b3 ∧ a4 = b4 ∧ a5 = b5 := by
  have key : ∀ v, (.agg [.int .i64 a0, .int .i64 a1, .int .i64 a2, .flt a3, .str a4, .int .i64 a5] : AV) = v → (.agg [.int .i64 b0, .int .i64 b1, .int .i64 b2, .flt b3, .str b4, .int .i64 b5] : AV) = v → a0 = b0 ∧ a1 = b1 ∧ a2 = b2 ∧ SameF a3 b3 ∧ a4 = b4 ∧ a5 = b5 := by
    intro v h1 h2
    rw [← h2] at h1
    simp only [AV.agg.injEq, List.cons.injEq, AV.int.injEq, AV.flt.injEq, AV.str.injEq, and_true, true_and] at h1
    obtain ⟨e0, e1, e2, e3, e4, e5⟩ := h1
    exact ⟨e0, e1, e2, .inl e3, e4, e5⟩
  cases o with
  | fail c => exact key _ ha hb
  | int n => exact key _ ha hb
  | bool b => exact key _ ha hb
  | str s => exact key _ ha hb
  | flt o =>
    cases o with
    | some w => exact key _ ha hb
    | none =>
      obtain ⟨q, hq, ha⟩ := ha
      obtain ⟨q', hq', hb⟩ := hb
      simp only [gotA, AV.agg.injEq, List.cons.injEq, AV.int.injEq, AV.flt.injEq, AV.str.injEq, and_true, true_and] at ha hb
      obtain ⟨e0, e1, e2, e3, e4, e5⟩ := ha
      obtain ⟨d0, d1, d2, d3, d4, d5⟩ := hb
      subst e0 e1 e2 e3 e4 e5 d0 d1 d2 d3 d4 d5
      exact ⟨rfl, rfl, rfl, .inr ⟨hq, hq'⟩, rfl, rfl⟩
end Go.Proofs.IM
namespace Go.Proofs.YtdonkjepjobhnaaDoor.IM
open Go Go.Proofs.IM Go.Proofs.Flt
set_option maxHeartbeats 8000000
set_option maxRecDepth 100000
theorem s_eqValued {c k n r : Int} {f g : Nat} {s : ByteArray} {m : Mem} {K : AR → Mem → Prop} (hs : SameF f g) (h : K (.ret (.bool true)) m) :
    Sim Tryd.prog 28 [.agg [.int .i64 c, .int .i64 k, .int .i64 n, .flt f, .str s, .int .i64 r], .agg [.int .i64 c, .int .i64 k, .int .i64 n, .flt g, .str s, .int .i64 r]] m K := by
  refine entry (cxok []) Tryd.func28 rfl rfl (by decide) (by decide) ?_
  refine go_ ?_
  refine s_eqValue hs ?_
  clear hs
  exact gox_
theorem s_FnExactBinary {op k n r k' n' r' : Int} {f f' : Nat} {s s' : ByteArray} {m : Mem} {K : AR → Mem → Prop} (hl : L10 m) (hn : i64r n) (hn' : i64r n') (hf : f < 18446744073709551616) (hf' : f' < 18446744073709551616) (h : K (.ret (.bool true)) m) :
    Sim Tryd.prog 6 [.int .i64 op, .agg [.int .i64 k, .int .i64 n, .flt f, .str s, .int .i64 r], .agg [.int .i64 k', .int .i64 n', .flt f', .str s', .int .i64 r']] m K := by
  refine entry (cxok []) Tryd.func6 rfl rfl (by decide) (by decide) ?_
  refine go_ ?_
  refine s_szValue ?_
  refine go_ ?_
  generalize szV _ _ = z
  refine ⟨fun _ => h, fun _ => ?_⟩
  refine s_szValue ?_
  refine go_ ?_
  generalize szV _ _ = z
  refine ⟨fun _ => h, fun _ => ?_⟩
  refine draw_cutB (fun t l c m' => m' = m ∧ c = 24 ∧ t 0 = .int .i64 op ∧ t 4 = .ptr (.lc 0) 0 0 ∧ t 5 = .ptr (.lc 1) 0 0 ∧ t 8 = .ptr (.lc 22) 0 0 ∧ l 0 = some ⟨[[.int .i64 k, .int .i64 n, .flt f, .str s, .int .i64 r]], 5⟩ ∧ l 1 = some ⟨[[.int .i64 k', .int .i64 n', .flt f', .str s', .int .i64 r']], 5⟩ ∧
      ∃ (a0 a1 a2 a5 : Int) (a3 : Nat) (a4 : ByteArray), l 22 = some ⟨[[.int .i64 a0, .int .i64 a1, .int .i64 a2, .flt a3, .str a4, .int .i64 a5]], 6⟩ ∧ (binO op ⟨k, n, f, s, r⟩ ⟨k', n', f', s', r'⟩).av (.agg [.int .i64 a0, .int .i64 a1, .int .i64 a2, .flt a3, .str a4, .int .i64 a5])) ?_ ?_
  rotate_left
  · intro KN next
    refine drawF_ [(0, .pure), (1, .read), (3, .read)] [(2, .step [3]), (4, .step []), (5, .step []), (6, .step [1, 3]), (7, .step [])] (.fork 2 [3] (.fork 4 [] (.fork 5 [] (.step 6 [1, 3] (.step 7 [] .done)) 6 [1, 3] (.step 5 [] (.step 7 [] .done))) 6 [1, 3] (.step 4 [] (.step 5 [] (.step 7 [] .done)))) 6 [1, 3] (.step 2 [3] (.step 4 [] (.step 5 [] (.step 7 [] .done))))) (by kernel_rfl) ?_
    refine goh_ ?_
    refine ⟨?_, ?_⟩
    · refine s_toValue ?_
      refine goh_ ?_
      refine ⟨?_, ?_⟩
      · refine s_toValue ?_
        refine goh_ ?_
        refine ⟨?_, ?_⟩
        · refine s_specBinary hn hn' hf hf' fun v hv => ?_
          obtain ⟨a0, a1, a2, a3, a4, a5, rfl⟩ := Out.av_agg hv
          clear hn hn' hf hf'
          refine goh_ ?_
          exact next _ _ _ _ ⟨rfl, rfl, rfl, rfl, rfl, rfl, rfl, rfl, a0, a1, a2, a5, a3, a4, rfl, hv⟩
        · refine s_specBinary hn hn' hf hf' fun v hv => ?_
          obtain ⟨a0, a1, a2, a3, a4, a5, rfl⟩ := Out.av_agg hv
          clear hn hn' hf hf'
          refine goh_ ?_
          exact next _ _ _ _ ⟨rfl, rfl, rfl, rfl, rfl, rfl, rfl, rfl, a0, a1, a2, a5, a3, a4, rfl, hv⟩
      · refine s_toValue ?_
        refine goh_ ?_
        refine s_specBinary hn hn' hf hf' fun v hv => ?_
        obtain ⟨a0, a1, a2, a3, a4, a5, rfl⟩ := Out.av_agg hv
        clear hn hn' hf hf'
        refine goh_ ?_
        exact next _ _ _ _ ⟨rfl, rfl, rfl, rfl, rfl, rfl, rfl, rfl, a0, a1, a2, a5, a3, a4, rfl, hv⟩
    · refine s_toValue ?_
      refine goh_ ?_
      refine s_toValue ?_
      refine goh_ ?_
      refine s_specBinary hn hn' hf hf' fun v hv => ?_
      obtain ⟨a0, a1, a2, a3, a4, a5, rfl⟩ := Out.av_agg hv
      clear hn hn' hf hf'
      refine goh_ ?_
      exact next _ _ _ _ ⟨rfl, rfl, rfl, rfl, rfl, rfl, rfl, rfl, a0, a1, a2, a5, a3, a4, rfl, hv⟩
  rintro t l c m1 ⟨rfl, rfl, t0, t4, t5, t8, l0, l1, a0, a1, a2, a5, a3, a4, l22, hv⟩
  refine draw_cutB (fun t l c m' => m' = m1 ∧ t 8 = .ptr (.lc 22) 0 0 ∧ t 9 = .ptr (.lc 30) 0 0 ∧ l 22 = some ⟨[[.int .i64 a0, .int .i64 a1, .int .i64 a2, .flt a3, .str a4, .int .i64 a5]], 6⟩ ∧
      ∃ (b0 b1 b2 b5 : Int) (b3 : Nat) (b4 : ByteArray), l 30 = some ⟨[[.int .i64 b0, .int .i64 b1, .int .i64 b2, .flt b3, .str b4, .int .i64 b5]], 6⟩ ∧ (binO op ⟨k, n, f, s, r⟩ ⟨k', n', f', s', r'⟩).av (.agg [.int .i64 b0, .int .i64 b1, .int .i64 b2, .flt b3, .str b4, .int .i64 b5])) ?_ ?_
  rotate_left
  · intro KN next
    refine drawF_ [(0, .pure), (1, .read), (3, .read)] [(2, .step [3]), (4, .step []), (5, .step []), (6, .step [1, 3]), (7, .step [])] (.fork 2 [3] (.fork 4 [] (.fork 5 [] (.step 6 [1, 3] (.step 7 [] .done)) 6 [1, 3] (.step 5 [] (.step 7 [] .done))) 6 [1, 3] (.step 4 [] (.step 5 [] (.step 7 [] .done)))) 6 [1, 3] (.step 2 [3] (.step 4 [] (.step 5 [] (.step 7 [] .done))))) (by kernel_rfl) ?_
    refine goh_ ?_
    refine ⟨?_, ?_⟩
    · refine s_toValue ?_
      refine goh_ ?_
      refine ⟨?_, ?_⟩
      · refine s_toValue ?_
        refine goh_ ?_
        refine ⟨?_, ?_⟩
        · refine s_implBinary hl hn hn' hf hf' fun w hw => ?_
          obtain ⟨b0, b1, b2, b3, b4, b5, rfl⟩ := Out.av_agg hw
          clear hn hn' hf hf'
          refine goh_ ?_
          exact next _ _ _ _ ⟨rfl, t8, rfl, l22, b0, b1, b2, b5, b3, b4, rfl, hw⟩
        · refine s_implBinary hl hn hn' hf hf' fun w hw => ?_
          obtain ⟨b0, b1, b2, b3, b4, b5, rfl⟩ := Out.av_agg hw
          clear hn hn' hf hf'
          refine goh_ ?_
          exact next _ _ _ _ ⟨rfl, t8, rfl, l22, b0, b1, b2, b5, b3, b4, rfl, hw⟩
      · refine s_toValue ?_
        refine goh_ ?_
        refine s_implBinary hl hn hn' hf hf' fun w hw => ?_
        obtain ⟨b0, b1, b2, b3, b4, b5, rfl⟩ := Out.av_agg hw
        clear hn hn' hf hf'
        refine goh_ ?_
        exact next _ _ _ _ ⟨rfl, t8, rfl, l22, b0, b1, b2, b5, b3, b4, rfl, hw⟩
    · refine s_toValue ?_
      refine goh_ ?_
      refine s_toValue ?_
      refine goh_ ?_
      refine s_implBinary hl hn hn' hf hf' fun w hw => ?_
      obtain ⟨b0, b1, b2, b3, b4, b5, rfl⟩ := Out.av_agg hw
      clear hn hn' hf hf'
      refine goh_ ?_
      exact next _ _ _ _ ⟨rfl, t8, rfl, l22, b0, b1, b2, b5, b3, b4, rfl, hw⟩
  rintro t l c m1 ⟨rfl, t8, t9, l22, b0, b1, b2, b5, b3, b4, l30, hw⟩
  obtain ⟨d0, d1, d2, d3, d4, d5⟩ := Out.same hw hv
  subst d0 d1 d2 d4 d5
  clear hv hw hl hn hn' hf hf'
  refine goh_ ?_
  refine s_eqValued d3 ?_
  clear d3
  exact gox_
end Go.Proofs.YtdonkjepjobhnaaDoor.IM
