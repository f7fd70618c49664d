/- Values: keys, both ways. -/
import Derived.Test.YtgfkbcmdegnneaaPD
namespace Go.Proofs.IM
open Go Go.RowKit Go.Proofs.Flt Ieee
def wholeB (f : Nat) : Bool := !nan f && decide (-((K63 * Flt.U : Nat) : Int) ≤ val f) && decide (val f < ((K63 * Flt.U : Nat) : Int)) && decide (val f / (Flt.U : Int) * Flt.U = val f)
theorem wholeB_iff (f : Nat) : wholeB f = true ↔ inr f ∧ val f / (Flt.U : Int) * Flt.U = val f := by
  simp [wholeB, inr, and_assoc]
def vZ : V := ⟨0, 0, 0, ByteArray.empty, 0⟩
/-- What a value is as a key. -/
def keyV (v : V) : Int × V :=
  if vok v = true then
    if v.k = 0 ∨ v.k = 3 ∧ nan v.f = true then (5, vZ)
    else if v.k = 3 ∧ wholeB v.f = true then (0, ⟨2, f2i v.f, 0, ByteArray.empty, 0⟩)
    else (0, v)
  else (1, vZ)
def keyR (v : V) : AV := .agg (.int .i64 (keyV v).1 :: (keyV v).2.av)
theorem keyR_bad {v : V} (h : vok v = false) : keyR v = .agg [.int .i64 1, .int .i64 0, .int .i64 0, .flt 0, .str ByteArray.empty, .int .i64 0] := by
  simp [keyR, keyV, h, vZ, V.av]
theorem keyR_none {v : V} (h : vok v = true) (h' : v.k = 0 ∨ v.k = 3 ∧ nan v.f = true) : keyR v = .agg [.int .i64 5, .int .i64 0, .int .i64 0, .flt 0, .str ByteArray.empty, .int .i64 0] := by
  simp [keyR, keyV, h, h', vZ, V.av]
theorem keyR_int {v : V} (h : vok v = true) (h3 : v.k = 3) (hn : nan v.f = false) (hw : wholeB v.f = true) : keyR v = .agg [.int .i64 0, .int .i64 2, .int .i64 (f2i v.f), .flt 0, .str ByteArray.empty, .int .i64 0] := by
  have h' : ¬ (v.k = 0 ∨ v.k = 3 ∧ nan v.f = true) := by rw [h3, hn]; simp
  simp only [keyR, keyV]
  rw [if_pos h, if_neg h', if_pos ⟨h3, hw⟩]; rfl
theorem keyR_self {v : V} (h : vok v = true) (h0 : v.k ≠ 0) (hn : v.k = 3 → nan v.f = false ∧ wholeB v.f = false) : keyR v = .agg (.int .i64 0 :: v.av) := by
  have h' : ¬ (v.k = 0 ∨ v.k = 3 ∧ nan v.f = true) := by
    rintro (q | ⟨q, q'⟩)
    · exact h0 q
    · rw [(hn q).1] at q'; cases q'
  have h'' : ¬ (v.k = 3 ∧ wholeB v.f = true) := fun q => by rw [(hn q.1).2] at q; cases q.2
  simp only [keyR, keyV]
  rw [if_pos h, if_neg h', if_neg h'']
/-- The reference asks for a whole number so. -/
theorem key_spec {f t : Nat} (hn : nan f = false) (h1 : inr f → nan t = false ∧ val t = val f / Flt.U * Flt.U) (h2 : ¬ inr f → t = f) : (feq f t && fgeq f 14114281232179134464 && flss f 4890909195324358656) = wholeB f := by
  rw [Bool.eq_iff_iff, wholeB_iff]
  simp only [Bool.and_eq_true]
  constructor
  · rintro ⟨⟨a, b⟩, c⟩
    have hi := (inr_iff f).2 ⟨b, c⟩
    refine ⟨hi, ?_⟩
    obtain ⟨u1, u2⟩ := h1 hi
    rw [feq_iff, u1, u2, hn] at a
    simpa using (by simpa using a : val f = val f / Flt.U * Flt.U).symm
  · rintro ⟨hi, hw⟩
    obtain ⟨b, c⟩ := (inr_iff f).1 hi
    obtain ⟨u1, u2⟩ := h1 hi
    refine ⟨⟨?_, b⟩, c⟩
    rw [feq_iff, u1, u2, hw]; simp [hn]
theorem key_impl {f : Nat} (hn : nan f = false) (hi : inr f) : feq (ftrunc f) f = wholeB f := by
  obtain ⟨v1, v2⟩ := val_ftrunc (inr_fin hi)
  rw [Bool.eq_iff_iff, wholeB_iff, feq_iff, v1, v2, hn]
  simp only [Bool.not_false, Bool.true_and, decide_eq_true_eq]
  exact ⟨fun h => ⟨hi, (whole_iff f).1 h⟩, fun h => (whole_iff f).2 h.2⟩
end Go.Proofs.IM
namespace Go.Proofs.Ytgfkbcmdegnneaa.IM
open Go Go.Proofs.IM Go.Proofs.Flt
set_option maxHeartbeats 8000000
set_option maxRecDepth 100000
theorem s_l1fail {c : Int} {m : Mem} {K : AR → Mem → Prop} (h : K (.ret (.agg [.int .i64 c, .int .i64 0, .int .i64 0, .flt 0, .str ByteArray.empty, .int .i64 0])) m) : Sim Try.prog 27 [.int .i64 c] m K := by
  refine entry (cxok []) Try.func27 rfl rfl (by decide) (by decide) ?_
  exact gox_
theorem s_bad {c : Int} {m : Mem} {K : AR → Mem → Prop} (h : K (.ret (.agg [.int .i64 c, .int .i64 0, .int .i64 0, .flt 0, .str ByteArray.empty, .int .i64 0])) m) : Sim Try.prog 37 [.int .i64 c] m K := by
  refine entry (cxok []) Try.func37 rfl rfl (by decide) (by decide) ?_
  exact gox_
theorem s_l1got {k n r : Int} {f : Nat} {s : ByteArray} {m : Mem} {K : AR → Mem → Prop} (h : K (.ret (.agg [.int .i64 0, .int .i64 k, .int .i64 n, .flt f, .str s, .int .i64 r])) m) : Sim Try.prog 30 [.agg [.int .i64 k, .int .i64 n, .flt f, .str s, .int .i64 r]] m K := by
  refine entry (cxok []) Try.func30 rfl rfl (by decide) (by decide) ?_
  exact gox_
theorem s_good {k n r : Int} {f : Nat} {s : ByteArray} {m : Mem} {K : AR → Mem → Prop} (h : K (.ret (.agg [.int .i64 0, .int .i64 k, .int .i64 n, .flt f, .str s, .int .i64 r])) m) : Sim Try.prog 39 [.agg [.int .i64 k, .int .i64 n, .flt f, .str s, .int .i64 r]] m K := by
  refine entry (cxok []) Try.func39 rfl rfl (by decide) (by decide) ?_
  exact gox_
theorem s_l1int {n : Int} {m : Mem} {K : AR → Mem → Prop} (h : K (.ret (.agg [.int .i64 2, .int .i64 n, .flt 0, .str ByteArray.empty, .int .i64 0])) m) : Sim Try.prog 31 [.int .i64 n] m K := by
  refine entry (cxok []) Try.func31 rfl rfl (by decide) (by decide) ?_
  exact gox_
theorem s_vInt {n : Int} {m : Mem} {K : AR → Mem → Prop} (h : K (.ret (.agg [.int .i64 2, .int .i64 n, .flt 0, .str ByteArray.empty, .int .i64 0])) m) : Sim Try.prog 40 [.int .i64 n] m K := by
  refine entry (cxok []) Try.func40 rfl rfl (by decide) (by decide) ?_
  exact gox_
theorem s_specKey {k n r : Int} {f : Nat} {s : ByteArray} {m : Mem} {K : AR → Mem → Prop} (h : K (.ret (keyR ⟨k, n, f, s, r⟩)) m) : Sim Try.prog 14 [.agg [.int .i64 k, .int .i64 n, .flt f, .str s, .int .i64 r]] m K := by
  refine entry (cxok []) Try.func14 rfl rfl (by decide) (by decide) ?_
  refine goh_ ?_
  refine s_specValueOk ?_
  cases hv : vok ⟨k, n, f, s, r⟩ with
  | false =>
    rw [keyR_bad hv] at h
    refine goh_ ?_
    refine s_l1fail ?_
    exact gox_
  | true =>
  by_cases h0 : k = 0
  · rw [keyR_none hv (.inl h0)] at h
    subst h0
    refine goh_ ?_
    refine s_l1fail ?_
    exact gox_
  have g0 : (k == 0) = false := by simpa using h0
  by_cases h3 : k = 3
  · subst h3
    clear h0 g0
    have e9 : fne f f = nan f := by rw [fne_iff, feq_self, Bool.not_not]
    refine goh_ ?_
    refine s_l1nan ?_
    cases hn : nan f with
    | true =>
      rw [keyR_none hv (.inr ⟨rfl, hn⟩)] at h
      refine goh_ ?_
      refine s_l1fail ?_
      exact gox_
    | false =>
      refine goh_ ?_
      refine draw_ [(0, .pure), (1, .read), (2, .pure), (3, .pure), (4, .pure), (5, .read), (6, .pure), (7, .read), (8, .step [5]), (9, .pure), (10, .pure), (11, .pure), (12, .pure), (13, .read), (14, .pure), (15, .pure), (16, .pure), (17, .pure), (18, .read), (19, .pure), (20, .pure)] (by kernel_rfl) ?_
      refine goh_ ?_
      refine s_l1floor fun t h1 h2 => ?_
      have hw := key_spec hn h1 h2
      cases w : wholeB f with
      | true =>
        rw [keyR_int hv rfl hn w] at h
        rw [w] at hw
        simp only [Bool.and_eq_true] at hw
        obtain ⟨⟨u1, u2⟩, u3⟩ := hw
        obtain ⟨ok, -⟩ := inr_f2i ((inr_iff f).2 ⟨u2, u3⟩)
        clear h1 h2
        refine goh_ ?_
        refine s_l1int ?_
        refine goh_ ?_
        refine s_l1got ?_
        exact gox_
      | false =>
        rw [keyR_self hv (show (3 : Int) ≠ 0 by decide) fun _ => ⟨hn, w⟩] at h
        replace h : K (.ret (.agg [.int .i64 0, .int .i64 3, .int .i64 n, .flt f, .str s, .int .i64 r])) m := h
        rw [w] at hw
        clear h1 h2
        cases u1 : feq f t <;> cases u2 : fgeq f 14114281232179134464 <;> cases u3 : flss f 4890909195324358656 <;> rw [u1, u2, u3] at hw <;> first | exact absurd hw (by decide) | (clear hw; refine goh_ ?_; refine s_l1got ?_; exact gox_)
  · have g3 : (k == 3) = false := by simpa using h3
    rw [keyR_self hv h0 fun q => absurd q h3] at h
    replace h : K (.ret (.agg [.int .i64 0, .int .i64 k, .int .i64 n, .flt f, .str s, .int .i64 r])) m := h
    clear h0 h3
    refine goh_ ?_
    refine draw_ [(0, .pure), (1, .read), (2, .pure), (3, .pure), (4, .pure), (5, .read), (6, .pure), (7, .read), (8, .step [5]), (9, .pure), (10, .pure), (11, .pure), (12, .pure), (13, .read), (14, .pure), (15, .pure), (16, .pure), (17, .pure), (18, .read), (19, .pure), (20, .pure)] (by kernel_rfl) ?_
    refine goh_ ?_
    refine s_l1got ?_
    exact gox_
theorem s_implKey {k n r : Int} {f : Nat} {s : ByteArray} {m : Mem} {K : AR → Mem → Prop} (h : K (.ret (keyR ⟨k, n, f, s, r⟩)) m) : Sim Try.prog 21 [.agg [.int .i64 k, .int .i64 n, .flt f, .str s, .int .i64 r]] m K := by
  refine entry (cxok []) Try.func21 rfl rfl (by decide) (by decide) ?_
  refine goh_ ?_
  refine s_implValueOk ?_
  cases hv : vok ⟨k, n, f, s, r⟩ with
  | false =>
    rw [keyR_bad hv] at h
    refine goh_ ?_
    refine s_bad ?_
    exact gox_
  | true =>
  by_cases h0 : k = 0
  · rw [keyR_none hv (.inl h0)] at h
    subst h0
    refine goh_ ?_
    refine s_bad ?_
    exact gox_
  have g0 : (k == 0) = false := by simpa using h0
  by_cases h3 : k = 3
  · subst h3
    clear h0 g0
    have e9 : fne f f = nan f := by rw [fne_iff, feq_self, Bool.not_not]
    cases hn : nan f with
    | true =>
      rw [keyR_none hv (.inr ⟨rfl, hn⟩)] at h
      refine goh_ ?_
      refine s_bad ?_
      exact gox_
    | false =>
      refine goh_ ?_
      refine draw_ [(0, .pure), (1, .read), (2, .pure), (3, .pure), (4, .pure), (5, .read), (6, .pure), (7, .pure), (8, .pure), (9, .pure), (10, .read), (11, .pure), (12, .pure), (13, .pure), (14, .pure), (15, .read), (17, .pure), (18, .read), (16, .step [18]), (19, .pure), (20, .pure)] (by kernel_rfl) ?_
      by_cases hi : inr f
      · obtain ⟨u2, u3⟩ := (inr_iff f).1 hi
        have hw := key_impl hn hi
        refine goh_ ?_
        refine s_Trunc hn ?_
        obtain ⟨ok, -⟩ := inr_f2i hi
        clear hi
        cases w : wholeB f with
        | true =>
          rw [keyR_int hv rfl hn w] at h
          refine goh_ ?_
          refine s_vInt ?_
          refine goh_ ?_
          refine s_good ?_
          exact gox_
        | false =>
          rw [keyR_self hv (show (3 : Int) ≠ 0 by decide) fun _ => ⟨hn, w⟩] at h
          replace h : K (.ret (.agg [.int .i64 0, .int .i64 3, .int .i64 n, .flt f, .str s, .int .i64 r])) m := h
          refine goh_ ?_
          refine s_good ?_
          exact gox_
      · have w : wholeB f = false := by
          cases q : wholeB f
          · rfl
          · exact absurd ((wholeB_iff f).1 q).1 hi
        rw [keyR_self hv (show (3 : Int) ≠ 0 by decide) fun _ => ⟨hn, w⟩] at h
        replace h : K (.ret (.agg [.int .i64 0, .int .i64 3, .int .i64 n, .flt f, .str s, .int .i64 r])) m := h
        rw [inr_iff] at hi
        cases u2 : fgeq f 14114281232179134464 <;> cases u3 : flss f 4890909195324358656 <;> rw [u2, u3] at hi <;> first | exact absurd ⟨rfl, rfl⟩ hi | (clear hi; refine goh_ ?_; refine s_good ?_; exact gox_)
  · have g3 : (k == 3) = false := by simpa using h3
    rw [keyR_self hv h0 fun q => absurd q h3] at h
    replace h : K (.ret (.agg [.int .i64 0, .int .i64 k, .int .i64 n, .flt f, .str s, .int .i64 r])) m := h
    clear h0 h3
    refine goh_ ?_
    refine draw_ [(0, .pure), (1, .read), (2, .pure), (3, .pure), (4, .pure), (5, .read), (6, .pure), (7, .pure), (8, .pure), (9, .pure), (10, .read), (11, .pure), (12, .pure), (13, .pure), (14, .pure), (15, .read), (17, .pure), (18, .read), (16, .step [18]), (19, .pure), (20, .pure)] (by kernel_rfl) ?_
    refine goh_ ?_
    refine s_good ?_
    exact gox_
end Go.Proofs.Ytgfkbcmdegnneaa.IM
