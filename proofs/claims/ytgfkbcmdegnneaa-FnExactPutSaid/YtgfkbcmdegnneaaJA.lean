/- Values: when one is valid. -/
import Derived.Test.YtgfkbcmdegnneaaPA
namespace Go.Proofs.IM
open Go
def zok (v : V) (num flt str ref : Bool) : Bool := (num || v.n == 0) && (flt || feq v.f 0) && (str || v.s.toList == []) && (ref || v.r == 0)
/-- A value is valid. -/
def vok (v : V) : Bool :=
  if v.k = 0 then zok v false false false false
  else if v.k = 1 then zok v true false false false && (v.n == 0 || v.n == 1)
  else if v.k = 2 then zok v true false false false
  else if v.k = 3 then zok v false true false false
  else if v.k = 4 then zok v false false true false && decide ((v.s.size : Int) ≤ 4000)
  else if v.k = 5 ∨ v.k = 6 ∨ v.k = 7 then zok v false false false true && decide (0 ≤ v.r)
  else if v.k = 8 then zok v true false false false && decide (0 ≤ v.n) && decide (v.n < 15)
  else false
end Go.Proofs.IM
namespace Go.Proofs.Ytgfkbcmdegnneaa.IM
open Go Go.Proofs.IM Go.Proofs.Flt
set_option maxHeartbeats 8000000 in
theorem s_l1zero {k n r : Int} {f : Nat} {s : ByteArray} {b1 b2 b3 b4 : Bool} {m : Mem} {K : AR → Mem → Prop} (h : K (.ret (.bool (zok ⟨k, n, f, s, r⟩ b1 b2 b3 b4))) m) :
    Sim Try.prog 34 [.agg [.int .i64 k, .int .i64 n, .flt f, .str s, .int .i64 r], .bool b1, .bool b2, .bool b3, .bool b4] m K := by
  refine entry (cxok []) Try.func34 rfl rfl (by decide) (by decide) ?_
  simp only [zok] at h
  cases b1 <;> cases b2 <;> cases b3 <;> cases b4 <;> (refine go_ ?_; grind)
set_option maxHeartbeats 8000000 in
theorem s_specValueOk {k n r : Int} {f : Nat} {s : ByteArray} {m : Mem} {K : AR → Mem → Prop} (h : K (.ret (.bool (vok ⟨k, n, f, s, r⟩))) m) :
    Sim Try.prog 16 [.agg [.int .i64 k, .int .i64 n, .flt f, .str s, .int .i64 r]] m K := by
  refine entry (cxok []) Try.func16 rfl rfl (by decide) (by decide) ?_
  simp only [vok] at h
  by_cases h0 : k = 0
  · subst h0; rw [if_pos rfl] at h; refine go_ ?_; refine s_l1zero ?_; exact gox_
  rw [if_neg h0] at h
  by_cases h1 : k = 1
  · subst h1; rw [if_pos rfl] at h; refine go_ ?_; refine s_l1zero ?_; refine go_ ?_; revert h; generalize zok _ _ _ _ _ = z; intro h; cases z <;> grind
  rw [if_neg h1] at h
  by_cases h2 : k = 2
  · subst h2; rw [if_pos rfl] at h; refine go_ ?_; refine s_l1zero ?_; exact gox_
  rw [if_neg h2] at h
  by_cases h3 : k = 3
  · subst h3; rw [if_pos rfl] at h; refine go_ ?_; refine s_l1zero ?_; exact gox_
  rw [if_neg h3] at h
  by_cases h4 : k = 4
  · subst h4; rw [if_pos rfl] at h; refine go_ ?_; refine s_l1zero ?_; refine go_ ?_; revert h; generalize zok _ _ _ _ _ = z; intro h; cases z <;> grind
  rw [if_neg h4] at h
  by_cases h5 : k = 5 ∨ k = 6 ∨ k = 7
  · rw [if_pos h5] at h
    rcases h5 with h5 | h5 | h5 <;> subst h5 <;> refine go_ ?_ <;> refine s_l1zero ?_ <;> refine go_ ?_ <;> revert h <;> generalize zok _ _ _ _ _ = z <;> intro h <;> cases z <;> grind
  rw [if_neg h5] at h
  simp only [not_or] at h5
  by_cases h8 : k = 8
  · subst h8; rw [if_pos rfl] at h; refine go_ ?_; refine s_l1zero ?_; refine go_ ?_; revert h; generalize zok _ _ _ _ _ = z; intro h; cases z <;> grind
  rw [if_neg h8] at h
  obtain ⟨h5, h6, h7⟩ := h5
  have g0 : (k == 0) = false := by simpa using h0
  have g1 : (k == 1) = false := by simpa using h1
  have g2 : (k == 2) = false := by simpa using h2
  have g3 : (k == 3) = false := by simpa using h3
  have g4 : (k == 4) = false := by simpa using h4
  have g5 : (k == 5) = false := by simpa using h5
  have g6 : (k == 6) = false := by simpa using h6
  have g7 : (k == 7) = false := by simpa using h7
  have g8 : (k == 8) = false := by simpa using h8
  exact gox_
end Go.Proofs.Ytgfkbcmdegnneaa.IM
