/- Values: when one is valid, the other way. -/
import Derived.Test.YtgfkbcmdegnneaaJA
namespace Go.Proofs.Ytgfkbcmdegnneaa.IM
open Go Go.Proofs.IM Go.Proofs.Flt
set_option maxHeartbeats 8000000 in
theorem s_implValueOk {k n r : Int} {f : Nat} {s : ByteArray} {m : Mem} {K : AR → Mem → Prop} (h : K (.ret (.bool (vok ⟨k, n, f, s, r⟩))) m) :
    Sim Try.prog 20 [.agg [.int .i64 k, .int .i64 n, .flt f, .str s, .int .i64 r]] m K := by
  refine entry (cxok []) Try.func20 rfl rfl (by decide) (by decide) ?_
  refine go_ ?_
  refine draw_ [(0, .pure), (1, .read), (2, .pure), (3, .pure), (4, .read), (5, .pure), (6, .pure), (7, .read), (8, .pure), (9, .pure), (10, .read), (11, .pure), (12, .pure), (13, .pure), (14, .pure), (15, .pure)] (by kernel_rfl) ?_
  simp only [vok, zok] at h
  by_cases h0 : k = 0
  · subst h0; rw [if_pos rfl] at h; refine go_ ?_; grind
  rw [if_neg h0] at h
  by_cases h1 : k = 1
  · subst h1; rw [if_pos rfl] at h; refine go_ ?_; grind
  rw [if_neg h1] at h
  by_cases h2 : k = 2
  · subst h2; rw [if_pos rfl] at h; refine go_ ?_; grind
  rw [if_neg h2] at h
  by_cases h3 : k = 3
  · subst h3; rw [if_pos rfl] at h; refine go_ ?_; grind
  rw [if_neg h3] at h
  by_cases h4 : k = 4
  · subst h4; rw [if_pos rfl] at h; refine go_ ?_; grind
  rw [if_neg h4] at h
  by_cases h5 : k = 5 ∨ k = 6 ∨ k = 7
  · rw [if_pos h5] at h
    rcases h5 with h5 | h5 | h5 <;> subst h5 <;> refine go_ ?_ <;> grind
  rw [if_neg h5] at h
  simp only [not_or] at h5
  by_cases h8 : k = 8
  · subst h8; rw [if_pos rfl] at h; refine go_ ?_; grind
  rw [if_neg h8] at h
  obtain ⟨h5, h6, h7⟩ := h5
  have g0 : (k == 0) = false := by simpa using h0
  have g1 : (k == 1) = false := by simpa using h1
  have g2 : (k == 2) = false := by simpa using h2
  have g3 : (k == 3) = false := by simpa using h3
  have g4 : (k == 4) = false := by simpa using h4
  have g5 : (k == 5) = false := by simpa using h5
  have g6 : (k == 6) = false := by simpa using h6
  have g7 : (k == 7) = false := by simpa using h7
  have g8 : (k == 8) = false := by simpa using h8
  exact gox_
end Go.Proofs.Ytgfkbcmdegnneaa.IM
