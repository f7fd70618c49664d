/- Whether a field fits its role. -/
import Derived.Test.YtdonkjepjobhnaaDoorJG
namespace Go.Proofs.IM
open Go
def fits (n : Nat) (p : Pr) (role x : Int) : Bool :=
  if role = 0 then x == 0
  else if role = 1 ∨ role = 4 ∨ role = 5 ∨ role = 6 ∨ role = 21 then inR x 0 (w64 (p.regs - 1))
  else if role = 2 ∨ role = 3 then inR x (w64 (0 - p.regs)) (w64 (p.regs - 1))
  else if role = 7 then inR x 0 (w64 (p.consts.length - 1))
  else if role = 8 then inR x 0 (w64 (p.ups.length - 1))
  else if role = 9 then inR x 0 (w64 (n - 1))
  else if role = 10 then inR x 0 (w64 (p.ins.length - 1))
  else if role = 11 then inR x 1 100000
  else if role = 12 then inR x 0 100000
  else if role = 13 then inR x 0 p.regs
  else if role = 14 then inR x 0 (w64 (p.regs - 2))
  else if role = 15 then inR x 19 22
  else if role = 16 then inR x 1 18
  else if role = 17 then inR x 0 250
  else if role = 18 then inR x 0 (w64 (p.regs - 3))
  else inR x 0 (w64 (p.regs - 2))
end Go.Proofs.IM
namespace Go.Proofs.YtdonkjepjobhnaaDoor.IM
open Go Go.Proofs.IM Go.Proofs.Flt
set_option linter.unusedSimpArgs false
set_option maxHeartbeats 8000000
set_option maxRecDepth 100000
theorem s_l3fits {s : AV} {ps : List Pr} {i : Nat} {role x : Int} {m : Mem} {K : AR → Mem → Prop} (hp : PsR m s ps) (hi : i < ps.length) (h : K (.ret (.bool (fits ps.length ps[i] role x))) m) :
    Sim Tryd.prog 168 [.agg [s], .int .i64 i, .int .i64 role, .int .i64 x] m K := by
  refine entry (cxok []) Tryd.func168 rfl rfl (by decide) (by decide) ?_
  obtain ⟨a1, a2, a3, a4⟩ := hp.facts
  obtain ⟨a, i0, c, B, s1, s2, s3, s4, rfl, hb, hz, hr, e1, e2, e3, e4⟩ := hp.at_ hi
  obtain ⟨b1, b2, b3, b4⟩ := e1.facts
  obtain ⟨c1, c2, c3, c4⟩ := e2.facts
  obtain ⟨d1, d2, d3, d4⟩ := e3.facts
  obtain ⟨f1, f2, f3, f4⟩ := e4.facts
  have l1 := e1.len'
  have l2 := e2.len'
  have l3 := e3.len'
  rw [List.length_map] at l1 l2 l3
  have hii : ((i : Int) < ps.length) = True := by simp; omega
  clear hp e1 e2 e3 e4
  by_cases g0 : role = 0
  · subst g0; have h : _ := h; simp only [fits, Int.reduceEq, or_false, false_or, or_true, true_or, or_self, ↓reduceIte] at h; exact gox_
  have g0 : (role == 0) = false := by simpa using g0
  by_cases g1 : role = 1
  · subst g1; have h : _ := h; simp only [fits, Int.reduceEq, or_false, false_or, or_true, true_or, or_self, ↓reduceIte] at h; refine goh_ ?_; refine s_l3in ?_; exact gox_
  have g1 : (role == 1) = false := by simpa using g1
  by_cases g2 : role = 2
  · subst g2; have h : _ := h; simp only [fits, Int.reduceEq, or_false, false_or, or_true, true_or, or_self, ↓reduceIte] at h; refine goh_ ?_; refine s_l3in ?_; exact gox_
  have g2 : (role == 2) = false := by simpa using g2
  by_cases g3 : role = 3
  · subst g3; have h : _ := h; simp only [fits, Int.reduceEq, or_false, false_or, or_true, true_or, or_self, ↓reduceIte] at h; refine goh_ ?_; refine s_l3in ?_; exact gox_
  have g3 : (role == 3) = false := by simpa using g3
  by_cases g4 : role = 4
  · subst g4; have h : _ := h; simp only [fits, Int.reduceEq, or_false, false_or, or_true, true_or, or_self, ↓reduceIte] at h; refine goh_ ?_; refine s_l3in ?_; exact gox_
  have g4 : (role == 4) = false := by simpa using g4
  by_cases g5 : role = 5
  · subst g5; have h : _ := h; simp only [fits, Int.reduceEq, or_false, false_or, or_true, true_or, or_self, ↓reduceIte] at h; refine goh_ ?_; refine s_l3in ?_; exact gox_
  have g5 : (role == 5) = false := by simpa using g5
  by_cases g6 : role = 6
  · subst g6; have h : _ := h; simp only [fits, Int.reduceEq, or_false, false_or, or_true, true_or, or_self, ↓reduceIte] at h; refine goh_ ?_; refine s_l3in ?_; exact gox_
  have g6 : (role == 6) = false := by simpa using g6
  by_cases g7 : role = 7
  · subst g7; have h : _ := h; simp only [fits, Int.reduceEq, or_false, false_or, or_true, true_or, or_self, ↓reduceIte] at h; refine goh_ ?_; refine s_l3in ?_; exact gox_
  have g7 : (role == 7) = false := by simpa using g7
  by_cases g8 : role = 8
  · subst g8; have h : _ := h; simp only [fits, Int.reduceEq, or_false, false_or, or_true, true_or, or_self, ↓reduceIte] at h; refine goh_ ?_; refine s_l3in ?_; exact gox_
  have g8 : (role == 8) = false := by simpa using g8
  by_cases g9 : role = 9
  · subst g9; have h : _ := h; simp only [fits, Int.reduceEq, or_false, false_or, or_true, true_or, or_self, ↓reduceIte] at h; refine goh_ ?_; refine s_l3in ?_; exact gox_
  have g9 : (role == 9) = false := by simpa using g9
  by_cases g10 : role = 10
  · subst g10; have h : _ := h; simp only [fits, Int.reduceEq, or_false, false_or, or_true, true_or, or_self, ↓reduceIte] at h; refine goh_ ?_; refine s_l3in ?_; exact gox_
  have g10 : (role == 10) = false := by simpa using g10
  by_cases g11 : role = 11
  · subst g11; have h : _ := h; simp only [fits, Int.reduceEq, or_false, false_or, or_true, true_or, or_self, ↓reduceIte] at h; refine goh_ ?_; refine s_l3in ?_; exact gox_
  have g11 : (role == 11) = false := by simpa using g11
  by_cases g12 : role = 12
  · subst g12; have h : _ := h; simp only [fits, Int.reduceEq, or_false, false_or, or_true, true_or, or_self, ↓reduceIte] at h; refine goh_ ?_; refine s_l3in ?_; exact gox_
  have g12 : (role == 12) = false := by simpa using g12
  by_cases g13 : role = 13
  · subst g13; have h : _ := h; simp only [fits, Int.reduceEq, or_false, false_or, or_true, true_or, or_self, ↓reduceIte] at h; refine goh_ ?_; refine s_l3in ?_; exact gox_
  have g13 : (role == 13) = false := by simpa using g13
  by_cases g14 : role = 14
  · subst g14; have h : _ := h; simp only [fits, Int.reduceEq, or_false, false_or, or_true, true_or, or_self, ↓reduceIte] at h; refine goh_ ?_; refine s_l3in ?_; exact gox_
  have g14 : (role == 14) = false := by simpa using g14
  by_cases g15 : role = 15
  · subst g15; have h : _ := h; simp only [fits, Int.reduceEq, or_false, false_or, or_true, true_or, or_self, ↓reduceIte] at h; refine goh_ ?_; refine s_l3in ?_; exact gox_
  have g15 : (role == 15) = false := by simpa using g15
  by_cases g16 : role = 16
  · subst g16; have h : _ := h; simp only [fits, Int.reduceEq, or_false, false_or, or_true, true_or, or_self, ↓reduceIte] at h; refine goh_ ?_; refine s_l3in ?_; exact gox_
  have g16 : (role == 16) = false := by simpa using g16
  by_cases g17 : role = 17
  · subst g17; have h : _ := h; simp only [fits, Int.reduceEq, or_false, false_or, or_true, true_or, or_self, ↓reduceIte] at h; refine goh_ ?_; refine s_l3in ?_; exact gox_
  have g17 : (role == 17) = false := by simpa using g17
  by_cases g18 : role = 18
  · subst g18; have h : _ := h; simp only [fits, Int.reduceEq, or_false, false_or, or_true, true_or, or_self, ↓reduceIte] at h; refine goh_ ?_; refine s_l3in ?_; exact gox_
  have g18 : (role == 18) = false := by simpa using g18
  by_cases g19 : role = 19
  · subst g19; have h : _ := h; simp only [fits, Int.reduceEq, or_false, false_or, or_true, true_or, or_self, ↓reduceIte] at h; refine goh_ ?_; refine s_l3in ?_; exact gox_
  have g19 : (role == 19) = false := by simpa using g19
  by_cases g20 : role = 20
  · subst g20; have h : _ := h; simp only [fits, Int.reduceEq, or_false, false_or, or_true, true_or, or_self, ↓reduceIte] at h; refine goh_ ?_; refine s_l3in ?_; exact gox_
  have g20 : (role == 20) = false := by simpa using g20
  by_cases g21 : role = 21
  · subst g21; have h : _ := h; simp only [fits, Int.reduceEq, or_false, false_or, or_true, true_or, or_self, ↓reduceIte] at h; refine goh_ ?_; refine s_l3in ?_; exact gox_
  have g21 : (role == 21) = false := by simpa using g21
  have h : K (.ret (.bool (inR x 0 (w64 (ps[i].regs - 2))))) m := by
    have e : fits ps.length ps[i] role x = inR x 0 (w64 (ps[i].regs - 2)) := by
      simp only [beq_eq_false_iff_ne, ne_eq] at *
      simp only [fits, *]
      simp
    rw [e] at h; exact h
  refine goh_ ?_; refine s_l3in ?_; exact gox_
end Go.Proofs.YtdonkjepjobhnaaDoor.IM
