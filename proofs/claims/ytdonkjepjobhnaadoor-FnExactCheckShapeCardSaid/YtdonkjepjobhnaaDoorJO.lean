/- Whether a field fits its role, the other way. -/
import Derived.Test.YtdonkjepjobhnaaDoorJN
namespace Go.Proofs.IM
open Go
def fitsI (n : Nat) (p : Pr) (role x : Int) : Bool :=
  if role = 0 then x == 0
  else if role = 1 then inR x 1 100000
  else if role = 2 then inR x 0 100000
  else if role = 3 ∨ role = 4 ∨ role = 5 ∨ role = 6 ∨ role = 7 then inR x 0 (w64 (p.regs - 1))
  else if role = 8 ∨ role = 9 then inR x (w64 (0 - p.regs)) (w64 (p.regs - 1))
  else if role = 10 then inR x 0 (w64 (p.consts.length - 1))
  else if role = 11 then inR x 0 (w64 (p.ups.length - 1))
  else if role = 12 then inR x 0 (w64 (n - 1))
  else if role = 13 then inR x 0 (w64 (p.ins.length - 1))
  else if role = 14 then inR x 1 18
  else if role = 15 then inR x 19 22
  else if role = 16 then inR x 0 250
  else if role = 17 then inR x 0 p.regs
  else if role = 18 then inR x 0 (w64 (p.regs - 2))
  else if role = 19 then inR x 0 (w64 (w64 (p.regs - 1) - 2))
  else inR x 0 (w64 (w64 (p.regs - 1) - 1))
def rmap : List Int := [0, 3, 8, 9, 4, 5, 6, 10, 11, 12, 13, 1, 2, 17, 18, 15, 14, 16, 19, 20, 21, 7]
theorem fit_eq {n : Nat} {p : Pr} {x : Int} (h0 : 0 ≤ p.regs) (h1 : p.regs ≤ 250) : ∀ r : Nat, r < 22 → fits n p r x = fitsI n p (rmap.getD r 0) x := by
  have e3 : w64 (w64 (p.regs - 1) - 2) = w64 (p.regs - 3) := by rw [w64_id (x := p.regs - 1) (by omega)]; congr 1; omega
  have e2 : w64 (w64 (p.regs - 1) - 1) = w64 (p.regs - 2) := by rw [w64_id (x := p.regs - 1) (by omega)]; congr 1; omega
  intro r hr
  have : r = 0 ∨ r = 1 ∨ r = 2 ∨ r = 3 ∨ r = 4 ∨ r = 5 ∨ r = 6 ∨ r = 7 ∨ r = 8 ∨ r = 9 ∨ r = 10 ∨ r = 11 ∨ r = 12 ∨ r = 13 ∨ r = 14 ∨ r = 15 ∨ r = 16 ∨ r = 17 ∨ r = 18 ∨ r = 19 ∨ r = 20 ∨ r = 21 := by omega
  rcases this with rfl | rfl | rfl | rfl | rfl | rfl | rfl | rfl | rfl | rfl | rfl | rfl | rfl | rfl | rfl | rfl | rfl | rfl | rfl | rfl | rfl | rfl <;> simp [fits, fitsI, rmap, e2, e3]
def formsTab : List (List Int) := [[0, 0, 0, 0], [1, 0, 0, 0], [2, 0, 0, 0], [0, 0, 0, 0], [3, 10, 0, 0], [3, 8, 0, 0], [3, 8, 0, 0], [3, 5, 0, 0], [5, 8, 0, 0], [3, 11, 0, 0], [11, 8, 0, 0], [3, 12, 0, 0], [3, 0, 0, 0], [4, 8, 8, 0], [4, 8, 9, 0], [3, 8, 8, 0], [8, 8, 8, 0], [3, 15, 8, 0], [3, 14, 8, 8], [13, 0, 0, 0], [8, 13, 0, 0], [8, 13, 0, 0], [3, 0, 0, 0], [6, 8, 0, 0], [6, 9, 0, 0], [3, 9, 0, 0], [3, 6, 16, 0], [3, 6, 0, 0], [3, 8, 9, 0], [9, 0, 0, 0], [8, 0, 0, 0], [13, 18, 0, 0], [0, 0, 0, 0], [17, 0, 0, 0], [17, 0, 0, 0], [8, 9, 0, 0], [0, 0, 0, 0], [19, 0, 0, 0], [19, 13, 0, 0], [19, 13, 0, 0], [20, 0, 0, 0], [21, 13, 3, 0], [7, 0, 0, 0]]
def insI (n : Nat) (p : Pr) (x : I) : Bool := match formsTab[x.op.toNat]? with
  | some [r0, r1, r2, r3] => decide (1 ≤ x.op) && fitsI n p r0 x.a && fitsI n p r1 x.b && fitsI n p r2 x.c && fitsI n p r3 x.d
  | _ => false
end Go.Proofs.IM
namespace Go.Proofs.YtdonkjepjobhnaaDoor.IM
open Go Go.Proofs.IM Go.Proofs.Flt
set_option linter.unusedSimpArgs false
set_option maxHeartbeats 8000000
set_option maxRecDepth 100000
theorem s_fieldOk {s : AV} {ps : List Pr} {p : Pr} {s1 s2 s3 s4 : AV} {role x : Int} {m : Mem} {K : AR → Mem → Prop} (hp : PsR m s ps) (e1 : SlR m 2 s1 (p.ups.map U.av)) (e2 : SlR m 5 s2 (p.consts.map V.av)) (e3 : SlR m 5 s3 (p.ins.map I.av)) (e4 : SlR m 4 s4 (p.named.map Nm.av)) (h : K (.ret (.bool (fitsI ps.length p role x))) m) :
    Sim Tryd.prog 129 [.agg [s], .agg [.str p.s, .int .i64 p.line, .int .i64 p.params, .bool p.rest, .int .i64 p.regs, s1, s2, s3, s4], .int .i64 role, .int .i64 x] m K := by
  refine entry (cxok []) Tryd.func129 rfl rfl (by decide) (by decide) ?_
  obtain ⟨a1, a2, a3, a4⟩ := hp.facts
  obtain ⟨b1, b2, b3, b4⟩ := e1.facts
  obtain ⟨c1, c2, c3, c4⟩ := e2.facts
  obtain ⟨d1, d2, d3, d4⟩ := e3.facts
  obtain ⟨f1, f2, f3, f4⟩ := e4.facts
  have l0 := hp.len'
  have l1 := e1.len'
  have l2 := e2.len'
  have l3 := e3.len'
  rw [List.length_map] at l1 l2 l3
  clear hp e1 e2 e3 e4
  by_cases g0 : role = 0
  · subst g0; have h : _ := h; simp only [fitsI, Int.reduceEq, or_false, false_or, or_true, true_or, or_self, ↓reduceIte] at h; exact gox_
  have g0 : (role == 0) = false := by simpa using g0
  by_cases g1 : role = 1
  · subst g1; have h : _ := h; simp only [fitsI, Int.reduceEq, or_false, false_or, or_true, true_or, or_self, ↓reduceIte] at h; refine goh_ ?_; refine s_within ?_; exact gox_
  have g1 : (role == 1) = false := by simpa using g1
  by_cases g2 : role = 2
  · subst g2; have h : _ := h; simp only [fitsI, Int.reduceEq, or_false, false_or, or_true, true_or, or_self, ↓reduceIte] at h; refine goh_ ?_; refine s_within ?_; exact gox_
  have g2 : (role == 2) = false := by simpa using g2
  by_cases g3 : role = 3
  · subst g3; have h : _ := h; simp only [fitsI, Int.reduceEq, or_false, false_or, or_true, true_or, or_self, ↓reduceIte] at h; refine goh_ ?_; refine s_within ?_; exact gox_
  have g3 : (role == 3) = false := by simpa using g3
  by_cases g4 : role = 4
  · subst g4; have h : _ := h; simp only [fitsI, Int.reduceEq, or_false, false_or, or_true, true_or, or_self, ↓reduceIte] at h; refine goh_ ?_; refine s_within ?_; exact gox_
  have g4 : (role == 4) = false := by simpa using g4
  by_cases g5 : role = 5
  · subst g5; have h : _ := h; simp only [fitsI, Int.reduceEq, or_false, false_or, or_true, true_or, or_self, ↓reduceIte] at h; refine goh_ ?_; refine s_within ?_; exact gox_
  have g5 : (role == 5) = false := by simpa using g5
  by_cases g6 : role = 6
  · subst g6; have h : _ := h; simp only [fitsI, Int.reduceEq, or_false, false_or, or_true, true_or, or_self, ↓reduceIte] at h; refine goh_ ?_; refine s_within ?_; exact gox_
  have g6 : (role == 6) = false := by simpa using g6
  by_cases g7 : role = 7
  · subst g7; have h : _ := h; simp only [fitsI, Int.reduceEq, or_false, false_or, or_true, true_or, or_self, ↓reduceIte] at h; refine goh_ ?_; refine s_within ?_; exact gox_
  have g7 : (role == 7) = false := by simpa using g7
  by_cases g8 : role = 8
  · subst g8; have h : _ := h; simp only [fitsI, Int.reduceEq, or_false, false_or, or_true, true_or, or_self, ↓reduceIte] at h; refine goh_ ?_; refine s_within ?_; exact gox_
  have g8 : (role == 8) = false := by simpa using g8
  by_cases g9 : role = 9
  · subst g9; have h : _ := h; simp only [fitsI, Int.reduceEq, or_false, false_or, or_true, true_or, or_self, ↓reduceIte] at h; refine goh_ ?_; refine s_within ?_; exact gox_
  have g9 : (role == 9) = false := by simpa using g9
  by_cases g10 : role = 10
  · subst g10; have h : _ := h; simp only [fitsI, Int.reduceEq, or_false, false_or, or_true, true_or, or_self, ↓reduceIte] at h; refine goh_ ?_; refine s_within ?_; exact gox_
  have g10 : (role == 10) = false := by simpa using g10
  by_cases g11 : role = 11
  · subst g11; have h : _ := h; simp only [fitsI, Int.reduceEq, or_false, false_or, or_true, true_or, or_self, ↓reduceIte] at h; refine goh_ ?_; refine s_within ?_; exact gox_
  have g11 : (role == 11) = false := by simpa using g11
  by_cases g12 : role = 12
  · subst g12; have h : _ := h; simp only [fitsI, Int.reduceEq, or_false, false_or, or_true, true_or, or_self, ↓reduceIte] at h; refine goh_ ?_; refine s_within ?_; exact gox_
  have g12 : (role == 12) = false := by simpa using g12
  by_cases g13 : role = 13
  · subst g13; have h : _ := h; simp only [fitsI, Int.reduceEq, or_false, false_or, or_true, true_or, or_self, ↓reduceIte] at h; refine goh_ ?_; refine s_within ?_; exact gox_
  have g13 : (role == 13) = false := by simpa using g13
  by_cases g14 : role = 14
  · subst g14; have h : _ := h; simp only [fitsI, Int.reduceEq, or_false, false_or, or_true, true_or, or_self, ↓reduceIte] at h; refine goh_ ?_; refine s_within ?_; exact gox_
  have g14 : (role == 14) = false := by simpa using g14
  by_cases g15 : role = 15
  · subst g15; have h : _ := h; simp only [fitsI, Int.reduceEq, or_false, false_or, or_true, true_or, or_self, ↓reduceIte] at h; refine goh_ ?_; refine s_within ?_; exact gox_
  have g15 : (role == 15) = false := by simpa using g15
  by_cases g16 : role = 16
  · subst g16; have h : _ := h; simp only [fitsI, Int.reduceEq, or_false, false_or, or_true, true_or, or_self, ↓reduceIte] at h; refine goh_ ?_; refine s_within ?_; exact gox_
  have g16 : (role == 16) = false := by simpa using g16
  by_cases g17 : role = 17
  · subst g17; have h : _ := h; simp only [fitsI, Int.reduceEq, or_false, false_or, or_true, true_or, or_self, ↓reduceIte] at h; refine goh_ ?_; refine s_within ?_; exact gox_
  have g17 : (role == 17) = false := by simpa using g17
  by_cases g18 : role = 18
  · subst g18; have h : _ := h; simp only [fitsI, Int.reduceEq, or_false, false_or, or_true, true_or, or_self, ↓reduceIte] at h; refine goh_ ?_; refine s_within ?_; exact gox_
  have g18 : (role == 18) = false := by simpa using g18
  by_cases g19 : role = 19
  · subst g19; have h : _ := h; simp only [fitsI, Int.reduceEq, or_false, false_or, or_true, true_or, or_self, ↓reduceIte] at h; refine goh_ ?_; refine s_within ?_; exact gox_
  have g19 : (role == 19) = false := by simpa using g19
  have h : K (.ret (.bool (inR x 0 (w64 (w64 (p.regs - 1) - 1))))) m := by
    have e : fitsI ps.length p role x = inR x 0 (w64 (w64 (p.regs - 1) - 1)) := by
      simp only [beq_eq_false_iff_ne, ne_eq] at *
      simp only [fitsI, *]
      simp
    rw [e] at h; exact h
  refine goh_ ?_; refine s_within ?_; exact gox_
end Go.Proofs.YtdonkjepjobhnaaDoor.IM
