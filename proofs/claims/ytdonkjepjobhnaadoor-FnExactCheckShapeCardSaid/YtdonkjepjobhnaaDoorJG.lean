/- What the fields of an instruction are. -/
import Derived.Test.YtdonkjepjobhnaaDoorJF
namespace Go.Proofs.IM
open Go
def roleTab : List (Int × List Int) := [(1, [11, 0, 0, 0]), (2, [12, 0, 0, 0]), (3, [0, 0, 0, 0]), (4, [1, 7, 0, 0]), (5, [1, 2, 0, 0]), (6, [1, 2, 0, 0]), (7, [1, 5, 0, 0]), (8, [5, 2, 0, 0]), (9, [1, 8, 0, 0]), (10, [8, 2, 0, 0]), (11, [1, 9, 0, 0]), (12, [1, 0, 0, 0]), (13, [4, 2, 2, 0]), (14, [4, 2, 3, 0]), (15, [1, 2, 2, 0]), (16, [2, 2, 2, 0]), (17, [1, 15, 2, 0]), (18, [1, 16, 2, 2]), (19, [10, 0, 0, 0]), (20, [2, 10, 0, 0]), (21, [2, 10, 0, 0]), (22, [1, 0, 0, 0]), (23, [6, 2, 0, 0]), (24, [6, 3, 0, 0]), (25, [1, 3, 0, 0]), (26, [1, 6, 17, 0]), (27, [1, 6, 0, 0]), (28, [1, 2, 3, 0]), (29, [3, 0, 0, 0]), (30, [2, 0, 0, 0]), (31, [10, 14, 0, 0]), (32, [0, 0, 0, 0]), (33, [13, 0, 0, 0]), (34, [13, 0, 0, 0]), (35, [2, 3, 0, 0]), (36, [0, 0, 0, 0]), (37, [18, 0, 0, 0]), (38, [18, 10, 0, 0]), (39, [18, 10, 0, 0]), (40, [19, 0, 0, 0]), (41, [20, 10, 1, 0]), (42, [21, 0, 0, 0])]
def rolesL (op : Int) : List Int := (roleTab.lookup op).getD []
end Go.Proofs.IM
namespace Go.Proofs.YtdonkjepjobhnaaDoor.IM
open Go Go.Proofs.IM Go.Proofs.Flt
set_option maxHeartbeats 8000000
set_option maxRecDepth 100000
theorem s_l3roles {op : Int} {m : Mem} {K : AR → Mem → Prop} (h0 : rolesL op = [] → K (.ret .nils) m)
    (h1 : ∀ a b c d, rolesL op = [a, b, c, d] → K (.ret (.sl (.hp m.hp.length) 0 4 4)) (m.push ⟨[[.int .i64 a], [.int .i64 b], [.int .i64 c], [.int .i64 d]], 1⟩)) :
    Sim Tryd.prog 167 [.int .i64 op] m K := by
  refine entry (cxok []) Tryd.func167 rfl rfl (by decide) (by decide) ?_
  by_cases g1 : op = 1
  · subst g1; refine go_ ?_; exact h1 _ _ _ _ (by rfl)
  have g1 : (op == 1) = false := by simpa using g1
  by_cases g2 : op = 2
  · subst g2; refine go_ ?_; exact h1 _ _ _ _ (by rfl)
  have g2 : (op == 2) = false := by simpa using g2
  by_cases g3 : op = 3
  · subst g3; refine go_ ?_; exact h1 _ _ _ _ (by rfl)
  have g3 : (op == 3) = false := by simpa using g3
  by_cases g4 : op = 4
  · subst g4; refine go_ ?_; exact h1 _ _ _ _ (by rfl)
  have g4 : (op == 4) = false := by simpa using g4
  by_cases g5 : op = 5
  · subst g5; refine go_ ?_; exact h1 _ _ _ _ (by rfl)
  have g5 : (op == 5) = false := by simpa using g5
  by_cases g6 : op = 6
  · subst g6; refine go_ ?_; exact h1 _ _ _ _ (by rfl)
  have g6 : (op == 6) = false := by simpa using g6
  by_cases g7 : op = 7
  · subst g7; refine go_ ?_; exact h1 _ _ _ _ (by rfl)
  have g7 : (op == 7) = false := by simpa using g7
  by_cases g8 : op = 8
  · subst g8; refine go_ ?_; exact h1 _ _ _ _ (by rfl)
  have g8 : (op == 8) = false := by simpa using g8
  by_cases g9 : op = 9
  · subst g9; refine go_ ?_; exact h1 _ _ _ _ (by rfl)
  have g9 : (op == 9) = false := by simpa using g9
  by_cases g10 : op = 10
  · subst g10; refine go_ ?_; exact h1 _ _ _ _ (by rfl)
  have g10 : (op == 10) = false := by simpa using g10
  by_cases g11 : op = 11
  · subst g11; refine go_ ?_; exact h1 _ _ _ _ (by rfl)
  have g11 : (op == 11) = false := by simpa using g11
  by_cases g12 : op = 12
  · subst g12; refine go_ ?_; exact h1 _ _ _ _ (by rfl)
  have g12 : (op == 12) = false := by simpa using g12
  by_cases g13 : op = 13
  · subst g13; refine go_ ?_; exact h1 _ _ _ _ (by rfl)
  have g13 : (op == 13) = false := by simpa using g13
  by_cases g14 : op = 14
  · subst g14; refine go_ ?_; exact h1 _ _ _ _ (by rfl)
  have g14 : (op == 14) = false := by simpa using g14
  by_cases g15 : op = 15
  · subst g15; refine go_ ?_; exact h1 _ _ _ _ (by rfl)
  have g15 : (op == 15) = false := by simpa using g15
  by_cases g16 : op = 16
  · subst g16; refine go_ ?_; exact h1 _ _ _ _ (by rfl)
  have g16 : (op == 16) = false := by simpa using g16
  by_cases g17 : op = 17
  · subst g17; refine go_ ?_; exact h1 _ _ _ _ (by rfl)
  have g17 : (op == 17) = false := by simpa using g17
  by_cases g18 : op = 18
  · subst g18; refine go_ ?_; exact h1 _ _ _ _ (by rfl)
  have g18 : (op == 18) = false := by simpa using g18
  by_cases g19 : op = 19
  · subst g19; refine go_ ?_; exact h1 _ _ _ _ (by rfl)
  have g19 : (op == 19) = false := by simpa using g19
  by_cases g20 : op = 20
  · subst g20; refine go_ ?_; exact h1 _ _ _ _ (by rfl)
  have g20 : (op == 20) = false := by simpa using g20
  by_cases g21 : op = 21
  · subst g21; refine go_ ?_; exact h1 _ _ _ _ (by rfl)
  have g21 : (op == 21) = false := by simpa using g21
  by_cases g22 : op = 22
  · subst g22; refine go_ ?_; exact h1 _ _ _ _ (by rfl)
  have g22 : (op == 22) = false := by simpa using g22
  by_cases g23 : op = 23
  · subst g23; refine go_ ?_; exact h1 _ _ _ _ (by rfl)
  have g23 : (op == 23) = false := by simpa using g23
  by_cases g24 : op = 24
  · subst g24; refine go_ ?_; exact h1 _ _ _ _ (by rfl)
  have g24 : (op == 24) = false := by simpa using g24
  by_cases g25 : op = 25
  · subst g25; refine go_ ?_; exact h1 _ _ _ _ (by rfl)
  have g25 : (op == 25) = false := by simpa using g25
  by_cases g26 : op = 26
  · subst g26; refine go_ ?_; exact h1 _ _ _ _ (by rfl)
  have g26 : (op == 26) = false := by simpa using g26
  by_cases g27 : op = 27
  · subst g27; refine go_ ?_; exact h1 _ _ _ _ (by rfl)
  have g27 : (op == 27) = false := by simpa using g27
  by_cases g28 : op = 28
  · subst g28; refine go_ ?_; exact h1 _ _ _ _ (by rfl)
  have g28 : (op == 28) = false := by simpa using g28
  by_cases g29 : op = 29
  · subst g29; refine go_ ?_; exact h1 _ _ _ _ (by rfl)
  have g29 : (op == 29) = false := by simpa using g29
  by_cases g30 : op = 30
  · subst g30; refine go_ ?_; exact h1 _ _ _ _ (by rfl)
  have g30 : (op == 30) = false := by simpa using g30
  by_cases g31 : op = 31
  · subst g31; refine go_ ?_; exact h1 _ _ _ _ (by rfl)
  have g31 : (op == 31) = false := by simpa using g31
  by_cases g32 : op = 32
  · subst g32; refine go_ ?_; exact h1 _ _ _ _ (by rfl)
  have g32 : (op == 32) = false := by simpa using g32
  by_cases g33 : op = 33
  · subst g33; refine go_ ?_; exact h1 _ _ _ _ (by rfl)
  have g33 : (op == 33) = false := by simpa using g33
  by_cases g34 : op = 34
  · subst g34; refine go_ ?_; exact h1 _ _ _ _ (by rfl)
  have g34 : (op == 34) = false := by simpa using g34
  by_cases g35 : op = 35
  · subst g35; refine go_ ?_; exact h1 _ _ _ _ (by rfl)
  have g35 : (op == 35) = false := by simpa using g35
  by_cases g36 : op = 36
  · subst g36; refine go_ ?_; exact h1 _ _ _ _ (by rfl)
  have g36 : (op == 36) = false := by simpa using g36
  by_cases g37 : op = 37
  · subst g37; refine go_ ?_; exact h1 _ _ _ _ (by rfl)
  have g37 : (op == 37) = false := by simpa using g37
  by_cases g38 : op = 38
  · subst g38; refine go_ ?_; exact h1 _ _ _ _ (by rfl)
  have g38 : (op == 38) = false := by simpa using g38
  by_cases g39 : op = 39
  · subst g39; refine go_ ?_; exact h1 _ _ _ _ (by rfl)
  have g39 : (op == 39) = false := by simpa using g39
  by_cases g40 : op = 40
  · subst g40; refine go_ ?_; exact h1 _ _ _ _ (by rfl)
  have g40 : (op == 40) = false := by simpa using g40
  by_cases g41 : op = 41
  · subst g41; refine go_ ?_; exact h1 _ _ _ _ (by rfl)
  have g41 : (op == 41) = false := by simpa using g41
  by_cases g42 : op = 42
  · subst g42; refine go_ ?_; exact h1 _ _ _ _ (by rfl)
  have g42 : (op == 42) = false := by simpa using g42
  have h0 := h0 (by simp only [rolesL, roleTab, List.lookup, *]; rfl)
  clear h1
  exact gox_
end Go.Proofs.YtdonkjepjobhnaaDoor.IM
