/- Cut down from the texts of the same job by wip/shake.py to what this claim reaches. -/
import Derived.Test.YtdjlbfaiccdbfaaKLGx4
import Derived.Test.YtdjlbfaiccdbfaaKLGW0
namespace Go.Proofs.Ytdjlbfaiccdbfaa.PAll
open Go.RowKit Go.Proofs.YtdjlbfaiccdbfaaW.PrintWords Go.Proofs.YtdjlbfaiccdbfaaW.PrintLast Go.Proofs.YtdjlbfaiccdbfaaW.PrintMore
set_option linter.unusedVariables false
set_option linter.unusedSimpArgs false
def vok (k n : Int) (f : Nat) (s : ByteArray) (r : Int) : Bool :=
  if k = 0 then n == 0 && (feq f 0 && (s.toList == [] && r == 0))
  else if k = 1 then (n == 0 || n == 1) && (feq f 0 && (s.toList == [] && r == 0))
  else if k = 2 then feq f 0 && (s.toList == [] && r == 0)
  else if k = 3 then n == 0 && (s.toList == [] && r == 0)
  else if k = 4 then n == 0 && (feq f 0 && (r == 0 && decide ((s.size : Int) ≤ 4000)))
  else if k = 5 ∨ k = 6 ∨ k = 7 then n == 0 && (feq f 0 && (s.toList == [] && decide (r ≥ 0)))
  else if k = 8 then feq f 0 && (s.toList == [] && (r == 0 && (decide (n ≥ 0) && decide (n < 15))))
  else false
theorem spec_valueOk (k : Nat) (a : Int) (n : Int) (f : Nat) (s : ByteArray) (r : Int) : spec_ValueOk.f (k + 1) a n f s r = some (vok a n f s r) := by
  unfold spec_ValueOk.f vok
  simp only [spec_ValueOk.j0, spec_l1zero.f]
  generalize feq f 0 = F
  generalize hS : decide (s.toList = ([] : List UInt8)) = S
  have hS' : (s.toList == ([] : List UInt8)) = S := by rw [← hS]; by_cases h : s.toList = [] <;> simp [h]
  have hS2 : (s.toList = ([] : List UInt8)) ↔ S = true := by rw [← hS]; simp
  simp only [hS', hS2]
  by_cases h0 : a = 0
  · subst h0; cases F <;> cases S <;> by_cases hn : n = 0 <;> simp [hn]
  by_cases h1 : a = 1
  · subst h1; cases F <;> cases S <;> by_cases hr : r = 0 <;> by_cases hn : n = 0 <;> simp [hn, hr]
  by_cases h2 : a = 2
  · subst h2; cases F <;> cases S <;> simp
  by_cases h3 : a = 3
  · subst h3; cases F <;> cases S <;> by_cases hn : n = 0 <;> simp [hn]
  by_cases h4 : a = 4
  · subst h4; cases F <;> by_cases hr : r = 0 <;> by_cases hn : n = 0 <;> simp [hn, hr]
  by_cases h5 : a = 5
  · subst h5; cases F <;> cases S <;> by_cases hn : n = 0 <;> simp [hn]
  by_cases h6 : a = 6
  · subst h6; cases F <;> cases S <;> by_cases hn : n = 0 <;> simp [hn]
  by_cases h7 : a = 7
  · subst h7; cases F <;> cases S <;> by_cases hn : n = 0 <;> simp [hn]
  by_cases h8 : a = 8
  · subst h8; cases F <;> cases S <;> by_cases hr : r = 0 <;> by_cases hn : 0 ≤ n <;> simp [hn, hr]
  simp [h0, h1, h2, h3, h4, h5, h6, h7, h8]
theorem impl_valueOk (k : Nat) (a : Int) (n : Int) (f : Nat) (s : ByteArray) (r : Int) : impl_ValueOk.f (k + 1) a n f s r = some (vok a n f s r) := by
  unfold impl_ValueOk.f vok
  simp only [impl_ValueOk.j0]
  generalize feq f 0 = F
  generalize hS : decide (s.toList = ([] : List UInt8)) = S
  have hS' : (s.toList == ([] : List UInt8)) = S := by rw [← hS]; by_cases h : s.toList = [] <;> simp [h]
  have hS2 : (s.toList = ([] : List UInt8)) ↔ S = true := by rw [← hS]; simp
  simp only [hS', hS2]
  by_cases h0 : a = 0
  · subst h0; cases F <;> cases S <;> by_cases hn : n = 0 <;> simp [hn]
  by_cases h1 : a = 1
  · subst h1; cases F <;> cases S <;> by_cases hr : r = 0 <;> by_cases hn : n = 0 <;> by_cases hm : n = 1 <;> simp [hn, hr, hm]
  by_cases h2 : a = 2
  · subst h2; cases F <;> cases S <;> simp
  by_cases h3 : a = 3
  · subst h3; cases F <;> cases S <;> by_cases hn : n = 0 <;> simp [hn]
  by_cases h4 : a = 4
  · subst h4; cases F <;> by_cases hr : r = 0 <;> by_cases hn : n = 0 <;> simp [hn, hr]
  by_cases h5 : a = 5
  · subst h5; cases F <;> cases S <;> by_cases hn : n = 0 <;> simp [hn]
  by_cases h6 : a = 6
  · subst h6; cases F <;> cases S <;> by_cases hn : n = 0 <;> simp [hn]
  by_cases h7 : a = 7
  · subst h7; cases F <;> cases S <;> by_cases hn : n = 0 <;> simp [hn]
  by_cases h8 : a = 8
  · subst h8; cases F <;> cases S <;> by_cases hr : r = 0 <;> by_cases hn : 0 ≤ n <;> simp [hn, hr]
  simp [h0, h1, h2, h3, h4, h5, h6, h7, h8]
theorem sz_value (a n : Int) (f : Nat) (s : ByteArray) (r : Int) (left : Int) (h0 : 0 ≤ left) (h1 : left ≤ 1048576) (hs : s.size ≤ 9223372036854775807) :
    ∃ t, laws_szValue.f a n f s r left = some t ∧ (t < 0 ∨ (0 ≤ t ∧ t = left - s.size ∧ (s.size : Int) ≤ left)) := by
  have e : wrap64 (left - (s.size : Int)) = left - s.size := by unfold wrap64; omega
  unfold laws_szValue.f
  rw [e]
  by_cases h : left - (s.size : Int) < 0
  · exact ⟨-1, by rw [if_pos h], .inl (by decide)⟩
  · exact ⟨_, by rw [if_neg h], .inr ⟨by omega, rfl, by omega⟩⟩
end Go.Proofs.Ytdjlbfaiccdbfaa.PAll
