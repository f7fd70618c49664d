/- Cut down from the texts of the same job by wip/shake.py to what this claim reaches. -/
import Derived.Test.YtdjlbfaiccdbfaaKAfterx23
import Derived.Test.YtdjlbfaiccdbfaaKAfterL6
namespace Go.Proofs.Ytdjlbfaiccdbfaa.PAll
open Go Go.RowKit Go.Proofs.YtdjlbfaiccdbfaaW.PrintWords Go.Proofs.YtdjlbfaiccdbfaaW.PrintLast Go.Proofs.YtdjlbfaiccdbfaaW.PrintMore Go.Proofs.Flt Ieee
set_option linter.unusedVariables false
set_option linter.unusedSimpArgs false
theorem after_both (ps : List S61) (hp : ∀ p ∈ ps, GP p) (hl : ps.length ≤ 9223372036854775806) (tn : Int) : ∀ (n i k : Nat), i + n = ps.length →
    ∃ b, ∃ p : S61, ∃ z, spec_l2after.l0 (n + 1 + k) tn ps ps.length i = some (b, p.f0.f0, p.f0.f1, p.f0.f2, p.f0.f3, p.f0.f4, p.f1.f0, p.f1.f1, p.f1.f2, p.f1.f3, p.f1.f4, z) ∧
      impl_rawAfter.l0 (n + 1 + k) tn ps ps.length i = some (b, p.f0.f0, p.f0.f1, p.f0.f2, p.f0.f3, p.f0.f4, p.f1.f0, p.f1.f1, p.f1.f2, p.f1.f3, p.f1.f4, z) ∧ p.f0.f2 < 18446744073709551616 ∧ p.f1.f2 < 18446744073709551616 ∧ z = p.f2
  | 0, i, k, h => by
    refine ⟨false, ⟨⟨0, 0, 0, ⟨#[]⟩, 0⟩, ⟨0, 0, 0, ⟨#[]⟩, 0⟩, 0⟩, 0, ?_, ?_, Nat.zero_lt_succ _, Nat.zero_lt_succ _, rfl⟩
    · rw [show 0 + 1 + k = k + 1 by omega, spec_l2after.l0, if_neg (by omega)]
    · rw [show 0 + 1 + k = k + 1 by omega, impl_rawAfter.l0, if_neg (by omega)]
  | n + 1, i, k, h => by
    have hi : i < ps.length := by omega
    have c1 : (i : Int) < (ps.length : Int) := by omega
    have c2 : 0 ≤ (i : Int) := by omega
    rw [show n + 1 + 1 + k = (n + 1 + k) + 1 by omega, spec_l2after.l0, impl_rawAfter.l0, rd61 hi]
    simp only [c1, c2, if_true]
    have g := hp ps[i] (List.getElem_mem hi)
    by_cases c : ps[i].f2 > tn
    · simp only [c, if_true]
      exact ⟨true, ps[i], _, rfl, rfl, g.1.2.1, g.2.2.1, rfl⟩
    · simp only [c, if_false]
      rw [w64 (by omega)]
      have q := after_both ps hp hl tn n (i + 1) k (by omega)
      rw [Int.natCast_add] at q
      exact q
theorem eq_found (k : Nat) (b : Bool) (p : S61) (h0 : p.f0.f2 < 18446744073709551616) (h1 : p.f1.f2 < 18446744073709551616) : laws_eqFound.f (k + 1) b p.f0.f0 p.f0.f1 p.f0.f2 p.f0.f3 p.f0.f4 p.f1.f0 p.f1.f1 p.f1.f2 p.f1.f3 p.f1.f4 p.f2 b p.f0.f0 p.f0.f1 p.f0.f2 p.f0.f3 p.f0.f4 p.f1.f0 p.f1.f1 p.f1.f2 p.f1.f3 p.f1.f4 p.f2 = some true := by
  unfold laws_eqFound.f
  rw [eq_pair k p h0 h1]
  simp
theorem after_fn {k : Nat} (hk : big ≤ k) (ps : List S61) (hp : ∀ p ∈ ps, GP p) (hl : ps.length ≤ 1048576) (hk2 : ps.length + 1 ≤ k) (tn at_ : Int) :
    ∃ b, ∃ p : S61, spec_After.f k ps tn at_ = some (b, p.f0.f0, p.f0.f1, p.f0.f2, p.f0.f3, p.f0.f4, p.f1.f0, p.f1.f1, p.f1.f2, p.f1.f3, p.f1.f4, p.f2) ∧ impl_After.f k ps tn at_ = some (b, p.f0.f0, p.f0.f1, p.f0.f2, p.f0.f3, p.f0.f4, p.f1.f0, p.f1.f1, p.f1.f2, p.f1.f3, p.f1.f4, p.f2) ∧ p.f0.f2 < 18446744073709551616 ∧ p.f1.f2 < 18446744073709551616 := by
  unfold spec_After.f impl_After.f
  rw [spec_tok hk ps hp, impl_tok hk ps hp]
  simp only [Option.bind_some]
  by_cases c : tok ps tn = true
  · rw [if_pos c, if_pos c]
    obtain ⟨j, rfl⟩ : ∃ j, k = ps.length + 1 + j := ⟨k - (ps.length + 1), by omega⟩
    obtain ⟨b, p, z, e1, e2, g1, g2, rfl⟩ := after_both ps hp (by omega) at_ ps.length 0 j (by omega)
    unfold spec_l2after.f impl_rawAfter.f
    simp only [Int.cast_ofNat_Int] at e1 e2
    rw [e1, e2]
    exact ⟨b, p, rfl, rfl, g1, g2⟩
  · rw [if_neg c, if_neg c]
    exact ⟨false, ⟨⟨0, 0, 0, ⟨#[]⟩, 0⟩, ⟨0, 0, 0, ⟨#[]⟩, 0⟩, 0⟩, rfl, rfl, Nat.zero_lt_succ _, Nat.zero_lt_succ _⟩
end Go.Proofs.Ytdjlbfaiccdbfaa.PAll
