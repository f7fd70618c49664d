/- The plain law of FnExactUnary: the program's Unary and the reference's are one function. No condition. -/
import Derived.Test.YtdjlbfaiccdbfaaStaUnary
import Derived.Test.YtdjlbfaiccdbfaaL3
namespace Go.Proofs.Ytdjlbfaiccdbfaa.PureUnary
open Go.RowKit Go.Proofs.YtdjlbfaiccdbfaaW.PrintWords Go.Proofs.YtdjlbfaiccdbfaaW.PrintLast Go.Proofs.YtdjlbfaiccdbfaaW.PrintMore Go.Proofs.Ytdjlbfaiccdbfaa.PAll
theorem pure : Statement := by
  rintro o ⟨a, n, f, s, r⟩
  intro ho
  rintro ⟨_, _, hf, hs, _⟩
  simp only at hs hf ⊢
  obtain ⟨t, ht, h⟩ := sz_value a n f s r 1048576 (by decide) (by decide) hs
  refine ⟨4, ?_⟩
  unfold laws_FnExactUnary.f
  rw [ht]
  simp only [Option.bind_some]
  rcases h with h | ⟨h, _⟩
  · rw [if_pos h]
  · rw [if_neg (by omega)]
    simp only [laws_toValue.f, Option.bind_some]
    rw [spec_unary 0, impl_unary 0]
    simp only [Option.bind_some]
    rw [eq_valued]
    · simp
    · exact unOf_f hf
end Go.Proofs.Ytdjlbfaiccdbfaa.PureUnary
