/- The plain law of FnExactKey: the program's Key and the reference's are one function. No condition. -/
import Derived.Test.YtdjlbfaiccdbfaaStaKey
import Derived.Test.YtdjlbfaiccdbfaaL2
namespace Go.Proofs.Ytdjlbfaiccdbfaa.PureKey
open Go.RowKit Go.Proofs.YtdjlbfaiccdbfaaW.PrintWords Go.Proofs.YtdjlbfaiccdbfaaW.PrintLast Go.Proofs.YtdjlbfaiccdbfaaW.PrintMore Go.Proofs.Ytdjlbfaiccdbfaa.PAll
theorem pure : Statement := by
  rintro ⟨a, n, f, s, r⟩ ⟨_, _, hf, hs, _⟩
  simp only at hs hf ⊢
  obtain ⟨t, ht, h⟩ := sz_value a n f s r 1048576 (by decide) (by decide) hs
  refine ⟨2, ?_⟩
  unfold laws_FnExactKey.f
  rw [ht]
  simp only [Option.bind_some]
  rcases h with h | ⟨h, _⟩
  · rw [if_pos h]
  · rw [if_neg (by omega)]
    simp only [laws_toValue.f, Option.bind_some]
    rw [spec_key 0, impl_key 0]
    simp only [Option.bind_some]
    rw [eq_valued]
    · simp
    · exact keyOf_f hf
end Go.Proofs.Ytdjlbfaiccdbfaa.PureKey
