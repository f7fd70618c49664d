/- The plain law of FnExactTruth: the program's Truth and the reference's are one function. No condition. -/
import Derived.Test.YtdjlbfaiccdbfaaStaTruth
import Derived.Test.YtdjlbfaiccdbfaaL1
namespace Go.Proofs.Ytdjlbfaiccdbfaa.PureTruth
open Go.RowKit Go.Proofs.YtdjlbfaiccdbfaaW.PrintWords Go.Proofs.Ytdjlbfaiccdbfaa.PAll
theorem pure : Statement := by
  rintro ⟨a, n, f, s, r⟩ ⟨_, _, _, hs, _⟩
  simp only at hs ⊢
  obtain ⟨t, ht, h⟩ := sz_value a n f s r 1048576 (by decide) (by decide) hs
  refine ⟨1, ?_⟩
  unfold laws_FnExactTruth.f
  rw [ht]
  simp only [Option.bind_some]
  rcases h with h | ⟨h, _⟩
  · rw [if_pos h]
  · rw [if_neg (by omega)]
    simp only [laws_toValue.f, Option.bind_some]
    rw [spec_truth, impl_truth]
    simp
end Go.Proofs.Ytdjlbfaiccdbfaa.PureTruth
