/- The plain law of FnExactValueOk: the program's ValueOk and the reference's are one function. No condition. -/
import Derived.Test.YtdjlbfaiccdbfaaStaValueOk
import Derived.Test.YtdjlbfaiccdbfaaL1
namespace Go.Proofs.Ytdjlbfaiccdbfaa.PureValueOk
open Go.RowKit Go.Proofs.YtdjlbfaiccdbfaaW.PrintWords Go.Proofs.Ytdjlbfaiccdbfaa.PAll
theorem pure : Statement := by
  rintro ⟨a, n, f, s, r⟩ ⟨_, _, _, hs, _⟩
  simp only at hs ⊢
  obtain ⟨t, ht, h⟩ := sz_value a n f s r 1048576 (by decide) (by decide) hs
  refine ⟨1, ?_⟩
  unfold laws_FnExactValueOk.f
  rw [ht]
  simp only [Option.bind_some]
  rcases h with h | ⟨h, _⟩
  · rw [if_pos h]
  · rw [if_neg (by omega)]
    simp only [laws_toValue.f, Option.bind_some]
    rw [spec_valueOk, impl_valueOk]
    simp
end Go.Proofs.Ytdjlbfaiccdbfaa.PureValueOk
