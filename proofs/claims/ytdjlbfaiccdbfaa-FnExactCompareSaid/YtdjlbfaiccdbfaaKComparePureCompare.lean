/- Cut down from the texts of the same job by wip/shake.py to what this claim reaches. -/
import Derived.Test.YtdjlbfaiccdbfaaKCompareStaCompare
import Derived.Test.YtdjlbfaiccdbfaaKCompareL4
namespace Go.Proofs.Ytdjlbfaiccdbfaa.PureCompare
open Go.RowKit Go.Proofs.YtdjlbfaiccdbfaaW.PrintWords Go.Proofs.YtdjlbfaiccdbfaaW.PrintLast Go.Proofs.YtdjlbfaiccdbfaaW.PrintMore Go.Proofs.Ytdjlbfaiccdbfaa.PAll
theorem pure : Statement := by
  rintro ⟨a, n, f, s, r⟩ ⟨a', n', f', s', r'⟩ ⟨_, hn, hf, hs, _⟩ ⟨_, hn', hf', hs', _⟩
  simp only at hs hf hs' hf' hn hn' ⊢
  obtain ⟨t, ht, h⟩ := sz_value a n f s r 1048576 (by decide) (by decide) hs
  refine ⟨2 * s.size + 12, ?_⟩
  unfold laws_FnExactCompare.f
  rw [ht]
  simp only [Option.bind_some]
  rcases h with h | ⟨h, e, g⟩
  · rw [if_pos h]
  · rw [if_neg (by omega)]
    obtain ⟨t', ht', h'⟩ := sz_value a' n' f' s' r' t h (by omega) hs'
    rw [ht']
    simp only [Option.bind_some]
    rcases h' with h' | ⟨h', _⟩
    · rw [if_pos h']
    · rw [if_neg (by omega)]
      simp only [laws_toValue.f, Option.bind_some]
      rw [spec_compare 0 a n f s r a' n' f' s' r' (by omega) hn hn', impl_compare (2 * s.size) a n f s r a' n' f' s' r' hn hn']
      simp
end Go.Proofs.Ytdjlbfaiccdbfaa.PureCompare
