/- Cut down from the texts of the same job by wip/shake.py to what this claim reaches. -/
import Derived.Test.YtdjlbfaiccdbfaaKSameStaSame
import Derived.Test.YtdjlbfaiccdbfaaKSameL5
namespace Go.Proofs.Ytdjlbfaiccdbfaa.PureSame
open Go.RowKit Go.Proofs.YtdjlbfaiccdbfaaW.PrintWords Go.Proofs.YtdjlbfaiccdbfaaW.PrintLast Go.Proofs.YtdjlbfaiccdbfaaW.PrintMore Go.Proofs.Ytdjlbfaiccdbfaa.PAll
theorem pure : Statement := by
  rintro ⟨a, n, f, s, r⟩ ⟨a', n', f', s', r'⟩ ⟨_, hn, hf, hs, _⟩ ⟨_, hn', hf', hs', _⟩
  simp only at hs hf hs' hf' hn hn' ⊢
  obtain ⟨t, ht, h⟩ := sz_value a n f s r 1048576 (by decide) (by decide) hs
  refine ⟨2 * s.size + 13, ?_⟩
  unfold laws_FnExactSame.f
  rw [ht]
  simp only [Option.bind_some]
  rcases h with h | ⟨h, e, g⟩
  · rw [if_pos h]
  · rw [if_neg (by omega)]
    obtain ⟨t', ht', h'⟩ := sz_value a' n' f' s' r' t h (by omega) hs'
    rw [ht']
    simp only [Option.bind_some]
    rcases h' with h' | ⟨h', _⟩
    · rw [if_pos h']
    · rw [if_neg (by omega)]
      simp only [laws_toValue.f, Option.bind_some]
      rw [spec_same 0 a n f s r a' n' f' s' r' (by omega) hn hn', impl_same (2 * s.size) a n f s r a' n' f' s' r' hn hn']
      simp
end Go.Proofs.Ytdjlbfaiccdbfaa.PureSame
