/- Cut down from the texts of the same job by wip/shake.py to what this claim reaches. -/
import Derived.Test.YtdjlbfaiccdbfaaKLGStaGet
import Derived.Test.YtdjlbfaiccdbfaaKLGL9
namespace Go.Proofs.Ytdjlbfaiccdbfaa.PureGet
open Go.RowKit Go.Proofs.YtdjlbfaiccdbfaaW.PrintWords Go.Proofs.YtdjlbfaiccdbfaaW.PrintLast Go.Proofs.YtdjlbfaiccdbfaaW.PrintMore Go.Proofs.Ytdjlbfaiccdbfaa.PAll
theorem pure : Statement := by
  rintro ⟨xs, tn⟩ ⟨a, n, f, s, r⟩ ⟨⟨hx, hl⟩, _⟩ ⟨_, hn, hf, hs, _⟩
  simp only at hx hl hn hf hs ⊢
  refine ⟨xs.length + 2 + big, ?_⟩
  obtain ⟨t, e, ht, h⟩ := sz_table_ge (k := xs.length + 2 + big) xs (by omega) tn (fun x m => ⟨(hx x m).1.2.2.2.1, (hx x m).2.1.2.2.2.1⟩) hl
  unfold laws_FnExactGet.f
  rw [e, Option.bind_some]
  rcases h with h | ⟨h, l, z⟩
  · rw [if_pos h]
  rw [if_neg (by omega)]
  obtain ⟨t', e', h'⟩ := sz_value a n f s r t h ht hs
  rw [e', Option.bind_some]
  rcases h' with h' | ⟨h', g1, g2⟩
  · rw [if_pos h']
  rw [if_neg (by omega)]
  have gp := gp_conv xs z (fun x m => ⟨⟨(hx x m).1.2.1, (hx x m).1.2.2.1⟩, ⟨(hx x m).2.1.2.1, (hx x m).2.1.2.2.1⟩⟩)
  have q1 := to_table_ge (k := xs.length + 2 + big) xs (by omega) tn l
  obtain ⟨g, q2, q3, gf⟩ := get_fn (k := xs.length + 2 + big) (by omega) (xs.map conv) gp tn ⟨a, n, f, s, r⟩ ⟨hn, hf, by simp only; omega⟩
  simp only at q2 q3
  have q4 := eq_table_ge (k := xs.length + 2 + big) xs (by omega) tn gp l
  have q5 := eq_value (xs.length + 1 + big) g.f0 g.f1 g.f2 g.f3 g.f4 gf
  rw [show xs.length + 1 + big + 1 = xs.length + 2 + big by omega] at q5
  generalize xs.length + 2 + big = k at q1 q2 q3 q4 q5 ⊢
  simp only [laws_toValue.f, q1, q2, q3, q4, q5, Option.bind_some, if_true]
end Go.Proofs.Ytdjlbfaiccdbfaa.PureGet
