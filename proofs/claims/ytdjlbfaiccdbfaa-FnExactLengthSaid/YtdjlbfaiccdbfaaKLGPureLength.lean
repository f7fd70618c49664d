/- Cut down from the texts of the same job by wip/shake.py to what this claim reaches. -/
import Derived.Test.YtdjlbfaiccdbfaaKLGStaLength
import Derived.Test.YtdjlbfaiccdbfaaKLGL8
namespace Go.Proofs.Ytdjlbfaiccdbfaa.PureLength
open Go.RowKit Go.Proofs.YtdjlbfaiccdbfaaW.PrintWords Go.Proofs.YtdjlbfaiccdbfaaW.PrintLast Go.Proofs.YtdjlbfaiccdbfaaW.PrintMore Go.Proofs.Ytdjlbfaiccdbfaa.PAll
theorem pure : Statement := by
  rintro ⟨xs, tn⟩ ⟨⟨hx, hl⟩, _⟩
  simp only at hx hl ⊢
  refine ⟨xs.length + 2 + big, ?_⟩
  obtain ⟨t, e, _, h⟩ := sz_table_ge (k := xs.length + 2 + big) xs (by omega) tn (fun x m => ⟨(hx x m).1.2.2.2.1, (hx x m).2.1.2.2.2.1⟩) hl
  unfold laws_FnExactLength.f
  rw [e, Option.bind_some]
  rcases h with h | ⟨h, l, s⟩
  · rw [if_pos h]
  rw [if_neg (by omega)]
  have gp := gp_conv xs s (fun x m => ⟨⟨(hx x m).1.2.1, (hx x m).1.2.2.1⟩, ⟨(hx x m).2.1.2.1, (hx x m).2.1.2.2.1⟩⟩)
  have q1 := to_table_ge (k := xs.length + 2 + big) xs (by omega) tn l
  obtain ⟨r, q2, q3⟩ := length_fn (k := xs.length + 2 + big) (by omega) (xs.map conv) gp tn
  have q4 := eq_table_ge (k := xs.length + 2 + big) xs (by omega) tn gp l
  generalize xs.length + 2 + big = k at q1 q2 q3 q4 ⊢
  simp only [q1, q2, q3, q4, Option.bind_some, if_true]
end Go.Proofs.Ytdjlbfaiccdbfaa.PureLength
