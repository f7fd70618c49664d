/- Cut down from the texts of the same job by wip/shake.py to what this claim reaches. -/
import Derived.Test.YtdjlbfaiccdbfaaKSamex17
import Derived.Test.YtdjlbfaiccdbfaaKSameW0
namespace Go.Proofs.Ytdjlbfaiccdbfaa.PureSame
open Go.RowKit Go.Proofs.YtdjlbfaiccdbfaaW.PrintWords Go.Proofs.YtdjlbfaiccdbfaaW.PrintLast Go.Proofs.YtdjlbfaiccdbfaaW.PrintMore Go.Proofs.Ytdjlbfaiccdbfaa.PAll
def Good25 (x : S25) : Prop := (-9223372036854775808 ≤ x.f0 ∧ x.f0 ≤ 9223372036854775807) ∧ (-9223372036854775808 ≤ x.f1 ∧ x.f1 ≤ 9223372036854775807) ∧ (x.f2 < 18446744073709551616) ∧ (x.f3.size ≤ 9223372036854775807) ∧ (-9223372036854775808 ≤ x.f4 ∧ x.f4 ≤ 9223372036854775807)
def Statement : Prop := ∀ (x0 : S25) (x1 : S25), Good25 x0 → Good25 x1 → ∃ k, laws_FnExactSame.f k x0.f0 x0.f1 x0.f2 x0.f3 x0.f4 x1.f0 x1.f1 x1.f2 x1.f3 x1.f4 = some true
end Go.Proofs.Ytdjlbfaiccdbfaa.PureSame
