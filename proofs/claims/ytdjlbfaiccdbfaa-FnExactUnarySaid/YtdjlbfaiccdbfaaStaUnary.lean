/- What is left to prove of the law FnExactUnary when its walk is done: the statement over numbers and lists alone. -/
import Derived.Test.YtdjlbfaiccdbfaaPAllx12
import Derived.Test.YtdjlbfaiccdbfaaWOpn
namespace Go.Proofs.Ytdjlbfaiccdbfaa.PureUnary
open Go.RowKit Go.Proofs.YtdjlbfaiccdbfaaW.PrintWords Go.Proofs.YtdjlbfaiccdbfaaW.PrintLast Go.Proofs.YtdjlbfaiccdbfaaW.PrintMore Go.Proofs.Ytdjlbfaiccdbfaa.PAll
def Good25 (x : S25) : Prop := (-9223372036854775808 ≤ x.f0 ∧ x.f0 ≤ 9223372036854775807) ∧ (-9223372036854775808 ≤ x.f1 ∧ x.f1 ≤ 9223372036854775807) ∧ (x.f2 < 18446744073709551616) ∧ (x.f3.size ≤ 9223372036854775807) ∧ (-9223372036854775808 ≤ x.f4 ∧ x.f4 ≤ 9223372036854775807)
def Statement : Prop := ∀ (x0 : Int) (x1 : S25), -9223372036854775808 ≤ x0 ∧ x0 ≤ 9223372036854775807 → Good25 x1 → ∃ k, laws_FnExactUnary.f k x0 x1.f0 x1.f1 x1.f2 x1.f3 x1.f4 = some true
end Go.Proofs.Ytdjlbfaiccdbfaa.PureUnary
