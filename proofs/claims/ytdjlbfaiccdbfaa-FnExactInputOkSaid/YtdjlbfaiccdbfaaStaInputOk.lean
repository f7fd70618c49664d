/- What is left to prove of the law FnExactInputOk when its walk is done: the statement over numbers and lists alone. -/
import Derived.Test.YtdjlbfaiccdbfaaPAllx7
import Derived.Test.YtdjlbfaiccdbfaaWOpn
namespace Go.Proofs.Ytdjlbfaiccdbfaa.PureInputOk
open Go.RowKit Go.Proofs.YtdjlbfaiccdbfaaW.PrintWords Go.Proofs.YtdjlbfaiccdbfaaW.PrintLast Go.Proofs.YtdjlbfaiccdbfaaW.PrintMore Go.Proofs.Ytdjlbfaiccdbfaa.PAll
structure S33 where
  f0 : (List ByteArray)
  f1 : (List ByteArray)
  f2 : Int
  f3 : Int
  f4 : Int
def k33 : Kd S33 := Kd.iso (Kd.pair (Kd.slice 9 Kd.string) (Kd.pair (Kd.slice 9 Kd.string) (Kd.pair (Kd.int .i64) (Kd.pair (Kd.int .i64) (Kd.int .i64))))) (fun x : S33 => (x.f0, x.f1, x.f2, x.f3, x.f4))
theorem k33_open {w : World} {x : S33} {cs : List Value} (h : k33.K w x cs) : ∃ A0 c0 A1 c1, cs = [.slice A0 x.f0.length c0, .slice A1 x.f1.length c1, .int .i64 x.f2, .int .i64 x.f3, .int .i64 x.f4] ∧ x.f0.length ≤ c0 ∧ Kd.string.C w A0 x.f0.length x.f0 ∧ x.f1.length ≤ c1 ∧ Kd.string.C w A1 x.f1.length x.f1 := by
  obtain ⟨_, _, rfl, ⟨A0, c0, rfl, l0, g0⟩, ⟨_, _, rfl, ⟨A1, c1, rfl, l1, g1⟩, ⟨_, _, rfl, rfl, ⟨_, _, rfl, rfl, rfl⟩⟩⟩⟩ := h
  exact ⟨A0, c0, A1, c1, rfl, l0, g0, l1, g1⟩
def Good33 (x : S33) : Prop := ((∀ y ∈ x.f0, y.size ≤ 9223372036854775807) ∧ x.f0.length ≤ 9223372036854775807) ∧ ((∀ y ∈ x.f1, y.size ≤ 9223372036854775807) ∧ x.f1.length ≤ 9223372036854775807) ∧ (-9223372036854775808 ≤ x.f2 ∧ x.f2 ≤ 9223372036854775807) ∧ (-9223372036854775808 ≤ x.f3 ∧ x.f3 ≤ 9223372036854775807) ∧ (-9223372036854775808 ≤ x.f4 ∧ x.f4 ≤ 9223372036854775807)
def Statement : Prop := ∀ (x0 : S33), Good33 x0 → ∃ k, laws_FnExactInputOk.f k x0.f0 x0.f1 x0.f2 x0.f3 x0.f4 = some true
end Go.Proofs.Ytdjlbfaiccdbfaa.PureInputOk
