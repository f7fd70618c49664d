/- Cut down from the texts of the same job by wip/shake.py to what this claim reaches. -/
import Derived.Test.YtdjlbfaiccdbfaaProg
import Derived.Below
import Derived.Deep.Draws
import Derived.Deep.AppendLies
import Derived.Maps.AppendAt
import Derived.OwnWalk
import Derived.Laws.BytesArg
import Derived.Laws.MakeOwn
import Derived.Laws.OwnMore
import Derived.Deep.OwnRows
import Derived.Tactics
import Derived.Lib.ConvBytes
import Derived.Laws.Slices
import Derived.WalkKit
import Derived.KernelRfl
import Derived.RowKit3
import Derived.Deep.LoopGhost
import Derived.Deep.QuietTactic
import Derived.BigQuiet
import Derived.WideLaws
import Derived.Deep.DeepCutAuto
import Derived.Deep.CutBlock
import Derived.Deep.RegionHeld3
import Derived.Laws.Rows
import Derived.Lib.AppendStr
import Derived.ArgAppend
import Derived.Laws.IdiomCopy
import Derived.OrdersHeld
import Derived.Laws.BitsLemmas
import Derived.RowKit
import Derived.Laws.StructEq
import Derived.Test.YtdjlbfaiccdbfaaKSameW0
import Derived.Test.YtdjlbfaiccdbfaaKSameW0
import Derived.Test.YtdjlbfaiccdbfaaKSameW0
import Derived.Test.YtdjlbfaiccdbfaaKSameW0
import Derived.Test.YtdjlbfaiccdbfaaKSameW0
import Derived.Test.YtdjlbfaiccdbfaaKSameW0
import Derived.Test.YtdjlbfaiccdbfaaKSameW0
import Derived.Test.YtdjlbfaiccdbfaaKSameW0
import Derived.Test.YtdjlbfaiccdbfaaKSameW0
import Derived.Test.YtdjlbfaiccdbfaaKSameW0
import Derived.Test.YtdjlbfaiccdbfaaKSameW0
import Derived.Test.YtdjlbfaiccdbfaaKSameW0
import Derived.Test.YtdjlbfaiccdbfaaKSameW0
namespace Go.Proofs.Ytdjlbfaiccdbfaa.PAll
open Go.RowKit Go.Proofs.YtdjlbfaiccdbfaaW.PrintWords Go.Proofs.YtdjlbfaiccdbfaaW.PrintLast Go.Proofs.YtdjlbfaiccdbfaaW.PrintMore
attribute [local go_sem] max2_int min2_int max_two min_two max_three min_three max_four min_four   -- for this text's walks alone
set_option linter.unusedVariables false
set_option linter.unusedSimpArgs false
def errW : Option Int → Value
  | none => .nilIface
  | some c => .iface 0 (.int .i64 c)
theorem errW_none : errW none = .nilIface := rfl
theorem errW_some (c : Int) : errW (some c) = .iface 0 (.int .i64 c) := rfl

@[go_sem] theorem ext93 (b : Nat) (W : World) (h : fnan b = false) : (callFunc 93 #[.float .f64 b]).run Try.prog W = .ok (.value (.float .f64 (ftrunc b))) W := run_trunc Try.func93 (by kernel_rfl) (by kernel_rfl) (by kernel_rfl) (by kernel_rfl) b W h
@[go_sem] theorem ext102 (b : Nat) (W : World) : (callFunc 102 #[.float .f64 b]).run Try.prog W = .ok (.value (.int .u64 (b : Int))) W := run_bits Try.func102 (by kernel_rfl) (by kernel_rfl) (by kernel_rfl) (by kernel_rfl) b W
@[go_sem] theorem ext103 (b : Int) (W : World) : (callFunc 103 #[.int .u64 b]).run Try.prog W = .ok (.value (.float .f64 b.toNat)) W := run_frombits Try.func103 (by kernel_rfl) (by kernel_rfl) (by kernel_rfl) (by kernel_rfl) b W
structure S25 where
  f0 : Int
  f1 : Int
  f2 : Nat
  f3 : ByteArray
  f4 : Int
def k25 : Kd S25 := Kd.iso (Kd.pair (Kd.int .i64) (Kd.pair (Kd.int .i64) (Kd.pair Kd.flt (Kd.pair Kd.string (Kd.int .i64))))) (fun x : S25 => (x.f0, x.f1, x.f2, x.f3, x.f4))
theorem k25_open {w : World} {x : S25} {cs : List Value} (h : k25.K w x cs) : cs = [.int .i64 x.f0, .int .i64 x.f1, .float .f64 x.f2, .string x.f3, .int .i64 x.f4] := by
  obtain ⟨_, _, rfl, rfl, ⟨_, _, rfl, rfl, ⟨_, _, rfl, rfl, ⟨_, _, rfl, rfl, rfl⟩⟩⟩⟩ := h
  exact rfl
end Go.Proofs.Ytdjlbfaiccdbfaa.PAll
