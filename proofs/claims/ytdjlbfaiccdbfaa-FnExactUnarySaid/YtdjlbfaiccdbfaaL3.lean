/- The value layer in plain Lean, third part: the unary operations. No condition. -/
import Derived.Test.YtdjlbfaiccdbfaaPAllx12
import Derived.Test.YtdjlbfaiccdbfaaL2
namespace Go.Proofs.Ytdjlbfaiccdbfaa.PAll
open Go.RowKit Go.Proofs.YtdjlbfaiccdbfaaW.PrintWords Go.Proofs.YtdjlbfaiccdbfaaW.PrintLast Go.Proofs.YtdjlbfaiccdbfaaW.PrintMore Go.Proofs.Flt Ieee
set_option linter.unusedVariables false
set_option linter.unusedSimpArgs false

/-- What a unary operation gives. -/
def unOf (o a n : Int) (f : Nat) (s : ByteArray) (r : Int) : Int × Int × Int × Nat × ByteArray × Int :=
  if vok a n f s r = true then
    if o = 21 then (0, 1, if (!tru a n f s r) = true then 1 else 0, 0, ⟨#[]⟩, 0)
    else if o = 19 ∧ a = 2 then (0, 2, wrap64 (-n), 0, ⟨#[]⟩, 0)
    else if o = 19 ∧ a = 3 then (0, 3, 0, fneg f, ⟨#[]⟩, 0)
    else if o = 20 ∧ a = 2 then (0, 2, Go.bits .xor .i64 (-1) n, 0, ⟨#[]⟩, 0)
    else if o = 22 ∧ a = 4 then (0, 2, (s.size : Int), 0, ⟨#[]⟩, 0)
    else (1, 0, 0, 0, ⟨#[]⟩, 0)
  else (1, 0, 0, 0, ⟨#[]⟩, 0)
theorem fneg_lt {f : Nat} (hf : f < 18446744073709551616) : fneg f < 18446744073709551616 := by
  unfold fneg
  first
    | (split <;> omega)
    | (exact Nat.xor_lt_two_pow (n := 64) hf (by decide))
    | omega
theorem unOf_f {o a n : Int} {f : Nat} {s : ByteArray} {r : Int} (hf : f < 18446744073709551616) : (unOf o a n f s r).2.2.2.1 < 18446744073709551616 := by
  have h : (unOf o a n f s r).2.2.2.1 = 0 ∨ (unOf o a n f s r).2.2.2.1 = fneg f := by
    unfold unOf
    repeat' split
    all_goals simp
  rcases h with h | h <;> rw [h]
  · decide
  · exact fneg_lt hf
theorem spec_unary (k : Nat) (o a n : Int) (f : Nat) (s : ByteArray) (r : Int) : spec_Unary.f (k + 4) o a n f s r = some (unOf o a n f s r) := by
  unfold spec_Unary.f unOf
  rw [spec_valueOk, spec_truth]
  simp only [Option.bind_some, spec_l1bool.f, spec_l1int.f, spec_l1flt.f, spec_l1got.f, spec_l1fail.f]
  cases hv : vok a n f s r with
  | false => simp
  | true =>
    by_cases h1 : o = 21
    · subst h1; cases tru a n f s r <;> simp
    · by_cases h2 : o = 19 <;> by_cases h3 : o = 20 <;> by_cases h4 : o = 22 <;> by_cases h5 : a = 2 <;> by_cases h6 : a = 3 <;> by_cases h7 : a = 4 <;> first | omega | (simp [h1, h2, h3, h4, h5, h6, h7, spec_Unary.j0, spec_Unary.j1, spec_Unary.j2, spec_Unary.j3, spec_l1int.f, spec_l1flt.f, spec_l1got.f, spec_l1fail.f])
theorem impl_unary (k : Nat) (o a n : Int) (f : Nat) (s : ByteArray) (r : Int) : impl_Unary.f (k + 4) o a n f s r = some (unOf o a n f s r) := by
  unfold impl_Unary.f unOf
  rw [impl_valueOk, impl_truth]
  simp only [Option.bind_some, impl_vBool.f, impl_vInt.f, impl_vFlt.f, impl_good.f, impl_bad.f]
  cases hv : vok a n f s r with
  | false => simp
  | true =>
    by_cases h1 : o = 21
    · subst h1; cases tru a n f s r <;> simp
    · by_cases h2 : o = 19 <;> by_cases h3 : o = 20 <;> by_cases h4 : o = 22 <;> by_cases h5 : a = 2 <;> by_cases h6 : a = 3 <;> by_cases h7 : a = 4 <;> first | omega | (simp [h1, h2, h3, h4, h5, h6, h7])
end Go.Proofs.Ytdjlbfaiccdbfaa.PAll
