/- Cut down from the texts of the same job by wip/shake.py to what this claim reaches. -/
import Derived.Test.YtdjlbfaiccdbfaaKLGx17
import Derived.Test.YtdjlbfaiccdbfaaKLGL4
namespace Go.Proofs.Ytdjlbfaiccdbfaa.PAll
open Go Go.RowKit Go.Proofs.YtdjlbfaiccdbfaaW.PrintWords Go.Proofs.YtdjlbfaiccdbfaaW.PrintLast Go.Proofs.YtdjlbfaiccdbfaaW.PrintMore Go.Proofs.Flt Ieee
set_option linter.unusedVariables false
set_option linter.unusedSimpArgs false
def sameOf (a n : Int) (f : Nat) (s : ByteArray) (r : Int) (a' n' : Int) (f' : Nat) (s' : ByteArray) (r' : Int) : Bool :=
  if ¬ (vok a n f s r = true ∧ vok a' n' f' s' r' = true) then false
  else if (a = 2 ∨ a = 3) ∧ (a' = 2 ∨ a' = 3) then cmpOf a n f s r a' n' f' s' r' == 0
  else if a = a' then (if n = n' then (if s.toList = s'.toList then r == r' else false) else false) else false
theorem spec_same (k : Nat) (a n : Int) (f : Nat) (s : ByteArray) (r : Int) (a' n' : Int) (f' : Nat) (s' : ByteArray) (r' : Int)
    (hs : s.size ≤ 9223372036854775806) (hn : -9223372036854775808 ≤ n ∧ n ≤ 9223372036854775807) (hn' : -9223372036854775808 ≤ n' ∧ n' ≤ 9223372036854775807) :
    spec_Same.f (2 * s.size + k + 13) a n f s r a' n' f' s' r' = some (sameOf a n f s r a' n' f' s' r') := by
  unfold spec_Same.f
  rw [show 2 * s.size + k + 13 = (2 * s.size + k + 12) + 1 by omega, spec_valueOk, spec_valueOk]
  unfold sameOf
  cases h1 : vok a n f s r with
  | false => simp [spec_Same.j0]
  | true =>
  cases h2 : vok a' n' f' s' r' with
  | false => simp [spec_Same.j0]
  | true =>
  simp only [Option.bind_some, if_true, Bool.not_true, spec_Same.j0, Bool.false_eq_true, if_false, not_true_eq_false, and_self, spec_l1num.f]
  rw [spec_compare k a n f s r a' n' f' s' r' hs hn hn']
  by_cases a2 : a = 2 <;> by_cases a3 : a = 3 <;> by_cases b2 : a' = 2 <;> by_cases b3 : a' = 3 <;> simp [a2, a3, b2, b3]
  all_goals (repeat' split)
  all_goals first | rfl | simp_all
theorem impl_same (k : Nat) (a n : Int) (f : Nat) (s : ByteArray) (r : Int) (a' n' : Int) (f' : Nat) (s' : ByteArray) (r' : Int)
    (hn : -9223372036854775808 ≤ n ∧ n ≤ 9223372036854775807) (hn' : -9223372036854775808 ≤ n' ∧ n' ≤ 9223372036854775807) :
    impl_Same.f (k + 13) a n f s r a' n' f' s' r' = some (sameOf a n f s r a' n' f' s' r') := by
  unfold impl_Same.f
  rw [impl_valueOk, impl_valueOk]
  unfold sameOf
  cases h1 : vok a n f s r with
  | false => simp [impl_Same.j0]
  | true =>
  cases h2 : vok a' n' f' s' r' with
  | false => simp [impl_Same.j0]
  | true =>
  simp only [Option.bind_some, if_true, Bool.not_true, impl_Same.j0, Bool.false_eq_true, if_false, not_true_eq_false, and_self, impl_number.f]
  rw [impl_compare k a n f s r a' n' f' s' r' hn hn']
  by_cases a2 : a = 2 <;> by_cases a3 : a = 3 <;> by_cases b2 : a' = 2 <;> by_cases b3 : a' = 3 <;> simp [a2, a3, b2, b3]
  all_goals (repeat' split)
  all_goals first | rfl | simp_all
end Go.Proofs.Ytdjlbfaiccdbfaa.PAll
