/- A state of a function, and the world. -/
import Derived.Test.YtdonkjepjobhnaaDoorIL
namespace Go.Proofs.IM
open Go Go.RowKit
set_option linter.unusedVariables false
set_option linter.unusedSimpArgs false
set_option linter.unnecessarySimpa false
def setc (st : St) (c : Operand) (b : Bool) : St := match c with
  | .tmp d => ⟨upd st.t d (.bool b), st.l, st.c⟩
  | _ => st
/-- A frame: how many temporaries, what is deferred, and temporaries that nobody writes any more. -/
structure Fm where
  n : Nat
  D : List Deferred
  fix : List (Nat × Value)
def Fm.held (N : Fm) (a : Act) : Prop := a.defers = N.D ∧ ∀ p ∈ N.fix, a.tmps.getD p.1 undef = p.2
/-- Every temporary that is written lies in the frame. -/
def dstOk (N : Fm) (o : Oper) : Bool := match o.dst with
  | some d => decide (d < N.n) && N.fix.all fun p => p.1 != d
  | none => true
/-- An abstract state of a function, and the world. -/
structure SR (Ei : Env) (wi : World) (N : Fm) (E : Env) (L : Pl) (st : St) (m : Mem) (a : Act) (w : World) : Prop where
  r : Rel Ei wi E L st.l m w
  t : ∀ n, VR E L (st.t n) (a.tmps.getD n undef)
  d : N.held a
  n : N.n ≤ a.tmps.size
def Fr (L : Pl) (c : Nat) : Prop := ∀ j, c ≤ j → L j = none
theorem put_getD (a : Act) (d : Nat) (x : Value) (n : Nat) (hd : d < a.tmps.size) : (a.put (some d) x).tmps.getD n undef = if n = d then x else a.tmps.getD n undef := by
  simp only [Act.put, Array.getD_eq_getD_getElem?, Array.getElem?_setIfInBounds]
  by_cases e : d = n
  · subst e; simp [hd]
  · simp [e, Ne.symm e]
theorem Fm.held.put {N : Fm} {a : Act} (h : N.held a) {o : Oper} (ho : dstOk N o = true) (hn : N.n ≤ a.tmps.size) {x : Value} : N.held (a.put o.dst x) := by
  unfold dstOk at ho
  cases hd : o.dst with
  | none => simpa [Act.put] using h
  | some d =>
    rw [hd] at ho
    simp only [Bool.and_eq_true, decide_eq_true_eq, List.all_eq_true] at ho
    refine ⟨h.1, fun p hp => ?_⟩
    rw [put_getD a d x p.1 (Nat.lt_of_lt_of_le ho.1 hn)]
    have := ho.2 p hp
    rw [if_neg (by simpa using this)]
    exact h.2 p hp
theorem SR.put {Ei : Env} {wi : World} {N : Fm} {E E' : Env} {L L' : Pl} {st : St} {m m' : Mem} {a : Act} {w w' : World} (h : SR Ei wi N E L st m a w) {o : Oper} (ho : dstOk N o = true) {l' : Loc} {v : AV} {x : Value} {c : Nat}
    (hr : Rel Ei wi E' L' l' m' w') (hE : E.le E') (hL : L.le L') (hv : VR E' L' v x) : SR Ei wi N E' L' ⟨putT st.t o.dst v, l', c⟩ m' (a.put o.dst x) w' where
  r := hr
  t n := by
    unfold dstOk at ho
    cases hd : o.dst with
    | none => simpa [putT, Act.put] using (h.t n).mono hE hL
    | some d =>
      rw [hd] at ho
      simp only [Bool.and_eq_true, decide_eq_true_eq] at ho
      have hlt : d < a.tmps.size := Nat.lt_of_lt_of_le ho.1 h.n
      rw [put_getD a d x n hlt]
      simp only [putT, upd]
      split
      · exact hv
      · exact (h.t n).mono hE hL
  d := h.d.put ho h.n
  n := by cases hd : o.dst <;> simpa [Act.put] using h.n
theorem SR.setT {Ei : Env} {wi : World} {N : Fm} {E : Env} {L : Pl} {st : St} {m : Mem} {a : Act} {w : World} (h : SR Ei wi N E L st m a w) {d : Nat} {b : Bool} (hb : st.t d = .bool b) : SR Ei wi N E L ⟨upd st.t d (.bool b), st.l, st.c⟩ m a w where
  r := h.r
  t n := by
    simp only [upd]
    split
    · rename_i e; subst e; rw [← hb]; exact h.t n
    · exact h.t n
  d := h.d
  n := h.n
end Go.Proofs.IM
