/- A state of a function, and the world. -/
import Derived.Test.YtgfkbcmdegnneaaIL
namespace Go.Proofs.IM
open Go Go.RowKit
set_option linter.unusedVariables false
set_option linter.unusedSimpArgs false
set_option linter.unnecessarySimpa false
def setc (st : St) (c : Operand) (b : Bool) : St := match c with
  | .tmp d => ⟨upd st.t d (.bool b), st.l, st.c⟩
  | _ => st
/-- Every temporary that is written lies in the frame. -/
def dstOk (n : Nat) (o : Oper) : Bool := match o.dst with
  | some d => d < n
  | none => true
/-- An abstract state of a function, and the world. -/
structure SR (Ei : Env) (wi : World) (N : Nat) (E : Env) (L : Pl) (st : St) (m : Mem) (a : Act) (w : World) : Prop where
  r : Rel Ei wi E L st.l m w
  t : ∀ n, VR E L (st.t n) (a.tmps.getD n undef)
  d : a.defers = []
  n : N ≤ a.tmps.size
def Fr (L : Pl) (c : Nat) : Prop := ∀ j, c ≤ j → L j = none
theorem put_getD (a : Act) (d : Nat) (x : Value) (n : Nat) (hd : d < a.tmps.size) : (a.put (some d) x).tmps.getD n undef = if n = d then x else a.tmps.getD n undef := by
  simp only [Act.put, Array.getD_eq_getD_getElem?, Array.getElem?_setIfInBounds]
  by_cases e : d = n
  · subst e; simp [hd]
  · simp [e, Ne.symm e]
theorem SR.put {Ei : Env} {wi : World} {N : Nat} {E E' : Env} {L L' : Pl} {st : St} {m m' : Mem} {a : Act} {w w' : World} (h : SR Ei wi N E L st m a w) {o : Oper} (ho : dstOk N o = true) {l' : Loc} {v : AV} {x : Value} {c : Nat}
    (hr : Rel Ei wi E' L' l' m' w') (hE : E.le E') (hL : L.le L') (hv : VR E' L' v x) : SR Ei wi N E' L' ⟨putT st.t o.dst v, l', c⟩ m' (a.put o.dst x) w' where
  r := hr
  t n := by
    unfold dstOk at ho
    cases hd : o.dst with
    | none => simpa [putT, Act.put] using (h.t n).mono hE hL
    | some d =>
      rw [hd] at ho
      have hlt : d < a.tmps.size := Nat.lt_of_lt_of_le (by simpa using ho) h.n
      rw [put_getD a d x n hlt]
      simp only [putT, upd]
      split
      · exact hv
      · exact (h.t n).mono hE hL
  d := by cases hd : o.dst <;> simpa [Act.put] using h.d
  n := by cases hd : o.dst <;> simpa [Act.put] using h.n
theorem SR.setT {Ei : Env} {wi : World} {N : Nat} {E : Env} {L : Pl} {st : St} {m : Mem} {a : Act} {w : World} (h : SR Ei wi N E L st m a w) {d : Nat} {b : Bool} (hb : st.t d = .bool b) : SR Ei wi N E L ⟨upd st.t d (.bool b), st.l, st.c⟩ m a w where
  r := h.r
  t n := by
    simp only [upd]
    split
    · rename_i e; subst e; rw [← hb]; exact h.t n
    · exact h.t n
  d := h.d
  n := h.n
end Go.Proofs.IM
