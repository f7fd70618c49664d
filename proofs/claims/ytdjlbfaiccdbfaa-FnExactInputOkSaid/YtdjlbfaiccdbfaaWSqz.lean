/- Short words for the printed walks: each step's facts carried on to the next world, the small proofs given by default arguments. No condition. -/
import Derived.Test.YtdjlbfaiccdbfaaWFlt
import Derived.Test.YtdjlbfaiccdbfaaWLast
namespace Go.Proofs.YtdjlbfaiccdbfaaW.PrintWords
open Go.RowKit Go.Proofs.YtdjlbfaiccdbfaaW.PrintLast
set_option linter.unusedVariables false
section
variable {w w0 w1 W W0 W1 : World} {g gq g1 g2 g3 g4 : Nat} {o : Obj}
theorem bku (BK : w0.heap[g]? = some o) (hb : Below W.heap.size W w1) (h : w0.heap[g]? = some o → W.heap[g]? = some o := by intro z_; (with_reducible repeat (first | refine blk_drewN ?_ _ | refine blk_drew ?_ | refine blk_alloc ?_ _)); exact z_) : Aside0 (w1.heap[g]? = some o) := ⟨blk_below (h BK) hb⟩
theorem hbs (HB : Below w.heap.size w W0) (hb : Below W.heap.size W w1) (h : Below w.heap.size w W0 → Below w.heap.size w W := by intro z_; repeat (first | (with_reducible first | exact z_ | apply below_alloc | apply pw_below_drewN | apply below_drew1) | exact z_)) : Aside0 (Below w.heap.size w w1) := ⟨below_step (h HB) hb⟩
theorem hbs1 (HB : Below w.heap.size w W0) (a1 : w.heap.size ≤ g1) (hb : Below W.heap.size W w1) (h : Below w.heap.size w W0 → w.heap.size ≤ g1 → Below w.heap.size w W := by intro z_ z1_; repeat (first | (with_reducible first | exact z_ | apply below_alloc | apply pw_below_drewN | apply below_drew1 | refine below_set ?_ z1_) | exact z_)) : Aside0 (Below w.heap.size w w1) := ⟨below_step (h HB a1) hb⟩
theorem hbs2 (HB : Below w.heap.size w W0) (a1 : w.heap.size ≤ g1) (a2 : w.heap.size ≤ g2) (hb : Below W.heap.size W w1) (h : Below w.heap.size w W0 → w.heap.size ≤ g1 → w.heap.size ≤ g2 → Below w.heap.size w W := by intro z_ z1_ z2_; repeat (first | (with_reducible first | exact z_ | apply below_alloc | apply pw_below_drewN | apply below_drew1 | refine below_set ?_ z1_ | refine below_set ?_ z2_) | exact z_)) : Aside0 (Below w.heap.size w w1) := ⟨below_step (h HB a1 a2) hb⟩
theorem hbs3 (HB : Below w.heap.size w W0) (a1 : w.heap.size ≤ g1) (a2 : w.heap.size ≤ g2) (a3 : w.heap.size ≤ g3) (hb : Below W.heap.size W w1) (h : Below w.heap.size w W0 → w.heap.size ≤ g1 → w.heap.size ≤ g2 → w.heap.size ≤ g3 → Below w.heap.size w W := by intro z_ z1_ z2_ z3_; repeat (first | (with_reducible first | exact z_ | apply below_alloc | apply pw_below_drewN | apply below_drew1 | refine below_set ?_ z1_ | refine below_set ?_ z2_ | refine below_set ?_ z3_) | exact z_)) : Aside0 (Below w.heap.size w w1) := ⟨below_step (h HB a1 a2 a3) hb⟩
theorem hbs4 (HB : Below w.heap.size w W0) (a1 : w.heap.size ≤ g1) (a2 : w.heap.size ≤ g2) (a3 : w.heap.size ≤ g3) (a4 : w.heap.size ≤ g4) (hb : Below W.heap.size W w1) (h : Below w.heap.size w W0 → w.heap.size ≤ g1 → w.heap.size ≤ g2 → w.heap.size ≤ g3 → w.heap.size ≤ g4 → Below w.heap.size w W := by intro z_ z1_ z2_ z3_ z4_; repeat (first | (with_reducible first | exact z_ | apply below_alloc | apply pw_below_drewN | apply below_drew1 | refine below_set ?_ z1_ | refine below_set ?_ z2_ | refine below_set ?_ z3_ | refine below_set ?_ z4_) | exact z_)) : Aside0 (Below w.heap.size w w1) := ⟨below_step (h HB a1 a2 a3 a4) hb⟩
theorem hbe (HB : Below w.heap.size w W0) (h : Below w.heap.size w W0 → Below w.heap.size w W := by intro z_; repeat (first | (with_reducible first | exact z_ | apply below_alloc | apply pw_below_drewN | apply below_drew1) | exact z_)) : Below w.heap.size w W := h HB
theorem hbe1 (HB : Below w.heap.size w W0) (a1 : w.heap.size ≤ g1) (h : Below w.heap.size w W0 → w.heap.size ≤ g1 → Below w.heap.size w W := by intro z_ z1_; repeat (first | (with_reducible first | exact z_ | apply below_alloc | apply pw_below_drewN | apply below_drew1 | refine below_set ?_ z1_) | exact z_)) : Below w.heap.size w W := h HB a1
theorem hbe2 (HB : Below w.heap.size w W0) (a1 : w.heap.size ≤ g1) (a2 : w.heap.size ≤ g2) (h : Below w.heap.size w W0 → w.heap.size ≤ g1 → w.heap.size ≤ g2 → Below w.heap.size w W := by intro z_ z1_ z2_; repeat (first | (with_reducible first | exact z_ | apply below_alloc | apply pw_below_drewN | apply below_drew1 | refine below_set ?_ z1_ | refine below_set ?_ z2_) | exact z_)) : Below w.heap.size w W := h HB a1 a2
theorem hbe3 (HB : Below w.heap.size w W0) (a1 : w.heap.size ≤ g1) (a2 : w.heap.size ≤ g2) (a3 : w.heap.size ≤ g3) (h : Below w.heap.size w W0 → w.heap.size ≤ g1 → w.heap.size ≤ g2 → w.heap.size ≤ g3 → Below w.heap.size w W := by intro z_ z1_ z2_ z3_; repeat (first | (with_reducible first | exact z_ | apply below_alloc | apply pw_below_drewN | apply below_drew1 | refine below_set ?_ z1_ | refine below_set ?_ z2_ | refine below_set ?_ z3_) | exact z_)) : Below w.heap.size w W := h HB a1 a2 a3
theorem hbe4 (HB : Below w.heap.size w W0) (a1 : w.heap.size ≤ g1) (a2 : w.heap.size ≤ g2) (a3 : w.heap.size ≤ g3) (a4 : w.heap.size ≤ g4) (h : Below w.heap.size w W0 → w.heap.size ≤ g1 → w.heap.size ≤ g2 → w.heap.size ≤ g3 → w.heap.size ≤ g4 → Below w.heap.size w W := by intro z_ z1_ z2_ z3_ z4_; repeat (first | (with_reducible first | exact z_ | apply below_alloc | apply pw_below_drewN | apply below_drew1 | refine below_set ?_ z1_ | refine below_set ?_ z2_ | refine below_set ?_ z3_ | refine below_set ?_ z4_) | exact z_)) : Below w.heap.size w W := h HB a1 a2 a3 a4
/-- A new variable lies behind all that was; it is no elder one. -/
theorem gws (hg : gq = W.heap.size) (h : Below w.heap.size w W) : Aside0 (w.heap.size ≤ gq) := ⟨by rw [hg]; exact below_size h⟩
theorem nlt (hg : gq = W.heap.size) (BK : w0.heap[g]? = some o) (h : w0.heap[g]? = some o → W.heap[g]? = some o := by intro z_; (with_reducible repeat (first | refine blk_drewN ?_ _ | refine blk_drew ?_ | refine blk_alloc ?_ _)); exact z_) : Aside0 (g ≠ gq) := ⟨by rw [hg]; exact Nat.ne_of_lt (blk_lt (h BK))⟩
theorem ngt (hg : gq = W.heap.size) (BK : w0.heap[g]? = some o) (h : w0.heap[g]? = some o → W.heap[g]? = some o := by intro z_; (with_reducible repeat (first | refine blk_drewN ?_ _ | refine blk_drew ?_ | refine blk_alloc ?_ _)); exact z_) : Aside0 (gq ≠ g) := ⟨by rw [hg]; exact Nat.ne_of_gt (blk_lt (h BK))⟩
end
section
variable {α : Type} {d : Kd α} {w w0 : World} {A : Option Addr} {n e base : Nat} {xs : List α} {ok : Nat → Prop} {v : Value}
theorem csd (h0 : d.C w0 A n xs) (h : d.C w0 A n xs → d.C w A n xs := by intro z_; repeat (first | exact z_ | (with_reducible refine Kd.C_alloc ?_ _) | (with_reducible refine Kd.C_drewN ?_ _) | (with_reducible refine Kd.C_drew ?_))) : d.C w A n xs := h h0
theorem rup (h0 : d.R e w0 base ok v xs) (h : d.R e w0 base ok v xs → d.R e w base ok v xs := by intro z_; (with_reducible repeat (first | apply Kd.R_alloc | apply Kd.R_drewN | apply Kd.R_drew)); exact z_) : d.R e w base ok v xs := h h0
end
section
variable {P : Program} {ops : Array Oper} {Q : Exit → Act → World → Prop}
/-- A call, its small proofs by default. -/
theorem goesS {rest : List Oper} {oi : Oper} {a : Act} {w : World} (N : Option Tmp) (hd : oi.dst = N) {f : FuncId} {fn : Func} {as : Array Operand} {ts : Array TypeId} (hf : P.funcs[f]? = some fn) (args : Array Value)
    (hop : oi.op = .call { callee := .value (.func f), args := as, argTypes := ts }) (h : Calls P f args w fun e w' => ∃ v, e = .returned v ∧ wpList P ops Q rest (a.put N v) w')
    (hg : oi.guard = none := by rfl) (hname : (fn.name == "runtime.NumGoroutine") = false := by kernel_rfl) (hb : fn.body.isSome = true := by rfl)
    (hargs : as.map a.eval = args := by (try simp only [List.map_toArray, List.map_cons, List.map_nil]); first | done | rfl | (simp only [List.length_drop, List.length_take]; rfl)) : wpList P ops Q (oi :: rest) a w :=
  goesL_ N hd hg hf hname hb args hop hargs h
end
end Go.Proofs.YtdjlbfaiccdbfaaW.PrintWords
