/- Whether an instruction is in shape, the other way. -/
import Derived.Test.YtdonkjepjobhnaaDoorJO
namespace Go.Proofs.IM
open Go
def insCheck (k : Nat) : Bool := match rolesL k, formsTab[k]? with
  | [a, b, c, d], some [a', b', c', d'] => [(a, a'), (b, b'), (c, c'), (d, d')].all fun q => decide (0 ≤ q.1) && decide (q.1 < 22) && (rmap.getD q.1.toNat 0 == q.2)
  | _, _ => false
theorem insCheck_all : ∀ k : Nat, k < 43 → 1 ≤ k → insCheck k = true := by decide
theorem roles_out {op : Int} (h : op < 1 ∨ 42 < op) : rolesL op = [] := by
  have : roleTab.lookup op = none := by
    rw [List.lookup_eq_none_iff]
    intro q hq
    have : ∀ q ∈ roleTab, 1 ≤ q.1 ∧ q.1 ≤ 42 := by decide
    have := this q hq
    simp
    omega
  rw [rolesL, this]; rfl
theorem fit_eq' {n : Nat} {p : Pr} {x a a' : Int} (h0 : 0 ≤ p.regs) (h1 : p.regs ≤ 250) (h : (0 ≤ a ∧ a < 22) ∧ rmap.getD a.toNat 0 = a') : fits n p a x = fitsI n p a' x := by
  have := fit_eq (n := n) (p := p) (x := x) h0 h1 a.toNat (by omega)
  rw [h.2, show ((a.toNat : Nat) : Int) = a by omega] at this
  exact this
theorem ins_eq {n : Nat} {p : Pr} {x : I} {last : Bool} (h0 : 0 ≤ p.regs) (h1 : p.regs ≤ 250) : insS n p x last = (insI n p x && (!last || endsOp x.op)) := by
  by_cases hop : x.op < 1 ∨ 42 < x.op
  · have e : insI n p x = false := by
      unfold insI
      rcases hop with h | h
      · have : decide (1 ≤ x.op) = false := by simp; omega
        split
        · rw [this]; rfl
        · rfl
      · rw [List.getElem?_eq_none (by have : formsTab.length = 43 := rfl
                                      omega)]
    rw [e, insS, roles_out hop]; rfl
  · have hk := insCheck_all x.op.toNat (by omega) (by omega)
    have hd : decide (1 ≤ x.op) = true := by simp; omega
    unfold insCheck at hk
    rw [show ((x.op.toNat : Nat) : Int) = x.op by omega] at hk
    unfold insS insI
    split at hk
    · rename_i a b c d a' b' c' d' e1 e2
      simp only [List.all_cons, List.all_nil, Bool.and_true, Bool.and_eq_true, decide_eq_true_eq, beq_iff_eq] at hk
      obtain ⟨k1, k2, k3, k4⟩ := hk
      rw [e1, e2]
      simp only [hd, Bool.true_and]
      rw [fit_eq' h0 h1 k1, fit_eq' h0 h1 k2, fit_eq' h0 h1 k3, fit_eq' h0 h1 k4]
    · exact absurd hk Bool.false_ne_true
/-- The package variable that holds the forms. -/
def FormsR (g : Nat) (m : Mem) : Prop := ∃ (j : Nat) (s : AV), m.gl g = .ptr (.ro j) 0 0 ∧ m.ro j = some ⟨[[s]], 1⟩ ∧ SlR m 4 s (formsTab.map fun r => r.map (AV.int .i64))
theorem FormsR.mono {g : Nat} {m m' : Mem} (h : FormsR g m) (hm : m.le m') : FormsR g m' := let ⟨j, s, h1, h2, h3⟩ := h; ⟨j, s, by rw [hm.gl]; exact h1, by rw [hm.ro]; exact h2, h3.mono hm⟩
end Go.Proofs.IM
namespace Go.Proofs.YtdonkjepjobhnaaDoor.IM
open Go Go.Proofs.IM Go.Proofs.Flt
set_option maxHeartbeats 8000000
set_option maxRecDepth 100000
theorem s_insOk {s : AV} {ps : List Pr} {p : Pr} {s1 s2 s3 s4 : AV} {x : I} {m : Mem} {K : AR → Mem → Prop} (hF : FormsR 0 m) (hp : PsR m s ps) (e1 : SlR m 2 s1 (p.ups.map U.av)) (e2 : SlR m 5 s2 (p.consts.map V.av)) (e3 : SlR m 5 s3 (p.ins.map I.av)) (e4 : SlR m 4 s4 (p.named.map Nm.av)) (h : K (.ret (.bool (insI ps.length p x))) m) :
    Sim Tryd.prog 58 [.agg [s], .agg [.str p.s, .int .i64 p.line, .int .i64 p.params, .bool p.rest, .int .i64 p.regs, s1, s2, s3, s4], .agg [.int .i64 x.op, .int .i64 x.a, .int .i64 x.b, .int .i64 x.c, .int .i64 x.d]] m K := by
  refine entry (cxok []) Tryd.func58 rfl rfl (by decide) (by decide) ?_
  obtain ⟨a1, a2, a3, a4⟩ := hp.facts
  obtain ⟨b1, b2, b3, b4⟩ := e1.facts
  obtain ⟨c1, c2, c3, c4⟩ := e2.facts
  obtain ⟨d1, d2, d3, d4⟩ := e3.facts
  obtain ⟨f1, f2, f3, f4⟩ := e4.facts
  obtain ⟨jf, sf, g1, g2, g3⟩ := hF
  by_cases q1 : x.op < 1
  · have e : insI ps.length p x = false := by
      unfold insI
      have : decide (1 ≤ x.op) = false := by simp; omega
      split
      · rw [this]; rfl
      · rfl
    rw [e] at h
    exact gox_
  by_cases q2 : 42 < x.op
  · have e : insI ps.length p x = false := by
      unfold insI
      rw [List.getElem?_eq_none (by have : formsTab.length = 43 := rfl
                                    omega)]
    rw [e] at h
    exact gox_
  have hk := insCheck_all x.op.toNat (by omega) (by omega)
  unfold insCheck at hk
  unfold insI at h
  have hd : decide (1 ≤ x.op) = true := by simp; omega
  split at hk
  rotate_left
  · exact absurd hk Bool.false_ne_true
  rename_i r0' r1' r2' r3' r0 r1 r2 r3 k1 k2
  clear hk k1
  rw [k2] at h
  simp only [hd, Bool.true_and] at h
  have hlt : x.op.toNat < (formsTab.map fun r => r.map (AV.int .i64)).length := by rw [List.length_map]; show x.op.toNat < 43; omega
  have w1 : w64 1 = 1 := by decide
  have w2 : w64 2 = 2 := by decide
  have w3 : w64 3 = 3 := by decide
  have w4 : w64 4 = 4 := by decide
  obtain ⟨a5, i5, c5, B5, rfl, hb5, hz5, hr5⟩ := g3.some_ hlt
  have hr5 := fun l => hr5 l x.op.toNat hlt
  have e5 : (formsTab.map fun r => r.map (AV.int .i64))[x.op.toNat] = [.int .i64 r0, .int .i64 r1, .int .i64 r2, .int .i64 r3] := by
    apply Option.some.inj
    rw [← List.getElem?_eq_getElem hlt, List.getElem?_map, k2]; rfl
  rw [e5] at hr5
  have hl43 : ((formsTab.map fun r => r.map (AV.int .i64)).length : Int) = 43 := by rw [List.length_map]; rfl
  have u0 : 0 ≤ x.op := by omega
  have u1 : x.op < 43 := by omega
  clear hlt k2 e5 g3
  rw [List.length_map, show formsTab.length = 43 from rfl] at *
  refine goh_ ?_
  refine s_fields ?_
  refine goh_ ?_
  refine loop_n (KN0 := fun _ _ => True) 5 ?_
  rw [rounds_s]
  refine goh_ ?_
  refine draw_ [(0, .read), (1, .read), (2, .read), (3, .pure), (4, .read), (5, .pure), (6, .pure), (7, .pure), (8, .read), (9, .pure), (10, .step []), (11, .pure)] (by kernel_rfl) ?_
  refine goh_ ?_
  refine s_fieldOk hp e1 e2 e3 e4 ?_
  refine goh_ ?_
  refine ⟨fun q => by simp at q; simpa [q] using h, fun p0 => ?_⟩
  rw [rounds_s]
  refine goh_ ?_
  refine draw_ [(0, .read), (1, .read), (2, .read), (3, .pure), (4, .read), (5, .pure), (6, .pure), (7, .pure), (8, .read), (9, .pure), (10, .step []), (11, .pure)] (by kernel_rfl) ?_
  refine goh_ ?_
  refine s_fieldOk hp e1 e2 e3 e4 ?_
  refine goh_ ?_
  refine ⟨fun q => by simp at q; simpa [q] using h, fun p1 => ?_⟩
  rw [rounds_s]
  refine goh_ ?_
  refine draw_ [(0, .read), (1, .read), (2, .read), (3, .pure), (4, .read), (5, .pure), (6, .pure), (7, .pure), (8, .read), (9, .pure), (10, .step []), (11, .pure)] (by kernel_rfl) ?_
  refine goh_ ?_
  refine s_fieldOk hp e1 e2 e3 e4 ?_
  refine goh_ ?_
  refine ⟨fun q => by simp at q; simpa [q] using h, fun p2 => ?_⟩
  rw [rounds_s]
  refine goh_ ?_
  refine draw_ [(0, .read), (1, .read), (2, .read), (3, .pure), (4, .read), (5, .pure), (6, .pure), (7, .pure), (8, .read), (9, .pure), (10, .step []), (11, .pure)] (by kernel_rfl) ?_
  refine goh_ ?_
  refine s_fieldOk hp e1 e2 e3 e4 ?_
  refine goh_ ?_
  refine ⟨fun q => by simp at q; simpa [q] using h, fun p3 => ?_⟩
  rw [rounds_s]
  refine goh_ ?_
  simp only [Bool.not_eq_false'] at p0 p1 p2 p3
  simp only [p0, p1, p2, p3, Bool.and_self] at h
  exact h
end Go.Proofs.YtdonkjepjobhnaaDoor.IM
