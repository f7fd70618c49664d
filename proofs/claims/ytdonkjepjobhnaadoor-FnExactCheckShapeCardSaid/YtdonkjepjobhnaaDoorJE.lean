/- Heads and names, the other way. -/
import Derived.Test.YtdonkjepjobhnaaDoorJD
namespace Go.Proofs.IM
open Go
def nok (p : Pr) (n : Nm) : Bool := inR n.s.size 1 40 && inR n.reg 0 (w64 (p.regs - 1)) && decide (0 ≤ n.lo) && decide (n.lo ≤ n.hi) && decide (n.hi ≤ p.ins.length)
end Go.Proofs.IM
namespace Go.Proofs.YtdonkjepjobhnaaDoor.IM
open Go Go.Proofs.IM Go.Proofs.Flt
set_option maxHeartbeats 8000000
theorem s_headOk {p : Pr} {s1 s2 s3 s4 : AV} {first : Bool} {m : Mem} {K : AR → Mem → Prop} (h1 : SlR m 2 s1 (p.ups.map U.av)) (h2 : SlR m 5 s2 (p.consts.map V.av)) (h3 : SlR m 5 s3 (p.ins.map I.av)) (h4 : SlR m 4 s4 (p.named.map Nm.av))
    (h : K (.ret (.bool (hok p first))) m) : Sim Tryd.prog 55 [.agg [.str p.s, .int .i64 p.line, .int .i64 p.params, .bool p.rest, .int .i64 p.regs, s1, s2, s3, s4], .bool first] m K := by
  refine entry (cxok []) Tryd.func55 rfl rfl (by decide) (by decide) ?_
  obtain ⟨b1, b2, b3, b4⟩ := h1.facts
  obtain ⟨c1, c2, c3, c4⟩ := h2.facts
  obtain ⟨d1, d2, d3, d4⟩ := h3.facts
  obtain ⟨f1, f2, f3, f4⟩ := h4.facts
  have l1 := h1.len'
  have l2 := h2.len'
  rw [List.length_map] at l1 l2
  have e : ((p.ups.length : Int) == 0) = !decide ((0 : Int) < p.ups.length) := by rw [Bool.eq_iff_iff]; simp
  simp only [hok] at h
  rw [e] at h
  cases hrest : p.rest <;> rw [hrest] at h
  all_goals
    simp only [Bool.false_eq_true, ↓reduceIte] at h
    refine goh_ ?_
    refine ⟨fun q => ?_, fun q => by simpa [q] using h⟩
    refine s_within ?_
    refine goh_ ?_
    refine ⟨fun q => ?_, fun q => by simpa [q] using h⟩
    refine s_within ?_
    refine goh_ ?_
    refine ⟨fun q => ?_, fun q => by simpa [q] using h⟩
    refine s_within ?_
    refine goh_ ?_
    clear l1 l2 h1 h2 h3 h4
    cases first <;> grind
theorem s_namedOk {p : Pr} {s1 s2 s3 s4 : AV} {s : ByteArray} {a b c : Int} {m : Mem} {K : AR → Mem → Prop} (h1 : SlR m 2 s1 (p.ups.map U.av)) (h2 : SlR m 5 s2 (p.consts.map V.av)) (h3 : SlR m 5 s3 (p.ins.map I.av)) (h4 : SlR m 4 s4 (p.named.map Nm.av))
    (h : K (.ret (.bool (nok p ⟨s, a, b, c⟩))) m) : Sim Tryd.prog 57 [.agg [.str p.s, .int .i64 p.line, .int .i64 p.params, .bool p.rest, .int .i64 p.regs, s1, s2, s3, s4], .agg [.str s, .int .i64 a, .int .i64 b, .int .i64 c]] m K := by
  refine entry (cxok []) Tryd.func57 rfl rfl (by decide) (by decide) ?_
  obtain ⟨b1, b2, b3, b4⟩ := h1.facts
  obtain ⟨c1, c2, c3, c4⟩ := h2.facts
  obtain ⟨d1, d2, d3, d4⟩ := h3.facts
  obtain ⟨f1, f2, f3, f4⟩ := h4.facts
  have l3 := h3.len'
  rw [List.length_map] at l3
  simp only [nok] at h
  refine goh_ ?_
  refine s_within ?_
  refine goh_ ?_
  refine ⟨fun q => ?_, fun q => by simpa [q] using h⟩
  refine s_within ?_
  refine goh_ ?_
  clear l3 h1 h2 h3 h4
  grind
theorem s_l3namedOk {p : Pr} {s1 s2 s3 s4 : AV} {i : Nat} {m : Mem} {K : AR → Mem → Prop} (h1 : SlR m 2 s1 (p.ups.map U.av)) (h2 : SlR m 5 s2 (p.consts.map V.av)) (h3 : SlR m 5 s3 (p.ins.map I.av)) (h4 : SlR m 4 s4 (p.named.map Nm.av))
    (hi : i < p.named.length) (h : K (.ret (.bool (decide ((i : Int) < 500) && nok p p.named[i]))) m) : Sim Tryd.prog 125 [.agg [.str p.s, .int .i64 p.line, .int .i64 p.params, .bool p.rest, .int .i64 p.regs, s1, s2, s3, s4], .int .i64 i] m K := by
  refine entry (cxok []) Tryd.func125 rfl rfl (by decide) (by decide) ?_
  obtain ⟨b1, b2, b3, b4⟩ := h1.facts
  obtain ⟨c1, c2, c3, c4⟩ := h2.facts
  obtain ⟨d1, d2, d3, d4⟩ := h3.facts
  obtain ⟨f1, f2, f3, f4⟩ := h4.facts
  have l3 := h3.len'
  rw [List.length_map] at l3
  obtain ⟨a, i0, cap, B, rfl, hb, hz, hr⟩ := h4.some_ (j := i) (by simpa using hi)
  have hr := fun l => hr l i (by simpa using hi)
  simp only [List.getElem_map] at hr
  simp only [List.length_map] at f1 f2 f3 f4
  have hii : ((i : Int) < p.named.length) = True := by simp; omega
  simp only [nok] at h
  refine goh_ ?_
  refine ⟨fun q => ?_, fun q => by simpa [q] using h⟩
  refine s_l3in ?_
  refine goh_ ?_
  refine ⟨fun q => ?_, fun q => by simpa [q] using h⟩
  refine s_l3in ?_
  refine goh_ ?_
  clear l3 h1 h2 h3 h4 hr hb hii
  grind
end Go.Proofs.YtdonkjepjobhnaaDoor.IM
