/- Heads, names, upvalues. -/
import Derived.Test.YtdonkjepjobhnaaDoorJC
namespace Go.Proofs.IM
open Go
def hok (p : Pr) (first : Bool) : Bool :=
  decide ((p.s.size : Int) ≤ 40) && inR p.line 0 100000 && inR p.regs 0 250 && inR p.params 0 (if p.rest then w64 (p.regs - 1) else p.regs) && decide ((p.ups.length : Int) ≤ 250) && decide ((p.consts.length : Int) ≤ 500) && (!first || (p.params == 0 && (p.ups.length : Int) == 0))
/-- What a row of protos comes to, at one place. -/
theorem PsR.at_ {m : Mem} {s : AV} {ps : List Pr} (h : PsR m s ps) {i : Nat} (hi : i < ps.length) : ∃ (a : AA) (i0 c : Nat) (B : Blk) (s1 s2 s3 s4 : AV), s = .sl a i0 ps.length c ∧ (∀ l, blk? l m a = some B) ∧ B.sz = 9 ∧
    (∀ l, row? l m a (i0 + i) = some [.str ps[i].s, .int .i64 ps[i].line, .int .i64 ps[i].params, .bool ps[i].rest, .int .i64 ps[i].regs, s1, s2, s3, s4]) ∧
    SlR m 2 s1 (ps[i].ups.map U.av) ∧ SlR m 5 s2 (ps[i].consts.map V.av) ∧ SlR m 5 s3 (ps[i].ins.map I.av) ∧ SlR m 4 s4 (ps[i].named.map Nm.av) := by
  obtain ⟨rs, hs, hrl, hrow⟩ := h
  have hir : i < rs.length := by omega
  obtain ⟨a, i0, c, B, e, hb, hz, hr⟩ := hs.some_ hir
  obtain ⟨s1, s2, s3, s4, e0, e1, e2, e3, e4⟩ := (hrow i rs[i] ps[i] (by simp [hir]) (by simp [hi])).ex
  exact ⟨a, i0, c, B, s1, s2, s3, s4, by rw [e, hrl], hb, hz, fun l => by rw [hr l i hir, e0], e1, e2, e3, e4⟩
end Go.Proofs.IM
namespace Go.Proofs.YtdonkjepjobhnaaDoor.IM
open Go Go.Proofs.IM Go.Proofs.Flt
set_option maxHeartbeats 8000000
theorem s_l3headOk {s : AV} {ps : List Pr} {i : Nat} {m : Mem} {K : AR → Mem → Prop} (hp : PsR m s ps) (hi : i < ps.length) (h : K (.ret (.bool (hok ps[i] (i == 0)))) m) :
    Sim Tryd.prog 123 [.agg [s], .int .i64 i] m K := by
  refine entry (cxok []) Tryd.func123 rfl rfl (by decide) (by decide) ?_
  obtain ⟨a1, a2, a3, a4⟩ := hp.facts
  obtain ⟨a, i0, c, B, s1, s2, s3, s4, rfl, hb, hz, hr, e1, e2, e3, e4⟩ := hp.at_ hi
  obtain ⟨b1, b2, b3, b4⟩ := e1.facts
  obtain ⟨c1, c2, c3, c4⟩ := e2.facts
  obtain ⟨d1, d2, d3, d4⟩ := e3.facts
  obtain ⟨f1, f2, f3, f4⟩ := e4.facts
  have l1 := e1.len'
  have l2 := e2.len'
  rw [List.length_map] at l1 l2
  have hii : ((i : Int) < ps.length) = True := by simp; omega
  have hii0 : ((0 : Int) < i) = (i ≠ 0) := by simp; omega
  simp only [hok] at h
  cases hrest : ps[i].rest <;> rw [hrest] at h hr
  all_goals
    simp only [Bool.false_eq_true, ↓reduceIte] at h
    refine goh_ ?_
    refine ⟨fun q => ?_, fun q => by simpa [q] using h⟩
    refine s_l3in ?_
    refine goh_ ?_
    refine ⟨fun q => ?_, fun q => by simpa [q] using h⟩
    refine s_l3in ?_
    refine goh_ ?_
    refine ⟨fun q => ?_, fun q => by simpa [q] using h⟩
    refine s_l3in ?_
    refine goh_ ?_
    clear l1 l2 hr hb e1 e2 e3 e4 hp hii hii0
    grind
end Go.Proofs.YtdonkjepjobhnaaDoor.IM
