/- The small functions of the shape. -/
import Derived.Test.YtdonkjepjobhnaaDoorJB
namespace Go.Proofs.IM
open Go
def inR (x lo hi : Int) : Bool := decide (lo ≤ x) && decide (x ≤ hi)
def cok (v : V) : Bool := vok v && !(v.k == 5 || v.k == 6 || v.k == 7) && (if v.k = 3 then !Flt.nan v.f else feq v.f 0 && !Flt.neg v.f)
def endsOp (op : Int) : Bool := op == 19 || op == 29 || op == 30
end Go.Proofs.IM
namespace Go.Proofs.YtdonkjepjobhnaaDoor.IM
open Go Go.Proofs.IM Go.Proofs.Flt
theorem s_l3in {x lo hi : Int} {m : Mem} {K : AR → Mem → Prop} (h : K (.ret (.bool (inR x lo hi))) m) : Sim Tryd.prog 127 [.int .i64 x, .int .i64 lo, .int .i64 hi] m K := by
  refine entry (cxok []) Tryd.func127 rfl rfl (by decide) (by decide) ?_
  simp only [inR] at h
  refine go_ ?_
  grind
theorem s_within {x lo hi : Int} {m : Mem} {K : AR → Mem → Prop} (h : K (.ret (.bool (inR x lo hi))) m) : Sim Tryd.prog 60 [.int .i64 x, .int .i64 lo, .int .i64 hi] m K := by
  refine entry (cxok []) Tryd.func60 rfl rfl (by decide) (by decide) ?_
  simp only [inR] at h
  refine go_ ?_
  grind
theorem s_l3fault {a b c : Int} {m : Mem} {K : AR → Mem → Prop} (h : K (.ret (.agg [.int .i64 a, .int .i64 b, .int .i64 c])) m) : Sim Tryd.prog 53 [.int .i64 a, .int .i64 b, .int .i64 c] m K := by
  refine entry (cxok []) Tryd.func53 rfl rfl (by decide) (by decide) ?_
  exact gox_
theorem s_ends {op : Int} {m : Mem} {K : AR → Mem → Prop} (h : K (.ret (.bool (endsOp op))) m) : Sim Tryd.prog 59 [.int .i64 op] m K := by
  refine entry (cxok []) Tryd.func59 rfl rfl (by decide) (by decide) ?_
  simp only [endsOp] at h
  refine go_ ?_
  grind
theorem s_fields {o a b c d : Int} {m : Mem} {K : AR → Mem → Prop} (h : K (.ret (.agg [.int .i64 a, .int .i64 b, .int .i64 c, .int .i64 d])) m) : Sim Tryd.prog 94 [.agg [.int .i64 o, .int .i64 a, .int .i64 b, .int .i64 c, .int .i64 d]] m K := by
  refine entry (cxok []) Tryd.func94 rfl rfl (by decide) (by decide) ?_
  exact gox_
theorem s_l3fields {o a b c d : Int} {m : Mem} {K : AR → Mem → Prop} (h : K (.ret (.sl (.hp m.hp.length) 0 4 4)) (m.push ⟨[[.int .i64 a], [.int .i64 b], [.int .i64 c], [.int .i64 d]], 1⟩)) : Sim Tryd.prog 90 [.agg [.int .i64 o, .int .i64 a, .int .i64 b, .int .i64 c, .int .i64 d]] m K := by
  refine entry (cxok []) Tryd.func90 rfl rfl (by decide) (by decide) ?_
  exact gox_
theorem s_l3constOk {k n r : Int} {f : Nat} {s : ByteArray} {m : Mem} {K : AR → Mem → Prop} (h : K (.ret (.bool (cok ⟨k, n, f, s, r⟩))) m) :
    Sim Tryd.prog 124 [.agg [.int .i64 k, .int .i64 n, .flt f, .str s, .int .i64 r]] m K := by
  refine entry (cxok []) Tryd.func124 rfl rfl (by decide) (by decide) ?_
  simp only [cok] at h
  refine goh_ ?_
  refine s_specValueOk ?_
  have g := fgtr_inf (neg f)
  have e := feq_self f
  cases hz : feq f 0 with
  | true =>
    have := one_over (feq_zero hz)
    rw [hz] at h
    revert h; generalize vok _ = z; intro h
    refine goh_ ?_
    grind
  | false =>
    rw [hz] at h
    revert h; generalize vok _ = z; intro h
    refine goh_ ?_
    grind
theorem s_l3namedOk_ {m : Mem} : True := trivial
end Go.Proofs.YtdonkjepjobhnaaDoor.IM
