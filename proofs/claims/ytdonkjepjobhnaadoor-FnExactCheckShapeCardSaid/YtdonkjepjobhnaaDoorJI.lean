/- Whether an instruction is in shape. -/
import Derived.Test.YtdonkjepjobhnaaDoorJH
namespace Go.Proofs.IM
open Go
theorem loop_n {C : Cx} {b : Code} {KN0 KR : St → Mem → Prop} {KX : Nat → St → Mem → Prop} {KP : Value → Mem → Prop} (n : Nat) {st : St} {m : Mem} (h : aRounds (fun KN => aCode C b KN KX KR KP) n st m) : aCode C (.loop b) KN0 KX KR KP st m := ⟨n, h⟩
theorem rounds_s {B : (St → Mem → Prop) → St → Mem → Prop} {n : Nat} {st : St} {m : Mem} : aRounds B (n + 1) st m = B (aRounds B n) st m := rfl
theorem row?_mono {l : Loc} {m m' : Mem} (hm : m.le m') {a : AA} {i : Nat} {r : List AV} (h : row? l m a i = some r) : row? l m' a i = some r := by
  unfold row? at h ⊢
  cases hb : blk? l m a with
  | none => simp [hb] at h
  | some B => rw [blk?_mono hm hb]; rwa [hb] at h
def insS (n : Nat) (p : Pr) (i : I) (last : Bool) : Bool := match rolesL i.op with
  | [r0, r1, r2, r3] => fits n p r0 i.a && fits n p r1 i.b && fits n p r2 i.c && fits n p r3 i.d && (!last || endsOp i.op)
  | _ => false
end Go.Proofs.IM
namespace Go.Proofs.YtdonkjepjobhnaaDoor.IM
open Go Go.Proofs.IM Go.Proofs.Flt
set_option maxHeartbeats 8000000
set_option maxRecDepth 100000
theorem s_l3insOk {s : AV} {ps : List Pr} {i j : Nat} {m : Mem} {K : AR → Mem → Prop} (hp : PsR m s ps) (hi : i < ps.length) (hj : j < ps[i].ins.length) (hl : ps[i].ins.length < 2 ^ 63)
    (h : ∀ m', m.le m' → K (.ret (.bool (insS ps.length ps[i] ps[i].ins[j] (j + 1 == ps[i].ins.length)))) m') :
    Sim Tryd.prog 126 [.agg [s], .int .i64 i, .int .i64 j] m K := by
  refine entry (cxok []) Tryd.func126 rfl rfl (by decide) (by decide) ?_
  obtain ⟨a1, a2, a3, a4⟩ := hp.facts
  obtain ⟨a, i0, c, B, s1, s2, s3, s4, rfl, hb, hz, hr, e1, e2, e3, e4⟩ := hp.at_ hi
  obtain ⟨a', i0', c', B', rfl, hb', hz', hr'⟩ := e3.some_ (j := j) (by simpa using hj)
  have hr' := fun l => hr' l j (by simpa using hj)
  simp only [List.getElem_map] at hr'
  have hii : ((i : Int) < ps.length) = True := by simp; omega
  have hjj : ((j : Int) < ps[i].ins.length) = True := by simp; omega
  refine goh_ ?_
  refine s_l3roles (fun h0 => ?_) (fun r0 r1 r2 r3 h1 => ?_)
  · have h := h m (Mem.le.refl m)
    simp only [insS, h0] at h
    exact gox_
  have w1 : w64 1 = 1 := by decide
  have w2 : w64 2 = 2 := by decide
  have w3 : w64 3 = 3 := by decide
  have w4 : w64 4 = 4 := by decide
  refine goh_ ?_
  refine s_l3fields ?_
  refine goh_ ?_
  refine loop_n (KN0 := fun _ _ => True) 5 ?_
  rw [rounds_s]
  have hle : m.le ((m.push ⟨[[.int .i64 r0], [.int .i64 r1], [.int .i64 r2], [.int .i64 r3]], 1⟩).push ⟨[[.int .i64 ps[i].ins[j].a], [.int .i64 ps[i].ins[j].b], [.int .i64 ps[i].ins[j].c], [.int .i64 ps[i].ins[j].d]], 1⟩) := (Mem.le.push _ _).trans (Mem.le.push _ _)
  have hp' := hp.mono hle
  have hb2 := fun l => blk?_mono hle (hb l)
  have hr2 := fun l => row?_mono hle (hr l)
  have h := h _ hle
  simp only [insS, h1] at h
  refine goh_ ?_
  refine draw_ [(0, .read), (1, .pure), (2, .pure), (3, .pure), (4, .pure), (5, .read), (6, .pure), (7, .step []), (8, .pure)] (by kernel_rfl) ?_
  refine goh_ ?_
  refine s_l3fits hp' hi ?_
  refine goh_ ?_
  refine ⟨fun q => by simp at q; simpa [q] using h, fun q => ?_⟩
  rw [rounds_s]
  refine goh_ ?_
  refine draw_ [(0, .read), (1, .pure), (2, .pure), (3, .pure), (4, .pure), (5, .read), (6, .pure), (7, .step []), (8, .pure)] (by kernel_rfl) ?_
  refine goh_ ?_
  refine s_l3fits hp' hi ?_
  refine goh_ ?_
  refine ⟨fun q => by simp at q; simpa [q] using h, fun q => ?_⟩
  rw [rounds_s]
  refine goh_ ?_
  refine draw_ [(0, .read), (1, .pure), (2, .pure), (3, .pure), (4, .pure), (5, .read), (6, .pure), (7, .step []), (8, .pure)] (by kernel_rfl) ?_
  refine goh_ ?_
  refine s_l3fits hp' hi ?_
  refine goh_ ?_
  refine ⟨fun q => by simp at q; simpa [q] using h, fun q => ?_⟩
  rw [rounds_s]
  refine goh_ ?_
  refine draw_ [(0, .read), (1, .pure), (2, .pure), (3, .pure), (4, .pure), (5, .read), (6, .pure), (7, .step []), (8, .pure)] (by kernel_rfl) ?_
  refine goh_ ?_
  refine s_l3fits hp' hi ?_
  refine goh_ ?_
  refine ⟨fun q => by simp at q; simpa [q] using h, fun q => ?_⟩
  rw [rounds_s]
  have el : ((j : Int) == w64 ((ps[i].ins.length : Int) - 1)) = (j + 1 == ps[i].ins.length) := by
    rw [w64_id (by omega), Bool.eq_iff_iff]; simp; omega
  simp only [endsOp] at h
  refine goh_ ?_
  clear hb hr hb2 hr2 hp hp' hr' hb' e1 e2 e3 e4 el hle
  revert h
  generalize Mem.push _ _ = M
  generalize (j + 1 == ps[i].ins.length) = last
  intro h
  clear hjj hii hl hz hz' a1 a2 a3 a4
  grind
end Go.Proofs.YtdonkjepjobhnaaDoor.IM
