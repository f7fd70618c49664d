/- The parts of a shape. -/
import Derived.Test.YtdonkjepjobhnaaDoorJK
namespace Go.Proofs.IM
open Go
theorem PsR.len' {m : Mem} {s : AV} {ps : List Pr} (h : PsR m s ps) (C : Cx) (ty : TypeId) (l : Loc) (K : KS) (ht : isSl (kd C ty) = true) : aLen C ty s l m K = K (.int .i64 ps.length) l m := by
  obtain ⟨rs, h1, h2, -⟩ := h
  rw [h1.len' C ty l K ht, h2]
theorem far_of {a c : Nat} (h : a < c) : (a == c) = false ∧ ∀ k, (a == c + k) = false := ⟨by simp; omega, fun k => by simp; omega⟩
/-- The two private variables that every loop leaves alone. -/
def Two (t : Nat → AV) (l : Loc) (c : Nat) (s : AV) : Prop := t 1 = .ptr (.lc 0) 0 0 ∧ t 2 = .ptr (.lc 1) 0 0 ∧ l 0 = some ⟨[[s]], 1⟩ ∧ l 1 = some ⟨[[.int .i64 0, .int .i64 0, .int .i64 0]], 3⟩ ∧ 2 ≤ c
theorem headF_eq {ps : List Pr} {i : Nat} (h : i < ps.length) : headF ps i = if hok ps[i] (i == 0) = true then none else some (2, (i : Int), 0) := by simp only [headF, List.getElem?_eq_getElem h]
theorem constF_eq {ps : List Pr} {i : Nat} (h : i < ps.length) : constF ps i = scan (constF1 ps[i] i) (ps[i].consts.length - 0) 0 := by simp only [constF, List.getElem?_eq_getElem h]
theorem constF1_eq {p : Pr} {i j : Nat} (h : j < p.consts.length) : constF1 p i j = if cok p.consts[j] = true then none else some (3, (i : Int), (j : Int)) := by simp only [constF1, List.getElem?_eq_getElem h]
theorem namedF_eq {ps : List Pr} {i : Nat} (h : i < ps.length) : namedF ps i = scan (namedF1 ps[i] i) (ps[i].named.length - 0) 0 := by simp only [namedF, List.getElem?_eq_getElem h]
theorem namedF1_eq {p : Pr} {i j : Nat} (h : j < p.named.length) : namedF1 p i j = if (decide ((j : Int) < 500) && nok p p.named[j]) = true then none else some (4, (i : Int), (j : Int)) := by simp only [namedF1, List.getElem?_eq_getElem h]
theorem insF_eq {ps : List Pr} {i : Nat} (h : i < ps.length) : insF ps i = if ps[i].ins.length = 0 then some (5, (i : Int), 0) else scan (insF1 ps.length ps[i] i) (ps[i].ins.length - 0) 0 := by simp only [insF, List.getElem?_eq_getElem h]
theorem insF1_eq {n : Nat} {p : Pr} {i j : Nat} (h : j < p.ins.length) : insF1 n p i j = if insS n p p.ins[j] (j + 1 == p.ins.length) = true then none else some (5, (i : Int), (j : Int)) := by simp only [insF1, List.getElem?_eq_getElem h]
end Go.Proofs.IM
namespace Go.Proofs.YtdonkjepjobhnaaDoor.IM
open Go Go.Proofs.IM Go.Proofs.Flt
set_option maxHeartbeats 16000000
set_option maxRecDepth 100000
theorem s_l3parts {s : AV} {ps : List Pr} {m : Mem} {K : AR → Mem → Prop} (hp : PsR m s ps) (hl : ps.length < 2 ^ 63) (hL : ∀ p ∈ ps, p.ok)
    (h : ∀ m', m.le m' → K (.ret (partsF ps).av) m') :
    Sim Tryd.prog 51 [.agg [s]] m K := by
  refine entry (cxok []) Tryd.func51 rfl rfl (by decide) (by decide) ?_
  obtain ⟨a1, a2, a3, a4⟩ := hp.facts
  have hlen := hp.len'
  refine goh_ ?_
  refine loop_ (fun k t l c m' => m' = m ∧ ∃ (i : Nat) (a : Int), Two t l c s ∧ t 3 = .int .i64 a ∧ t 18 = s ∧ t 19 = .int .i64 ps.length ∧ t 20 = .int .i64 i ∧ i ≤ ps.length ∧ k = ps.length - i ∧ totL (ps.drop i) a = totL ps 0) ps.length ?_ ?_
  · exact ⟨rfl, 0, 0, ⟨rfl, rfl, rfl, rfl, by omega⟩, rfl, rfl, rfl, rfl, by omega, by omega, by simp⟩
  intro k t l c m1 KN ⟨hm, i, a, ⟨h1, h2, hl0, hl1, hc⟩, h3, h18, h19, h20, hi, hk, htot⟩ next
  subst m1
  obtain ⟨q0, q0'⟩ := far_of (a := 0) (c := c) (by omega)
  obtain ⟨q1, q1'⟩ := far_of (a := 1) (c := c) (by omega)
  refine goh_ ?_
  refine ⟨fun hd => ?_, fun hd => ?_⟩
  · have hj : i < ps.length := by omega
    obtain ⟨a, i0, c', B, s1, s2, s3, s4, rfl, hb, hz, hr, e1, e2, e3, e4⟩ := hp.at_ hj
    obtain ⟨b1, b2, b3, b4⟩ := e1.facts
    obtain ⟨c1, c2, c3, c4⟩ := e2.facts
    obtain ⟨d1, d2, d3, d4⟩ := e3.facts
    obtain ⟨f1, f2, f3, f4⟩ := e4.facts
    have hw := w64_succ hj hl
    have l3 := e3.len'
    rw [List.length_map] at l3
    rw [totL_at hj] at htot
    refine goh_ ?_
    exact next _ _ _ _ _ (by omega) ⟨rfl, i + 1, _, ⟨h1, h2, by simp only [upd_far, q0, q0', hl0], by simp only [upd_far, q1, q1', hl1], by omega⟩, rfl, h18, h19, rfl, by omega, rfl, htot⟩
  have hin : i = ps.length := by omega
  rw [hin, List.drop_length] at htot
  simp only [totL] at htot
  subst htot
  clear next
  have e0 : ((ps.length : Int) == 0) = decide (ps.length = 0) := by rw [Bool.eq_iff_iff]; simp
  have fa : (ps.length = 0 ∨ 200 < ps.length ∨ 6000 < totL ps 0) → (partsF ps) = (1, 0, 0) := by intro q; simp only [partsF, if_pos q]
  by_cases g1 : ps.length = 0
  · have h := h _ (Mem.le.refl _)
    rw [fa (.inl g1)] at h
    simp only [F3.av] at h
    simp only [g1] at e0
    refine goh_ ?_
    refine s_l3fault ?_
    exact gox_
  by_cases g2 : 200 < ps.length
  · have h := h _ (Mem.le.refl _)
    rw [fa (.inr (.inl g2))] at h
    simp only [F3.av] at h
    have g2' : (200 : Int) < ps.length := by omega
    have e0 : ((ps.length : Int) == 0) = false := by rw [beq_eq_false_iff_ne]; omega
    refine goh_ ?_
    refine s_l3fault ?_
    exact gox_
  by_cases g3 : 6000 < totL ps 0
  · have h := h _ (Mem.le.refl _)
    rw [fa (.inr (.inr g3))] at h
    simp only [F3.av] at h
    have h200 : ((200 : Int) < ps.length) = False := by rw [eq_iff_iff, iff_false]; omega
    have g2' : ((200 : Int) < ps.length) = False := by rw [eq_iff_iff, iff_false]; omega
    have e0 : ((ps.length : Int) == 0) = false := by rw [beq_eq_false_iff_ne]; omega
    refine goh_ ?_
    refine s_l3fault ?_
    exact gox_
  have g2' : ((200 : Int) < ps.length) = False := by rw [eq_iff_iff, iff_false]; omega
  have g3' : ((6000 : Int) < totL ps 0) = False := by rw [eq_iff_iff, iff_false]; omega
  have e0 : ((ps.length : Int) == 0) = false := by rw [beq_eq_false_iff_ne]; omega
  have hP : partsF ps = parts2 ps := by
    unfold partsF
    rw [if_neg]
    rintro (q | q | q)
    · exact g1 q
    · exact g2 q
    · exact g3 q
  refine goh_ ?_
  clear e0 g2' g3' fa h18 h19 h20 h3 hd hk hi
  refine loop_ (fun k t l c m' => m' = m ∧ ∃ (i : Nat), Two t l c s ∧ t 46 = s ∧ t 47 = .int .i64 ps.length ∧ t 48 = .int .i64 i ∧ i ≤ ps.length ∧ k = ps.length - i ∧ orF (scan (headF ps) (ps.length - i) i) (parts3 ps) = parts2 ps) ps.length ?_ ?_
  · exact ⟨rfl, 0, ⟨h1, h2, by simp only [upd_far, q0, q0', hl0], by simp only [upd_far, q1, q1', hl1], by omega⟩, rfl, rfl, rfl, by omega, by omega, rfl⟩
  clear h1 h2 hl0 hl1 hc q0 q0' q1 q1' hin
  intro k t l c m1 KN ⟨hm, i, ⟨h1, h2, hl0, hl1, hc⟩, h46, h47, h48, hi, hk, hS⟩ next
  subst m1
  obtain ⟨q0, q0'⟩ := far_of (a := 0) (c := c) (by omega)
  obtain ⟨q1, q1'⟩ := far_of (a := 1) (c := c) (by omega)
  refine goh_ ?_
  refine ⟨fun hd => ?_, fun hd => ?_⟩
  · have hj : i < ps.length := by omega
    have hw := w64_succ hj hl
    rw [orF_at hj, headF_eq hj] at hS
    refine s_l3headOk hp hj ?_
    cases hh : hok ps[i] (i == 0) with
    | true =>
      rw [hh] at hS
      refine goh_ ?_
      exact next _ _ _ _ _ (by omega) ⟨rfl, i + 1, ⟨h1, h2, by simp only [upd_far, q0, q0', hl0], by simp only [upd_far, q1, q1', hl1], by omega⟩, h46, h47, rfl, by omega, rfl, hS⟩
    | false =>
      rw [hh] at hS
      have h := h _ (Mem.le.refl _)
      rw [hP, ← hS] at h
      simp only [F3.av, orF, Bool.false_eq_true, ↓reduceIte] at h
      refine goh_ ?_
      refine s_l3fault ?_
      exact gox_
  rw [show i = ps.length by omega, orF_end] at hS
  clear next h46 h47 h48 hd hk hi
  refine loop_ (fun k t l c m' => m' = m ∧ ∃ (i : Nat), Two t l c s ∧ t 59 = s ∧ t 60 = .int .i64 ps.length ∧ t 61 = .int .i64 i ∧ i ≤ ps.length ∧ k = ps.length - i ∧ orF (scan (constF ps) (ps.length - i) i) (parts4 ps) = partsF ps) ps.length ?_ ?_
  · exact ⟨rfl, 0, ⟨h1, h2, by simp only [upd_far, q0, q0', hl0], by simp only [upd_far, q1, q1', hl1], by omega⟩, rfl, rfl, rfl, by omega, by omega, by rw [hP, ← hS]; rfl⟩
  clear h1 h2 hl0 hl1 hc q0 q0' q1 q1' hS hP g1 g2 g3
  intro k t l c m1 KN ⟨hm, i, ⟨h1, h2, hl0, hl1, hc⟩, h59, h60, h61, hi, hk, hS⟩ next
  subst m1
  obtain ⟨q0, q0'⟩ := far_of (a := 0) (c := c) (by omega)
  obtain ⟨q1, q1'⟩ := far_of (a := 1) (c := c) (by omega)
  refine goh_ ?_
  refine ⟨fun hd => ?_, fun hd => ?_⟩
  · have hj : i < ps.length := by omega
    obtain ⟨a, i0, c', B, s1, s2, s3, s4, rfl, hb, hz, hr, e1, e2, e3, e4⟩ := hp.at_ hj
    obtain ⟨b1, b2, b3, b4⟩ := e1.facts
    obtain ⟨c1, c2, c3, c4⟩ := e2.facts
    obtain ⟨d1, d2, d3, d4⟩ := e3.facts
    obtain ⟨f1, f2, f3, f4⟩ := e4.facts
    have hw := w64_succ hj hl
    have l2 := e2.len'
    rw [List.length_map] at l2
    have hl2 := (hL ps[i] (by simp)).2.1
    rw [orF_at hj, constF_eq hj] at hS
    refine goh_ ?_
    refine loop_ (fun k t l c m' => m' = m ∧ ∃ (j : Nat), Two t l c (.sl a i0 ps.length c') ∧ t 59 = .sl a i0 ps.length c' ∧ t 60 = .int .i64 ps.length ∧ t 61 = .int .i64 i ∧ t 7 = .int .i64 i ∧ t 67 = s2 ∧ t 68 = .int .i64 ps[i].consts.length ∧ t 69 = .int .i64 j ∧ j ≤ ps[i].consts.length ∧ k = ps[i].consts.length - j ∧ orF (scan (constF1 ps[i] i) (ps[i].consts.length - j) j) (orF (scan (constF ps) (ps.length - (i + 1)) (i + 1)) (parts4 ps)) = partsF ps) ps[i].consts.length ?_ ?_
    · exact ⟨rfl, 0, ⟨h1, h2, by simp only [upd_far, q0, q0', hl0], by simp only [upd_far, q1, q1', hl1], by omega⟩, h59, h60, h61, rfl, rfl, rfl, rfl, by omega, by omega, hS⟩
    clear h1 h2 hl0 hl1 hc q0 q0' q1 q1' hS h59 h60 h61
    intro k t l c m1 KN2 ⟨hm, j, ⟨h1, h2, hl0, hl1, hc⟩, h59, h60, h61, h7, h67, h68, h69, hj', hk', hS⟩ next2
    subst m1
    obtain ⟨q0, q0'⟩ := far_of (a := 0) (c := c) (by omega)
    obtain ⟨q1, q1'⟩ := far_of (a := 1) (c := c) (by omega)
    refine goh_ ?_
    refine ⟨fun hd2 => ?_, fun hd2 => ?_⟩
    · have hjc : j < ps[i].consts.length := by omega
      obtain ⟨a5, i5, c5, B5, rfl, hb5, hz5, hr5⟩ := e2.some_ (j := j) (by simpa using hjc)
      have hr5 := fun l => hr5 l j (by simpa using hjc)
      simp only [List.getElem_map] at hr5
      have hw5 := w64_succ hjc hl2
      rw [orF_at hjc, constF1_eq hjc] at hS
      refine goh_ ?_
      refine s_l3constOk ?_
      rw [show (⟨ps[i].consts[j].k, ps[i].consts[j].n, ps[i].consts[j].f, ps[i].consts[j].s, ps[i].consts[j].r⟩ : V) = ps[i].consts[j] from rfl]
      cases hh : cok ps[i].consts[j] with
      | true =>
        rw [hh] at hS
        refine goh_ ?_
        exact next2 _ _ _ _ _ (by omega) ⟨rfl, j + 1, ⟨h1, h2, by simp only [upd_far, q0, q0', hl0], by simp only [upd_far, q1, q1', hl1], by omega⟩, h59, h60, h61, h7, h67, h68, rfl, by omega, rfl, hS⟩
      | false =>
        rw [hh] at hS
        have h := h _ (Mem.le.refl _)
        rw [← hS] at h
        simp only [F3.av, orF, Bool.false_eq_true, ↓reduceIte] at h
        refine goh_ ?_
        refine s_l3fault ?_
        exact gox_
    · rw [show j = ps[i].consts.length by omega, orF_end] at hS
      exact next _ _ _ _ _ (by omega) ⟨rfl, i + 1, ⟨h1, h2, hl0, hl1, by omega⟩, h59, h60, rfl, by omega, rfl, hS⟩
  rw [show i = ps.length by omega, orF_end] at hS
  clear next h59 h60 h61 hd hk hi
  refine loop_ (fun k t l c m' => m' = m ∧ ∃ (i : Nat), Two t l c s ∧ t 83 = s ∧ t 84 = .int .i64 ps.length ∧ t 85 = .int .i64 i ∧ i ≤ ps.length ∧ k = ps.length - i ∧ orF (scan (namedF ps) (ps.length - i) i) (parts5 ps) = partsF ps) ps.length ?_ ?_
  · exact ⟨rfl, 0, ⟨h1, h2, by simp only [upd_far, q0, q0', hl0], by simp only [upd_far, q1, q1', hl1], by omega⟩, rfl, rfl, rfl, by omega, by omega, by rw [← hS]; rfl⟩
  clear h1 h2 hl0 hl1 hc q0 q0' q1 q1' hS
  intro k t l c m1 KN ⟨hm, i, ⟨h1, h2, hl0, hl1, hc⟩, h59, h60, h61, hi, hk, hS⟩ next
  subst m1
  obtain ⟨q0, q0'⟩ := far_of (a := 0) (c := c) (by omega)
  obtain ⟨q1, q1'⟩ := far_of (a := 1) (c := c) (by omega)
  refine goh_ ?_
  refine ⟨fun hd => ?_, fun hd => ?_⟩
  · have hj : i < ps.length := by omega
    obtain ⟨a, i0, c', B, s1, s2, s3, s4, rfl, hb, hz, hr, e1, e2, e3, e4⟩ := hp.at_ hj
    obtain ⟨b1, b2, b3, b4⟩ := e1.facts
    obtain ⟨c1, c2, c3, c4⟩ := e2.facts
    obtain ⟨d1, d2, d3, d4⟩ := e3.facts
    obtain ⟨f1, f2, f3, f4⟩ := e4.facts
    have hw := w64_succ hj hl
    have l4 := e4.len'
    rw [List.length_map] at l4
    have hl4 := (hL ps[i] (by simp)).2.2.2
    rw [orF_at hj, namedF_eq hj] at hS
    refine goh_ ?_
    refine loop_ (fun k t l c2 m' => m' = m ∧ ∃ (j : Nat), Two t l c2 (.sl a i0 ps.length c') ∧ (t 12 = .ptr (.lc (c + 4)) 0 0 ∧ l (c + 4) = some ⟨[[.str ps[i].s, .int .i64 ps[i].line, .int .i64 ps[i].params, .bool ps[i].rest, .int .i64 ps[i].regs, s1, s2, s3, s4]], 9⟩ ∧ c + 4 < c2) ∧ t 83 = .sl a i0 ps.length c' ∧ t 84 = .int .i64 ps.length ∧ t 85 = .int .i64 i ∧ t 11 = .int .i64 i ∧ t 91 = s4 ∧ t 92 = .int .i64 ps[i].named.length ∧ t 93 = .int .i64 j ∧ j ≤ ps[i].named.length ∧ k = ps[i].named.length - j ∧ orF (scan (namedF1 ps[i] i) (ps[i].named.length - j) j) (orF (scan (namedF ps) (ps.length - (i + 1)) (i + 1)) (parts5 ps)) = partsF ps) ps[i].named.length ?_ ?_
    · exact ⟨rfl, 0, ⟨h1, h2, by simp only [upd_far, q0, q0', hl0], by simp only [upd_far, q1, q1', hl1], by omega⟩, ⟨rfl, by simp only [upd_same], by omega⟩, h59, h60, h61, rfl, rfl, rfl, rfl, by omega, by omega, hS⟩
    clear hS h59 h60 h61 h1 h2 hl0 hl1 q0 q0' q1 q1'
    intro k t l c2 m1 KN2 ⟨hm, j, ⟨h1, h2, hl0, hl1, hc2⟩, ⟨h12, hl12, hc12⟩, h59, h60, h61, h7, h67, h68, h69, hj', hk', hS⟩ next2
    subst m1
    obtain ⟨q0, q0'⟩ := far_of (a := 0) (c := c2) (by omega)
    obtain ⟨q1, q1'⟩ := far_of (a := 1) (c := c2) (by omega)
    obtain ⟨q2, q2'⟩ := far_of (a := c + 4) (c := c2) (by omega)
    refine goh_ ?_
    refine ⟨fun hd2 => ?_, fun hd2 => ?_⟩
    · have hjc : j < ps[i].named.length := by omega
      have hw5 := w64_succ hjc hl4
      rw [orF_at hjc, namedF1_eq hjc] at hS
      refine s_l3namedOk e1 e2 e3 e4 hjc ?_
      cases hh : decide ((j : Int) < 500) && nok ps[i] ps[i].named[j] with
      | true =>
        rw [hh] at hS
        refine goh_ ?_
        exact next2 _ _ _ _ _ (by omega) ⟨rfl, j + 1, ⟨h1, h2, hl0, hl1, by omega⟩, ⟨h12, hl12, by omega⟩, h59, h60, h61, h7, h67, h68, rfl, by omega, rfl, hS⟩
      | false =>
        rw [hh] at hS
        have h := h _ (Mem.le.refl _)
        rw [← hS] at h
        simp only [F3.av, orF, Bool.false_eq_true, ↓reduceIte] at h
        refine goh_ ?_
        refine s_l3fault ?_
        exact gox_
    · rw [show j = ps[i].named.length by omega, orF_end] at hS
      exact next _ _ _ _ _ (by omega) ⟨rfl, i + 1, ⟨h1, h2, hl0, hl1, by omega⟩, h59, h60, rfl, by omega, rfl, hS⟩
  rw [show i = ps.length by omega, orF_end] at hS
  clear next h59 h60 h61 hd hk hi
  refine loop_ (fun k t l c m' => m.le m' ∧ ∃ (i : Nat), Two t l c s ∧ t 106 = s ∧ t 107 = .int .i64 ps.length ∧ t 108 = .int .i64 i ∧ i ≤ ps.length ∧ k = ps.length - i ∧ orF (scan (insF ps) (ps.length - i) i) (0, 0, 0) = partsF ps) ps.length ?_ ?_
  · exact ⟨Mem.le.refl _, 0, ⟨h1, h2, by simp only [upd_far, q0, q0', hl0], by simp only [upd_far, q1, q1', hl1], by omega⟩, rfl, rfl, rfl, by omega, by omega, by rw [← hS]; rfl⟩
  clear h1 h2 hl0 hl1 hc q0 q0' q1 q1' hS
  intro k t l c m1 KN ⟨hm, i, ⟨h1, h2, hl0, hl1, hc⟩, h59, h60, h61, hi, hk, hS⟩ next
  replace h := fun m' (hm' : m1.le m') => h m' (hm.trans hm')
  replace next := fun k' t' l' c' m' (hk' : k' < k) (hm' : m1.le m') q => next k' t' l' c' m' hk' ⟨hm.trans hm', q⟩
  replace hp := hp.mono hm
  replace hlen := hp.len'
  clear hm
  obtain ⟨q0, q0'⟩ := far_of (a := 0) (c := c) (by omega)
  obtain ⟨q1, q1'⟩ := far_of (a := 1) (c := c) (by omega)
  refine goh_ ?_
  refine ⟨fun hd => ?_, fun hd => ?_⟩
  · have hj : i < ps.length := by omega
    obtain ⟨a, i0, c', B, s1, s2, s3, s4, rfl, hb, hz, hr, e1, e2, e3, e4⟩ := hp.at_ hj
    obtain ⟨b1, b2, b3, b4⟩ := e1.facts
    obtain ⟨c1, c2, c3, c4⟩ := e2.facts
    obtain ⟨d1, d2, d3, d4⟩ := e3.facts
    obtain ⟨f1, f2, f3, f4⟩ := e4.facts
    have hw := w64_succ hj hl
    have l4 := e3.len'
    rw [List.length_map] at l4
    have hl4 := (hL ps[i] (by simp)).2.2.1
    rw [orF_at hj, insF_eq hj] at hS
    by_cases hz0 : ps[i].ins.length = 0
    · rw [if_pos hz0] at hS
      have h := h _ (Mem.le.refl _)
      rw [← hS] at h
      simp only [F3.av, orF] at h
      have e0 : ((ps[i].ins.length : Int) == 0) = true := by rw [beq_iff_eq]; omega
      refine goh_ ?_
      refine s_l3fault ?_
      exact gox_
    rw [if_neg hz0] at hS
    have e0 : ((ps[i].ins.length : Int) == 0) = false := by rw [beq_eq_false_iff_ne]; omega
    refine goh_ ?_
    refine loop_ (fun k t l c2 m' => m1.le m' ∧ ∃ (j : Nat), Two t l c2 (.sl a i0 ps.length c') ∧ t 106 = .sl a i0 ps.length c' ∧ t 107 = .int .i64 ps.length ∧ t 108 = .int .i64 i ∧ t 14 = .int .i64 i ∧ t 120 = s3 ∧ t 121 = .int .i64 ps[i].ins.length ∧ t 122 = .int .i64 j ∧ j ≤ ps[i].ins.length ∧ k = ps[i].ins.length - j ∧ orF (scan (insF1 ps.length ps[i] i) (ps[i].ins.length - j) j) (orF (scan (insF ps) (ps.length - (i + 1)) (i + 1)) (0, 0, 0)) = partsF ps) ps[i].ins.length ?_ ?_
    · exact ⟨Mem.le.refl _, 0, ⟨h1, h2, by simp only [upd_far, q0, q0', hl0], by simp only [upd_far, q1, q1', hl1], by omega⟩, h59, h60, h61, rfl, rfl, rfl, rfl, by omega, by omega, hS⟩
    clear hS h59 h60 h61 h1 h2 hl0 hl1 q0 q0' q1 q1'
    intro k t l c2 m2 KN2 ⟨hm, j, ⟨h1, h2, hl0, hl1, hc2⟩, h59, h60, h61, h7, h67, h68, h69, hj', hk', hS⟩ next2
    replace h := fun m' (hm' : m2.le m') => h m' (hm.trans hm')
    replace next := fun k' t' l' c' m' hk' (hm' : m2.le m') => next k' t' l' c' m' hk' (hm.trans hm')
    replace next2 := fun k' t' l' c' m' hk' (hm' : m2.le m') q => next2 k' t' l' c' m' hk' ⟨hm.trans hm', q⟩
    replace hp := hp.mono hm
    clear hb hr e1 e2 e3 e4 hlen l4
    obtain ⟨q0, q0'⟩ := far_of (a := 0) (c := c2) (by omega)
    obtain ⟨q1, q1'⟩ := far_of (a := 1) (c := c2) (by omega)
    refine goh_ ?_
    refine ⟨fun hd2 => ?_, fun hd2 => ?_⟩
    · have hjc : j < ps[i].ins.length := by omega
      have hw5 := w64_succ hjc hl4
      rw [orF_at hjc, insF1_eq hjc] at hS
      refine s_l3insOk hp hj hjc hl4 ?_
      intro m3 hm3
      cases hh : insS ps.length ps[i] ps[i].ins[j] (j + 1 == ps[i].ins.length) with
      | true =>
        rw [hh] at hS
        refine goh_ ?_
        exact next2 _ _ _ _ _ (by omega) hm3 ⟨j + 1, ⟨h1, h2, hl0, hl1, by omega⟩, h59, h60, h61, h7, h67, h68, rfl, by omega, rfl, hS⟩
      | false =>
        rw [hh] at hS
        have h := h _ hm3
        rw [← hS] at h
        simp only [F3.av, orF, Bool.false_eq_true, ↓reduceIte] at h
        refine goh_ ?_
        refine s_l3fault ?_
        exact gox_
    · rw [show j = ps[i].ins.length by omega, orF_end] at hS
      exact next _ _ _ _ _ (by omega) (Mem.le.refl _) ⟨i + 1, ⟨h1, h2, hl0, hl1, by omega⟩, h59, h60, rfl, by omega, rfl, hS⟩
  rw [show i = ps.length by omega, orF_end] at hS
  have h := h _ (Mem.le.refl _)
  rw [← hS] at h
  simp only [F3.av] at h
  exact gox_
end Go.Proofs.YtdonkjepjobhnaaDoor.IM
