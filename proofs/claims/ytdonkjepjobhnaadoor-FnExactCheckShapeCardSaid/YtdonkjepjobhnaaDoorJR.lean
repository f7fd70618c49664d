/- The program's CheckShape. -/
import Derived.Test.YtdonkjepjobhnaaDoorJQ
namespace Go.Proofs.YtdonkjepjobhnaaDoor.IM
open Go Go.Proofs.IM Go.Proofs.Flt
set_option maxHeartbeats 16000000
set_option maxRecDepth 100000
theorem s_implCheckShape {s : AV} {ps : List Pr} {m : Mem} {K : AR → Mem → Prop} (hF : FormsR 0 m) (hp : PsR m s ps) (hl : ps.length < 2 ^ 63) (hL : ∀ p ∈ ps, p.ok)
    (h : ∀ m', m.le m' → K (.ret (shapeF ps).av) m') :
    Sim Tryd.prog 24 [.agg [s]] m K := by
  refine entry (cxok []) Tryd.func24 rfl rfl (by decide) (by decide) ?_
  obtain ⟨a1, a2, a3, a4⟩ := hp.facts
  have hlen := hp.len'
  have hsh : (partsF ps).1 ≠ 0 → shapeF ps = partsF ps := fun q => by simp only [shapeF, if_pos q]
  refine goh_ ?_
  refine loop_ (fun k t l c m' => m' = m ∧ ∃ (i : Nat) (a : Int), Two t l c s ∧ t 3 = .int .i64 a ∧ t 29 = s ∧ t 30 = .int .i64 ps.length ∧ t 31 = .int .i64 i ∧ i ≤ ps.length ∧ k = ps.length - i ∧ totL (ps.drop i) a = totL ps 0) ps.length ?_ ?_
  · exact ⟨rfl, 0, 0, ⟨rfl, rfl, rfl, rfl, by omega⟩, rfl, rfl, rfl, rfl, by omega, by omega, by simp⟩
  intro k t l c m1 KN ⟨hm, i, a, ⟨h1, h2, hl0, hl1, hc⟩, h3, h18, h19, h20, hi, hk, htot⟩ next
  subst m1
  obtain ⟨q0, q0'⟩ := far_of (a := 0) (c := c) (by omega)
  obtain ⟨q1, q1'⟩ := far_of (a := 1) (c := c) (by omega)
  refine goh_ ?_
  refine ⟨fun hd => ?_, fun hd => ?_⟩
  · have hj : i < ps.length := by omega
    obtain ⟨a, i0, c', B, s1, s2, s3, s4, rfl, hb, hz, hr, e1, e2, e3, e4⟩ := hp.at_ hj
    obtain ⟨b1, b2, b3, b4⟩ := e1.facts
    obtain ⟨c1, c2, c3, c4⟩ := e2.facts
    obtain ⟨d1, d2, d3, d4⟩ := e3.facts
    obtain ⟨f1, f2, f3, f4⟩ := e4.facts
    have hw := w64_succ hj hl
    have l3 := e3.len'
    rw [List.length_map] at l3
    rw [totL_at hj] at htot
    refine goh_ ?_
    exact next _ _ _ _ _ (by omega) ⟨rfl, i + 1, _, ⟨h1, h2, by simp only [upd_far, q0, q0', hl0], by simp only [upd_far, q1, q1', hl1], by omega⟩, rfl, h18, h19, rfl, by omega, rfl, htot⟩
  have hin : i = ps.length := by omega
  rw [hin, List.drop_length] at htot
  simp only [totL] at htot
  subst htot
  clear next
  have fa : (ps.length = 0 ∨ 200 < ps.length ∨ 6000 < totL ps 0) → (partsF ps) = (1, 0, 0) := by intro q; simp only [partsF, if_pos q]
  have fb : (ps.length = 0 ∨ 200 < ps.length ∨ 6000 < totL ps 0) → K (.ret (.agg [.int .i64 1, .int .i64 0, .int .i64 0])) m := by
    intro q
    have h := h _ (Mem.le.refl _)
    rw [hsh (by rw [fa q]; decide), fa q] at h
    exact h
  by_cases g1 : ps.length = 0
  · have h := fb (.inl g1)
    have e0 : ((ps.length : Int) == 0) = true := by rw [beq_iff_eq]; omega
    exact gox_
  by_cases g2 : 200 < ps.length
  · have h := fb (.inr (.inl g2))
    have g2' : (200 : Int) < ps.length := by omega
    have e0 : ((ps.length : Int) == 0) = false := by rw [beq_eq_false_iff_ne]; omega
    exact gox_
  by_cases g3 : 6000 < totL ps 0
  · have h := fb (.inr (.inr g3))
    have g2' : ((200 : Int) < ps.length) = False := by rw [eq_iff_iff, iff_false]; omega
    have e0 : ((ps.length : Int) == 0) = false := by rw [beq_eq_false_iff_ne]; omega
    exact gox_
  have g2' : ((200 : Int) < ps.length) = False := by rw [eq_iff_iff, iff_false]; omega
  have g3' : ((6000 : Int) < totL ps 0) = False := by rw [eq_iff_iff, iff_false]; omega
  have e0 : ((ps.length : Int) == 0) = false := by rw [beq_eq_false_iff_ne]; omega
  have hP : partsF ps = parts2 ps := by
    unfold partsF
    rw [if_neg]
    rintro (q | q | q)
    · exact g1 q
    · exact g2 q
    · exact g3 q
  refine goh_ ?_
  clear e0 g2' g3' fa fb h18 h19 h20 h3 hd hk hi
  -- what a fault among the first five means
  have flt : ∀ f : F3, f.1 ≠ 0 → f = partsF ps → K (.ret (.agg [.int .i64 f.1, .int .i64 f.2.1, .int .i64 f.2.2])) m := by
    intro f hf e
    have h := h _ (Mem.le.refl _)
    rw [hsh (by rw [← e]; exact hf), ← e] at h
    exact h
  refine loop_ (fun k t l c m' => m' = m ∧ ∃ (i : Nat), Two t l c s ∧ t 57 = s ∧ t 58 = .int .i64 ps.length ∧ t 59 = .int .i64 i ∧ i ≤ ps.length ∧ k = ps.length - i ∧ (∀ j (q : j < ps.length), j < i → hok ps[j] (j == 0) = true) ∧ orF (scan (headF ps) (ps.length - i) i) (parts3 ps) = partsF ps) ps.length ?_ ?_
  · exact ⟨rfl, 0, ⟨h1, h2, by simp only [upd_far, q0, q0', hl0], by simp only [upd_far, q1, q1', hl1], by omega⟩, rfl, rfl, rfl, by omega, by omega, fun j _ q => by omega, by rw [hP]; rfl⟩
  clear h1 h2 hl0 hl1 hc q0 q0' q1 q1' hin
  intro k t l c m1 KN ⟨hm, i, ⟨h1, h2, hl0, hl1, hc⟩, h46, h47, h48, hi, hk, hH, hS⟩ next
  subst m1
  obtain ⟨q0, q0'⟩ := far_of (a := 0) (c := c) (by omega)
  obtain ⟨q1, q1'⟩ := far_of (a := 1) (c := c) (by omega)
  refine goh_ ?_
  refine ⟨fun hd => ?_, fun hd => ?_⟩
  · have hj : i < ps.length := by omega
    obtain ⟨a, i0, c', B, s1, s2, s3, s4, rfl, hb, hz, hr, e1, e2, e3, e4⟩ := hp.at_ hj
    obtain ⟨b1, b2, b3, b4⟩ := e1.facts
    obtain ⟨c1, c2, c3, c4⟩ := e2.facts
    obtain ⟨d1, d2, d3, d4⟩ := e3.facts
    obtain ⟨f1, f2, f3, f4⟩ := e4.facts
    have hw := w64_succ hj hl
    have ei : ((i : Int) == 0) = (i == 0) := by rw [Bool.eq_iff_iff]; simp
    rw [orF_at hj, headF_eq hj] at hS
    refine goh_ ?_
    refine s_headOk e1 e2 e3 e4 ?_
    cases hh : hok ps[i] (i == 0) with
    | true =>
      rw [hh] at hS
      refine goh_ ?_
      refine next _ _ _ _ _ (by omega) ⟨rfl, i + 1, ⟨h1, h2, by simp only [upd_far, q0, q0', hl0], by simp only [upd_far, q1, q1', hl1], by omega⟩, h46, h47, rfl, by omega, rfl, fun j q q' => ?_, hS⟩
      by_cases e : j = i
      · subst e; exact hh
      · exact hH j q (by omega)
    | false =>
      rw [hh] at hS
      simp only [orF, Bool.false_eq_true, ↓reduceIte] at hS
      have h := flt _ (by simp) hS
      exact gox_
  rw [show i = ps.length by omega, orF_end] at hS
  have hH : ∀ j (q : j < ps.length), hok ps[j] (j == 0) = true := fun j q => hH j q (by omega)
  clear next h46 h47 h48 hd hk hi
  refine loop_ (fun k t l c m' => m' = m ∧ ∃ (i : Nat), Two t l c s ∧ t 73 = s ∧ t 74 = .int .i64 ps.length ∧ t 75 = .int .i64 i ∧ i ≤ ps.length ∧ k = ps.length - i ∧ orF (scan (constF ps) (ps.length - i) i) (parts4 ps) = partsF ps) ps.length ?_ ?_
  · exact ⟨rfl, 0, ⟨h1, h2, by simp only [upd_far, q0, q0', hl0], by simp only [upd_far, q1, q1', hl1], by omega⟩, rfl, rfl, rfl, by omega, by omega, by rw [← hS]; rfl⟩
  clear h1 h2 hl0 hl1 hc q0 q0' q1 q1' hS hP g1 g2 g3
  intro k t l c m1 KN ⟨hm, i, ⟨h1, h2, hl0, hl1, hc⟩, h59, h60, h61, hi, hk, hS⟩ next
  subst m1
  obtain ⟨q0, q0'⟩ := far_of (a := 0) (c := c) (by omega)
  obtain ⟨q1, q1'⟩ := far_of (a := 1) (c := c) (by omega)
  refine goh_ ?_
  refine ⟨fun hd => ?_, fun hd => ?_⟩
  · have hj : i < ps.length := by omega
    obtain ⟨a, i0, c', B, s1, s2, s3, s4, rfl, hb, hz, hr, e1, e2, e3, e4⟩ := hp.at_ hj
    obtain ⟨b1, b2, b3, b4⟩ := e1.facts
    obtain ⟨c1, c2, c3, c4⟩ := e2.facts
    obtain ⟨d1, d2, d3, d4⟩ := e3.facts
    obtain ⟨f1, f2, f3, f4⟩ := e4.facts
    have hw := w64_succ hj hl
    have l2 := e2.len'
    rw [List.length_map] at l2
    have hl2 := (hL ps[i] (by simp)).2.1
    rw [orF_at hj, constF_eq hj] at hS
    refine goh_ ?_
    refine loop_ (fun k t l c m' => m' = m ∧ ∃ (j : Nat), Two t l c (.sl a i0 ps.length c') ∧ t 73 = .sl a i0 ps.length c' ∧ t 74 = .int .i64 ps.length ∧ t 75 = .int .i64 i ∧ t 8 = .int .i64 i ∧ t 81 = s2 ∧ t 82 = .int .i64 ps[i].consts.length ∧ t 83 = .int .i64 j ∧ j ≤ ps[i].consts.length ∧ k = ps[i].consts.length - j ∧ orF (scan (constF1 ps[i] i) (ps[i].consts.length - j) j) (orF (scan (constF ps) (ps.length - (i + 1)) (i + 1)) (parts4 ps)) = partsF ps) ps[i].consts.length ?_ ?_
    · exact ⟨rfl, 0, ⟨h1, h2, by simp only [upd_far, q0, q0', hl0], by simp only [upd_far, q1, q1', hl1], by omega⟩, h59, h60, h61, rfl, rfl, rfl, rfl, by omega, by omega, hS⟩
    clear h1 h2 hl0 hl1 hc q0 q0' q1 q1' hS h59 h60 h61
    intro k t l c m1 KN2 ⟨hm, j, ⟨h1, h2, hl0, hl1, hc⟩, h59, h60, h61, h7, h67, h68, h69, hj', hk', hS⟩ next2
    subst m1
    obtain ⟨q0, q0'⟩ := far_of (a := 0) (c := c) (by omega)
    obtain ⟨q1, q1'⟩ := far_of (a := 1) (c := c) (by omega)
    refine goh_ ?_
    refine ⟨fun hd2 => ?_, fun hd2 => ?_⟩
    · have hjc : j < ps[i].consts.length := by omega
      obtain ⟨a5, i5, c5, B5, rfl, hb5, hz5, hr5⟩ := e2.some_ (j := j) (by simpa using hjc)
      have hr5 := fun l => hr5 l j (by simpa using hjc)
      simp only [List.getElem_map] at hr5
      have hw5 := w64_succ hjc hl2
      rw [orF_at hjc, constF1_eq hjc] at hS
      refine goh_ ?_
      refine s_constOk ?_
      rw [show (⟨ps[i].consts[j].k, ps[i].consts[j].n, ps[i].consts[j].f, ps[i].consts[j].s, ps[i].consts[j].r⟩ : V) = ps[i].consts[j] from rfl]
      cases hh : cok ps[i].consts[j] with
      | true =>
        rw [hh] at hS
        refine goh_ ?_
        exact next2 _ _ _ _ _ (by omega) ⟨rfl, j + 1, ⟨h1, h2, by simp only [upd_far, q0, q0', hl0], by simp only [upd_far, q1, q1', hl1], by omega⟩, h59, h60, h61, h7, h67, h68, rfl, by omega, rfl, hS⟩
      | false =>
        rw [hh] at hS
        simp only [orF, Bool.false_eq_true, ↓reduceIte] at hS
        have h := flt _ (by simp) hS
        exact gox_
    · rw [show j = ps[i].consts.length by omega, orF_end] at hS
      exact next _ _ _ _ _ (by omega) ⟨rfl, i + 1, ⟨h1, h2, hl0, hl1, by omega⟩, h59, h60, rfl, by omega, rfl, hS⟩
  rw [show i = ps.length by omega, orF_end] at hS
  clear next h59 h60 h61 hd hk hi
  refine loop_ (fun k t l c m' => m' = m ∧ ∃ (i : Nat), Two t l c s ∧ t 97 = s ∧ t 98 = .int .i64 ps.length ∧ t 99 = .int .i64 i ∧ i ≤ ps.length ∧ k = ps.length - i ∧ orF (scan (namedF ps) (ps.length - i) i) (parts5 ps) = partsF ps) ps.length ?_ ?_
  · exact ⟨rfl, 0, ⟨h1, h2, by simp only [upd_far, q0, q0', hl0], by simp only [upd_far, q1, q1', hl1], by omega⟩, rfl, rfl, rfl, by omega, by omega, by rw [← hS]; rfl⟩
  clear h1 h2 hl0 hl1 hc q0 q0' q1 q1' hS
  intro k t l c m1 KN ⟨hm, i, ⟨h1, h2, hl0, hl1, hc⟩, h59, h60, h61, hi, hk, hS⟩ next
  subst m1
  obtain ⟨q0, q0'⟩ := far_of (a := 0) (c := c) (by omega)
  obtain ⟨q1, q1'⟩ := far_of (a := 1) (c := c) (by omega)
  refine goh_ ?_
  refine ⟨fun hd => ?_, fun hd => ?_⟩
  · have hj : i < ps.length := by omega
    obtain ⟨a, i0, c', B, s1, s2, s3, s4, rfl, hb, hz, hr, e1, e2, e3, e4⟩ := hp.at_ hj
    obtain ⟨b1, b2, b3, b4⟩ := e1.facts
    obtain ⟨c1, c2, c3, c4⟩ := e2.facts
    obtain ⟨d1, d2, d3, d4⟩ := e3.facts
    obtain ⟨f1, f2, f3, f4⟩ := e4.facts
    have hw := w64_succ hj hl
    have l4 := e4.len'
    rw [List.length_map] at l4
    have hl4 := (hL ps[i] (by simp)).2.2.2
    rw [orF_at hj, namedF_eq hj] at hS
    refine goh_ ?_
    refine loop_ (fun k t l c2 m' => m' = m ∧ ∃ (j : Nat), Two t l c2 (.sl a i0 ps.length c') ∧ (t 13 = .ptr (.lc (c + 4)) 0 0 ∧ l (c + 4) = some ⟨[[.str ps[i].s, .int .i64 ps[i].line, .int .i64 ps[i].params, .bool ps[i].rest, .int .i64 ps[i].regs, s1, s2, s3, s4]], 9⟩ ∧ c + 4 < c2) ∧ t 97 = .sl a i0 ps.length c' ∧ t 98 = .int .i64 ps.length ∧ t 99 = .int .i64 i ∧ t 12 = .int .i64 i ∧ t 105 = s4 ∧ t 106 = .int .i64 ps[i].named.length ∧ t 107 = .int .i64 j ∧ j ≤ ps[i].named.length ∧ j ≤ 500 ∧ k = ps[i].named.length - j ∧ orF (scan (namedF1 ps[i] i) (ps[i].named.length - j) j) (orF (scan (namedF ps) (ps.length - (i + 1)) (i + 1)) (parts5 ps)) = partsF ps) ps[i].named.length ?_ ?_
    · exact ⟨rfl, 0, ⟨h1, h2, by simp only [upd_far, q0, q0', hl0], by simp only [upd_far, q1, q1', hl1], by omega⟩, ⟨rfl, by simp only [upd_same], by omega⟩, h59, h60, h61, rfl, rfl, rfl, rfl, by omega, by omega, by omega, hS⟩
    clear hS h59 h60 h61 h1 h2 hl0 hl1 q0 q0' q1 q1'
    intro k t l c2 m1 KN2 ⟨hm, j, ⟨h1, h2, hl0, hl1, hc2⟩, ⟨h12, hl12, hc12⟩, h59, h60, h61, h7, h67, h68, h69, hj', hj5, hk', hS⟩ next2
    subst m1
    obtain ⟨q0, q0'⟩ := far_of (a := 0) (c := c2) (by omega)
    obtain ⟨q1, q1'⟩ := far_of (a := 1) (c := c2) (by omega)
    obtain ⟨q2, q2'⟩ := far_of (a := c + 4) (c := c2) (by omega)
    refine goh_ ?_
    refine ⟨fun hd2 => ?_, fun hd2 => ?_⟩
    · have hjc : j < ps[i].named.length := by omega
      obtain ⟨a5, i5, c5, B5, rfl, hb5, hz5, hr5⟩ := e4.some_ (j := j) (by simpa using hjc)
      have hr5 := fun l => hr5 l j (by simpa using hjc)
      simp only [List.getElem_map] at hr5
      have hw5 := w64_succ hjc hl4
      rw [orF_at hjc, namedF1_eq hjc] at hS
      by_cases h5 : j = 500
      · have e5 : ((j : Int) == 500) = true := by rw [beq_iff_eq]; omega
        have e6 : decide ((j : Int) < 500) = false := by simp; omega
        rw [e6] at hS
        simp only [Bool.false_and, orF, Bool.false_eq_true, ↓reduceIte] at hS
        have h := flt _ (by simp) hS
        clear h5
        exact gox_
      have e5 : ((j : Int) == 500) = false := by rw [beq_eq_false_iff_ne]; omega
      have e6 : decide ((j : Int) < 500) = true := by simp; omega
      rw [e6, Bool.true_and] at hS
      simp only [List.length_map] at e4
      obtain ⟨x1, x2, x3, x4⟩ := e4.facts
      have hj6 : j + 1 ≤ 500 := by omega
      clear h5
      refine goh_ ?_
      refine s_namedOk e1 e2 e3 e4 ?_
      rw [show (⟨ps[i].named[j].s, ps[i].named[j].reg, ps[i].named[j].lo, ps[i].named[j].hi⟩ : Nm) = ps[i].named[j] from rfl]
      cases hh : nok ps[i] ps[i].named[j] with
      | true =>
        rw [hh] at hS
        refine goh_ ?_
        exact next2 _ _ _ _ _ (by omega) ⟨rfl, j + 1, ⟨h1, h2, by simp only [upd_far, q0, q0', hl0], by simp only [upd_far, q1, q1', hl1], by omega⟩, ⟨h12, by simp only [upd_far, q2, q2', hl12], by omega⟩, h59, h60, h61, h7, h67, h68, rfl, by omega, by omega, rfl, hS⟩
      | false =>
        rw [hh] at hS
        simp only [orF, Bool.false_eq_true, ↓reduceIte] at hS
        have h := flt _ (by simp) hS
        exact gox_
    · rw [show j = ps[i].named.length by omega, orF_end] at hS
      exact next _ _ _ _ _ (by omega) ⟨rfl, i + 1, ⟨h1, h2, hl0, hl1, by omega⟩, h59, h60, rfl, by omega, rfl, hS⟩
  rw [show i = ps.length by omega, orF_end] at hS
  clear next h59 h60 h61 hd hk hi
  refine loop_ (fun k t l c m' => m' = m ∧ ∃ (i : Nat), Two t l c s ∧ t 126 = s ∧ t 127 = .int .i64 ps.length ∧ t 128 = .int .i64 i ∧ i ≤ ps.length ∧ k = ps.length - i ∧ orF (scan (insF ps) (ps.length - i) i) (0, 0, 0) = partsF ps) ps.length ?_ ?_
  · exact ⟨rfl, 0, ⟨h1, h2, by simp only [upd_far, q0, q0', hl0], by simp only [upd_far, q1, q1', hl1], by omega⟩, rfl, rfl, rfl, by omega, by omega, by rw [← hS]; rfl⟩
  clear h1 h2 hl0 hl1 hc q0 q0' q1 q1' hS
  intro k t l c m1 KN ⟨hm, i, ⟨h1, h2, hl0, hl1, hc⟩, h59, h60, h61, hi, hk, hS⟩ next
  subst m1
  obtain ⟨q0, q0'⟩ := far_of (a := 0) (c := c) (by omega)
  obtain ⟨q1, q1'⟩ := far_of (a := 1) (c := c) (by omega)
  refine goh_ ?_
  refine ⟨fun hd => ?_, fun hd => ?_⟩
  · have hj : i < ps.length := by omega
    obtain ⟨a, i0, c', B, s1, s2, s3, s4, rfl, hb, hz, hr, e1, e2, e3, e4⟩ := hp.at_ hj
    obtain ⟨b1, b2, b3, b4⟩ := e1.facts
    obtain ⟨c1, c2, c3, c4⟩ := e2.facts
    obtain ⟨d1, d2, d3, d4⟩ := e3.facts
    obtain ⟨f1, f2, f3, f4⟩ := e4.facts
    have hw := w64_succ hj hl
    have l4 := e3.len'
    rw [List.length_map] at l4
    have hl4 := (hL ps[i] (by simp)).2.2.1
    rw [orF_at hj, insF_eq hj] at hS
    by_cases hz0 : ps[i].ins.length = 0
    · rw [if_pos hz0] at hS
      simp only [orF] at hS
      have h := flt _ (by simp) hS
      have e0 : ((ps[i].ins.length : Int) == 0) = true := by rw [beq_iff_eq]; omega
      exact gox_
    rw [if_neg hz0] at hS
    have e0 : ((ps[i].ins.length : Int) == 0) = false := by rw [beq_eq_false_iff_ne]; omega
    have hreg := hH i hj
    simp only [hok, inR, Bool.and_eq_true, decide_eq_true_eq] at hreg
    have hr0 : 0 ≤ ps[i].regs := hreg.1.1.1.1.2.1
    have hr1 : ps[i].regs ≤ 250 := hreg.1.1.1.1.2.2
    clear hreg
    refine goh_ ?_
    refine loop_ (fun k t l c2 m' => m' = m ∧ ∃ (j : Nat), Two t l c2 (.sl a i0 ps.length c') ∧ (t 17 = .ptr (.lc (c + 4)) 0 0 ∧ l (c + 4) = some ⟨[[.str ps[i].s, .int .i64 ps[i].line, .int .i64 ps[i].params, .bool ps[i].rest, .int .i64 ps[i].regs, s1, s2, s3, s4]], 9⟩ ∧ c + 4 < c2) ∧ t 126 = .sl a i0 ps.length c' ∧ t 127 = .int .i64 ps.length ∧ t 128 = .int .i64 i ∧ t 16 = .int .i64 i ∧ t 140 = s3 ∧ t 141 = .int .i64 ps[i].ins.length ∧ t 142 = .int .i64 j ∧ j ≤ ps[i].ins.length ∧ k = ps[i].ins.length - j ∧ orF (scan (insF1 ps.length ps[i] i) (ps[i].ins.length - j) j) (orF (scan (insF ps) (ps.length - (i + 1)) (i + 1)) (0, 0, 0)) = partsF ps) ps[i].ins.length ?_ ?_
    · exact ⟨rfl, 0, ⟨h1, h2, by simp only [upd_far, q0, q0', hl0], by simp only [upd_far, q1, q1', hl1], by omega⟩, ⟨rfl, by simp only [upd_same], by omega⟩, h59, h60, h61, rfl, rfl, rfl, rfl, by omega, by omega, hS⟩
    clear hS h59 h60 h61 h1 h2 hl0 hl1 q0 q0' q1 q1'
    intro k t l c2 m1 KN2 ⟨hm, j, ⟨h1, h2, hl0, hl1, hc2⟩, ⟨h12, hl12, hc12⟩, h59, h60, h61, h7, h67, h68, h69, hj', hk', hS⟩ next2
    subst m1
    obtain ⟨q0, q0'⟩ := far_of (a := 0) (c := c2) (by omega)
    obtain ⟨q1, q1'⟩ := far_of (a := 1) (c := c2) (by omega)
    obtain ⟨q2, q2'⟩ := far_of (a := c + 4) (c := c2) (by omega)
    refine goh_ ?_
    refine ⟨fun hd2 => ?_, fun hd2 => ?_⟩
    · have hjc : j < ps[i].ins.length := by omega
      obtain ⟨a5, i5, c5, B5, rfl, hb5, hz5, hr5⟩ := e3.some_ (j := j) (by simpa using hjc)
      have hr5 := fun l => hr5 l j (by simpa using hjc)
      simp only [List.getElem_map] at hr5
      have hw5 := w64_succ hjc hl4
      rw [orF_at hjc, insF1_eq hjc, ins_eq hr0 hr1] at hS
      simp only [List.length_map] at e3
      obtain ⟨x1, x2, x3, x4⟩ := e3.facts
      refine goh_ ?_
      refine s_insOk (x := ps[i].ins[j]) hF hp e1 e2 e3 e4 ?_
      have el : ((j : Int) == w64 ((ps[i].ins.length : Int) - 1)) = (j + 1 == ps[i].ins.length) := by
        rw [w64_id (by omega), Bool.eq_iff_iff]; simp; omega
      cases hh : insI ps.length ps[i] ps[i].ins[j] with
      | false =>
        rw [hh] at hS
        simp only [orF, Bool.false_and, Bool.false_eq_true, ↓reduceIte] at hS
        have h := flt _ (by simp) hS
        exact gox_
      | true =>
        rw [hh, Bool.true_and] at hS
        cases hlast : (j + 1 == ps[i].ins.length) with
        | false =>
          rw [hlast] at hS el
          simp only [Bool.not_false, Bool.true_or, ↓reduceIte] at hS
          refine goh_ ?_
          exact next2 _ _ _ _ _ (by omega) ⟨rfl, j + 1, ⟨h1, h2, by simp only [upd_far, q0, q0', hl0], by simp only [upd_far, q1, q1', hl1], by omega⟩, ⟨h12, by simp only [upd_far, q2, q2', hl12], by omega⟩, h59, h60, h61, h7, h67, h68, rfl, by omega, rfl, hS⟩
        | true =>
          rw [hlast] at hS el
          simp only [Bool.not_true, Bool.false_or] at hS
          refine goh_ ?_
          refine s_ends ?_
          cases hends : endsOp ps[i].ins[j].op with
          | true =>
            rw [hends] at hS
            refine goh_ ?_
            exact next2 _ _ _ _ _ (by omega) ⟨rfl, j + 1, ⟨h1, h2, by simp only [upd_far, q0, q0', hl0], by simp only [upd_far, q1, q1', hl1], by omega⟩, ⟨h12, by simp only [upd_far, q2, q2', hl12], by omega⟩, h59, h60, h61, h7, h67, h68, rfl, by omega, rfl, hS⟩
          | false =>
            rw [hends] at hS
            simp only [orF, Bool.false_eq_true, ↓reduceIte] at hS
            have h := flt _ (by simp) hS
            exact gox_
    · rw [show j = ps[i].ins.length by omega, orF_end] at hS
      exact next _ _ _ _ _ (by omega) ⟨rfl, i + 1, ⟨h1, h2, hl0, hl1, by omega⟩, h59, h60, rfl, by omega, rfl, hS⟩
  rw [show i = ps.length by omega, orF_end] at hS
  obtain ⟨hP, hE⟩ := shape_parts (ps := ps) (by rw [← hS])
  simp only [shapeF, hE] at h
  simp only [ne_eq, not_true, if_false] at h
  have n1 := hP.n1
  clear next h59 h60 h61 hd hk hi flt hS
  refine ⟨by omega, ?_⟩
  have hlenp := (hp.mono (Mem.le.push m ⟨List.replicate ps.length [.bool false], 1⟩)).len'
  refine goh_ ?_
  have hrep : List.replicate ps.length [AV.bool false] = (List.replicate ps.length false).map bo := by rw [List.map_replicate]; rfl
  refine loop_ (fun k t l c m1 => ∃ (i : Nat) (made : List Bool), made.length = ps.length ∧ m1 = m.push ⟨made.map bo, 1⟩ ∧ Two t l c s ∧ t 20 = .sl (.hp m.hp.length) 0 ps.length ps.length ∧ t 176 = s ∧ t 177 = .int .i64 ps.length ∧ t 178 = .int .i64 i ∧ i ≤ ps.length ∧ k = ps.length - i ∧ all6 ps (ps.drop i) i made = all6 ps ps 0 (List.replicate ps.length false)) ps.length ?_ ?_
  · exact ⟨0, List.replicate ps.length false, by simp, by rw [← hrep], ⟨h1, h2, by simp only [upd_far, q0, q0', hl0], by simp only [upd_far, q1, q1', hl1], by omega⟩, rfl, rfl, rfl, rfl, by omega, by omega, rfl⟩
  clear hrep hlenp h1 h2 hl0 hl1 hc q0 q0' q1 q1'
  intro k t l c m1 KN ⟨i, made, hml, hm1, ⟨h1, h2, hl0, hl1, hc⟩, h4, h21, h22, h23, hi, hk, hS⟩ next
  subst m1
  have hp1 := hp.mono (Mem.le.push m ⟨made.map bo, 1⟩)
  have hlen1 := hp1.len'
  obtain ⟨q0, q0'⟩ := far_of (a := 0) (c := c) (by omega)
  obtain ⟨q1, q1'⟩ := far_of (a := 1) (c := c) (by omega)
  refine goh_ ?_
  refine ⟨fun hd => ?_, fun hd => ?_⟩
  · have hj : i < ps.length := by omega
    obtain ⟨a, i0, c', B, s1, s2, s3, s4, rfl, hb, hz, hr, e1, e2, e3, e4⟩ := hp.at_ hj
    obtain ⟨b1, b2, b3, b4⟩ := e1.facts
    obtain ⟨c1, c2, c3, c4⟩ := e2.facts
    obtain ⟨d1, d2, d3, d4⟩ := e3.facts
    obtain ⟨f1, f2, f3, f4⟩ := e4.facts
    have hw := w64_succ hj hl
    have hb1 := fun l => blk?_mono (Mem.le.push m ⟨made.map bo, 1⟩) (hb l)
    have hr1 := fun l => row?_mono (Mem.le.push m ⟨made.map bo, 1⟩) (hr l)
    have l3 := (e3.mono (Mem.le.push m ⟨made.map bo, 1⟩)).len'
    rw [List.length_map] at l3
    have hl3 := (hL ps[i] (by simp)).2.2.1
    rw [all6_at hj] at hS
    refine goh_ ?_
    refine loop_ (fun k t l c2 m1 => ∃ (j : Nat) (made : List Bool), made.length = ps.length ∧ m1 = m.push ⟨made.map bo, 1⟩ ∧ Two t l c2 (.sl a i0 ps.length c') ∧ (t 22 = .ptr (.lc (c + 4)) 0 0 ∧ l (c + 4) = some ⟨[[.str ps[i].s, .int .i64 ps[i].line, .int .i64 ps[i].params, .bool ps[i].rest, .int .i64 ps[i].regs, s1, s2, s3, s4]], 9⟩ ∧ c + 4 < c2) ∧ t 20 = .sl (.hp m.hp.length) 0 ps.length ps.length ∧ t 176 = .sl a i0 ps.length c' ∧ t 177 = .int .i64 ps.length ∧ t 178 = .int .i64 i ∧ t 21 = .int .i64 i ∧ t 184 = s3 ∧ t 185 = .int .i64 ps[i].ins.length ∧ t 186 = .int .i64 j ∧ j ≤ ps[i].ins.length ∧ k = ps[i].ins.length - j ∧ cont6 ps (ps.drop (i + 1)) i (ins6 ps i (ps[i].ins.drop j) j made) = all6 ps ps 0 (List.replicate ps.length false)) ps[i].ins.length ?_ ?_
    · exact ⟨0, made, hml, rfl, ⟨h1, h2, by simp only [upd_far, q0, q0', hl0], by simp only [upd_far, q1, q1', hl1], by omega⟩, ⟨rfl, by simp only [upd_same], by omega⟩, h4, h21, h22, h23, rfl, rfl, rfl, rfl, by omega, by omega, hS⟩
    clear hS h4 h21 h22 h23 h1 h2 hl0 hl1 q0 q0' q1 q1' hb1 hr1 l3 hlen1 hp1 hml made
    intro k t l c2 m1 KN2 ⟨j, made, hml, hm1, ⟨h1, h2, hl0, hl1, hc2⟩, ⟨h12, hl12, hc12⟩, h4, h21, h22, h23, h5, h29, h30, h31, hj', hk', hS⟩ next2
    subst m1
    have hp1 := hp.mono (Mem.le.push m ⟨made.map bo, 1⟩)
    have e3' := e3.mono (Mem.le.push m ⟨made.map bo, 1⟩)
    obtain ⟨q0, q0'⟩ := far_of (a := 0) (c := c2) (by omega)
    obtain ⟨q1, q1'⟩ := far_of (a := 1) (c := c2) (by omega)
    obtain ⟨q2, q2'⟩ := far_of (a := c + 4) (c := c2) (by omega)
    refine goh_ ?_
    refine ⟨fun hd2 => ?_, fun hd2 => ?_⟩
    · have hjc : j < ps[i].ins.length := by omega
      have hw5 := w64_succ hjc hl3
      obtain ⟨a5, i5, c5, B5, rfl, hb5, hz5, hr5⟩ := e3'.some_ (j := j) (by simpa using hjc)
      have hr5 := fun l => hr5 l j (by simpa using hjc)
      simp only [List.getElem_map] at hr5
      rw [ins6_at hjc] at hS
      by_cases hop : ps[i].ins[j].op = 11
      rotate_left
      · rw [if_pos hop] at hS
        have e : (ps[i].ins[j].op != 11) = true := by simpa using hop
        refine goh_ ?_
        exact next2 _ _ _ _ _ (by omega) ⟨j + 1, made, hml, rfl, ⟨h1, h2, by simp only [upd_far, q0, q0', hl0], by simp only [upd_far, q1, q1', hl1], by omega⟩, ⟨h12, by simp only [upd_far, q2, q2', hl12], by omega⟩, h4, h21, h22, h23, h5, h29, h30, rfl, by omega, rfl, hS⟩
      obtain ⟨r1, r2⟩ := hP.fn hj hjc hop
      rw [if_neg (by simpa using hop), bad6_eq hj (by omega)] at hS
      have e : (ps[i].ins[j].op != 11) = false := by simpa using hop
      have hbg := bo_get (made := made) (i := ps[i].ins[j].b.toNat) (by omega)
      have hbs := bo_set (made := made) (i := ps[i].ins[j].b.toNat)
      have flt : ∀ made : List Bool, .inl (6, (i : Int), (j : Int)) = all6 ps ps 0 (List.replicate ps.length false) → K (.ret (.agg [.int .i64 6, .int .i64 i, .int .i64 j])) (m.push ⟨made.map bo, 1⟩) := by
        intro made q
        have h := h _ (Mem.le.push m ⟨made.map bo, 1⟩)
        rw [← q] at h
        exact h
      by_cases c1 : ps[i].ins[j].b ≤ i
      · simp only [decide_eq_true c1, Bool.true_or, if_true, cont6] at hS
        have h := flt made hS
        exact gox_
      have c1' : decide (ps[i].ins[j].b ≤ (i : Int)) = false := by simpa using c1
      cases c2' : made.getD ps[i].ins[j].b.toNat true with
      | true =>
        simp only [c2', Bool.or_true, Bool.true_or, if_true, cont6] at hS
        have h := flt made hS
        rw [c2'] at hbg
        exact gox_
      | false =>
        rw [c2'] at hbg
        simp only [c1', c2', Bool.false_or] at hS
        have hpg := (hp.mono (Mem.le.push m ⟨(made.set ps[i].ins[j].b.toNat true).map bo, 1⟩)).at_ (i := ps[i].ins[j].b.toNat) (by omega)
        obtain ⟨a6, i6, c6, B6, z1, z2, z3, z4, e6, hb6, hz6, hr6, y1, -, -, -⟩ := hpg
        obtain ⟨e6a, e6b, e6c⟩ : a = a6 ∧ i0 = i6 ∧ c' = c6 := by cases e6; exact ⟨rfl, rfl, rfl⟩
        subst e6a e6b e6c
        have ly := y1.len'
        rw [List.length_map] at ly
        have hly := (hL ps[ps[i].ins[j].b.toNat] (by simp)).1
        have hb6' := fun l => blk?_mono (l := l) (Mem.le.push m ⟨(made.set ps[i].ins[j].b.toNat true).map bo, 1⟩) (hb l)
        have lu := (e1.mono (Mem.le.push m ⟨(made.set ps[i].ins[j].b.toNat true).map bo, 1⟩)).len'
        rw [List.length_map] at lu
        have hml' : (made.set ps[i].ins[j].b.toNat true).length = ps.length := by simp [hml]
        refine goh_ ?_
        generalize hmd : made.set ps[i].ins[j].b.toNat true = made' at *
        refine loop_ (fun k t l c3 m1 => m1 = m.push ⟨made'.map bo, 1⟩ ∧ ∃ (u : Nat), Two t l c3 (.sl a i0 ps.length c') ∧ (t 22 = .ptr (.lc (c + 4)) 0 0 ∧ l (c + 4) = some ⟨[[.str ps[i].s, .int .i64 ps[i].line, .int .i64 ps[i].params, .bool ps[i].rest, .int .i64 ps[i].regs, s1, s2, .sl a5 i5 (ps[i].ins.map I.av).length c5, s4]], 9⟩ ∧ c + 4 < c3) ∧ t 20 = .sl (.hp m.hp.length) 0 ps.length ps.length ∧ t 176 = .sl a i0 ps.length c' ∧ t 177 = .int .i64 ps.length ∧ t 178 = .int .i64 i ∧ t 21 = .int .i64 i ∧ t 23 = .int .i64 j ∧ t 184 = .sl a5 i5 (ps[i].ins.map I.av).length c5 ∧ t 185 = .int .i64 ps[i].ins.length ∧ t 186 = .int .i64 j ∧ t 218 = z1 ∧ t 219 = .int .i64 ps[ps[i].ins[j].b.toNat].ups.length ∧ t 220 = .int .i64 u ∧ u ≤ ps[ps[i].ins[j].b.toNat].ups.length ∧ k = ps[ps[i].ins[j].b.toNat].ups.length - u ∧ (ps[ps[i].ins[j].b.toNat].ups.take u).all (upOk ps[i]) = true) ps[ps[i].ins[j].b.toNat].ups.length ?_ ?_
        · exact ⟨rfl, 0, ⟨h1, h2, by simp only [upd_far, q0, q0', hl0], by simp only [upd_far, q1, q1', hl1], by omega⟩, ⟨h12, by simp only [upd_far, q2, q2', hl12], by omega⟩, h4, h21, h22, h23, h5, rfl, h29, h30, h31, rfl, rfl, rfl, by omega, by omega, by simp⟩
        clear hc12 hc2 h12 hl12 h4 h21 h22 h23 h5 h29 h30 h31 h1 h2 hl0 hl1 q0 q0' q1 q1' q2 q2'
        intro k t l c3 m1 KN3 ⟨hm1, u, ⟨h1, h2, hl0, hl1, hc3⟩, ⟨h12, hl12, hc12⟩, h4, h21, h22, h23, h5, h6, h29, h30, h31, h32, h33, h34, hu, hk3, hall⟩ next3
        subst m1
        obtain ⟨q0, q0'⟩ := far_of (a := 0) (c := c3) (by omega)
        obtain ⟨q1, q1'⟩ := far_of (a := 1) (c := c3) (by omega)
        obtain ⟨q2, q2'⟩ := far_of (a := c + 4) (c := c3) (by omega)
        refine goh_ ?_
        refine ⟨fun hd3 => ?_, fun hd3 => ?_⟩
        · have hju : u < ps[ps[i].ins[j].b.toNat].ups.length := by omega
          obtain ⟨a7, i7, c7, B7, rfl, hb7, hz7, hr7⟩ := y1.some_ (j := u) (by simpa using hju)
          have hr7 := fun l => hr7 l u (by simpa using hju)
          simp only [List.getElem_map] at hr7
          have hw7 := w64_succ hju hly
          have hall' : upOk ps[i] ps[ps[i].ins[j].b.toNat].ups[u] = true → (ps[ps[i].ins[j].b.toNat].ups.take (u + 1)).all (upOk ps[i]) = true := by
            intro hh
            rw [List.take_succ_eq_append_getElem hju, List.all_append, hall]; simp [hh]
          have hno : upOk ps[i] ps[ps[i].ins[j].b.toNat].ups[u] = false → K (.ret (.agg [.int .i64 6, .int .i64 i, .int .i64 j])) (m.push ⟨made'.map bo, 1⟩) := by
            intro hh
            refine flt made' ?_
            rw [← hS, if_pos]
            · rfl
            · rw [Bool.not_eq_true']
              simp only [upsOk, List.all_eq_false]
              exact ⟨_, List.getElem_mem hju, by simp [hh]⟩
          have go : ∀ (b : Bool) (t' : Nat → AV) (l' : IM.Loc) (c4 : Nat), upOk ps[i] ps[ps[i].ins[j].b.toNat].ups[u] = b → Two t' l' c4 (.sl a i0 ps.length c') → (t' 22 = .ptr (.lc (c + 4)) 0 0 ∧ l' (c + 4) = some ⟨[[.str ps[i].s, .int .i64 ps[i].line, .int .i64 ps[i].params, .bool ps[i].rest, .int .i64 ps[i].regs, s1, s2, .sl a5 i5 (ps[i].ins.map I.av).length c5, s4]], 9⟩ ∧ c + 4 < c4) → t' 20 = t 20 → t' 176 = t 176 → t' 177 = t 177 → t' 178 = t 178 → t' 21 = t 21 → t' 23 = t 23 → t' 184 = t 184 → t' 185 = t 185 → t' 186 = t 186 → t' 218 = t 218 → t' 219 = t 219 → t' 220 = .int .i64 ((u + 1 : Nat) : Int) → ((!b) = false → KN3 ⟨t', l', c4⟩ (m.push ⟨made'.map bo, 1⟩)) ∧ ((!b) = true → K (.ret (.agg [.int .i64 6, .int .i64 i, .int .i64 j])) (m.push ⟨made'.map bo, 1⟩)) := by
            intro b t' l' c4 hb g1 g2 g20 g176 g177 g178 g21 g23 g184 g185 g186 g218 g219 g220
            exact ⟨fun q => next3 _ _ _ _ _ (by omega) ⟨rfl, u + 1, g1, g2, g20.trans h4, g176.trans h21, g177.trans h22, g178.trans h23, g21.trans h5, g23.trans h6, g184.trans h29, g185.trans h30, g186.trans h31, g218.trans h32, g219.trans h33, g220, by omega, rfl, hall' (by rw [hb]; simpa using q)⟩, fun q => hno (by rw [hb]; simpa using q)⟩
          cases hloc : ps[ps[i].ins[j].b.toNat].ups[u].loc with
          | true =>
            refine goh_ ?_
            refine s_within ?_
            refine goh_ ?_
            exact go _ _ _ _ (by simp [upOk, hloc, w64]) ⟨h1, h2, by simp only [upd_far, q0, q0', hl0], by simp only [upd_far, q1, q1', hl1], by omega⟩ ⟨h12, by simp only [upd_far, q2, q2', hl12], by omega⟩ rfl rfl rfl rfl rfl rfl rfl rfl rfl rfl rfl rfl
          | false =>
            refine goh_ ?_
            refine s_within ?_
            refine goh_ ?_
            exact And.symm (go _ _ _ _ (by simp [upOk, hloc, w64]) ⟨h1, h2, by simp only [upd_far, q0, q0', hl0], by simp only [upd_far, q1, q1', hl1], by omega⟩ ⟨h12, by simp only [upd_far, q2, q2', hl12], by omega⟩ rfl rfl rfl rfl rfl rfl rfl rfl rfl rfl rfl rfl)
        · have hua : upsOk ps[i] ps[ps[i].ins[j].b.toNat].ups = true := by
            rw [show u = ps[ps[i].ins[j].b.toNat].ups.length by omega, List.take_length] at hall
            exact hall
          rw [if_neg (by rw [hua]; decide)] at hS
          exact next2 _ _ _ _ _ (by omega) ⟨j + 1, made', hml', rfl, ⟨h1, h2, hl0, hl1, by omega⟩, ⟨h12, hl12, by omega⟩, h4, h21, h22, h23, h5, h29, h30, rfl, by omega, rfl, hS⟩
    · rw [show j = ps[i].ins.length by omega, List.drop_length] at hS
      simp only [ins6, cont6] at hS
      exact next _ _ _ _ _ (by omega) ⟨i + 1, made, hml, rfl, ⟨h1, h2, hl0, hl1, by omega⟩, h4, h21, h22, rfl, by omega, rfl, hS⟩
  rw [show i = ps.length by omega, List.drop_length] at hS
  simp only [all6] at hS
  rw [← hS] at h
  simp only [end7] at h
  clear next h21 h22 h23 hd hk hi hS
  refine loop_ (fun k t l c m1 => m1 = m.push ⟨made.map bo, 1⟩ ∧ ∃ (i : Nat), Two t l c s ∧ t 20 = .sl (.hp m.hp.length) 0 ps.length ps.length ∧ t 257 = s ∧ t 258 = .int .i64 ps.length ∧ t 259 = .int .i64 i ∧ i ≤ ps.length ∧ k = ps.length - i ∧ (i ≠ 0 → orF (scan (last7 made) (ps.length - i) i) (0, 0, 0) = orF (scan (last7 made) (ps.length - 1) 1) (0, 0, 0))) ps.length ?_ ?_
  · exact ⟨rfl, 0, ⟨h1, h2, by simp only [upd_far, q0, q0', hl0], by simp only [upd_far, q1, q1', hl1], by omega⟩, h4, rfl, rfl, rfl, by omega, by omega, fun q => by omega⟩
  clear h1 h2 hl0 hl1 hc q0 q0' q1 q1' h4
  intro k t l c m1 KN ⟨hm, i, ⟨h1, h2, hl0, hl1, hc⟩, h4, h21, h22, h9, hi, hk, hS⟩ next
  subst m1
  obtain ⟨q0, q0'⟩ := far_of (a := 0) (c := c) (by omega)
  obtain ⟨q1, q1'⟩ := far_of (a := 1) (c := c) (by omega)
  refine goh_ ?_
  refine ⟨fun hd => ?_, fun hd => ?_⟩
  · have hj : i < ps.length := by omega
    have hw := w64_succ hj hl
    have hbg := bo_get (made := made) (i := i) (by omega)
    by_cases g0 : i = 0
    · have gp : ((0 : Int) < i) = False := by rw [eq_iff_iff, iff_false]; omega
      have hg : orF (scan (last7 made) (ps.length - (i + 1)) (i + 1)) (0, 0, 0) = orF (scan (last7 made) (ps.length - 1) 1) (0, 0, 0) := by rw [g0]
      clear g0
      refine goh_ ?_
      exact next _ _ _ _ _ (by omega) ⟨rfl, i + 1, ⟨h1, h2, hl0, hl1, by omega⟩, h4, h21, h22, rfl, by omega, rfl, fun _ => hg⟩
    have gp : ((0 : Int) < i) = True := by rw [eq_iff_iff, iff_true]; omega
    replace hS := hS g0
    rw [orF_at hj] at hS
    cases c2 : made.getD i true with
    | true =>
      rw [c2] at hbg
      simp only [last7, c2, if_true] at hS
      refine goh_ ?_
      exact next _ _ _ _ _ (by omega) ⟨rfl, i + 1, ⟨h1, h2, hl0, hl1, by omega⟩, h4, h21, h22, rfl, by omega, rfl, fun _ => hS⟩
    | false =>
      rw [c2] at hbg
      simp only [last7, c2, Bool.false_eq_true, if_false] at hS
      have h := h _ (Mem.le.push m ⟨made.map bo, 1⟩)
      rw [← hS] at h
      simp only [F3.av, orF] at h
      exact gox_
  have h := h _ (Mem.le.push m ⟨made.map bo, 1⟩)
  have hS := hS (by have := hP.n0; omega)
  rw [show i = ps.length by omega, orF_end] at hS
  rw [← hS] at h
  simp only [F3.av] at h
  exact gox_
end Go.Proofs.YtdonkjepjobhnaaDoor.IM
