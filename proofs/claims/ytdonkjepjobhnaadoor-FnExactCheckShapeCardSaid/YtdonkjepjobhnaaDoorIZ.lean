/- Equality, as the laws ask it. -/
import Derived.Test.YtdonkjepjobhnaaDoorIY
namespace Go.Proofs.YtdonkjepjobhnaaDoor.IM
open Go Go.Proofs.IM Go.Proofs.Flt
theorem s_sameFloat {a b : Nat} {m : Mem} {K : AR → Mem → Prop} (hs : SameF a b) (h : K (.ret (.bool true)) m) : Sim Tryd.prog 140 [.flt a, .flt b] m K := by
  refine entry (cxok []) Tryd.func140 rfl rfl (by decide) (by decide) ?_
  have ea : fne a a = nan a := by rw [fne_iff, feq_self, Bool.not_not]
  have eb : fne b b = nan b := by rw [fne_iff, feq_self, Bool.not_not]
  cases hna : nan a with
  | true =>
    have hnb : nan b = true := by
      rcases hs with e | e
      · rw [← e]; exact hna
      · exact e.2
    rw [hna] at ea; rw [hnb] at eb
    exact gox_
  | false =>
    have e : b = a := by
      rcases hs with e | e
      · exact e.symm
      · rw [hna] at e; cases e.1
    subst e
    rw [hna] at ea
    have es : feq b b = true := by rw [feq_self, hna]; rfl
    cases hz : feq b 0 with
    | true =>
      have := one_over (feq_zero hz)
      exact gox_
    | false =>
      exact gox_
theorem s_eqFault {a b c : Int} {m : Mem} {K : AR → Mem → Prop} (h : K (.ret (.bool true)) m) : Sim Tryd.prog 25 [.agg [.int .i64 a, .int .i64 b, .int .i64 c], .agg [.int .i64 a, .int .i64 b, .int .i64 c]] m K := by
  refine entry (cxok []) Tryd.func25 rfl rfl (by decide) (by decide) ?_
  refine go_ ?_
  simp [h]
theorem s_eqUp {a : Bool} {b : Int} {m : Mem} {K : AR → Mem → Prop} (h : K (.ret (.bool true)) m) : Sim Tryd.prog 178 [.agg [.bool a, .int .i64 b], .agg [.bool a, .int .i64 b]] m K := by
  refine entry (cxok []) Tryd.func178 rfl rfl (by decide) (by decide) ?_
  refine go_ ?_
  simp [h]
theorem s_eqIns {a b c d e : Int} {m : Mem} {K : AR → Mem → Prop} (h : K (.ret (.bool true)) m) : Sim Tryd.prog 179 [.agg [.int .i64 a, .int .i64 b, .int .i64 c, .int .i64 d, .int .i64 e], .agg [.int .i64 a, .int .i64 b, .int .i64 c, .int .i64 d, .int .i64 e]] m K := by
  refine entry (cxok []) Tryd.func179 rfl rfl (by decide) (by decide) ?_
  refine go_ ?_
  simp [h]
theorem s_eqNamed {s : ByteArray} {a b c : Int} {m : Mem} {K : AR → Mem → Prop} (h : K (.ret (.bool true)) m) : Sim Tryd.prog 180 [.agg [.str s, .int .i64 a, .int .i64 b, .int .i64 c], .agg [.str s, .int .i64 a, .int .i64 b, .int .i64 c]] m K := by
  refine entry (cxok []) Tryd.func180 rfl rfl (by decide) (by decide) ?_
  refine go_ ?_
  simp [h]
theorem s_eqValue {k n r : Int} {f g : Nat} {s : ByteArray} {m : Mem} {K : AR → Mem → Prop} (hs : SameF f g) (h : K (.ret (.bool true)) m) : Sim Tryd.prog 84 [.agg [.int .i64 k, .int .i64 n, .flt f, .str s, .int .i64 r], .agg [.int .i64 k, .int .i64 n, .flt g, .str s, .int .i64 r]] m K := by
  refine entry (cxok []) Tryd.func84 rfl rfl (by decide) (by decide) ?_
  refine go_ ?_
  refine s_sameFloat hs ?_
  refine go_ ?_
  simp [h]
theorem s_eqUpS {s s' : AV} {xs : List U} {m : Mem} {K : AR → Mem → Prop} (hs : SlR m 2 s (xs.map U.av)) (hs' : SlR m 2 s' (xs.map U.av)) (hl : xs.length < 2 ^ 63) (h : K (.ret (.bool true)) m) :
    Sim Tryd.prog 153 [s, s'] m K := by
  refine entry (cxok []) Tryd.func153 rfl rfl (by decide) (by decide) ?_
  have hlen := hs.len'
  have hlen' := hs'.len'
  rw [List.length_map] at hlen hlen'
  refine goh_ ?_
  refine loop_ (fun k t l c m' => m' = m ∧ ∃ (i : Nat), t 0 = s ∧ t 1 = s' ∧ t 5 = .int .i64 i ∧ i ≤ xs.length ∧ k = xs.length - i) xs.length ?_ ?_
  · exact ⟨rfl, 0, rfl, rfl, rfl, by omega, by omega⟩
  intro k t l c m KN ⟨hm, i, h0, h1, h5, hi, hk⟩ next
  subst hm
  refine goh_ ?_
  intro hc
  · have hj : i < xs.length := by omega
    obtain ⟨a, i0, cap, B, rfl, hb, hz, hr⟩ := hs.some_ (j := i) (by simpa using hj)
    obtain ⟨a', i0', cap', B', rfl, hb', hz', hr'⟩ := hs'.some_ (j := i) (by simpa using hj)
    have hr := fun l => hr l i (by simpa using hj)
    have hr' := fun l => hr' l i (by simpa using hj)
    simp only [List.getElem_map] at hr hr'
    have hw := w64_succ hj hl
    refine goh_ ?_
    refine draw_ [(0, .pure), (1, .pure), (2, .pure), (3, .read), (4, .pure), (5, .pure), (6, .pure), (7, .read), (8, .step []), (9, .pure)] (by kernel_rfl) ?_
    refine goh_ ?_
    refine s_eqUp ?_
    refine goh_ ?_
    exact next _ _ _ _ _ (by omega) ⟨rfl, i + 1, h0, h1, rfl, by omega, rfl⟩
theorem s_eqValueS {s s' : AV} {xs : List V} {m : Mem} {K : AR → Mem → Prop} (hs : SlR m 5 s (xs.map V.av)) (hs' : SlR m 5 s' (xs.map V.av)) (hl : xs.length < 2 ^ 63) (h : K (.ret (.bool true)) m) :
    Sim Tryd.prog 154 [s, s'] m K := by
  refine entry (cxok []) Tryd.func154 rfl rfl (by decide) (by decide) ?_
  have hlen := hs.len'
  have hlen' := hs'.len'
  rw [List.length_map] at hlen hlen'
  refine goh_ ?_
  refine loop_ (fun k t l c m' => m' = m ∧ ∃ (i : Nat), t 0 = s ∧ t 1 = s' ∧ t 5 = .int .i64 i ∧ i ≤ xs.length ∧ k = xs.length - i) xs.length ?_ ?_
  · exact ⟨rfl, 0, rfl, rfl, rfl, by omega, by omega⟩
  intro k t l c m KN ⟨hm, i, h0, h1, h5, hi, hk⟩ next
  subst hm
  refine goh_ ?_
  intro hc
  · have hj : i < xs.length := by omega
    obtain ⟨a, i0, cap, B, rfl, hb, hz, hr⟩ := hs.some_ (j := i) (by simpa using hj)
    obtain ⟨a', i0', cap', B', rfl, hb', hz', hr'⟩ := hs'.some_ (j := i) (by simpa using hj)
    have hr := fun l => hr l i (by simpa using hj)
    have hr' := fun l => hr' l i (by simpa using hj)
    simp only [List.getElem_map] at hr hr'
    have hw := w64_succ hj hl
    refine goh_ ?_
    refine draw_ [(0, .pure), (1, .pure), (2, .pure), (3, .read), (4, .pure), (5, .pure), (6, .pure), (7, .read), (8, .step []), (9, .pure)] (by kernel_rfl) ?_
    refine goh_ ?_
    refine s_eqValue (.inl rfl) ?_
    refine goh_ ?_
    exact next _ _ _ _ _ (by omega) ⟨rfl, i + 1, h0, h1, rfl, by omega, rfl⟩
theorem s_eqInsS {s s' : AV} {xs : List I} {m : Mem} {K : AR → Mem → Prop} (hs : SlR m 5 s (xs.map I.av)) (hs' : SlR m 5 s' (xs.map I.av)) (hl : xs.length < 2 ^ 63) (h : K (.ret (.bool true)) m) :
    Sim Tryd.prog 155 [s, s'] m K := by
  refine entry (cxok []) Tryd.func155 rfl rfl (by decide) (by decide) ?_
  have hlen := hs.len'
  have hlen' := hs'.len'
  rw [List.length_map] at hlen hlen'
  refine goh_ ?_
  refine loop_ (fun k t l c m' => m' = m ∧ ∃ (i : Nat), t 0 = s ∧ t 1 = s' ∧ t 5 = .int .i64 i ∧ i ≤ xs.length ∧ k = xs.length - i) xs.length ?_ ?_
  · exact ⟨rfl, 0, rfl, rfl, rfl, by omega, by omega⟩
  intro k t l c m KN ⟨hm, i, h0, h1, h5, hi, hk⟩ next
  subst hm
  refine goh_ ?_
  intro hc
  · have hj : i < xs.length := by omega
    obtain ⟨a, i0, cap, B, rfl, hb, hz, hr⟩ := hs.some_ (j := i) (by simpa using hj)
    obtain ⟨a', i0', cap', B', rfl, hb', hz', hr'⟩ := hs'.some_ (j := i) (by simpa using hj)
    have hr := fun l => hr l i (by simpa using hj)
    have hr' := fun l => hr' l i (by simpa using hj)
    simp only [List.getElem_map] at hr hr'
    have hw := w64_succ hj hl
    refine goh_ ?_
    refine draw_ [(0, .pure), (1, .pure), (2, .pure), (3, .read), (4, .pure), (5, .pure), (6, .pure), (7, .read), (8, .step []), (9, .pure)] (by kernel_rfl) ?_
    refine goh_ ?_
    refine s_eqIns ?_
    refine goh_ ?_
    exact next _ _ _ _ _ (by omega) ⟨rfl, i + 1, h0, h1, rfl, by omega, rfl⟩
theorem s_eqNamedS {s s' : AV} {xs : List Nm} {m : Mem} {K : AR → Mem → Prop} (hs : SlR m 4 s (xs.map Nm.av)) (hs' : SlR m 4 s' (xs.map Nm.av)) (hl : xs.length < 2 ^ 63) (h : K (.ret (.bool true)) m) :
    Sim Tryd.prog 156 [s, s'] m K := by
  refine entry (cxok []) Tryd.func156 rfl rfl (by decide) (by decide) ?_
  have hlen := hs.len'
  have hlen' := hs'.len'
  rw [List.length_map] at hlen hlen'
  refine goh_ ?_
  refine loop_ (fun k t l c m' => m' = m ∧ ∃ (i : Nat), t 0 = s ∧ t 1 = s' ∧ t 5 = .int .i64 i ∧ i ≤ xs.length ∧ k = xs.length - i) xs.length ?_ ?_
  · exact ⟨rfl, 0, rfl, rfl, rfl, by omega, by omega⟩
  intro k t l c m KN ⟨hm, i, h0, h1, h5, hi, hk⟩ next
  subst hm
  refine goh_ ?_
  intro hc
  · have hj : i < xs.length := by omega
    obtain ⟨a, i0, cap, B, rfl, hb, hz, hr⟩ := hs.some_ (j := i) (by simpa using hj)
    obtain ⟨a', i0', cap', B', rfl, hb', hz', hr'⟩ := hs'.some_ (j := i) (by simpa using hj)
    have hr := fun l => hr l i (by simpa using hj)
    have hr' := fun l => hr' l i (by simpa using hj)
    simp only [List.getElem_map] at hr hr'
    have hw := w64_succ hj hl
    refine goh_ ?_
    refine draw_ [(0, .pure), (1, .pure), (2, .pure), (3, .read), (4, .pure), (5, .pure), (6, .pure), (7, .read), (8, .step []), (9, .pure)] (by kernel_rfl) ?_
    refine goh_ ?_
    refine s_eqNamed ?_
    refine goh_ ?_
    exact next _ _ _ _ _ (by omega) ⟨rfl, i + 1, h0, h1, rfl, by omega, rfl⟩
theorem s_eqProto {p : Pr} {s1 s2 s3 s4 s1' s2' s3' s4' : AV} {m : Mem} {K : AR → Mem → Prop} (h1 : SlR m 2 s1 (p.ups.map U.av)) (h2 : SlR m 5 s2 (p.consts.map V.av)) (h3 : SlR m 5 s3 (p.ins.map I.av)) (h4 : SlR m 4 s4 (p.named.map Nm.av))
    (h1' : SlR m 2 s1' (p.ups.map U.av)) (h2' : SlR m 5 s2' (p.consts.map V.av)) (h3' : SlR m 5 s3' (p.ins.map I.av)) (h4' : SlR m 4 s4' (p.named.map Nm.av)) (ok : p.ok) (h : K (.ret (.bool true)) m) :
    Sim Tryd.prog 104 [.agg [.str p.s, .int .i64 p.line, .int .i64 p.params, .bool p.rest, .int .i64 p.regs, s1, s2, s3, s4], .agg [.str p.s, .int .i64 p.line, .int .i64 p.params, .bool p.rest, .int .i64 p.regs, s1', s2', s3', s4']] m K := by
  refine entry (cxok []) Tryd.func104 rfl rfl (by decide) (by decide) ?_
  obtain ⟨a1, a2, a3, a4⟩ := h1.facts
  obtain ⟨b1, b2, b3, b4⟩ := h2.facts
  obtain ⟨c1, c2, c3, c4⟩ := h3.facts
  obtain ⟨d1, d2, d3, d4⟩ := h4.facts
  obtain ⟨e1, e2, e3, e4⟩ := h1'.facts
  obtain ⟨f1, f2, f3, f4⟩ := h2'.facts
  obtain ⟨g1, g2, g3, g4⟩ := h3'.facts
  obtain ⟨i1, i2, i3, i4⟩ := h4'.facts
  obtain ⟨l1, l2, l3, l4⟩ := ok
  refine goh_ ?_
  refine s_eqUpS h1 h1' l1 ?_
  refine goh_ ?_
  refine s_eqValueS h2 h2' l2 ?_
  refine goh_ ?_
  refine s_eqInsS h3 h3' l3 ?_
  refine goh_ ?_
  refine s_eqNamedS h4 h4' l4 ?_
  exact gox_
theorem s_eqProtoS {s s' : AV} {ps : List Pr} {m : Mem} {K : AR → Mem → Prop} (hp : PsR m s ps) (hp' : PsR m s' ps) (hl : ps.length < 2 ^ 63) (hL : ∀ p ∈ ps, p.ok) (h : K (.ret (.bool true)) m) :
    Sim Tryd.prog 41 [s, s'] m K := by
  refine entry (cxok []) Tryd.func41 rfl rfl (by decide) (by decide) ?_
  obtain ⟨rs, hs, hrl, hrow⟩ := hp
  obtain ⟨rs', hs', hrl', hrow'⟩ := hp'
  have hlen := hs.len'
  have hlen' := hs'.len'
  rw [hrl] at hlen
  rw [hrl'] at hlen'
  refine goh_ ?_
  refine loop_ (fun k t l c m' => m' = m ∧ ∃ (i : Nat), t 0 = s ∧ t 1 = s' ∧ t 5 = .int .i64 i ∧ i ≤ ps.length ∧ k = ps.length - i) ps.length ?_ ?_
  · exact ⟨rfl, 0, rfl, rfl, rfl, by omega, by omega⟩
  intro k t l c m KN ⟨hm, i, h0, h1, h5, hi, hk⟩ next
  subst hm
  refine goh_ ?_
  intro hc
  · have hj : i < ps.length := by omega
    have hjr : i < rs.length := by omega
    have hjr' : i < rs'.length := by omega
    obtain ⟨a, i0, cap, B, rfl, hb, hz, hr⟩ := hs.some_ hjr
    obtain ⟨a', i0', cap', B', rfl, hb', hz', hr'⟩ := hs'.some_ hjr'
    have hr := fun l => hr l i hjr
    have hr' := fun l => hr' l i hjr'
    obtain ⟨s1, s2, s3, s4, e0, e1, e2, e3, e4⟩ := (hrow i rs[i] ps[i] (by simp [hjr]) (by simp [hj])).ex
    obtain ⟨s1', s2', s3', s4', e0', e1', e2', e3', e4'⟩ := (hrow' i rs'[i] ps[i] (by simp [hjr']) (by simp [hj])).ex
    rw [e0] at hr
    rw [e0'] at hr'
    obtain ⟨a1, a2, a3, a4⟩ := e1.facts
    obtain ⟨b1, b2, b3, b4⟩ := e2.facts
    obtain ⟨c1, c2, c3, c4⟩ := e3.facts
    obtain ⟨d1, d2, d3, d4⟩ := e4.facts
    obtain ⟨f1, f2, f3, f4⟩ := e1'.facts
    obtain ⟨g1, g2, g3, g4⟩ := e2'.facts
    obtain ⟨i1, i2, i3, i4⟩ := e3'.facts
    obtain ⟨j1, j2, j3, j4⟩ := e4'.facts
    have ok := hL ps[i] (by simp)
    have hw := w64_succ hj hl
    refine goh_ ?_
    refine draw_ [(0, .pure), (1, .pure), (2, .pure), (3, .read), (4, .pure), (5, .pure), (6, .pure), (7, .read), (8, .step []), (9, .pure)] (by kernel_rfl) ?_
    refine goh_ ?_
    refine s_eqProto e1 e2 e3 e4 e1' e2' e3' e4' ok ?_
    refine goh_ ?_
    exact next _ _ _ _ _ (by omega) ⟨rfl, i + 1, h0, h1, rfl, by omega, rfl⟩
theorem s_eqCode {s s' : AV} {ps : List Pr} {m : Mem} {K : AR → Mem → Prop} (hp : PsR m s ps) (hp' : PsR m s' ps) (hl : ps.length < 2 ^ 63) (hL : ∀ p ∈ ps, p.ok) (h : K (.ret (.bool true)) m) :
    Sim Tryd.prog 12 [.agg [s], .agg [s']] m K := by
  refine entry (cxok []) Tryd.func12 rfl rfl (by decide) (by decide) ?_
  obtain ⟨a1, a2, a3, a4⟩ := hp.facts
  obtain ⟨b1, b2, b3, b4⟩ := hp'.facts
  refine goh_ ?_
  refine s_eqProtoS hp hp' hl hL ?_
  exact gox_
end Go.Proofs.YtdonkjepjobhnaaDoor.IM
