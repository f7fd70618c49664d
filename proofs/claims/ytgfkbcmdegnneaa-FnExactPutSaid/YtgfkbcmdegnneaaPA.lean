/- Tables: the laws' guard, copies, equality. -/
import Derived.Test.YtgfkbcmdegnneaaIU
namespace Go.Proofs.IM
open Go Go.Proofs.Flt
def szV (v : V) (left : Int) : Int := let l := w64 (left - v.s.size); if l < 0 then -1 else l
def szL {α : Type} (f : α → Int → Int) : List α → Int → Int
  | [], l => l
  | x :: xs, l => let l' := f x l; if l' < 0 then -1 else szL f xs l'
def szS {α : Type} (f : α → Int → Int) (xs : List α) (left : Int) : Int := let l := w64 (left - xs.length); if l < 0 then -1 else szL f xs l
theorem szL_at {α : Type} {f : α → Int → Int} {xs : List α} {i : Nat} (hi : i < xs.length) (l : Int) : szL f (xs.drop i) l = if f xs[i] l < 0 then -1 else szL f (xs.drop (i + 1)) (f xs[i] l) := by
  rw [List.drop_eq_getElem_cons hi]; rfl
theorem w64_succ {i n : Nat} (hi : i < n) (hn : n < 2 ^ 63) : w64 ((i : Int) + 1) = ((i + 1 : Nat) : Int) := by
  rw [w64_id (by omega)]; omega
structure Pa where
  k : V
  v : V
  turn : Int
def Pa.av (p : Pa) : List AV := [.int .i64 p.k.k, .int .i64 p.k.n, .flt p.k.f, .str p.k.s, .int .i64 p.k.r, .int .i64 p.v.k, .int .i64 p.v.n, .flt p.v.f, .str p.v.s, .int .i64 p.v.r, .int .i64 p.turn]
def szPa (p : Pa) (left : Int) : Int :=
  let a := szV p.k left
  if a < 0 then -1 else
  let b := szV p.v a
  if b < 0 then -1 else b
end Go.Proofs.IM
namespace Go.Proofs.Ytgfkbcmdegnneaa.IM
open Go Go.Proofs.IM Go.Proofs.Flt
set_option maxHeartbeats 8000000
set_option maxRecDepth 100000
theorem s_szValue {k n r : Int} {f : Nat} {s : ByteArray} {left : Int} {m : Mem} {K : AR → Mem → Prop} (h : K (.ret (.int .i64 (szV ⟨k, n, f, s, r⟩ left))) m) :
    Sim Try.prog 5 [.agg [.int .i64 k, .int .i64 n, .flt f, .str s, .int .i64 r], .int .i64 left] m K := by
  refine entry (cxok []) Try.func5 rfl rfl (by decide) (by decide) ?_
  refine go_ ?_
  refine ⟨fun c => ?_, fun c => ?_⟩ <;> simpa [szV, c] using h
theorem s_toValue {k n r : Int} {f : Nat} {s : ByteArray} {m : Mem} {K : AR → Mem → Prop} (h : K (.ret (.agg [.int .i64 k, .int .i64 n, .flt f, .str s, .int .i64 r])) m) : Sim Try.prog 8 [.agg [.int .i64 k, .int .i64 n, .flt f, .str s, .int .i64 r]] m K := by
  refine entry (cxok []) Try.func8 rfl rfl (by decide) (by decide) ?_
  refine go_ ?_
  exact h
theorem s_sameFloat {a b : Nat} {m : Mem} {K : AR → Mem → Prop} (hs : SameF a b) (h : K (.ret (.bool true)) m) : Sim Try.prog 59 [.flt a, .flt b] m K := by
  refine entry (cxok []) Try.func59 rfl rfl (by decide) (by decide) ?_
  have ea : fne a a = nan a := by rw [fne_iff, feq_self, Bool.not_not]
  have eb : fne b b = nan b := by rw [fne_iff, feq_self, Bool.not_not]
  cases hna : nan a with
  | true =>
    have hnb : nan b = true := by
      rcases hs with e | e
      · rw [← e]; exact hna
      · exact e.2
    rw [hna] at ea; rw [hnb] at eb
    exact gox_
  | false =>
    have e : b = a := by
      rcases hs with e | e
      · exact e.symm
      · rw [hna] at e; cases e.1
    subst e
    rw [hna] at ea
    have es : feq b b = true := by rw [feq_self, hna]; rfl
    cases hz : feq b 0 with
    | true =>
      have := one_over (feq_zero hz)
      exact gox_
    | false =>
      exact gox_
theorem s_eqValue {k n r : Int} {f g : Nat} {s : ByteArray} {m : Mem} {K : AR → Mem → Prop} (hs : SameF f g) (h : K (.ret (.bool true)) m) : Sim Try.prog 50 [.agg [.int .i64 k, .int .i64 n, .flt f, .str s, .int .i64 r], .agg [.int .i64 k, .int .i64 n, .flt g, .str s, .int .i64 r]] m K := by
  refine entry (cxok []) Try.func50 rfl rfl (by decide) (by decide) ?_
  refine go_ ?_
  refine s_sameFloat hs ?_
  refine go_ ?_
  simp [h]
theorem s_szPair {p : Pa} {left : Int} {m : Mem} {K : AR → Mem → Prop} (h : K (.ret (.int .i64 (szPa p left))) m) :
    Sim Try.prog 26 [.agg p.av, .int .i64 left] m K := by
  obtain ⟨⟨k, n, f, s, r⟩, ⟨k', n', f', s', r'⟩, t⟩ := p
  simp only [Pa.av]
  refine entry (cxok []) Try.func26 rfl rfl (by decide) (by decide) ?_
  refine goh_ ?_
  refine s_szValue ?_
  refine goh_ ?_
  refine ⟨fun c => by simpa [szPa, c] using h, fun c => ?_⟩
  refine s_szValue ?_
  refine goh_ ?_
  refine ⟨fun d => by simpa [szPa, c, d] using h, fun d => by simpa [szPa, c, d] using h⟩
theorem s_szPairS {s : AV} {xs : List Pa} {left : Int} {m : Mem} {K : AR → Mem → Prop} (hs : SlR m 11 s (xs.map Pa.av)) (hl : xs.length < 2 ^ 63) (h : K (.ret (.int .i64 (szS szPa xs left))) m) :
    Sim Try.prog 13 [s, .int .i64 left] m K := by
  refine entry (cxok []) Try.func13 rfl rfl (by decide) (by decide) ?_
  have hlen := hs.len'
  rw [List.length_map] at hlen
  refine goh_ ?_
  refine ⟨fun c => by simpa [szS, c] using h, fun c => ?_⟩
  refine loop_ (fun k t l c m' => m' = m ∧ ∃ (i : Nat) (left : Int), t 0 = s ∧ t 1 = .int .i64 left ∧ t 5 = .int .i64 i ∧ i ≤ xs.length ∧ k = xs.length - i ∧ K (.ret (.int .i64 (szL szPa (xs.drop i) left))) m) xs.length ?_ ?_
  · exact ⟨rfl, 0, _, rfl, rfl, rfl, by omega, by omega, by simpa [szS, c] using h⟩
  intro k t l c m KN ⟨hm, i, left, h0, h1, h5, hi, hk, hK⟩ next
  subst hm
  refine goh_ ?_
  refine ⟨fun hc => ?_, fun hc => ?_⟩
  · have hj : i < xs.length := by omega
    obtain ⟨a, i0, cap, B, rfl, hb, hz, hr⟩ := hs.some_ (j := i) (by simpa using hj)
    have hr := fun l => hr l i (by simpa using hj)
    simp only [List.getElem_map, Pa.av] at hr
    have hw := w64_succ hj hl
    have hav : xs[i].av = [.int .i64 xs[i].k.k, .int .i64 xs[i].k.n, .flt xs[i].k.f, .str xs[i].k.s, .int .i64 xs[i].k.r, .int .i64 xs[i].v.k, .int .i64 xs[i].v.n, .flt xs[i].v.f, .str xs[i].v.s, .int .i64 xs[i].v.r, .int .i64 xs[i].turn] := rfl
    refine goh_ ?_
    refine s_szPair (p := xs[i]) ?_
    refine goh_ ?_
    rw [szL_at hj] at hK
    refine ⟨fun hd => by rw [if_pos hd] at hK; exact hK, fun hd => ?_⟩
    rw [if_neg hd] at hK
    exact next _ _ _ _ _ (by omega) ⟨rfl, i + 1, _, h0, rfl, rfl, by omega, rfl, hK⟩
  · have hj : xs.length = i := by omega
    subst hj
    simpa [szL] using hK
theorem s_szTable {ps : List Pa} {s : AV} {n left : Int} {m : Mem} {K : AR → Mem → Prop} (hs : SlR m 11 s (ps.map Pa.av)) (hl : ps.length < 2 ^ 63) (h : K (.ret (.int .i64 (let l := szS szPa ps left; if l < 0 then -1 else l))) m) :
    Sim Try.prog 4 [.agg [s, .int .i64 n], .int .i64 left] m K := by
  refine entry (cxok []) Try.func4 rfl rfl (by decide) (by decide) ?_
  obtain ⟨a1, a2, a3, a4⟩ := hs.facts
  refine goh_ ?_
  refine s_szPairS hs hl ?_
  refine goh_ ?_
  refine ⟨fun c => by simpa [c] using h, fun c => by simpa [c] using h⟩
theorem s_toPair {p : Pa} {m : Mem} {K : AR → Mem → Prop} (h : K (.ret (.agg p.av)) m) : Sim Try.prog 35 [.agg p.av] m K := by
  obtain ⟨⟨k, n, f, s, r⟩, ⟨k', n', f', s', r'⟩, t⟩ := p
  simp only [Pa.av] at h ⊢
  refine entry (cxok []) Try.func35 rfl rfl (by decide) (by decide) ?_
  refine goh_ ?_
  refine s_toValue ?_
  refine goh_ ?_
  refine s_toValue ?_
  exact gox_
theorem s_toPairS {s : AV} {xs : List Pa} {m : Mem} {K : AR → Mem → Prop} (hs : SlR m 11 s (xs.map Pa.av)) (hl : xs.length < 2 ^ 40) (h : K (.ret (.sl (.hp m.hp.length) 0 xs.length xs.length)) (m.push ⟨xs.map Pa.av, 11⟩)) :
    Sim Try.prog 18 [s] m K := by
  refine entry (cxok []) Try.func18 rfl rfl (by decide) (by decide) ?_
  have hlen := hs.len'
  rw [List.length_map] at hlen
  refine goh_ ?_
  refine ⟨by omega, ?_⟩
  refine loop_ (fun k t l c m' => ∃ (i : Nat), m' = m.push ⟨fillR (xs.map Pa.av) [.int .i64 0, .int .i64 0, .flt 0, .str ByteArray.empty, .int .i64 0, .int .i64 0, .int .i64 0, .flt 0, .str ByteArray.empty, .int .i64 0, .int .i64 0] i, 11⟩ ∧ t 0 = s ∧ t 3 = .sl (.hp m.hp.length) 0 xs.length xs.length ∧ t 4 = .int .i64 i ∧ i ≤ xs.length ∧ k = xs.length - i) xs.length ?_ ?_
  · exact ⟨0, by rw [fillR_0, List.length_map], rfl, rfl, rfl, by omega, by omega⟩
  intro k t l c m' KN ⟨i, hm, h0, h3, h4, hi, hk⟩ next
  subst hm
  have hs := hs.mono (Mem.le.push m ⟨fillR (xs.map Pa.av) [.int .i64 0, .int .i64 0, .flt 0, .str ByteArray.empty, .int .i64 0, .int .i64 0, .int .i64 0, .flt 0, .str ByteArray.empty, .int .i64 0, .int .i64 0] i, 11⟩)
  have hlen := hs.len'
  rw [List.length_map] at hlen
  refine goh_ ?_
  refine ⟨fun hc => ?_, fun hc => ?_⟩
  · have hj : i < xs.length := by omega
    obtain ⟨a, i0, cap, B, rfl, hb, hz, hr⟩ := hs.some_ (j := i) (by simpa using hj)
    have hr := fun l => hr l i (by simpa using hj)
    simp only [List.getElem_map, Pa.av] at hr
    have hw := w64_succ hj (show xs.length < 2 ^ 63 by omega)
    have hg := fillR_get (A := xs.map Pa.av) (z := [.int .i64 0, .int .i64 0, .flt 0, .str ByteArray.empty, .int .i64 0, .int .i64 0, .int .i64 0, .flt 0, .str ByteArray.empty, .int .i64 0, .int .i64 0]) (i := i) (by simpa using hj)
    have hf := fillR_set (A := xs.map Pa.av) (z := [.int .i64 0, .int .i64 0, .flt 0, .str ByteArray.empty, .int .i64 0, .int .i64 0, .int .i64 0, .flt 0, .str ByteArray.empty, .int .i64 0, .int .i64 0]) (i := i) (by simpa using hj)
    simp only [List.getElem_map, Pa.av] at hf
    have hav : xs[i].av = [.int .i64 xs[i].k.k, .int .i64 xs[i].k.n, .flt xs[i].k.f, .str xs[i].k.s, .int .i64 xs[i].k.r, .int .i64 xs[i].v.k, .int .i64 xs[i].v.n, .flt xs[i].v.f, .str xs[i].v.s, .int .i64 xs[i].v.r, .int .i64 xs[i].turn] := rfl
    refine goh_ ?_
    refine s_toPair (p := xs[i]) ?_
    refine goh_ ?_
    exact next _ _ _ _ _ (by omega) ⟨i + 1, rfl, h0, h3, rfl, by omega, rfl⟩
  · have hj : i = xs.length := by omega
    subst hj
    have := fillR_end (xs.map Pa.av) [.int .i64 0, .int .i64 0, .flt 0, .str ByteArray.empty, .int .i64 0, .int .i64 0, .int .i64 0, .flt 0, .str ByteArray.empty, .int .i64 0, .int .i64 0]
    rw [List.length_map] at this
    rw [this]
    exact h
theorem s_toTable {ps : List Pa} {s : AV} {n : Int} {m : Mem} {K : AR → Mem → Prop} (hs : SlR m 11 s (ps.map Pa.av)) (hl : ps.length < 2 ^ 40) (h : K (.ret (.agg [.sl (.hp m.hp.length) 0 ps.length ps.length, .int .i64 n])) (m.push ⟨ps.map Pa.av, 11⟩)) :
    Sim Try.prog 7 [.agg [s, .int .i64 n]] m K := by
  refine entry (cxok []) Try.func7 rfl rfl (by decide) (by decide) ?_
  obtain ⟨a1, a2, a3, a4⟩ := hs.facts
  refine goh_ ?_
  refine s_toPairS hs hl ?_
  exact gox_
theorem s_eqPair {p : Pa} {m : Mem} {K : AR → Mem → Prop} (h : K (.ret (.bool true)) m) : Sim Try.prog 42 [.agg p.av, .agg p.av] m K := by
  obtain ⟨⟨k, n, f, s, r⟩, ⟨k', n', f', s', r'⟩, t⟩ := p
  simp only [Pa.av] at h ⊢
  refine entry (cxok []) Try.func42 rfl rfl (by decide) (by decide) ?_
  refine goh_ ?_
  refine s_eqValue (.inl rfl) ?_
  refine goh_ ?_
  refine s_eqValue (.inl rfl) ?_
  exact gox_
theorem s_eqPairS {s s' : AV} {xs : List Pa} {m : Mem} {K : AR → Mem → Prop} (hs : SlR m 11 s (xs.map Pa.av)) (hs' : SlR m 11 s' (xs.map Pa.av)) (hl : xs.length < 2 ^ 63) (h : K (.ret (.bool true)) m) :
    Sim Try.prog 23 [s, s'] m K := by
  refine entry (cxok []) Try.func23 rfl rfl (by decide) (by decide) ?_
  have hlen := hs.len'
  have hlen' := hs'.len'
  rw [List.length_map] at hlen hlen'
  refine goh_ ?_
  refine loop_ (fun k t l c m' => m' = m ∧ ∃ (i : Nat), t 0 = s ∧ t 1 = s' ∧ t 5 = .int .i64 i ∧ i ≤ xs.length ∧ k = xs.length - i) xs.length ?_ ?_
  · exact ⟨rfl, 0, rfl, rfl, rfl, by omega, by omega⟩
  intro k t l c m KN ⟨hm, i, h0, h1, h5, hi, hk⟩ next
  subst hm
  refine goh_ ?_
  intro hc
  · have hj : i < xs.length := by omega
    obtain ⟨a, i0, cap, B, rfl, hb, hz, hr⟩ := hs.some_ (j := i) (by simpa using hj)
    obtain ⟨a', i0', cap', B', rfl, hb', hz', hr'⟩ := hs'.some_ (j := i) (by simpa using hj)
    have hr := fun l => hr l i (by simpa using hj)
    have hr' := fun l => hr' l i (by simpa using hj)
    simp only [List.getElem_map, Pa.av] at hr hr'
    have hw := w64_succ hj hl
    refine goh_ ?_
    refine draw_ [(0, .pure), (1, .pure), (2, .pure), (3, .read), (4, .pure), (5, .pure), (6, .pure), (7, .read), (8, .step []), (9, .pure)] (by kernel_rfl) ?_
    have hav : xs[i].av = [.int .i64 xs[i].k.k, .int .i64 xs[i].k.n, .flt xs[i].k.f, .str xs[i].k.s, .int .i64 xs[i].k.r, .int .i64 xs[i].v.k, .int .i64 xs[i].v.n, .flt xs[i].v.f, .str xs[i].v.s, .int .i64 xs[i].v.r, .int .i64 xs[i].turn] := rfl
    refine goh_ ?_
    refine s_eqPair (p := xs[i]) ?_
    refine goh_ ?_
    exact next _ _ _ _ _ (by omega) ⟨rfl, i + 1, h0, h1, rfl, by omega, rfl⟩
theorem s_eqTable {ps : List Pa} {s s' : AV} {n : Int} {m : Mem} {K : AR → Mem → Prop} (hs : SlR m 11 s (ps.map Pa.av)) (hs' : SlR m 11 s' (ps.map Pa.av)) (hl : ps.length < 2 ^ 63) (h : K (.ret (.bool true)) m) :
    Sim Try.prog 10 [.agg [s, .int .i64 n], .agg [s', .int .i64 n]] m K := by
  refine entry (cxok []) Try.func10 rfl rfl (by decide) (by decide) ?_
  obtain ⟨a1, a2, a3, a4⟩ := hs.facts
  obtain ⟨b1, b2, b3, b4⟩ := hs'.facts
  refine goh_ ?_
  refine s_eqPairS hs hs' hl ?_
  exact gox_
end Go.Proofs.Ytgfkbcmdegnneaa.IM
