/- Walks and laws, joined into one text. -/
import Derived.Test.YtdonkjepjobhnaaDoorIU
import Derived.Laws.Externs
set_option linter.unusedSimpArgs false
set_option linter.unusedVariables false
set_option linter.unnecessarySimpa false
namespace Go.Proofs.IM
open Go
/-- The laws' guard: what is left. -/
def szV (v : V) (left : Int) : Int := let l := w64 (left - v.s.size); if l < 0 then -1 else l
def szL {α : Type} (f : α → Int → Int) : List α → Int → Int
  | [], l => l
  | x :: xs, l => let l' := f x l; if l' < 0 then -1 else szL f xs l'
def szS {α : Type} (f : α → Int → Int) (xs : List α) (left : Int) : Int := let l := w64 (left - xs.length); if l < 0 then -1 else szL f xs l
def szS0 {α : Type} (xs : List α) (left : Int) : Int := let l := w64 (left - xs.length); if l < 0 then -1 else l
def szN (v : Nm) (left : Int) : Int := let l := w64 (left - v.s.size); if l < 0 then -1 else l
def szP (p : Pr) (left : Int) : Int :=
  let a := w64 (left - p.s.size)
  if a < 0 then -1 else
  let b := szS0 p.ups a
  if b < 0 then -1 else
  let c := szS szV p.consts b
  if c < 0 then -1 else
  let d := szS0 p.ins c
  if d < 0 then -1 else
  let e := szS szN p.named d
  if e < 0 then -1 else e
def szC (ps : List Pr) (left : Int) : Int := let l := szS szP ps left; if l < 0 then -1 else l
theorem szL_at {α : Type} {f : α → Int → Int} {xs : List α} {i : Nat} (hi : i < xs.length) (l : Int) : szL f (xs.drop i) l = if f xs[i] l < 0 then -1 else szL f (xs.drop (i + 1)) (f xs[i] l) := by
  rw [List.drop_eq_getElem_cons hi]; rfl
theorem w64_succ {i n : Nat} (hi : i < n) (hn : n < 2 ^ 63) : w64 ((i : Int) + 1) = ((i + 1 : Nat) : Int) := by
  rw [w64_id (by omega)]; omega
end Go.Proofs.IM
namespace Go.Proofs.YtdonkjepjobhnaaDoor.IM
open Go Go.Proofs.IM
theorem s_szValue {k n r : Int} {f : Nat} {s : ByteArray} {left : Int} {m : Mem} {K : AR → Mem → Prop} (h : K (.ret (.int .i64 (szV ⟨k, n, f, s, r⟩ left))) m) :
    Sim Tryd.prog 17 [.agg [.int .i64 k, .int .i64 n, .flt f, .str s, .int .i64 r], .int .i64 left] m K := by
  refine entry (cxok []) Tryd.func17 rfl rfl (by decide) (by decide) ?_
  refine go_ ?_
  refine ⟨fun c => ?_, fun c => ?_⟩ <;> simpa [szV, c] using h
theorem s_szValueS {s : AV} {xs : List V} {left : Int} {m : Mem} {K : AR → Mem → Prop} (hs : SlR m 5 s (xs.map V.av)) (hl : xs.length < 2 ^ 63) (h : K (.ret (.int .i64 (szS szV xs left))) m) :
    Sim Tryd.prog 164 [s, .int .i64 left] m K := by
  refine entry (cxok []) Tryd.func164 rfl rfl (by decide) (by decide) ?_
  have hlen := hs.len'
  rw [List.length_map] at hlen
  refine goh_ ?_
  refine ⟨fun c => by simpa [szS, c] using h, fun c => ?_⟩
  refine loop_ (fun k t l c m' => m' = m ∧ ∃ (i : Nat) (left : Int), t 0 = s ∧ t 1 = .int .i64 left ∧ t 5 = .int .i64 i ∧ i ≤ xs.length ∧ k = xs.length - i ∧ K (.ret (.int .i64 (szL szV (xs.drop i) left))) m) xs.length ?_ ?_
  · exact ⟨rfl, 0, _, rfl, rfl, rfl, by omega, by omega, by simpa [szS, c] using h⟩
  intro k t l c m KN ⟨hm, i, left, h0, h1, h5, hi, hk, hK⟩ next
  subst hm
  refine goh_ ?_
  refine ⟨fun hc => ?_, fun hc => ?_⟩
  · have hj : i < xs.length := by omega
    obtain ⟨a, i0, cap, B, rfl, hb, hz, hr⟩ := hs.some_ (j := i) (by simpa using hj)
    have hr := fun l => hr l i (by simpa using hj)
    simp only [List.getElem_map] at hr
    have hw := w64_succ hj hl
    refine goh_ ?_
    refine s_szValue ?_
    refine goh_ ?_
    rw [szL_at hj] at hK
    refine ⟨fun hd => by rw [if_pos hd] at hK; exact hK, fun hd => ?_⟩
    rw [if_neg hd] at hK
    exact next _ _ _ _ _ (by omega) ⟨rfl, i + 1, _, h0, rfl, rfl, by omega, rfl, hK⟩
  · have hj : xs.length = i := by omega
    subst hj
    simpa [szL] using hK
theorem s_szNamed {r a b : Int} {s : ByteArray} {left : Int} {m : Mem} {K : AR → Mem → Prop} (h : K (.ret (.int .i64 (szN ⟨s, r, a, b⟩ left))) m) :
    Sim Tryd.prog 186 [.agg [.str s, .int .i64 r, .int .i64 a, .int .i64 b], .int .i64 left] m K := by
  refine entry (cxok []) Tryd.func186 rfl rfl (by decide) (by decide) ?_
  refine go_ ?_
  exact ⟨fun c => by simpa [szN, c] using h, fun c => by simpa [szN, c] using h⟩
theorem s_szNamedS {s : AV} {xs : List Nm} {left : Int} {m : Mem} {K : AR → Mem → Prop} (hs : SlR m 4 s (xs.map Nm.av)) (hl : xs.length < 2 ^ 63) (h : K (.ret (.int .i64 (szS szN xs left))) m) :
    Sim Tryd.prog 166 [s, .int .i64 left] m K := by
  refine entry (cxok []) Tryd.func166 rfl rfl (by decide) (by decide) ?_
  have hlen := hs.len'
  rw [List.length_map] at hlen
  refine goh_ ?_
  refine ⟨fun c => by simpa [szS, c] using h, fun c => ?_⟩
  refine loop_ (fun k t l c m' => m' = m ∧ ∃ (i : Nat) (left : Int), t 0 = s ∧ t 1 = .int .i64 left ∧ t 5 = .int .i64 i ∧ i ≤ xs.length ∧ k = xs.length - i ∧ K (.ret (.int .i64 (szL szN (xs.drop i) left))) m) xs.length ?_ ?_
  · exact ⟨rfl, 0, _, rfl, rfl, rfl, by omega, by omega, by simpa [szS, c] using h⟩
  intro k t l c m KN ⟨hm, i, left, h0, h1, h5, hi, hk, hK⟩ next
  subst hm
  refine goh_ ?_
  refine ⟨fun hc => ?_, fun hc => ?_⟩
  · have hj : i < xs.length := by omega
    obtain ⟨a, i0, cap, B, rfl, hb, hz, hr⟩ := hs.some_ (j := i) (by simpa using hj)
    have hr := fun l => hr l i (by simpa using hj)
    simp only [List.getElem_map] at hr
    have hw := w64_succ hj hl
    refine goh_ ?_
    refine s_szNamed ?_
    refine goh_ ?_
    rw [szL_at hj] at hK
    refine ⟨fun hd => by rw [if_pos hd] at hK; exact hK, fun hd => ?_⟩
    rw [if_neg hd] at hK
    exact next _ _ _ _ _ (by omega) ⟨rfl, i + 1, _, h0, rfl, rfl, by omega, rfl, hK⟩
  · have hj : xs.length = i := by omega
    subst hj
    simpa [szL] using hK
theorem s_szUpS {s : AV} {xs : List U} {left : Int} {m : Mem} {K : AR → Mem → Prop} (hs : SlR m 2 s (xs.map U.av)) (h : K (.ret (.int .i64 (szS0 xs left))) m) :
    Sim Tryd.prog 163 [s, .int .i64 left] m K := by
  refine entry (cxok []) Tryd.func163 rfl rfl (by decide) (by decide) ?_
  have hlen := hs.len'
  rw [List.length_map] at hlen
  refine goh_ ?_
  exact ⟨fun c => by simpa [szS0, c] using h, fun c => by simpa [szS0, c] using h⟩
theorem s_szInsS {s : AV} {xs : List I} {left : Int} {m : Mem} {K : AR → Mem → Prop} (hs : SlR m 5 s (xs.map I.av)) (h : K (.ret (.int .i64 (szS0 xs left))) m) :
    Sim Tryd.prog 165 [s, .int .i64 left] m K := by
  refine entry (cxok []) Tryd.func165 rfl rfl (by decide) (by decide) ?_
  have hlen := hs.len'
  rw [List.length_map] at hlen
  refine goh_ ?_
  exact ⟨fun c => by simpa [szS0, c] using h, fun c => by simpa [szS0, c] using h⟩
theorem s_szProto {p : Pr} {s1 s2 s3 s4 : AV} {left : Int} {m : Mem} {K : AR → Mem → Prop} (h1 : SlR m 2 s1 (p.ups.map U.av)) (h2 : SlR m 5 s2 (p.consts.map V.av)) (h3 : SlR m 5 s3 (p.ins.map I.av)) (h4 : SlR m 4 s4 (p.named.map Nm.av))
    (hl2 : p.consts.length < 2 ^ 63) (hl4 : p.named.length < 2 ^ 63) (h : K (.ret (.int .i64 (szP p left))) m) :
    Sim Tryd.prog 122 [.agg [.str p.s, .int .i64 p.line, .int .i64 p.params, .bool p.rest, .int .i64 p.regs, s1, s2, s3, s4], .int .i64 left] m K := by
  refine entry (cxok []) Tryd.func122 rfl rfl (by decide) (by decide) ?_
  obtain ⟨a1, a2, a3, a4⟩ := h1.facts
  obtain ⟨b1, b2, b3, b4⟩ := h2.facts
  obtain ⟨c1, c2, c3, c4⟩ := h3.facts
  obtain ⟨d1, d2, d3, d4⟩ := h4.facts
  dsimp only [szP] at h
  refine goh_ ?_
  refine ⟨fun c => by rw [if_pos c] at h; exact h, fun c => ?_⟩
  rw [if_neg c] at h
  refine s_szUpS h1 ?_
  refine goh_ ?_
  refine ⟨fun c => by rw [if_pos c] at h; exact h, fun c => ?_⟩
  rw [if_neg c] at h
  refine s_szValueS h2 hl2 ?_
  refine goh_ ?_
  refine ⟨fun c => by rw [if_pos c] at h; exact h, fun c => ?_⟩
  rw [if_neg c] at h
  refine s_szInsS h3 ?_
  refine goh_ ?_
  refine ⟨fun c => by rw [if_pos c] at h; exact h, fun c => ?_⟩
  rw [if_neg c] at h
  refine s_szNamedS h4 hl4 ?_
  refine goh_ ?_
  refine ⟨fun c => by rw [if_pos c] at h; exact h, fun c => ?_⟩
  rw [if_neg c] at h
  exact h
theorem s_szProtoS {ps : List Pr} {s : AV} {left : Int} {m : Mem} {K : AR → Mem → Prop} (hp : PsR m s ps) (hl : ps.length < 2 ^ 63) (hL : ∀ p ∈ ps, p.ok) (h : K (.ret (.int .i64 (szS szP ps left))) m) :
    Sim Tryd.prog 50 [s, .int .i64 left] m K := by
  refine entry (cxok []) Tryd.func50 rfl rfl (by decide) (by decide) ?_
  obtain ⟨rs, hs, hrl, hrow⟩ := hp
  have hlen := hs.len'
  rw [hrl] at hlen
  refine goh_ ?_
  refine ⟨fun c => by simpa [szS, c] using h, fun c => ?_⟩
  refine loop_ (fun k t l c m' => m' = m ∧ ∃ (i : Nat) (left : Int), t 0 = s ∧ t 1 = .int .i64 left ∧ t 5 = .int .i64 i ∧ i ≤ ps.length ∧ k = ps.length - i ∧ K (.ret (.int .i64 (szL szP (ps.drop i) left))) m) ps.length ?_ ?_
  · exact ⟨rfl, 0, _, rfl, rfl, rfl, by omega, by omega, by simpa [szS, c] using h⟩
  intro k t l c m KN ⟨hm, i, left, h0, h1, h5, hi, hk, hK⟩ next
  subst hm
  refine goh_ ?_
  refine ⟨fun hc => ?_, fun hc => ?_⟩
  · have hj : i < ps.length := by omega
    have hj' : i < rs.length := by omega
    obtain ⟨a, i0, cap, B, rfl, hb, hz, hr⟩ := hs.some_ hj'
    have hr := fun l => hr l i hj'
    obtain ⟨s1, s2, s3, s4, e0, e1, e2, e3, e4⟩ := (hrow i rs[i] ps[i] (by simp [hj']) (by simp [hj])).ex
    rw [e0] at hr
    obtain ⟨a1, a2, a3, a4⟩ := e1.facts
    obtain ⟨b1, b2, b3, b4⟩ := e2.facts
    obtain ⟨c1, c2, c3, c4⟩ := e3.facts
    obtain ⟨d1, d2, d3, d4⟩ := e4.facts
    have hw := w64_succ hj hl
    have ok := hL ps[i] (by simp)
    refine goh_ ?_
    refine s_szProto e1 e2 e3 e4 ok.2.1 ok.2.2.2 ?_
    refine goh_ ?_
    rw [szL_at hj] at hK
    refine ⟨fun hd => by rw [if_pos hd] at hK; exact hK, fun hd => ?_⟩
    rw [if_neg hd] at hK
    exact next _ _ _ _ _ (by omega) ⟨rfl, i + 1, _, h0, rfl, rfl, by omega, rfl, hK⟩
  · have hj : ps.length = i := by omega
    subst hj
    simpa [szL] using hK
theorem s_szCode {ps : List Pr} {s : AV} {left : Int} {m : Mem} {K : AR → Mem → Prop} (hp : PsR m s ps) (hl : ps.length < 2 ^ 63) (hL : ∀ p ∈ ps, p.ok) (h : K (.ret (.int .i64 (szC ps left))) m) :
    Sim Tryd.prog 21 [.agg [s], .int .i64 left] m K := by
  refine entry (cxok []) Tryd.func21 rfl rfl (by decide) (by decide) ?_
  obtain ⟨a1, a2, a3, a4⟩ := hp.facts
  dsimp only [szC] at h
  refine goh_ ?_
  refine s_szProtoS hp hl hL ?_
  refine goh_ ?_
  refine ⟨fun c => by rw [if_pos c] at h; exact h, fun c => ?_⟩
  rw [if_neg c] at h
  exact h
theorem s_toUp {b : Bool} {i : Int} {m : Mem} {K : AR → Mem → Prop} (h : K (.ret (.agg [.bool b, .int .i64 i])) m) : Sim Tryd.prog 187 [.agg [.bool b, .int .i64 i]] m K := by
  refine entry (cxok []) Tryd.func187 rfl rfl (by decide) (by decide) ?_
  refine go_ ?_
  exact h
theorem s_toValue {k n r : Int} {f : Nat} {s : ByteArray} {m : Mem} {K : AR → Mem → Prop} (h : K (.ret (.agg [.int .i64 k, .int .i64 n, .flt f, .str s, .int .i64 r])) m) : Sim Tryd.prog 19 [.agg [.int .i64 k, .int .i64 n, .flt f, .str s, .int .i64 r]] m K := by
  refine entry (cxok []) Tryd.func19 rfl rfl (by decide) (by decide) ?_
  refine go_ ?_
  exact h
theorem s_toIns {a b c d e : Int} {m : Mem} {K : AR → Mem → Prop} (h : K (.ret (.agg [.int .i64 a, .int .i64 b, .int .i64 c, .int .i64 d, .int .i64 e])) m) : Sim Tryd.prog 188 [.agg [.int .i64 a, .int .i64 b, .int .i64 c, .int .i64 d, .int .i64 e]] m K := by
  refine entry (cxok []) Tryd.func188 rfl rfl (by decide) (by decide) ?_
  refine go_ ?_
  exact h
theorem s_toNamed {s : ByteArray} {a b c : Int} {m : Mem} {K : AR → Mem → Prop} (h : K (.ret (.agg [.str s, .int .i64 a, .int .i64 b, .int .i64 c])) m) : Sim Tryd.prog 189 [.agg [.str s, .int .i64 a, .int .i64 b, .int .i64 c]] m K := by
  refine entry (cxok []) Tryd.func189 rfl rfl (by decide) (by decide) ?_
  refine go_ ?_
  exact h
theorem s_toUpS {s : AV} {xs : List U} {m : Mem} {K : AR → Mem → Prop} (hs : SlR m 2 s (xs.map U.av)) (hl : xs.length < 2 ^ 40) (h : K (.ret (.sl (.hp m.hp.length) 0 xs.length xs.length)) (m.push ⟨xs.map U.av, 2⟩)) :
    Sim Tryd.prog 169 [s] m K := by
  refine entry (cxok []) Tryd.func169 rfl rfl (by decide) (by decide) ?_
  have hlen := hs.len'
  rw [List.length_map] at hlen
  refine goh_ ?_
  refine ⟨by omega, ?_⟩
  refine loop_ (fun k t l c m' => ∃ (i : Nat), m' = m.push ⟨fillR (xs.map U.av) [.bool false, .int .i64 0] i, 2⟩ ∧ t 0 = s ∧ t 3 = .sl (.hp m.hp.length) 0 xs.length xs.length ∧ t 4 = .int .i64 i ∧ i ≤ xs.length ∧ k = xs.length - i) xs.length ?_ ?_
  · exact ⟨0, by rw [fillR_0, List.length_map], rfl, rfl, rfl, by omega, by omega⟩
  intro k t l c m' KN ⟨i, hm, h0, h3, h4, hi, hk⟩ next
  subst hm
  have hs := hs.mono (Mem.le.push m ⟨fillR (xs.map U.av) [.bool false, .int .i64 0] i, 2⟩)
  have hlen := hs.len'
  rw [List.length_map] at hlen
  refine goh_ ?_
  refine ⟨fun hc => ?_, fun hc => ?_⟩
  · have hj : i < xs.length := by omega
    obtain ⟨a, i0, cap, B, rfl, hb, hz, hr⟩ := hs.some_ (j := i) (by simpa using hj)
    have hr := fun l => hr l i (by simpa using hj)
    simp only [List.getElem_map] at hr
    have hw := w64_succ hj (show xs.length < 2 ^ 63 by omega)
    have hg := fillR_get (A := xs.map U.av) (z := [.bool false, .int .i64 0]) (i := i) (by simpa using hj)
    have hf := fillR_set (A := xs.map U.av) (z := [.bool false, .int .i64 0]) (i := i) (by simpa using hj)
    simp only [List.getElem_map, U.av] at hf
    refine goh_ ?_
    refine s_toUp ?_
    refine goh_ ?_
    exact next _ _ _ _ _ (by omega) ⟨i + 1, rfl, h0, h3, rfl, by omega, rfl⟩
  · have hj : i = xs.length := by omega
    subst hj
    have := fillR_end (xs.map U.av) [.bool false, .int .i64 0]
    rw [List.length_map] at this
    rw [this]
    exact h
theorem s_toValueS {s : AV} {xs : List V} {m : Mem} {K : AR → Mem → Prop} (hs : SlR m 5 s (xs.map V.av)) (hl : xs.length < 2 ^ 40) (h : K (.ret (.sl (.hp m.hp.length) 0 xs.length xs.length)) (m.push ⟨xs.map V.av, 5⟩)) :
    Sim Tryd.prog 170 [s] m K := by
  refine entry (cxok []) Tryd.func170 rfl rfl (by decide) (by decide) ?_
  have hlen := hs.len'
  rw [List.length_map] at hlen
  refine goh_ ?_
  refine ⟨by omega, ?_⟩
  refine loop_ (fun k t l c m' => ∃ (i : Nat), m' = m.push ⟨fillR (xs.map V.av) [.int .i64 0, .int .i64 0, .flt 0, .str ByteArray.empty, .int .i64 0] i, 5⟩ ∧ t 0 = s ∧ t 3 = .sl (.hp m.hp.length) 0 xs.length xs.length ∧ t 4 = .int .i64 i ∧ i ≤ xs.length ∧ k = xs.length - i) xs.length ?_ ?_
  · exact ⟨0, by rw [fillR_0, List.length_map], rfl, rfl, rfl, by omega, by omega⟩
  intro k t l c m' KN ⟨i, hm, h0, h3, h4, hi, hk⟩ next
  subst hm
  have hs := hs.mono (Mem.le.push m ⟨fillR (xs.map V.av) [.int .i64 0, .int .i64 0, .flt 0, .str ByteArray.empty, .int .i64 0] i, 5⟩)
  have hlen := hs.len'
  rw [List.length_map] at hlen
  refine goh_ ?_
  refine ⟨fun hc => ?_, fun hc => ?_⟩
  · have hj : i < xs.length := by omega
    obtain ⟨a, i0, cap, B, rfl, hb, hz, hr⟩ := hs.some_ (j := i) (by simpa using hj)
    have hr := fun l => hr l i (by simpa using hj)
    simp only [List.getElem_map] at hr
    have hw := w64_succ hj (show xs.length < 2 ^ 63 by omega)
    have hg := fillR_get (A := xs.map V.av) (z := [.int .i64 0, .int .i64 0, .flt 0, .str ByteArray.empty, .int .i64 0]) (i := i) (by simpa using hj)
    have hf := fillR_set (A := xs.map V.av) (z := [.int .i64 0, .int .i64 0, .flt 0, .str ByteArray.empty, .int .i64 0]) (i := i) (by simpa using hj)
    simp only [List.getElem_map, V.av] at hf
    refine goh_ ?_
    refine s_toValue ?_
    refine goh_ ?_
    exact next _ _ _ _ _ (by omega) ⟨i + 1, rfl, h0, h3, rfl, by omega, rfl⟩
  · have hj : i = xs.length := by omega
    subst hj
    have := fillR_end (xs.map V.av) [.int .i64 0, .int .i64 0, .flt 0, .str ByteArray.empty, .int .i64 0]
    rw [List.length_map] at this
    rw [this]
    exact h
theorem s_toInsS {s : AV} {xs : List I} {m : Mem} {K : AR → Mem → Prop} (hs : SlR m 5 s (xs.map I.av)) (hl : xs.length < 2 ^ 40) (h : K (.ret (.sl (.hp m.hp.length) 0 xs.length xs.length)) (m.push ⟨xs.map I.av, 5⟩)) :
    Sim Tryd.prog 171 [s] m K := by
  refine entry (cxok []) Tryd.func171 rfl rfl (by decide) (by decide) ?_
  have hlen := hs.len'
  rw [List.length_map] at hlen
  refine goh_ ?_
  refine ⟨by omega, ?_⟩
  refine loop_ (fun k t l c m' => ∃ (i : Nat), m' = m.push ⟨fillR (xs.map I.av) [.int .i64 0, .int .i64 0, .int .i64 0, .int .i64 0, .int .i64 0] i, 5⟩ ∧ t 0 = s ∧ t 3 = .sl (.hp m.hp.length) 0 xs.length xs.length ∧ t 4 = .int .i64 i ∧ i ≤ xs.length ∧ k = xs.length - i) xs.length ?_ ?_
  · exact ⟨0, by rw [fillR_0, List.length_map], rfl, rfl, rfl, by omega, by omega⟩
  intro k t l c m' KN ⟨i, hm, h0, h3, h4, hi, hk⟩ next
  subst hm
  have hs := hs.mono (Mem.le.push m ⟨fillR (xs.map I.av) [.int .i64 0, .int .i64 0, .int .i64 0, .int .i64 0, .int .i64 0] i, 5⟩)
  have hlen := hs.len'
  rw [List.length_map] at hlen
  refine goh_ ?_
  refine ⟨fun hc => ?_, fun hc => ?_⟩
  · have hj : i < xs.length := by omega
    obtain ⟨a, i0, cap, B, rfl, hb, hz, hr⟩ := hs.some_ (j := i) (by simpa using hj)
    have hr := fun l => hr l i (by simpa using hj)
    simp only [List.getElem_map] at hr
    have hw := w64_succ hj (show xs.length < 2 ^ 63 by omega)
    have hg := fillR_get (A := xs.map I.av) (z := [.int .i64 0, .int .i64 0, .int .i64 0, .int .i64 0, .int .i64 0]) (i := i) (by simpa using hj)
    have hf := fillR_set (A := xs.map I.av) (z := [.int .i64 0, .int .i64 0, .int .i64 0, .int .i64 0, .int .i64 0]) (i := i) (by simpa using hj)
    simp only [List.getElem_map, I.av] at hf
    refine goh_ ?_
    refine s_toIns ?_
    refine goh_ ?_
    exact next _ _ _ _ _ (by omega) ⟨i + 1, rfl, h0, h3, rfl, by omega, rfl⟩
  · have hj : i = xs.length := by omega
    subst hj
    have := fillR_end (xs.map I.av) [.int .i64 0, .int .i64 0, .int .i64 0, .int .i64 0, .int .i64 0]
    rw [List.length_map] at this
    rw [this]
    exact h
theorem s_toNamedS {s : AV} {xs : List Nm} {m : Mem} {K : AR → Mem → Prop} (hs : SlR m 4 s (xs.map Nm.av)) (hl : xs.length < 2 ^ 40) (h : K (.ret (.sl (.hp m.hp.length) 0 xs.length xs.length)) (m.push ⟨xs.map Nm.av, 4⟩)) :
    Sim Tryd.prog 172 [s] m K := by
  refine entry (cxok []) Tryd.func172 rfl rfl (by decide) (by decide) ?_
  have hlen := hs.len'
  rw [List.length_map] at hlen
  refine goh_ ?_
  refine ⟨by omega, ?_⟩
  refine loop_ (fun k t l c m' => ∃ (i : Nat), m' = m.push ⟨fillR (xs.map Nm.av) [.str ByteArray.empty, .int .i64 0, .int .i64 0, .int .i64 0] i, 4⟩ ∧ t 0 = s ∧ t 3 = .sl (.hp m.hp.length) 0 xs.length xs.length ∧ t 4 = .int .i64 i ∧ i ≤ xs.length ∧ k = xs.length - i) xs.length ?_ ?_
  · exact ⟨0, by rw [fillR_0, List.length_map], rfl, rfl, rfl, by omega, by omega⟩
  intro k t l c m' KN ⟨i, hm, h0, h3, h4, hi, hk⟩ next
  subst hm
  have hs := hs.mono (Mem.le.push m ⟨fillR (xs.map Nm.av) [.str ByteArray.empty, .int .i64 0, .int .i64 0, .int .i64 0] i, 4⟩)
  have hlen := hs.len'
  rw [List.length_map] at hlen
  refine goh_ ?_
  refine ⟨fun hc => ?_, fun hc => ?_⟩
  · have hj : i < xs.length := by omega
    obtain ⟨a, i0, cap, B, rfl, hb, hz, hr⟩ := hs.some_ (j := i) (by simpa using hj)
    have hr := fun l => hr l i (by simpa using hj)
    simp only [List.getElem_map] at hr
    have hw := w64_succ hj (show xs.length < 2 ^ 63 by omega)
    have hg := fillR_get (A := xs.map Nm.av) (z := [.str ByteArray.empty, .int .i64 0, .int .i64 0, .int .i64 0]) (i := i) (by simpa using hj)
    have hf := fillR_set (A := xs.map Nm.av) (z := [.str ByteArray.empty, .int .i64 0, .int .i64 0, .int .i64 0]) (i := i) (by simpa using hj)
    simp only [List.getElem_map, Nm.av] at hf
    refine goh_ ?_
    refine s_toNamed ?_
    refine goh_ ?_
    exact next _ _ _ _ _ (by omega) ⟨i + 1, rfl, h0, h3, rfl, by omega, rfl⟩
  · have hj : i = xs.length := by omega
    subst hj
    have := fillR_end (xs.map Nm.av) [.str ByteArray.empty, .int .i64 0, .int .i64 0, .int .i64 0]
    rw [List.length_map] at this
    rw [this]
    exact h
theorem s_toProto {p : Pr} {s1 s2 s3 s4 : AV} {m : Mem} {K : AR → Mem → Prop} (h1 : SlR m 2 s1 (p.ups.map U.av)) (h2 : SlR m 5 s2 (p.consts.map V.av)) (h3 : SlR m 5 s3 (p.ins.map I.av)) (h4 : SlR m 4 s4 (p.named.map Nm.av)) (hl : p.fit)
    (h : K (.ret (.agg [.str p.s, .int .i64 p.line, .int .i64 p.params, .bool p.rest, .int .i64 p.regs, .sl (.hp m.hp.length) 0 p.ups.length p.ups.length, .sl (.hp (m.hp.length + 1)) 0 p.consts.length p.consts.length, .sl (.hp (m.hp.length + 2)) 0 p.ins.length p.ins.length, .sl (.hp (m.hp.length + 3)) 0 p.named.length p.named.length])) (m.push4 p)) :
    Sim Tryd.prog 128 [.agg [.str p.s, .int .i64 p.line, .int .i64 p.params, .bool p.rest, .int .i64 p.regs, s1, s2, s3, s4]] m K := by
  refine entry (cxok []) Tryd.func128 rfl rfl (by decide) (by decide) ?_
  obtain ⟨a1, a2, a3, a4⟩ := h1.facts
  obtain ⟨b1, b2, b3, b4⟩ := h2.facts
  obtain ⟨c1, c2, c3, c4⟩ := h3.facts
  obtain ⟨d1, d2, d3, d4⟩ := h4.facts
  obtain ⟨l1, l2, l3, l4⟩ := hl
  refine goh_ ?_
  refine s_toUpS h1 l1 ?_
  have h2 := h2.mono (Mem.le.push m ⟨p.ups.map U.av, 2⟩)
  have h3 := h3.mono (Mem.le.push m ⟨p.ups.map U.av, 2⟩)
  have h4 := h4.mono (Mem.le.push m ⟨p.ups.map U.av, 2⟩)
  refine goh_ ?_
  refine s_toValueS h2 l2 ?_
  have h3 := h3.mono (Mem.le.push _ ⟨p.consts.map V.av, 5⟩)
  have h4 := h4.mono (Mem.le.push _ ⟨p.consts.map V.av, 5⟩)
  refine goh_ ?_
  refine s_toInsS h3 l3 ?_
  have h4 := h4.mono (Mem.le.push _ ⟨p.ins.map I.av, 5⟩)
  refine goh_ ?_
  refine s_toNamedS h4 l4 ?_
  refine goh_ ?_
  exact h
end Go.Proofs.YtdonkjepjobhnaaDoor.IM
namespace Go.Proofs.YtdonkjepjobhnaaDoor.IM
open Go Go.Proofs.IM
theorem s_toProtoS {s : AV} {ps : List Pr} {m : Mem} {K : AR → Mem → Prop} (hp : PsR m s ps) (hl : ps.length < 2 ^ 40) (hL : ∀ p ∈ ps, p.fit)
    (h : ∀ m' own, m.le m' → PsO m' (.sl (.hp m.hp.length) 0 ps.length ps.length) ps own → (∀ j ∈ own, m.hp.length ≤ j ∧ j < m'.hp.length) → K (.ret (.sl (.hp m.hp.length) 0 ps.length ps.length)) m') :
    Sim Tryd.prog 54 [s] m K := by
  refine entry (cxok []) Tryd.func54 rfl rfl (by decide) (by decide) ?_
  obtain ⟨rs, hs, hrl, hrow⟩ := hp
  have hlen := hs.len'
  rw [hrl] at hlen
  refine goh_ ?_
  refine ⟨by omega, ?_⟩
  refine loop_ (fun k t l c m' => m.le m' ∧ ∃ (i : Nat) (rows : List (List AV)) (os : List (List Nat)), m'.hp[m.hp.length]? = some ⟨rows, 9⟩ ∧ rows.length = ps.length ∧
    (∀ j, i ≤ j → j < ps.length → rows[j]? = some [.str ByteArray.empty, .int .i64 0, .int .i64 0, .bool false, .int .i64 0, .nils, .nils, .nils, .nils]) ∧ os.length = i ∧
    (∀ (j : Nat) (r : List AV) (p : Pr) (w : List Nat), rows[j]? = some r → ps[j]? = some p → os[j]? = some w → PrO m' r p w) ∧ os.flatten.Nodup ∧ (∀ x ∈ os.flatten, m.hp.length < x ∧ x < m'.hp.length) ∧
    t 0 = s ∧ t 3 = .sl (.hp m.hp.length) 0 ps.length ps.length ∧ t 4 = .int .i64 i ∧ i ≤ ps.length ∧ k = ps.length - i) ps.length ?_ ?_
  · exact ⟨Mem.le.push _ _, 0, _, [], push_at, by simp, fun j _ hj => by rw [List.getElem?_replicate, if_pos hj], rfl, fun j r p w _ _ hw => by simp at hw, by simp, fun x hx => by simp at hx, rfl, rfl, rfl, by omega, by omega⟩
  intro k t l c m' KN ⟨hle, i, rows, os, hk0, hrn, hz, hos, hpr, hnd, hrg, h0, h3, h4, hi, hk⟩ next
  have hs := hs.mono hle
  have hlen := hs.len'
  rw [hrl] at hlen
  refine goh_ ?_
  refine ⟨fun hc => ?_, fun hc => ?_⟩
  · have hj : i < ps.length := by omega
    have hj' : i < rs.length := by omega
    obtain ⟨a, i0, cap, B, rfl, hb, hz9, hr⟩ := hs.some_ hj'
    have hr := fun l => hr l i hj'
    obtain ⟨s1, s2, s3, s4, e0, e1, e2, e3, e4⟩ := ((hrow i rs[i] ps[i] (by simp [hj']) (by simp [hj])).mono hle).ex
    rw [e0] at hr
    obtain ⟨a1, a2, a3, a4⟩ := e1.facts
    obtain ⟨b1, b2, b3, b4⟩ := e2.facts
    obtain ⟨c1, c2, c3, c4⟩ := e3.facts
    obtain ⟨d1, d2, d3, d4⟩ := e4.facts
    have hw := w64_succ hj (show ps.length < 2 ^ 63 by omega)
    have ok := hL ps[i] (by simp)
    have hzi := hz i (Nat.le_refl _) hj
    have hkl : m.hp.length < m'.hp.length := (List.getElem?_eq_some_iff.1 hk0).1
    have hk4 : (m'.push4 ps[i]).hp[m.hp.length]? = some ⟨rows, 9⟩ := (push4_old hkl).trans hk0
    refine goh_ ?_
    refine s_toProto e1 e2 e3 e4 ok ?_
    refine goh_ ?_
    have hget : ∀ x, x ≠ m.hp.length → ({ m'.push4 ps[i] with hp := (m'.push4 ps[i]).hp.set m.hp.length ⟨rows.set i (prRow m'.hp.length ps[i]), 9⟩ } : Mem).hp[x]? = (m'.push4 ps[i]).hp[x]? := fun x hx => List.getElem?_set_ne (Ne.symm hx)
    refine next _ _ _ _ { m'.push4 ps[i] with hp := (m'.push4 ps[i]).hp.set m.hp.length ⟨rows.set i (prRow m'.hp.length ps[i]), 9⟩ } (show ps.length - (i + 1) < k by omega) ⟨?_, i + 1, rows.set i (prRow m'.hp.length ps[i]), os ++ [[m'.hp.length, m'.hp.length + 1, m'.hp.length + 2, m'.hp.length + 3]], ?_, by simpa using hrn, ?_, by simp [hos], ?_, ?_, ?_, h0, h3, rfl, by omega, rfl⟩
    · refine ⟨hle.ro, hle.gl, fun j B hB => ?_⟩
      have := (List.getElem?_eq_some_iff.1 hB).1
      rw [hget j (by omega), push4_old (by omega)]
      exact hle.hp j B hB
    · exact List.getElem?_set_self (by rw [push4_len]; omega)
    · intro j hj1 hj2
      rw [List.getElem?_set_ne (by omega)]
      exact hz j (by omega) hj2
    · intro j r p w hr' hp' hw'
      by_cases e : j < i
      · rw [List.getElem?_set_ne (by omega)] at hr'
        rw [List.getElem?_append_left (by omega)] at hw'
        refine (hpr j r p w hr' hp' hw').ext fun x hx => ?_
        have := hrg x (by simp only [List.mem_flatten]; exact ⟨w, List.mem_of_getElem? hw', hx⟩)
        rw [hget x (by omega), push4_old this.2]
      · have hji : j = i := by
          have := (List.getElem?_eq_some_iff.1 hw').1
          simp at this; omega
        subst hji
        rw [List.getElem?_set_self (by omega)] at hr'
        rw [List.getElem?_append_right (by omega), hos, Nat.sub_self] at hw'
        simp at hw'
        rw [List.getElem?_eq_getElem hj] at hp'
        cases hr'; cases hp'; subst hw'
        refine (PrO_push4 m' ps[j]).ext fun x hx => hget x ?_
        simp at hx; omega
    · simp only [List.flatten_append, List.flatten_cons, List.flatten_nil, List.append_nil]
      rw [List.nodup_append]
      refine ⟨hnd, by simp <;> omega, fun x hx y hy e => ?_⟩
      have := (hrg x hx).2
      simp at hy; omega
    · intro x hx
      simp only [List.flatten_append, List.flatten_cons, List.flatten_nil, List.append_nil, List.mem_append] at hx
      have hl4 : ({ m'.push4 ps[i] with hp := (m'.push4 ps[i]).hp.set m.hp.length ⟨rows.set i (prRow m'.hp.length ps[i]), 9⟩ } : Mem).hp.length = m'.hp.length + 4 := by simp [push4_len]
      rw [hl4]
      rcases hx with hx | hx
      · have := hrg x hx; omega
      · simp at hx; omega
  · have hj : i = ps.length := by omega
    subst hj
    refine h m' (m.hp.length :: os.flatten) hle ⟨rows, [m.hp.length], os, .inr ⟨_, _, _, _, rfl, hk0, rfl, by simp [hrn], by rw [← hrn, List.take_length], rfl⟩, hrn, hos, hpr, rfl, ?_⟩ ?_
    · rw [List.nodup_cons]
      exact ⟨fun hx => by have := hrg _ hx; omega, hnd⟩
    · intro x hx
      have hkl : m.hp.length < m'.hp.length := (List.getElem?_eq_some_iff.1 hk0).1
      rcases List.mem_cons.1 hx with e | e
      · omega
      · have := hrg x e; omega
theorem s_toCode {s : AV} {ps : List Pr} {m : Mem} {K : AR → Mem → Prop} (hp : PsR m s ps) (hl : ps.length < 2 ^ 40) (hL : ∀ p ∈ ps, p.fit)
    (h : ∀ m' own, m.le m' → PsO m' (.sl (.hp m.hp.length) 0 ps.length ps.length) ps own → (∀ j ∈ own, m.hp.length ≤ j ∧ j < m'.hp.length) → K (.ret (.agg [.sl (.hp m.hp.length) 0 ps.length ps.length])) m') :
    Sim Tryd.prog 23 [.agg [s]] m K := by
  refine entry (cxok []) Tryd.func23 rfl rfl (by decide) (by decide) ?_
  obtain ⟨a1, a2, a3, a4⟩ := hp.facts
  refine goh_ ?_
  refine s_toProtoS hp hl hL fun m' own hle ho hr => ?_
  refine goh_ ?_
  exact h m' own hle ho hr
end Go.Proofs.YtdonkjepjobhnaaDoor.IM
namespace Go.Proofs.YtdonkjepjobhnaaDoor.IM
open Go Go.Proofs.IM Go.Proofs.Flt
theorem s_sameFloat {a b : Nat} {m : Mem} {K : AR → Mem → Prop} (hs : SameF a b) (h : K (.ret (.bool true)) m) : Sim Tryd.prog 140 [.flt a, .flt b] m K := by
  refine entry (cxok []) Tryd.func140 rfl rfl (by decide) (by decide) ?_
  have ea : fne a a = nan a := by rw [fne_iff, feq_self, Bool.not_not]
  have eb : fne b b = nan b := by rw [fne_iff, feq_self, Bool.not_not]
  cases hna : nan a with
  | true =>
    have hnb : nan b = true := by
      rcases hs with e | e
      · rw [← e]; exact hna
      · exact e.2
    rw [hna] at ea; rw [hnb] at eb
    exact gox_
  | false =>
    have e : b = a := by
      rcases hs with e | e
      · exact e.symm
      · rw [hna] at e; cases e.1
    subst e
    rw [hna] at ea
    have es : feq b b = true := by rw [feq_self, hna]; rfl
    cases hz : feq b 0 with
    | true =>
      have := one_over (feq_zero hz)
      exact gox_
    | false =>
      exact gox_
theorem s_eqFault {a b c : Int} {m : Mem} {K : AR → Mem → Prop} (h : K (.ret (.bool true)) m) : Sim Tryd.prog 25 [.agg [.int .i64 a, .int .i64 b, .int .i64 c], .agg [.int .i64 a, .int .i64 b, .int .i64 c]] m K := by
  refine entry (cxok []) Tryd.func25 rfl rfl (by decide) (by decide) ?_
  refine go_ ?_
  simp [h]
theorem s_eqUp {a : Bool} {b : Int} {m : Mem} {K : AR → Mem → Prop} (h : K (.ret (.bool true)) m) : Sim Tryd.prog 178 [.agg [.bool a, .int .i64 b], .agg [.bool a, .int .i64 b]] m K := by
  refine entry (cxok []) Tryd.func178 rfl rfl (by decide) (by decide) ?_
  refine go_ ?_
  simp [h]
theorem s_eqIns {a b c d e : Int} {m : Mem} {K : AR → Mem → Prop} (h : K (.ret (.bool true)) m) : Sim Tryd.prog 179 [.agg [.int .i64 a, .int .i64 b, .int .i64 c, .int .i64 d, .int .i64 e], .agg [.int .i64 a, .int .i64 b, .int .i64 c, .int .i64 d, .int .i64 e]] m K := by
  refine entry (cxok []) Tryd.func179 rfl rfl (by decide) (by decide) ?_
  refine go_ ?_
  simp [h]
theorem s_eqNamed {s : ByteArray} {a b c : Int} {m : Mem} {K : AR → Mem → Prop} (h : K (.ret (.bool true)) m) : Sim Tryd.prog 180 [.agg [.str s, .int .i64 a, .int .i64 b, .int .i64 c], .agg [.str s, .int .i64 a, .int .i64 b, .int .i64 c]] m K := by
  refine entry (cxok []) Tryd.func180 rfl rfl (by decide) (by decide) ?_
  refine go_ ?_
  simp [h]
theorem s_eqValue {k n r : Int} {f g : Nat} {s : ByteArray} {m : Mem} {K : AR → Mem → Prop} (hs : SameF f g) (h : K (.ret (.bool true)) m) : Sim Tryd.prog 84 [.agg [.int .i64 k, .int .i64 n, .flt f, .str s, .int .i64 r], .agg [.int .i64 k, .int .i64 n, .flt g, .str s, .int .i64 r]] m K := by
  refine entry (cxok []) Tryd.func84 rfl rfl (by decide) (by decide) ?_
  refine go_ ?_
  refine s_sameFloat hs ?_
  refine go_ ?_
  simp [h]
theorem s_eqUpS {s s' : AV} {xs : List U} {m : Mem} {K : AR → Mem → Prop} (hs : SlR m 2 s (xs.map U.av)) (hs' : SlR m 2 s' (xs.map U.av)) (hl : xs.length < 2 ^ 63) (h : K (.ret (.bool true)) m) :
    Sim Tryd.prog 153 [s, s'] m K := by
  refine entry (cxok []) Tryd.func153 rfl rfl (by decide) (by decide) ?_
  have hlen := hs.len'
  have hlen' := hs'.len'
  rw [List.length_map] at hlen hlen'
  refine goh_ ?_
  refine loop_ (fun k t l c m' => m' = m ∧ ∃ (i : Nat), t 0 = s ∧ t 1 = s' ∧ t 5 = .int .i64 i ∧ i ≤ xs.length ∧ k = xs.length - i) xs.length ?_ ?_
  · exact ⟨rfl, 0, rfl, rfl, rfl, by omega, by omega⟩
  intro k t l c m KN ⟨hm, i, h0, h1, h5, hi, hk⟩ next
  subst hm
  refine goh_ ?_
  intro hc
  · have hj : i < xs.length := by omega
    obtain ⟨a, i0, cap, B, rfl, hb, hz, hr⟩ := hs.some_ (j := i) (by simpa using hj)
    obtain ⟨a', i0', cap', B', rfl, hb', hz', hr'⟩ := hs'.some_ (j := i) (by simpa using hj)
    have hr := fun l => hr l i (by simpa using hj)
    have hr' := fun l => hr' l i (by simpa using hj)
    simp only [List.getElem_map] at hr hr'
    have hw := w64_succ hj hl
    refine goh_ ?_
    refine draw_ [(0, .pure), (1, .pure), (2, .pure), (3, .read), (4, .pure), (5, .pure), (6, .pure), (7, .read), (8, .step []), (9, .pure)] (by kernel_rfl) ?_
    refine goh_ ?_
    refine s_eqUp ?_
    refine goh_ ?_
    exact next _ _ _ _ _ (by omega) ⟨rfl, i + 1, h0, h1, rfl, by omega, rfl⟩
theorem s_eqValueS {s s' : AV} {xs : List V} {m : Mem} {K : AR → Mem → Prop} (hs : SlR m 5 s (xs.map V.av)) (hs' : SlR m 5 s' (xs.map V.av)) (hl : xs.length < 2 ^ 63) (h : K (.ret (.bool true)) m) :
    Sim Tryd.prog 154 [s, s'] m K := by
  refine entry (cxok []) Tryd.func154 rfl rfl (by decide) (by decide) ?_
  have hlen := hs.len'
  have hlen' := hs'.len'
  rw [List.length_map] at hlen hlen'
  refine goh_ ?_
  refine loop_ (fun k t l c m' => m' = m ∧ ∃ (i : Nat), t 0 = s ∧ t 1 = s' ∧ t 5 = .int .i64 i ∧ i ≤ xs.length ∧ k = xs.length - i) xs.length ?_ ?_
  · exact ⟨rfl, 0, rfl, rfl, rfl, by omega, by omega⟩
  intro k t l c m KN ⟨hm, i, h0, h1, h5, hi, hk⟩ next
  subst hm
  refine goh_ ?_
  intro hc
  · have hj : i < xs.length := by omega
    obtain ⟨a, i0, cap, B, rfl, hb, hz, hr⟩ := hs.some_ (j := i) (by simpa using hj)
    obtain ⟨a', i0', cap', B', rfl, hb', hz', hr'⟩ := hs'.some_ (j := i) (by simpa using hj)
    have hr := fun l => hr l i (by simpa using hj)
    have hr' := fun l => hr' l i (by simpa using hj)
    simp only [List.getElem_map] at hr hr'
    have hw := w64_succ hj hl
    refine goh_ ?_
    refine draw_ [(0, .pure), (1, .pure), (2, .pure), (3, .read), (4, .pure), (5, .pure), (6, .pure), (7, .read), (8, .step []), (9, .pure)] (by kernel_rfl) ?_
    refine goh_ ?_
    refine s_eqValue (.inl rfl) ?_
    refine goh_ ?_
    exact next _ _ _ _ _ (by omega) ⟨rfl, i + 1, h0, h1, rfl, by omega, rfl⟩
theorem s_eqInsS {s s' : AV} {xs : List I} {m : Mem} {K : AR → Mem → Prop} (hs : SlR m 5 s (xs.map I.av)) (hs' : SlR m 5 s' (xs.map I.av)) (hl : xs.length < 2 ^ 63) (h : K (.ret (.bool true)) m) :
    Sim Tryd.prog 155 [s, s'] m K := by
  refine entry (cxok []) Tryd.func155 rfl rfl (by decide) (by decide) ?_
  have hlen := hs.len'
  have hlen' := hs'.len'
  rw [List.length_map] at hlen hlen'
  refine goh_ ?_
  refine loop_ (fun k t l c m' => m' = m ∧ ∃ (i : Nat), t 0 = s ∧ t 1 = s' ∧ t 5 = .int .i64 i ∧ i ≤ xs.length ∧ k = xs.length - i) xs.length ?_ ?_
  · exact ⟨rfl, 0, rfl, rfl, rfl, by omega, by omega⟩
  intro k t l c m KN ⟨hm, i, h0, h1, h5, hi, hk⟩ next
  subst hm
  refine goh_ ?_
  intro hc
  · have hj : i < xs.length := by omega
    obtain ⟨a, i0, cap, B, rfl, hb, hz, hr⟩ := hs.some_ (j := i) (by simpa using hj)
    obtain ⟨a', i0', cap', B', rfl, hb', hz', hr'⟩ := hs'.some_ (j := i) (by simpa using hj)
    have hr := fun l => hr l i (by simpa using hj)
    have hr' := fun l => hr' l i (by simpa using hj)
    simp only [List.getElem_map] at hr hr'
    have hw := w64_succ hj hl
    refine goh_ ?_
    refine draw_ [(0, .pure), (1, .pure), (2, .pure), (3, .read), (4, .pure), (5, .pure), (6, .pure), (7, .read), (8, .step []), (9, .pure)] (by kernel_rfl) ?_
    refine goh_ ?_
    refine s_eqIns ?_
    refine goh_ ?_
    exact next _ _ _ _ _ (by omega) ⟨rfl, i + 1, h0, h1, rfl, by omega, rfl⟩
theorem s_eqNamedS {s s' : AV} {xs : List Nm} {m : Mem} {K : AR → Mem → Prop} (hs : SlR m 4 s (xs.map Nm.av)) (hs' : SlR m 4 s' (xs.map Nm.av)) (hl : xs.length < 2 ^ 63) (h : K (.ret (.bool true)) m) :
    Sim Tryd.prog 156 [s, s'] m K := by
  refine entry (cxok []) Tryd.func156 rfl rfl (by decide) (by decide) ?_
  have hlen := hs.len'
  have hlen' := hs'.len'
  rw [List.length_map] at hlen hlen'
  refine goh_ ?_
  refine loop_ (fun k t l c m' => m' = m ∧ ∃ (i : Nat), t 0 = s ∧ t 1 = s' ∧ t 5 = .int .i64 i ∧ i ≤ xs.length ∧ k = xs.length - i) xs.length ?_ ?_
  · exact ⟨rfl, 0, rfl, rfl, rfl, by omega, by omega⟩
  intro k t l c m KN ⟨hm, i, h0, h1, h5, hi, hk⟩ next
  subst hm
  refine goh_ ?_
  intro hc
  · have hj : i < xs.length := by omega
    obtain ⟨a, i0, cap, B, rfl, hb, hz, hr⟩ := hs.some_ (j := i) (by simpa using hj)
    obtain ⟨a', i0', cap', B', rfl, hb', hz', hr'⟩ := hs'.some_ (j := i) (by simpa using hj)
    have hr := fun l => hr l i (by simpa using hj)
    have hr' := fun l => hr' l i (by simpa using hj)
    simp only [List.getElem_map] at hr hr'
    have hw := w64_succ hj hl
    refine goh_ ?_
    refine draw_ [(0, .pure), (1, .pure), (2, .pure), (3, .read), (4, .pure), (5, .pure), (6, .pure), (7, .read), (8, .step []), (9, .pure)] (by kernel_rfl) ?_
    refine goh_ ?_
    refine s_eqNamed ?_
    refine goh_ ?_
    exact next _ _ _ _ _ (by omega) ⟨rfl, i + 1, h0, h1, rfl, by omega, rfl⟩
theorem s_eqProto {p : Pr} {s1 s2 s3 s4 s1' s2' s3' s4' : AV} {m : Mem} {K : AR → Mem → Prop} (h1 : SlR m 2 s1 (p.ups.map U.av)) (h2 : SlR m 5 s2 (p.consts.map V.av)) (h3 : SlR m 5 s3 (p.ins.map I.av)) (h4 : SlR m 4 s4 (p.named.map Nm.av))
    (h1' : SlR m 2 s1' (p.ups.map U.av)) (h2' : SlR m 5 s2' (p.consts.map V.av)) (h3' : SlR m 5 s3' (p.ins.map I.av)) (h4' : SlR m 4 s4' (p.named.map Nm.av)) (ok : p.ok) (h : K (.ret (.bool true)) m) :
    Sim Tryd.prog 104 [.agg [.str p.s, .int .i64 p.line, .int .i64 p.params, .bool p.rest, .int .i64 p.regs, s1, s2, s3, s4], .agg [.str p.s, .int .i64 p.line, .int .i64 p.params, .bool p.rest, .int .i64 p.regs, s1', s2', s3', s4']] m K := by
  refine entry (cxok []) Tryd.func104 rfl rfl (by decide) (by decide) ?_
  obtain ⟨a1, a2, a3, a4⟩ := h1.facts
  obtain ⟨b1, b2, b3, b4⟩ := h2.facts
  obtain ⟨c1, c2, c3, c4⟩ := h3.facts
  obtain ⟨d1, d2, d3, d4⟩ := h4.facts
  obtain ⟨e1, e2, e3, e4⟩ := h1'.facts
  obtain ⟨f1, f2, f3, f4⟩ := h2'.facts
  obtain ⟨g1, g2, g3, g4⟩ := h3'.facts
  obtain ⟨i1, i2, i3, i4⟩ := h4'.facts
  obtain ⟨l1, l2, l3, l4⟩ := ok
  refine goh_ ?_
  refine s_eqUpS h1 h1' l1 ?_
  refine goh_ ?_
  refine s_eqValueS h2 h2' l2 ?_
  refine goh_ ?_
  refine s_eqInsS h3 h3' l3 ?_
  refine goh_ ?_
  refine s_eqNamedS h4 h4' l4 ?_
  exact gox_
theorem s_eqProtoS {s s' : AV} {ps : List Pr} {m : Mem} {K : AR → Mem → Prop} (hp : PsR m s ps) (hp' : PsR m s' ps) (hl : ps.length < 2 ^ 63) (hL : ∀ p ∈ ps, p.ok) (h : K (.ret (.bool true)) m) :
    Sim Tryd.prog 41 [s, s'] m K := by
  refine entry (cxok []) Tryd.func41 rfl rfl (by decide) (by decide) ?_
  obtain ⟨rs, hs, hrl, hrow⟩ := hp
  obtain ⟨rs', hs', hrl', hrow'⟩ := hp'
  have hlen := hs.len'
  have hlen' := hs'.len'
  rw [hrl] at hlen
  rw [hrl'] at hlen'
  refine goh_ ?_
  refine loop_ (fun k t l c m' => m' = m ∧ ∃ (i : Nat), t 0 = s ∧ t 1 = s' ∧ t 5 = .int .i64 i ∧ i ≤ ps.length ∧ k = ps.length - i) ps.length ?_ ?_
  · exact ⟨rfl, 0, rfl, rfl, rfl, by omega, by omega⟩
  intro k t l c m KN ⟨hm, i, h0, h1, h5, hi, hk⟩ next
  subst hm
  refine goh_ ?_
  intro hc
  · have hj : i < ps.length := by omega
    have hjr : i < rs.length := by omega
    have hjr' : i < rs'.length := by omega
    obtain ⟨a, i0, cap, B, rfl, hb, hz, hr⟩ := hs.some_ hjr
    obtain ⟨a', i0', cap', B', rfl, hb', hz', hr'⟩ := hs'.some_ hjr'
    have hr := fun l => hr l i hjr
    have hr' := fun l => hr' l i hjr'
    obtain ⟨s1, s2, s3, s4, e0, e1, e2, e3, e4⟩ := (hrow i rs[i] ps[i] (by simp [hjr]) (by simp [hj])).ex
    obtain ⟨s1', s2', s3', s4', e0', e1', e2', e3', e4'⟩ := (hrow' i rs'[i] ps[i] (by simp [hjr']) (by simp [hj])).ex
    rw [e0] at hr
    rw [e0'] at hr'
    obtain ⟨a1, a2, a3, a4⟩ := e1.facts
    obtain ⟨b1, b2, b3, b4⟩ := e2.facts
    obtain ⟨c1, c2, c3, c4⟩ := e3.facts
    obtain ⟨d1, d2, d3, d4⟩ := e4.facts
    obtain ⟨f1, f2, f3, f4⟩ := e1'.facts
    obtain ⟨g1, g2, g3, g4⟩ := e2'.facts
    obtain ⟨i1, i2, i3, i4⟩ := e3'.facts
    obtain ⟨j1, j2, j3, j4⟩ := e4'.facts
    have ok := hL ps[i] (by simp)
    have hw := w64_succ hj hl
    refine goh_ ?_
    refine draw_ [(0, .pure), (1, .pure), (2, .pure), (3, .read), (4, .pure), (5, .pure), (6, .pure), (7, .read), (8, .step []), (9, .pure)] (by kernel_rfl) ?_
    refine goh_ ?_
    refine s_eqProto e1 e2 e3 e4 e1' e2' e3' e4' ok ?_
    refine goh_ ?_
    exact next _ _ _ _ _ (by omega) ⟨rfl, i + 1, h0, h1, rfl, by omega, rfl⟩
theorem s_eqCode {s s' : AV} {ps : List Pr} {m : Mem} {K : AR → Mem → Prop} (hp : PsR m s ps) (hp' : PsR m s' ps) (hl : ps.length < 2 ^ 63) (hL : ∀ p ∈ ps, p.ok) (h : K (.ret (.bool true)) m) :
    Sim Tryd.prog 12 [.agg [s], .agg [s']] m K := by
  refine entry (cxok []) Tryd.func12 rfl rfl (by decide) (by decide) ?_
  obtain ⟨a1, a2, a3, a4⟩ := hp.facts
  obtain ⟨b1, b2, b3, b4⟩ := hp'.facts
  refine goh_ ?_
  refine s_eqProtoS hp hp' hl hL ?_
  exact gox_
end Go.Proofs.YtdonkjepjobhnaaDoor.IM
namespace Go.Proofs.IM
open Go
def zok (v : V) (num flt str ref : Bool) : Bool := (num || v.n == 0) && (flt || feq v.f 0) && (str || v.s.toList == []) && (ref || v.r == 0)
/-- A value is valid. -/
def vok (v : V) : Bool :=
  if v.k = 0 then zok v false false false false
  else if v.k = 1 then zok v true false false false && (v.n == 0 || v.n == 1)
  else if v.k = 2 then zok v true false false false
  else if v.k = 3 then zok v false true false false
  else if v.k = 4 then zok v false false true false && decide ((v.s.size : Int) ≤ 4000)
  else if v.k = 5 ∨ v.k = 6 ∨ v.k = 7 then zok v false false false true && decide (0 ≤ v.r)
  else if v.k = 8 then zok v true false false false && decide (0 ≤ v.n) && decide (v.n < 15)
  else false
end Go.Proofs.IM
namespace Go.Proofs.YtdonkjepjobhnaaDoor.IM
open Go Go.Proofs.IM Go.Proofs.Flt
set_option maxHeartbeats 8000000 in
theorem s_l1zero {k n r : Int} {f : Nat} {s : ByteArray} {b1 b2 b3 b4 : Bool} {m : Mem} {K : AR → Mem → Prop} (h : K (.ret (.bool (zok ⟨k, n, f, s, r⟩ b1 b2 b3 b4))) m) :
    Sim Tryd.prog 114 [.agg [.int .i64 k, .int .i64 n, .flt f, .str s, .int .i64 r], .bool b1, .bool b2, .bool b3, .bool b4] m K := by
  refine entry (cxok []) Tryd.func114 rfl rfl (by decide) (by decide) ?_
  simp only [zok] at h
  cases b1 <;> cases b2 <;> cases b3 <;> cases b4 <;> (refine go_ ?_; grind)
set_option maxHeartbeats 8000000 in
theorem s_specValueOk {k n r : Int} {f : Nat} {s : ByteArray} {m : Mem} {K : AR → Mem → Prop} (h : K (.ret (.bool (vok ⟨k, n, f, s, r⟩))) m) :
    Sim Tryd.prog 44 [.agg [.int .i64 k, .int .i64 n, .flt f, .str s, .int .i64 r]] m K := by
  refine entry (cxok []) Tryd.func44 rfl rfl (by decide) (by decide) ?_
  simp only [vok] at h
  by_cases h0 : k = 0
  · subst h0; rw [if_pos rfl] at h; refine go_ ?_; refine s_l1zero ?_; exact gox_
  rw [if_neg h0] at h
  by_cases h1 : k = 1
  · subst h1; rw [if_pos rfl] at h; refine go_ ?_; refine s_l1zero ?_; refine go_ ?_; revert h; generalize zok _ _ _ _ _ = z; intro h; cases z <;> grind
  rw [if_neg h1] at h
  by_cases h2 : k = 2
  · subst h2; rw [if_pos rfl] at h; refine go_ ?_; refine s_l1zero ?_; exact gox_
  rw [if_neg h2] at h
  by_cases h3 : k = 3
  · subst h3; rw [if_pos rfl] at h; refine go_ ?_; refine s_l1zero ?_; exact gox_
  rw [if_neg h3] at h
  by_cases h4 : k = 4
  · subst h4; rw [if_pos rfl] at h; refine go_ ?_; refine s_l1zero ?_; refine go_ ?_; revert h; generalize zok _ _ _ _ _ = z; intro h; cases z <;> grind
  rw [if_neg h4] at h
  by_cases h5 : k = 5 ∨ k = 6 ∨ k = 7
  · rw [if_pos h5] at h
    rcases h5 with h5 | h5 | h5 <;> subst h5 <;> refine go_ ?_ <;> refine s_l1zero ?_ <;> refine go_ ?_ <;> revert h <;> generalize zok _ _ _ _ _ = z <;> intro h <;> cases z <;> grind
  rw [if_neg h5] at h
  simp only [not_or] at h5
  by_cases h8 : k = 8
  · subst h8; rw [if_pos rfl] at h; refine go_ ?_; refine s_l1zero ?_; refine go_ ?_; revert h; generalize zok _ _ _ _ _ = z; intro h; cases z <;> grind
  rw [if_neg h8] at h
  obtain ⟨h5, h6, h7⟩ := h5
  have g0 : (k == 0) = false := by simpa using h0
  have g1 : (k == 1) = false := by simpa using h1
  have g2 : (k == 2) = false := by simpa using h2
  have g3 : (k == 3) = false := by simpa using h3
  have g4 : (k == 4) = false := by simpa using h4
  have g5 : (k == 5) = false := by simpa using h5
  have g6 : (k == 6) = false := by simpa using h6
  have g7 : (k == 7) = false := by simpa using h7
  have g8 : (k == 8) = false := by simpa using h8
  exact gox_
end Go.Proofs.YtdonkjepjobhnaaDoor.IM
namespace Go.Proofs.YtdonkjepjobhnaaDoor.IM
open Go Go.Proofs.IM Go.Proofs.Flt
set_option maxHeartbeats 8000000 in
theorem s_implValueOk {k n r : Int} {f : Nat} {s : ByteArray} {m : Mem} {K : AR → Mem → Prop} (h : K (.ret (.bool (vok ⟨k, n, f, s, r⟩))) m) :
    Sim Tryd.prog 47 [.agg [.int .i64 k, .int .i64 n, .flt f, .str s, .int .i64 r]] m K := by
  refine entry (cxok []) Tryd.func47 rfl rfl (by decide) (by decide) ?_
  refine go_ ?_
  refine draw_ [(0, .pure), (1, .read), (2, .pure), (3, .pure), (4, .read), (5, .pure), (6, .pure), (7, .read), (8, .pure), (9, .pure), (10, .read), (11, .pure), (12, .pure), (13, .pure), (14, .pure), (15, .pure)] (by kernel_rfl) ?_
  simp only [vok, zok] at h
  by_cases h0 : k = 0
  · subst h0; rw [if_pos rfl] at h; refine go_ ?_; grind
  rw [if_neg h0] at h
  by_cases h1 : k = 1
  · subst h1; rw [if_pos rfl] at h; refine go_ ?_; grind
  rw [if_neg h1] at h
  by_cases h2 : k = 2
  · subst h2; rw [if_pos rfl] at h; refine go_ ?_; grind
  rw [if_neg h2] at h
  by_cases h3 : k = 3
  · subst h3; rw [if_pos rfl] at h; refine go_ ?_; grind
  rw [if_neg h3] at h
  by_cases h4 : k = 4
  · subst h4; rw [if_pos rfl] at h; refine go_ ?_; grind
  rw [if_neg h4] at h
  by_cases h5 : k = 5 ∨ k = 6 ∨ k = 7
  · rw [if_pos h5] at h
    rcases h5 with h5 | h5 | h5 <;> subst h5 <;> refine go_ ?_ <;> grind
  rw [if_neg h5] at h
  simp only [not_or] at h5
  by_cases h8 : k = 8
  · subst h8; rw [if_pos rfl] at h; refine go_ ?_; grind
  rw [if_neg h8] at h
  obtain ⟨h5, h6, h7⟩ := h5
  have g0 : (k == 0) = false := by simpa using h0
  have g1 : (k == 1) = false := by simpa using h1
  have g2 : (k == 2) = false := by simpa using h2
  have g3 : (k == 3) = false := by simpa using h3
  have g4 : (k == 4) = false := by simpa using h4
  have g5 : (k == 5) = false := by simpa using h5
  have g6 : (k == 6) = false := by simpa using h6
  have g7 : (k == 7) = false := by simpa using h7
  have g8 : (k == 8) = false := by simpa using h8
  exact gox_
end Go.Proofs.YtdonkjepjobhnaaDoor.IM
namespace Go.Proofs.IM
open Go
def inR (x lo hi : Int) : Bool := decide (lo ≤ x) && decide (x ≤ hi)
def cok (v : V) : Bool := vok v && !(v.k == 5 || v.k == 6 || v.k == 7) && (if v.k = 3 then !Flt.nan v.f else feq v.f 0 && !Flt.neg v.f)
def endsOp (op : Int) : Bool := op == 19 || op == 29 || op == 30
end Go.Proofs.IM
namespace Go.Proofs.YtdonkjepjobhnaaDoor.IM
open Go Go.Proofs.IM Go.Proofs.Flt
theorem s_l3in {x lo hi : Int} {m : Mem} {K : AR → Mem → Prop} (h : K (.ret (.bool (inR x lo hi))) m) : Sim Tryd.prog 127 [.int .i64 x, .int .i64 lo, .int .i64 hi] m K := by
  refine entry (cxok []) Tryd.func127 rfl rfl (by decide) (by decide) ?_
  simp only [inR] at h
  refine go_ ?_
  grind
theorem s_within {x lo hi : Int} {m : Mem} {K : AR → Mem → Prop} (h : K (.ret (.bool (inR x lo hi))) m) : Sim Tryd.prog 60 [.int .i64 x, .int .i64 lo, .int .i64 hi] m K := by
  refine entry (cxok []) Tryd.func60 rfl rfl (by decide) (by decide) ?_
  simp only [inR] at h
  refine go_ ?_
  grind
theorem s_l3fault {a b c : Int} {m : Mem} {K : AR → Mem → Prop} (h : K (.ret (.agg [.int .i64 a, .int .i64 b, .int .i64 c])) m) : Sim Tryd.prog 53 [.int .i64 a, .int .i64 b, .int .i64 c] m K := by
  refine entry (cxok []) Tryd.func53 rfl rfl (by decide) (by decide) ?_
  exact gox_
theorem s_ends {op : Int} {m : Mem} {K : AR → Mem → Prop} (h : K (.ret (.bool (endsOp op))) m) : Sim Tryd.prog 59 [.int .i64 op] m K := by
  refine entry (cxok []) Tryd.func59 rfl rfl (by decide) (by decide) ?_
  simp only [endsOp] at h
  refine go_ ?_
  grind
theorem s_fields {o a b c d : Int} {m : Mem} {K : AR → Mem → Prop} (h : K (.ret (.agg [.int .i64 a, .int .i64 b, .int .i64 c, .int .i64 d])) m) : Sim Tryd.prog 94 [.agg [.int .i64 o, .int .i64 a, .int .i64 b, .int .i64 c, .int .i64 d]] m K := by
  refine entry (cxok []) Tryd.func94 rfl rfl (by decide) (by decide) ?_
  exact gox_
theorem s_l3fields {o a b c d : Int} {m : Mem} {K : AR → Mem → Prop} (h : K (.ret (.sl (.hp m.hp.length) 0 4 4)) (m.push ⟨[[.int .i64 a], [.int .i64 b], [.int .i64 c], [.int .i64 d]], 1⟩)) : Sim Tryd.prog 90 [.agg [.int .i64 o, .int .i64 a, .int .i64 b, .int .i64 c, .int .i64 d]] m K := by
  refine entry (cxok []) Tryd.func90 rfl rfl (by decide) (by decide) ?_
  exact gox_
theorem s_l3constOk {k n r : Int} {f : Nat} {s : ByteArray} {m : Mem} {K : AR → Mem → Prop} (h : K (.ret (.bool (cok ⟨k, n, f, s, r⟩))) m) :
    Sim Tryd.prog 124 [.agg [.int .i64 k, .int .i64 n, .flt f, .str s, .int .i64 r]] m K := by
  refine entry (cxok []) Tryd.func124 rfl rfl (by decide) (by decide) ?_
  simp only [cok] at h
  refine goh_ ?_
  refine s_specValueOk ?_
  have g := fgtr_inf (neg f)
  have e := feq_self f
  cases hz : feq f 0 with
  | true =>
    have := one_over (feq_zero hz)
    rw [hz] at h
    revert h; generalize vok _ = z; intro h
    refine goh_ ?_
    grind
  | false =>
    rw [hz] at h
    revert h; generalize vok _ = z; intro h
    refine goh_ ?_
    grind
theorem s_l3namedOk_ {m : Mem} : True := trivial
end Go.Proofs.YtdonkjepjobhnaaDoor.IM
namespace Go.Proofs.IM
open Go
def hok (p : Pr) (first : Bool) : Bool :=
  decide ((p.s.size : Int) ≤ 40) && inR p.line 0 100000 && inR p.regs 0 250 && inR p.params 0 (if p.rest then w64 (p.regs - 1) else p.regs) && decide ((p.ups.length : Int) ≤ 250) && decide ((p.consts.length : Int) ≤ 500) && (!first || (p.params == 0 && (p.ups.length : Int) == 0))
/-- What a row of protos comes to, at one place. -/
theorem PsR.at_ {m : Mem} {s : AV} {ps : List Pr} (h : PsR m s ps) {i : Nat} (hi : i < ps.length) : ∃ (a : AA) (i0 c : Nat) (B : Blk) (s1 s2 s3 s4 : AV), s = .sl a i0 ps.length c ∧ (∀ l, blk? l m a = some B) ∧ B.sz = 9 ∧
    (∀ l, row? l m a (i0 + i) = some [.str ps[i].s, .int .i64 ps[i].line, .int .i64 ps[i].params, .bool ps[i].rest, .int .i64 ps[i].regs, s1, s2, s3, s4]) ∧
    SlR m 2 s1 (ps[i].ups.map U.av) ∧ SlR m 5 s2 (ps[i].consts.map V.av) ∧ SlR m 5 s3 (ps[i].ins.map I.av) ∧ SlR m 4 s4 (ps[i].named.map Nm.av) := by
  obtain ⟨rs, hs, hrl, hrow⟩ := h
  have hir : i < rs.length := by omega
  obtain ⟨a, i0, c, B, e, hb, hz, hr⟩ := hs.some_ hir
  obtain ⟨s1, s2, s3, s4, e0, e1, e2, e3, e4⟩ := (hrow i rs[i] ps[i] (by simp [hir]) (by simp [hi])).ex
  exact ⟨a, i0, c, B, s1, s2, s3, s4, by rw [e, hrl], hb, hz, fun l => by rw [hr l i hir, e0], e1, e2, e3, e4⟩
end Go.Proofs.IM
namespace Go.Proofs.YtdonkjepjobhnaaDoor.IM
open Go Go.Proofs.IM Go.Proofs.Flt
set_option maxHeartbeats 8000000
theorem s_l3headOk {s : AV} {ps : List Pr} {i : Nat} {m : Mem} {K : AR → Mem → Prop} (hp : PsR m s ps) (hi : i < ps.length) (h : K (.ret (.bool (hok ps[i] (i == 0)))) m) :
    Sim Tryd.prog 123 [.agg [s], .int .i64 i] m K := by
  refine entry (cxok []) Tryd.func123 rfl rfl (by decide) (by decide) ?_
  obtain ⟨a1, a2, a3, a4⟩ := hp.facts
  obtain ⟨a, i0, c, B, s1, s2, s3, s4, rfl, hb, hz, hr, e1, e2, e3, e4⟩ := hp.at_ hi
  obtain ⟨b1, b2, b3, b4⟩ := e1.facts
  obtain ⟨c1, c2, c3, c4⟩ := e2.facts
  obtain ⟨d1, d2, d3, d4⟩ := e3.facts
  obtain ⟨f1, f2, f3, f4⟩ := e4.facts
  have l1 := e1.len'
  have l2 := e2.len'
  rw [List.length_map] at l1 l2
  have hii : ((i : Int) < ps.length) = True := by simp; omega
  have hii0 : ((0 : Int) < i) = (i ≠ 0) := by simp; omega
  simp only [hok] at h
  cases hrest : ps[i].rest <;> rw [hrest] at h hr
  all_goals
    simp only [Bool.false_eq_true, ↓reduceIte] at h
    refine goh_ ?_
    refine ⟨fun q => ?_, fun q => by simpa [q] using h⟩
    refine s_l3in ?_
    refine goh_ ?_
    refine ⟨fun q => ?_, fun q => by simpa [q] using h⟩
    refine s_l3in ?_
    refine goh_ ?_
    refine ⟨fun q => ?_, fun q => by simpa [q] using h⟩
    refine s_l3in ?_
    refine goh_ ?_
    clear l1 l2 hr hb e1 e2 e3 e4 hp hii hii0
    grind
end Go.Proofs.YtdonkjepjobhnaaDoor.IM
namespace Go.Proofs.IM
open Go
def nok (p : Pr) (n : Nm) : Bool := inR n.s.size 1 40 && inR n.reg 0 (w64 (p.regs - 1)) && decide (0 ≤ n.lo) && decide (n.lo ≤ n.hi) && decide (n.hi ≤ p.ins.length)
end Go.Proofs.IM
namespace Go.Proofs.YtdonkjepjobhnaaDoor.IM
open Go Go.Proofs.IM Go.Proofs.Flt
set_option maxHeartbeats 8000000
theorem s_headOk {p : Pr} {s1 s2 s3 s4 : AV} {first : Bool} {m : Mem} {K : AR → Mem → Prop} (h1 : SlR m 2 s1 (p.ups.map U.av)) (h2 : SlR m 5 s2 (p.consts.map V.av)) (h3 : SlR m 5 s3 (p.ins.map I.av)) (h4 : SlR m 4 s4 (p.named.map Nm.av))
    (h : K (.ret (.bool (hok p first))) m) : Sim Tryd.prog 55 [.agg [.str p.s, .int .i64 p.line, .int .i64 p.params, .bool p.rest, .int .i64 p.regs, s1, s2, s3, s4], .bool first] m K := by
  refine entry (cxok []) Tryd.func55 rfl rfl (by decide) (by decide) ?_
  obtain ⟨b1, b2, b3, b4⟩ := h1.facts
  obtain ⟨c1, c2, c3, c4⟩ := h2.facts
  obtain ⟨d1, d2, d3, d4⟩ := h3.facts
  obtain ⟨f1, f2, f3, f4⟩ := h4.facts
  have l1 := h1.len'
  have l2 := h2.len'
  rw [List.length_map] at l1 l2
  have e : ((p.ups.length : Int) == 0) = !decide ((0 : Int) < p.ups.length) := by rw [Bool.eq_iff_iff]; simp
  simp only [hok] at h
  rw [e] at h
  cases hrest : p.rest <;> rw [hrest] at h
  all_goals
    simp only [Bool.false_eq_true, ↓reduceIte] at h
    refine goh_ ?_
    refine ⟨fun q => ?_, fun q => by simpa [q] using h⟩
    refine s_within ?_
    refine goh_ ?_
    refine ⟨fun q => ?_, fun q => by simpa [q] using h⟩
    refine s_within ?_
    refine goh_ ?_
    refine ⟨fun q => ?_, fun q => by simpa [q] using h⟩
    refine s_within ?_
    refine goh_ ?_
    clear l1 l2 h1 h2 h3 h4
    cases first <;> grind
theorem s_namedOk {p : Pr} {s1 s2 s3 s4 : AV} {s : ByteArray} {a b c : Int} {m : Mem} {K : AR → Mem → Prop} (h1 : SlR m 2 s1 (p.ups.map U.av)) (h2 : SlR m 5 s2 (p.consts.map V.av)) (h3 : SlR m 5 s3 (p.ins.map I.av)) (h4 : SlR m 4 s4 (p.named.map Nm.av))
    (h : K (.ret (.bool (nok p ⟨s, a, b, c⟩))) m) : Sim Tryd.prog 57 [.agg [.str p.s, .int .i64 p.line, .int .i64 p.params, .bool p.rest, .int .i64 p.regs, s1, s2, s3, s4], .agg [.str s, .int .i64 a, .int .i64 b, .int .i64 c]] m K := by
  refine entry (cxok []) Tryd.func57 rfl rfl (by decide) (by decide) ?_
  obtain ⟨b1, b2, b3, b4⟩ := h1.facts
  obtain ⟨c1, c2, c3, c4⟩ := h2.facts
  obtain ⟨d1, d2, d3, d4⟩ := h3.facts
  obtain ⟨f1, f2, f3, f4⟩ := h4.facts
  have l3 := h3.len'
  rw [List.length_map] at l3
  simp only [nok] at h
  refine goh_ ?_
  refine s_within ?_
  refine goh_ ?_
  refine ⟨fun q => ?_, fun q => by simpa [q] using h⟩
  refine s_within ?_
  refine goh_ ?_
  clear l3 h1 h2 h3 h4
  grind
theorem s_l3namedOk {p : Pr} {s1 s2 s3 s4 : AV} {i : Nat} {m : Mem} {K : AR → Mem → Prop} (h1 : SlR m 2 s1 (p.ups.map U.av)) (h2 : SlR m 5 s2 (p.consts.map V.av)) (h3 : SlR m 5 s3 (p.ins.map I.av)) (h4 : SlR m 4 s4 (p.named.map Nm.av))
    (hi : i < p.named.length) (h : K (.ret (.bool (decide ((i : Int) < 500) && nok p p.named[i]))) m) : Sim Tryd.prog 125 [.agg [.str p.s, .int .i64 p.line, .int .i64 p.params, .bool p.rest, .int .i64 p.regs, s1, s2, s3, s4], .int .i64 i] m K := by
  refine entry (cxok []) Tryd.func125 rfl rfl (by decide) (by decide) ?_
  obtain ⟨b1, b2, b3, b4⟩ := h1.facts
  obtain ⟨c1, c2, c3, c4⟩ := h2.facts
  obtain ⟨d1, d2, d3, d4⟩ := h3.facts
  obtain ⟨f1, f2, f3, f4⟩ := h4.facts
  have l3 := h3.len'
  rw [List.length_map] at l3
  obtain ⟨a, i0, cap, B, rfl, hb, hz, hr⟩ := h4.some_ (j := i) (by simpa using hi)
  have hr := fun l => hr l i (by simpa using hi)
  simp only [List.getElem_map] at hr
  simp only [List.length_map] at f1 f2 f3 f4
  have hii : ((i : Int) < p.named.length) = True := by simp; omega
  simp only [nok] at h
  refine goh_ ?_
  refine ⟨fun q => ?_, fun q => by simpa [q] using h⟩
  refine s_l3in ?_
  refine goh_ ?_
  refine ⟨fun q => ?_, fun q => by simpa [q] using h⟩
  refine s_l3in ?_
  refine goh_ ?_
  clear l3 h1 h2 h3 h4 hr hb hii
  grind
end Go.Proofs.YtdonkjepjobhnaaDoor.IM
namespace Go.Proofs.IM
open Go Go.RowKit
section
variable {P : Program} {f : FuncId} {fn : Func}
theorem run_bits (hf : P.funcs[f]? = some fn) (hname : (fn.name == "runtime.NumGoroutine") = false) (hb : fn.body.isNone = true) (hn : Extern.findNext fn = none) (he : Extern.find fn = some Extern.MathFloatBits.float64bits) (b : Nat) (w : World) :
    (callFunc f #[.float .f64 b]).run P w = .ok (.value (.int .u64 (b : Int))) w := by
  rw [run_callFunc_extern hf hname hb hn he]; rfl
theorem run_frombits (hf : P.funcs[f]? = some fn) (hname : (fn.name == "runtime.NumGoroutine") = false) (hb : fn.body.isNone = true) (hn : Extern.findNext fn = none) (he : Extern.find fn = some Extern.MathFloatBits.float64frombits) (b : Int) (w : World) :
    (callFunc f #[.int .u64 b]).run P w = .ok (.value (.float .f64 b.toNat)) w := by
  rw [run_callFunc_extern hf hname hb hn he]; rfl
/-- One argument, one value that the model gives. -/
theorem sim_one {a r : AV} {m : Mem} {K : AR → Mem → Prop} (h : K (.ret r) m) (hr : ∀ (E : Env) (w : World) (x : Value), VR E noPl a x → ∃ y, (callFunc f #[x]).run P w = .ok (.value y) w ∧ VR E noPl r y) : Sim P f [a] m K := by
  intro E w xs hm hx
  refine .inr ?_
  obtain ⟨h1, h2⟩ := hx
  have hz : xs.size = 1 := by simpa using h1.symm
  have e : xs = #[xs[0]'(by omega)] := by
    apply Array.ext
    · simpa using hz
    · intro i hi hi'
      have : i = 0 := by simp at hi'; omega
      subst this; rfl
  obtain ⟨y, hy, hv⟩ := hr E w _ (h2 0 a (xs[0]'(by omega)) rfl (by rw [Array.getElem?_eq_getElem]))
  rw [← e] at hy
  exact ⟨r, y, hy, hv, h⟩
end
theorem vok_flt {k n r : Int} {f : Nat} {s : ByteArray} (h : vok ⟨k, n, f, s, r⟩ = true) (h3 : k ≠ 3) : feq f 0 = true := by
  simp only [vok, zok] at h
  grind
theorem w64_neg (f : Nat) : decide (w64 (f : Int) < 0) = Flt.neg f := by
  have h1 : (IntKind.i64).bits = 64 := rfl
  simp only [w64, IntKind.wrap, Flt.neg]
  simp [h1, IntKind.signed]
  rw [Bool.eq_iff_iff]
  simp
  split <;> omega
end Go.Proofs.IM
namespace Go.Proofs.YtdonkjepjobhnaaDoor.IM
open Go Go.Proofs.IM Go.Proofs.Flt
set_option maxHeartbeats 8000000
theorem s_bits {b : Nat} {m : Mem} {K : AR → Mem → Prop} (h : K (.ret (.int .u64 b)) m) : Sim Tryd.prog 120 [.flt b] m K :=
  sim_one h fun E w x hx => by
    cases hx
    exact ⟨_, run_bits Tryd.func120 (by decide) rfl (by kernel_rfl) (by kernel_rfl) b w, .int _ _⟩
theorem s_Signbit {b : Nat} {m : Mem} {K : AR → Mem → Prop} (h : K (.ret (.bool (neg b))) m) : Sim Tryd.prog 118 [.flt b] m K := by
  refine entry (cxok []) Tryd.func118 rfl rfl (by decide) (by decide) ?_
  refine goh_ ?_
  refine s_bits ?_
  rw [← w64_neg] at h
  exact gox_
theorem s_constOk {k n r : Int} {f : Nat} {s : ByteArray} {m : Mem} {K : AR → Mem → Prop} (h : K (.ret (.bool (cok ⟨k, n, f, s, r⟩))) m) :
    Sim Tryd.prog 56 [.agg [.int .i64 k, .int .i64 n, .flt f, .str s, .int .i64 r]] m K := by
  refine entry (cxok []) Tryd.func56 rfl rfl (by decide) (by decide) ?_
  have hne : vok ⟨k, n, f, s, r⟩ = true → k ≠ 3 → feq f 0 = true := vok_flt
  have e := feq_self f
  have e2 : fne f f = nan f := by rw [fne_iff, feq_self, Bool.not_not]
  simp only [cok] at h
  refine go_ ?_
  refine s_implValueOk ?_
  revert h hne; generalize vok _ = z; intro hne h
  cases z with
  | false => simp only [Bool.false_and] at h; exact gox_
  | true =>
    by_cases h3 : k = 3
    · subst h3
      have g3 : ((3 : Int) != 3) = false := by decide
      refine goh_ ?_
      grind
    · have hf := hne rfl h3
      have g3 : (k == 3) = false := by simpa using h3
      have g3' : (k != 3) = true := by simpa using h3
      refine goh_ ?_
      by_cases h5 : k = 5
      · grind
      by_cases h6 : k = 6
      · grind
      by_cases h7 : k = 7
      · grind
      refine ⟨fun q5 => ?_, fun q => by simp at q; omega⟩
      refine ⟨fun q6 => ?_, fun q => by simp at q; omega⟩
      refine ⟨fun q7 => ?_, fun q => by simp at q; omega⟩
      refine s_Signbit ?_
      refine goh_ ?_
      grind
end Go.Proofs.YtdonkjepjobhnaaDoor.IM
namespace Go.Proofs.IM
open Go
def roleTab : List (Int × List Int) := [(1, [11, 0, 0, 0]), (2, [12, 0, 0, 0]), (3, [0, 0, 0, 0]), (4, [1, 7, 0, 0]), (5, [1, 2, 0, 0]), (6, [1, 2, 0, 0]), (7, [1, 5, 0, 0]), (8, [5, 2, 0, 0]), (9, [1, 8, 0, 0]), (10, [8, 2, 0, 0]), (11, [1, 9, 0, 0]), (12, [1, 0, 0, 0]), (13, [4, 2, 2, 0]), (14, [4, 2, 3, 0]), (15, [1, 2, 2, 0]), (16, [2, 2, 2, 0]), (17, [1, 15, 2, 0]), (18, [1, 16, 2, 2]), (19, [10, 0, 0, 0]), (20, [2, 10, 0, 0]), (21, [2, 10, 0, 0]), (22, [1, 0, 0, 0]), (23, [6, 2, 0, 0]), (24, [6, 3, 0, 0]), (25, [1, 3, 0, 0]), (26, [1, 6, 17, 0]), (27, [1, 6, 0, 0]), (28, [1, 2, 3, 0]), (29, [3, 0, 0, 0]), (30, [2, 0, 0, 0]), (31, [10, 14, 0, 0]), (32, [0, 0, 0, 0]), (33, [13, 0, 0, 0]), (34, [13, 0, 0, 0]), (35, [2, 3, 0, 0]), (36, [0, 0, 0, 0]), (37, [18, 0, 0, 0]), (38, [18, 10, 0, 0]), (39, [18, 10, 0, 0]), (40, [19, 0, 0, 0]), (41, [20, 10, 1, 0]), (42, [21, 0, 0, 0])]
def rolesL (op : Int) : List Int := (roleTab.lookup op).getD []
end Go.Proofs.IM
namespace Go.Proofs.YtdonkjepjobhnaaDoor.IM
open Go Go.Proofs.IM Go.Proofs.Flt
set_option maxHeartbeats 8000000
set_option maxRecDepth 100000
theorem s_l3roles {op : Int} {m : Mem} {K : AR → Mem → Prop} (h0 : rolesL op = [] → K (.ret .nils) m)
    (h1 : ∀ a b c d, rolesL op = [a, b, c, d] → K (.ret (.sl (.hp m.hp.length) 0 4 4)) (m.push ⟨[[.int .i64 a], [.int .i64 b], [.int .i64 c], [.int .i64 d]], 1⟩)) :
    Sim Tryd.prog 167 [.int .i64 op] m K := by
  refine entry (cxok []) Tryd.func167 rfl rfl (by decide) (by decide) ?_
  by_cases g1 : op = 1
  · subst g1; refine go_ ?_; exact h1 _ _ _ _ (by rfl)
  have g1 : (op == 1) = false := by simpa using g1
  by_cases g2 : op = 2
  · subst g2; refine go_ ?_; exact h1 _ _ _ _ (by rfl)
  have g2 : (op == 2) = false := by simpa using g2
  by_cases g3 : op = 3
  · subst g3; refine go_ ?_; exact h1 _ _ _ _ (by rfl)
  have g3 : (op == 3) = false := by simpa using g3
  by_cases g4 : op = 4
  · subst g4; refine go_ ?_; exact h1 _ _ _ _ (by rfl)
  have g4 : (op == 4) = false := by simpa using g4
  by_cases g5 : op = 5
  · subst g5; refine go_ ?_; exact h1 _ _ _ _ (by rfl)
  have g5 : (op == 5) = false := by simpa using g5
  by_cases g6 : op = 6
  · subst g6; refine go_ ?_; exact h1 _ _ _ _ (by rfl)
  have g6 : (op == 6) = false := by simpa using g6
  by_cases g7 : op = 7
  · subst g7; refine go_ ?_; exact h1 _ _ _ _ (by rfl)
  have g7 : (op == 7) = false := by simpa using g7
  by_cases g8 : op = 8
  · subst g8; refine go_ ?_; exact h1 _ _ _ _ (by rfl)
  have g8 : (op == 8) = false := by simpa using g8
  by_cases g9 : op = 9
  · subst g9; refine go_ ?_; exact h1 _ _ _ _ (by rfl)
  have g9 : (op == 9) = false := by simpa using g9
  by_cases g10 : op = 10
  · subst g10; refine go_ ?_; exact h1 _ _ _ _ (by rfl)
  have g10 : (op == 10) = false := by simpa using g10
  by_cases g11 : op = 11
  · subst g11; refine go_ ?_; exact h1 _ _ _ _ (by rfl)
  have g11 : (op == 11) = false := by simpa using g11
  by_cases g12 : op = 12
  · subst g12; refine go_ ?_; exact h1 _ _ _ _ (by rfl)
  have g12 : (op == 12) = false := by simpa using g12
  by_cases g13 : op = 13
  · subst g13; refine go_ ?_; exact h1 _ _ _ _ (by rfl)
  have g13 : (op == 13) = false := by simpa using g13
  by_cases g14 : op = 14
  · subst g14; refine go_ ?_; exact h1 _ _ _ _ (by rfl)
  have g14 : (op == 14) = false := by simpa using g14
  by_cases g15 : op = 15
  · subst g15; refine go_ ?_; exact h1 _ _ _ _ (by rfl)
  have g15 : (op == 15) = false := by simpa using g15
  by_cases g16 : op = 16
  · subst g16; refine go_ ?_; exact h1 _ _ _ _ (by rfl)
  have g16 : (op == 16) = false := by simpa using g16
  by_cases g17 : op = 17
  · subst g17; refine go_ ?_; exact h1 _ _ _ _ (by rfl)
  have g17 : (op == 17) = false := by simpa using g17
  by_cases g18 : op = 18
  · subst g18; refine go_ ?_; exact h1 _ _ _ _ (by rfl)
  have g18 : (op == 18) = false := by simpa using g18
  by_cases g19 : op = 19
  · subst g19; refine go_ ?_; exact h1 _ _ _ _ (by rfl)
  have g19 : (op == 19) = false := by simpa using g19
  by_cases g20 : op = 20
  · subst g20; refine go_ ?_; exact h1 _ _ _ _ (by rfl)
  have g20 : (op == 20) = false := by simpa using g20
  by_cases g21 : op = 21
  · subst g21; refine go_ ?_; exact h1 _ _ _ _ (by rfl)
  have g21 : (op == 21) = false := by simpa using g21
  by_cases g22 : op = 22
  · subst g22; refine go_ ?_; exact h1 _ _ _ _ (by rfl)
  have g22 : (op == 22) = false := by simpa using g22
  by_cases g23 : op = 23
  · subst g23; refine go_ ?_; exact h1 _ _ _ _ (by rfl)
  have g23 : (op == 23) = false := by simpa using g23
  by_cases g24 : op = 24
  · subst g24; refine go_ ?_; exact h1 _ _ _ _ (by rfl)
  have g24 : (op == 24) = false := by simpa using g24
  by_cases g25 : op = 25
  · subst g25; refine go_ ?_; exact h1 _ _ _ _ (by rfl)
  have g25 : (op == 25) = false := by simpa using g25
  by_cases g26 : op = 26
  · subst g26; refine go_ ?_; exact h1 _ _ _ _ (by rfl)
  have g26 : (op == 26) = false := by simpa using g26
  by_cases g27 : op = 27
  · subst g27; refine go_ ?_; exact h1 _ _ _ _ (by rfl)
  have g27 : (op == 27) = false := by simpa using g27
  by_cases g28 : op = 28
  · subst g28; refine go_ ?_; exact h1 _ _ _ _ (by rfl)
  have g28 : (op == 28) = false := by simpa using g28
  by_cases g29 : op = 29
  · subst g29; refine go_ ?_; exact h1 _ _ _ _ (by rfl)
  have g29 : (op == 29) = false := by simpa using g29
  by_cases g30 : op = 30
  · subst g30; refine go_ ?_; exact h1 _ _ _ _ (by rfl)
  have g30 : (op == 30) = false := by simpa using g30
  by_cases g31 : op = 31
  · subst g31; refine go_ ?_; exact h1 _ _ _ _ (by rfl)
  have g31 : (op == 31) = false := by simpa using g31
  by_cases g32 : op = 32
  · subst g32; refine go_ ?_; exact h1 _ _ _ _ (by rfl)
  have g32 : (op == 32) = false := by simpa using g32
  by_cases g33 : op = 33
  · subst g33; refine go_ ?_; exact h1 _ _ _ _ (by rfl)
  have g33 : (op == 33) = false := by simpa using g33
  by_cases g34 : op = 34
  · subst g34; refine go_ ?_; exact h1 _ _ _ _ (by rfl)
  have g34 : (op == 34) = false := by simpa using g34
  by_cases g35 : op = 35
  · subst g35; refine go_ ?_; exact h1 _ _ _ _ (by rfl)
  have g35 : (op == 35) = false := by simpa using g35
  by_cases g36 : op = 36
  · subst g36; refine go_ ?_; exact h1 _ _ _ _ (by rfl)
  have g36 : (op == 36) = false := by simpa using g36
  by_cases g37 : op = 37
  · subst g37; refine go_ ?_; exact h1 _ _ _ _ (by rfl)
  have g37 : (op == 37) = false := by simpa using g37
  by_cases g38 : op = 38
  · subst g38; refine go_ ?_; exact h1 _ _ _ _ (by rfl)
  have g38 : (op == 38) = false := by simpa using g38
  by_cases g39 : op = 39
  · subst g39; refine go_ ?_; exact h1 _ _ _ _ (by rfl)
  have g39 : (op == 39) = false := by simpa using g39
  by_cases g40 : op = 40
  · subst g40; refine go_ ?_; exact h1 _ _ _ _ (by rfl)
  have g40 : (op == 40) = false := by simpa using g40
  by_cases g41 : op = 41
  · subst g41; refine go_ ?_; exact h1 _ _ _ _ (by rfl)
  have g41 : (op == 41) = false := by simpa using g41
  by_cases g42 : op = 42
  · subst g42; refine go_ ?_; exact h1 _ _ _ _ (by rfl)
  have g42 : (op == 42) = false := by simpa using g42
  have h0 := h0 (by simp only [rolesL, roleTab, List.lookup, *]; rfl)
  clear h1
  exact gox_
end Go.Proofs.YtdonkjepjobhnaaDoor.IM
namespace Go.Proofs.IM
open Go
def fits (n : Nat) (p : Pr) (role x : Int) : Bool :=
  if role = 0 then x == 0
  else if role = 1 ∨ role = 4 ∨ role = 5 ∨ role = 6 ∨ role = 21 then inR x 0 (w64 (p.regs - 1))
  else if role = 2 ∨ role = 3 then inR x (w64 (0 - p.regs)) (w64 (p.regs - 1))
  else if role = 7 then inR x 0 (w64 (p.consts.length - 1))
  else if role = 8 then inR x 0 (w64 (p.ups.length - 1))
  else if role = 9 then inR x 0 (w64 (n - 1))
  else if role = 10 then inR x 0 (w64 (p.ins.length - 1))
  else if role = 11 then inR x 1 100000
  else if role = 12 then inR x 0 100000
  else if role = 13 then inR x 0 p.regs
  else if role = 14 then inR x 0 (w64 (p.regs - 2))
  else if role = 15 then inR x 19 22
  else if role = 16 then inR x 1 18
  else if role = 17 then inR x 0 250
  else if role = 18 then inR x 0 (w64 (p.regs - 3))
  else inR x 0 (w64 (p.regs - 2))
end Go.Proofs.IM
namespace Go.Proofs.YtdonkjepjobhnaaDoor.IM
open Go Go.Proofs.IM Go.Proofs.Flt
set_option linter.unusedSimpArgs false
set_option maxHeartbeats 8000000
set_option maxRecDepth 100000
theorem s_l3fits {s : AV} {ps : List Pr} {i : Nat} {role x : Int} {m : Mem} {K : AR → Mem → Prop} (hp : PsR m s ps) (hi : i < ps.length) (h : K (.ret (.bool (fits ps.length ps[i] role x))) m) :
    Sim Tryd.prog 168 [.agg [s], .int .i64 i, .int .i64 role, .int .i64 x] m K := by
  refine entry (cxok []) Tryd.func168 rfl rfl (by decide) (by decide) ?_
  obtain ⟨a1, a2, a3, a4⟩ := hp.facts
  obtain ⟨a, i0, c, B, s1, s2, s3, s4, rfl, hb, hz, hr, e1, e2, e3, e4⟩ := hp.at_ hi
  obtain ⟨b1, b2, b3, b4⟩ := e1.facts
  obtain ⟨c1, c2, c3, c4⟩ := e2.facts
  obtain ⟨d1, d2, d3, d4⟩ := e3.facts
  obtain ⟨f1, f2, f3, f4⟩ := e4.facts
  have l1 := e1.len'
  have l2 := e2.len'
  have l3 := e3.len'
  rw [List.length_map] at l1 l2 l3
  have hii : ((i : Int) < ps.length) = True := by simp; omega
  clear hp e1 e2 e3 e4
  by_cases g0 : role = 0
  · subst g0; have h : _ := h; simp only [fits, Int.reduceEq, or_false, false_or, or_true, true_or, or_self, ↓reduceIte] at h; exact gox_
  have g0 : (role == 0) = false := by simpa using g0
  by_cases g1 : role = 1
  · subst g1; have h : _ := h; simp only [fits, Int.reduceEq, or_false, false_or, or_true, true_or, or_self, ↓reduceIte] at h; refine goh_ ?_; refine s_l3in ?_; exact gox_
  have g1 : (role == 1) = false := by simpa using g1
  by_cases g2 : role = 2
  · subst g2; have h : _ := h; simp only [fits, Int.reduceEq, or_false, false_or, or_true, true_or, or_self, ↓reduceIte] at h; refine goh_ ?_; refine s_l3in ?_; exact gox_
  have g2 : (role == 2) = false := by simpa using g2
  by_cases g3 : role = 3
  · subst g3; have h : _ := h; simp only [fits, Int.reduceEq, or_false, false_or, or_true, true_or, or_self, ↓reduceIte] at h; refine goh_ ?_; refine s_l3in ?_; exact gox_
  have g3 : (role == 3) = false := by simpa using g3
  by_cases g4 : role = 4
  · subst g4; have h : _ := h; simp only [fits, Int.reduceEq, or_false, false_or, or_true, true_or, or_self, ↓reduceIte] at h; refine goh_ ?_; refine s_l3in ?_; exact gox_
  have g4 : (role == 4) = false := by simpa using g4
  by_cases g5 : role = 5
  · subst g5; have h : _ := h; simp only [fits, Int.reduceEq, or_false, false_or, or_true, true_or, or_self, ↓reduceIte] at h; refine goh_ ?_; refine s_l3in ?_; exact gox_
  have g5 : (role == 5) = false := by simpa using g5
  by_cases g6 : role = 6
  · subst g6; have h : _ := h; simp only [fits, Int.reduceEq, or_false, false_or, or_true, true_or, or_self, ↓reduceIte] at h; refine goh_ ?_; refine s_l3in ?_; exact gox_
  have g6 : (role == 6) = false := by simpa using g6
  by_cases g7 : role = 7
  · subst g7; have h : _ := h; simp only [fits, Int.reduceEq, or_false, false_or, or_true, true_or, or_self, ↓reduceIte] at h; refine goh_ ?_; refine s_l3in ?_; exact gox_
  have g7 : (role == 7) = false := by simpa using g7
  by_cases g8 : role = 8
  · subst g8; have h : _ := h; simp only [fits, Int.reduceEq, or_false, false_or, or_true, true_or, or_self, ↓reduceIte] at h; refine goh_ ?_; refine s_l3in ?_; exact gox_
  have g8 : (role == 8) = false := by simpa using g8
  by_cases g9 : role = 9
  · subst g9; have h : _ := h; simp only [fits, Int.reduceEq, or_false, false_or, or_true, true_or, or_self, ↓reduceIte] at h; refine goh_ ?_; refine s_l3in ?_; exact gox_
  have g9 : (role == 9) = false := by simpa using g9
  by_cases g10 : role = 10
  · subst g10; have h : _ := h; simp only [fits, Int.reduceEq, or_false, false_or, or_true, true_or, or_self, ↓reduceIte] at h; refine goh_ ?_; refine s_l3in ?_; exact gox_
  have g10 : (role == 10) = false := by simpa using g10
  by_cases g11 : role = 11
  · subst g11; have h : _ := h; simp only [fits, Int.reduceEq, or_false, false_or, or_true, true_or, or_self, ↓reduceIte] at h; refine goh_ ?_; refine s_l3in ?_; exact gox_
  have g11 : (role == 11) = false := by simpa using g11
  by_cases g12 : role = 12
  · subst g12; have h : _ := h; simp only [fits, Int.reduceEq, or_false, false_or, or_true, true_or, or_self, ↓reduceIte] at h; refine goh_ ?_; refine s_l3in ?_; exact gox_
  have g12 : (role == 12) = false := by simpa using g12
  by_cases g13 : role = 13
  · subst g13; have h : _ := h; simp only [fits, Int.reduceEq, or_false, false_or, or_true, true_or, or_self, ↓reduceIte] at h; refine goh_ ?_; refine s_l3in ?_; exact gox_
  have g13 : (role == 13) = false := by simpa using g13
  by_cases g14 : role = 14
  · subst g14; have h : _ := h; simp only [fits, Int.reduceEq, or_false, false_or, or_true, true_or, or_self, ↓reduceIte] at h; refine goh_ ?_; refine s_l3in ?_; exact gox_
  have g14 : (role == 14) = false := by simpa using g14
  by_cases g15 : role = 15
  · subst g15; have h : _ := h; simp only [fits, Int.reduceEq, or_false, false_or, or_true, true_or, or_self, ↓reduceIte] at h; refine goh_ ?_; refine s_l3in ?_; exact gox_
  have g15 : (role == 15) = false := by simpa using g15
  by_cases g16 : role = 16
  · subst g16; have h : _ := h; simp only [fits, Int.reduceEq, or_false, false_or, or_true, true_or, or_self, ↓reduceIte] at h; refine goh_ ?_; refine s_l3in ?_; exact gox_
  have g16 : (role == 16) = false := by simpa using g16
  by_cases g17 : role = 17
  · subst g17; have h : _ := h; simp only [fits, Int.reduceEq, or_false, false_or, or_true, true_or, or_self, ↓reduceIte] at h; refine goh_ ?_; refine s_l3in ?_; exact gox_
  have g17 : (role == 17) = false := by simpa using g17
  by_cases g18 : role = 18
  · subst g18; have h : _ := h; simp only [fits, Int.reduceEq, or_false, false_or, or_true, true_or, or_self, ↓reduceIte] at h; refine goh_ ?_; refine s_l3in ?_; exact gox_
  have g18 : (role == 18) = false := by simpa using g18
  by_cases g19 : role = 19
  · subst g19; have h : _ := h; simp only [fits, Int.reduceEq, or_false, false_or, or_true, true_or, or_self, ↓reduceIte] at h; refine goh_ ?_; refine s_l3in ?_; exact gox_
  have g19 : (role == 19) = false := by simpa using g19
  by_cases g20 : role = 20
  · subst g20; have h : _ := h; simp only [fits, Int.reduceEq, or_false, false_or, or_true, true_or, or_self, ↓reduceIte] at h; refine goh_ ?_; refine s_l3in ?_; exact gox_
  have g20 : (role == 20) = false := by simpa using g20
  by_cases g21 : role = 21
  · subst g21; have h : _ := h; simp only [fits, Int.reduceEq, or_false, false_or, or_true, true_or, or_self, ↓reduceIte] at h; refine goh_ ?_; refine s_l3in ?_; exact gox_
  have g21 : (role == 21) = false := by simpa using g21
  have h : K (.ret (.bool (inR x 0 (w64 (ps[i].regs - 2))))) m := by
    have e : fits ps.length ps[i] role x = inR x 0 (w64 (ps[i].regs - 2)) := by
      simp only [beq_eq_false_iff_ne, ne_eq] at *
      simp only [fits, *]
      simp
    rw [e] at h; exact h
  refine goh_ ?_; refine s_l3in ?_; exact gox_
end Go.Proofs.YtdonkjepjobhnaaDoor.IM
namespace Go.Proofs.IM
open Go
theorem loop_n {C : Cx} {b : Code} {KN0 KR : St → Mem → Prop} {KX : Nat → St → Mem → Prop} {KP : Value → Mem → Prop} (n : Nat) {st : St} {m : Mem} (h : aRounds (fun KN => aCode C b KN KX KR KP) n st m) : aCode C (.loop b) KN0 KX KR KP st m := ⟨n, h⟩
theorem rounds_s {B : (St → Mem → Prop) → St → Mem → Prop} {n : Nat} {st : St} {m : Mem} : aRounds B (n + 1) st m = B (aRounds B n) st m := rfl
theorem row?_mono {l : Loc} {m m' : Mem} (hm : m.le m') {a : AA} {i : Nat} {r : List AV} (h : row? l m a i = some r) : row? l m' a i = some r := by
  unfold row? at h ⊢
  cases hb : blk? l m a with
  | none => simp [hb] at h
  | some B => rw [blk?_mono hm hb]; rwa [hb] at h
def insS (n : Nat) (p : Pr) (i : I) (last : Bool) : Bool := match rolesL i.op with
  | [r0, r1, r2, r3] => fits n p r0 i.a && fits n p r1 i.b && fits n p r2 i.c && fits n p r3 i.d && (!last || endsOp i.op)
  | _ => false
end Go.Proofs.IM
namespace Go.Proofs.YtdonkjepjobhnaaDoor.IM
open Go Go.Proofs.IM Go.Proofs.Flt
set_option maxHeartbeats 8000000
set_option maxRecDepth 100000
theorem s_l3insOk {s : AV} {ps : List Pr} {i j : Nat} {m : Mem} {K : AR → Mem → Prop} (hp : PsR m s ps) (hi : i < ps.length) (hj : j < ps[i].ins.length) (hl : ps[i].ins.length < 2 ^ 63)
    (h : ∀ m', m.le m' → K (.ret (.bool (insS ps.length ps[i] ps[i].ins[j] (j + 1 == ps[i].ins.length)))) m') :
    Sim Tryd.prog 126 [.agg [s], .int .i64 i, .int .i64 j] m K := by
  refine entry (cxok []) Tryd.func126 rfl rfl (by decide) (by decide) ?_
  obtain ⟨a1, a2, a3, a4⟩ := hp.facts
  obtain ⟨a, i0, c, B, s1, s2, s3, s4, rfl, hb, hz, hr, e1, e2, e3, e4⟩ := hp.at_ hi
  obtain ⟨a', i0', c', B', rfl, hb', hz', hr'⟩ := e3.some_ (j := j) (by simpa using hj)
  have hr' := fun l => hr' l j (by simpa using hj)
  simp only [List.getElem_map] at hr'
  have hii : ((i : Int) < ps.length) = True := by simp; omega
  have hjj : ((j : Int) < ps[i].ins.length) = True := by simp; omega
  refine goh_ ?_
  refine s_l3roles (fun h0 => ?_) (fun r0 r1 r2 r3 h1 => ?_)
  · have h := h m (Mem.le.refl m)
    simp only [insS, h0] at h
    exact gox_
  have w1 : w64 1 = 1 := by decide
  have w2 : w64 2 = 2 := by decide
  have w3 : w64 3 = 3 := by decide
  have w4 : w64 4 = 4 := by decide
  refine goh_ ?_
  refine s_l3fields ?_
  refine goh_ ?_
  refine loop_n (KN0 := fun _ _ => True) 5 ?_
  rw [rounds_s]
  have hle : m.le ((m.push ⟨[[.int .i64 r0], [.int .i64 r1], [.int .i64 r2], [.int .i64 r3]], 1⟩).push ⟨[[.int .i64 ps[i].ins[j].a], [.int .i64 ps[i].ins[j].b], [.int .i64 ps[i].ins[j].c], [.int .i64 ps[i].ins[j].d]], 1⟩) := (Mem.le.push _ _).trans (Mem.le.push _ _)
  have hp' := hp.mono hle
  have hb2 := fun l => blk?_mono hle (hb l)
  have hr2 := fun l => row?_mono hle (hr l)
  have h := h _ hle
  simp only [insS, h1] at h
  refine goh_ ?_
  refine draw_ [(0, .read), (1, .pure), (2, .pure), (3, .pure), (4, .pure), (5, .read), (6, .pure), (7, .step []), (8, .pure)] (by kernel_rfl) ?_
  refine goh_ ?_
  refine s_l3fits hp' hi ?_
  refine goh_ ?_
  refine ⟨fun q => by simp at q; simpa [q] using h, fun q => ?_⟩
  rw [rounds_s]
  refine goh_ ?_
  refine draw_ [(0, .read), (1, .pure), (2, .pure), (3, .pure), (4, .pure), (5, .read), (6, .pure), (7, .step []), (8, .pure)] (by kernel_rfl) ?_
  refine goh_ ?_
  refine s_l3fits hp' hi ?_
  refine goh_ ?_
  refine ⟨fun q => by simp at q; simpa [q] using h, fun q => ?_⟩
  rw [rounds_s]
  refine goh_ ?_
  refine draw_ [(0, .read), (1, .pure), (2, .pure), (3, .pure), (4, .pure), (5, .read), (6, .pure), (7, .step []), (8, .pure)] (by kernel_rfl) ?_
  refine goh_ ?_
  refine s_l3fits hp' hi ?_
  refine goh_ ?_
  refine ⟨fun q => by simp at q; simpa [q] using h, fun q => ?_⟩
  rw [rounds_s]
  refine goh_ ?_
  refine draw_ [(0, .read), (1, .pure), (2, .pure), (3, .pure), (4, .pure), (5, .read), (6, .pure), (7, .step []), (8, .pure)] (by kernel_rfl) ?_
  refine goh_ ?_
  refine s_l3fits hp' hi ?_
  refine goh_ ?_
  refine ⟨fun q => by simp at q; simpa [q] using h, fun q => ?_⟩
  rw [rounds_s]
  have el : ((j : Int) == w64 ((ps[i].ins.length : Int) - 1)) = (j + 1 == ps[i].ins.length) := by
    rw [w64_id (by omega), Bool.eq_iff_iff]; simp; omega
  simp only [endsOp] at h
  refine goh_ ?_
  clear hb hr hb2 hr2 hp hp' hr' hb' e1 e2 e3 e4 el hle
  revert h
  generalize Mem.push _ _ = M
  generalize (j + 1 == ps[i].ins.length) = last
  intro h
  clear hjj hii hl hz hz' a1 a2 a3 a4
  grind
end Go.Proofs.YtdonkjepjobhnaaDoor.IM
namespace Go.Proofs.IM
open Go
def upOk (p : Pr) (u : U) : Bool := if u.loc = true then inR u.ix 0 (w64 (p.regs - 1)) else inR u.ix 0 (w64 (p.ups.length - 1))
def upsOk (p : Pr) (us : List U) : Bool := us.all (upOk p)
def totL : List Pr → Int → Int
  | [], a => a
  | p :: ps, a => totL ps (w64 (a + p.ins.length))
theorem totL_at {ps : List Pr} {i : Nat} (hi : i < ps.length) (a : Int) : totL (ps.drop i) a = totL (ps.drop (i + 1)) (w64 (a + ps[i].ins.length)) := by
  rw [List.drop_eq_getElem_cons hi]; rfl
/-- The first answer of f at i, i + 1, .. -/
def scan {α : Type} (f : Nat → Option α) : Nat → Nat → Option α
  | 0, _ => none
  | k + 1, i => match f i with
    | some x => some x
    | none => scan f k (i + 1)
theorem scan_at {α : Type} {f : Nat → Option α} {i n : Nat} (h : i < n) : scan f (n - i) i = match f i with
    | some x => some x
    | none => scan f (n - (i + 1)) (i + 1) := by
  rw [show n - i = (n - (i + 1)) + 1 by omega]; rfl
theorem scan_end {α : Type} {f : Nat → Option α} {n : Nat} : scan f (n - n) n = none := by simp [scan]
theorem scan_none {α : Type} {f : Nat → Option α} : ∀ {k i : Nat}, scan f k i = none → ∀ j, i ≤ j → j < i + k → f j = none := by
  intro k
  induction k with
  | zero => intro i _ j h1 h2; omega
  | succ k ih =>
    intro i h j h1 h2
    simp only [scan] at h
    split at h
    · cases h
    · rename_i e
      by_cases hj : j = i
      · subst hj; exact e
      · exact ih h j (by omega) (by omega)
abbrev F3 := Int × Int × Int
def F3.av (f : F3) : AV := .agg [.int .i64 f.1, .int .i64 f.2.1, .int .i64 f.2.2]
def headF (ps : List Pr) (i : Nat) : Option F3 := match ps[i]? with
  | some p => if hok p (i == 0) = true then none else some (2, i, 0)
  | none => none
def constF1 (p : Pr) (i j : Nat) : Option F3 := match p.consts[j]? with
  | some v => if cok v = true then none else some (3, i, j)
  | none => none
def constF (ps : List Pr) (i : Nat) : Option F3 := match ps[i]? with
  | some p => scan (constF1 p i) (p.consts.length - 0) 0
  | none => none
def namedF1 (p : Pr) (i j : Nat) : Option F3 := match p.named[j]? with
  | some n => if (decide ((j : Int) < 500) && nok p n) = true then none else some (4, i, j)
  | none => none
def namedF (ps : List Pr) (i : Nat) : Option F3 := match ps[i]? with
  | some p => scan (namedF1 p i) (p.named.length - 0) 0
  | none => none
def insF1 (k : Nat) (p : Pr) (i j : Nat) : Option F3 := match p.ins[j]? with
  | some x => if insS k p x (j + 1 == p.ins.length) = true then none else some (5, i, j)
  | none => none
def insF (ps : List Pr) (i : Nat) : Option F3 := match ps[i]? with
  | some p => if p.ins.length = 0 then some (5, i, 0) else scan (insF1 ps.length p i) (p.ins.length - 0) 0
  | none => none
def orF (x : Option F3) (y : F3) : F3 := match x with
  | some f => f
  | none => y
def parts5 (ps : List Pr) : F3 := orF (scan (insF ps) (ps.length - 0) 0) (0, 0, 0)
def parts4 (ps : List Pr) : F3 := orF (scan (namedF ps) (ps.length - 0) 0) (parts5 ps)
def parts3 (ps : List Pr) : F3 := orF (scan (constF ps) (ps.length - 0) 0) (parts4 ps)
def parts2 (ps : List Pr) : F3 := orF (scan (headF ps) (ps.length - 0) 0) (parts3 ps)
def partsF (ps : List Pr) : F3 := if ps.length = 0 ∨ 200 < ps.length ∨ 6000 < totL ps 0 then (1, 0, 0) else parts2 ps
theorem orF_at {f : Nat → Option F3} {i n : Nat} {y : F3} (h : i < n) : orF (scan f (n - i) i) y = orF (f i) (orF (scan f (n - (i + 1)) (i + 1)) y) := by
  rw [scan_at h]
  cases f i <;> rfl
theorem orF_end {f : Nat → Option F3} {n : Nat} {y : F3} : orF (scan f (n - n) n) y = y := by rw [scan_end]; rfl
end Go.Proofs.IM
namespace Go.Proofs.YtdonkjepjobhnaaDoor.IM
open Go Go.Proofs.IM Go.Proofs.Flt
set_option maxHeartbeats 8000000
set_option maxRecDepth 100000
theorem s_l3upsOk {s : AV} {ps : List Pr} {p : Nat} {g : Int} {m : Mem} {K : AR → Mem → Prop} (hp : PsR m s ps) (hi : p < ps.length) (hg0 : 0 ≤ g) (hg : g < ps.length) (hl : ps[g.toNat].ups.length < 2 ^ 63)
    (h : K (.ret (.bool (upsOk ps[p] ps[g.toNat].ups))) m) :
    Sim Tryd.prog 52 [.agg [s], .int .i64 p, .int .i64 g] m K := by
  refine entry (cxok []) Tryd.func52 rfl rfl (by decide) (by decide) ?_
  obtain ⟨a1, a2, a3, a4⟩ := hp.facts
  obtain ⟨a, i0, cp, B, s1, s2, s3, s4, rfl, hb, hz, hr, e1, e2, e3, e4⟩ := hp.at_ (i := g.toNat) (by omega)
  obtain ⟨a', i0', cp', B', t1, t2, t3, t4, e0, -, -, hr2, d1, -, -, -⟩ := hp.at_ hi
  obtain ⟨e0, e0', e0''⟩ : a = a' ∧ i0 = i0' ∧ cp = cp' := by cases e0; exact ⟨rfl, rfl, rfl⟩
  subst e0 e0' e0''
  have l1 := e1.len'
  have l2 := d1.len'
  rw [List.length_map] at l1 l2
  have hii : ((p : Int) < ps.length) = True := by simp; omega
  refine goh_ ?_
  refine loop_ (fun k t l c m' => m' = m ∧ ∃ (i : Nat), t 1 = .int .i64 p ∧ t 3 = .ptr (.lc 0) 0 0 ∧ l 0 = some ⟨[[.sl a i0 ps.length cp]], 1⟩ ∧ 1 ≤ c ∧ t 14 = s1 ∧ t 15 = .int .i64 ps[g.toNat].ups.length ∧ t 16 = .int .i64 i ∧ i ≤ ps[g.toNat].ups.length ∧ k = ps[g.toNat].ups.length - i ∧ (ps[g.toNat].ups.take i).all (upOk ps[p]) = true) ps[g.toNat].ups.length ?_ ?_
  · exact ⟨rfl, 0, rfl, rfl, rfl, by omega, rfl, rfl, rfl, by omega, by omega, by simp⟩
  intro k t l c m KN ⟨hm, i, h1, h3, hl0, hc1, h14, h15, h16, hi', hk, hall⟩ next
  subst hm
  have q0 : (0 == c) = false := by simp; omega
  have q1 : ∀ k, (0 == c + k) = false := by intro k; simp; omega
  refine goh_ ?_
  refine ⟨fun hc => ?_, fun hc => ?_⟩
  · have hj : i < ps[g.toNat].ups.length := by omega
    obtain ⟨a5, i5, c5, B5, rfl, hb5, hz5, hr5⟩ := e1.some_ (j := i) (by simpa using hj)
    have hr5 := fun l => hr5 l i (by simpa using hj)
    simp only [List.getElem_map] at hr5
    have hw := w64_succ hj hl
    have hall' : upOk ps[p] ps[g.toNat].ups[i] = true → (ps[g.toNat].ups.take (i + 1)).all (upOk ps[p]) = true := by
      intro hh
      rw [List.take_succ_eq_append_getElem hj, List.all_append, hall]; simp [hh]
    have hno : upOk ps[p] ps[g.toNat].ups[i] = false → upsOk ps[p] ps[g.toNat].ups = false := by
      intro hh
      simp only [upsOk, List.all_eq_false]
      exact ⟨_, List.getElem_mem hj, by simp [hh]⟩
    refine goh_ ?_
    refine draw_ [(0, .pure), (1, .read), (2, .pure), (3, .pure), (4, .read), (5, .pure), (6, .read), (7, .pure), (8, .pure), (9, .pure), (10, .read), (11, .pure), (12, .step []), (13, .pure), (14, .pure), (15, .pure), (16, .pure), (17, .read), (18, .pure), (19, .pure), (20, .pure), (21, .read), (22, .pure), (23, .read), (24, .pure), (25, .pure), (26, .pure), (27, .read), (28, .pure), (29, .pure), (30, .step []), (31, .pure), (32, .pure), (33, .pure)] (by kernel_rfl) ?_
    have go : ∀ (b : Bool) (t' : Nat → AV) (l' : IM.Loc) (c' : Nat), upOk ps[p] ps[g.toNat].ups[i] = b → t' 1 = .int .i64 p → t' 3 = .ptr (.lc 0) 0 0 → l' 0 = some ⟨[[.sl a i0 ps.length cp]], 1⟩ → 1 ≤ c' → t' 14 = .sl a5 i5 ps[g.toNat].ups.length c5 → t' 15 = .int .i64 ps[g.toNat].ups.length → t' 16 = .int .i64 ((i + 1 : Nat) : Int) → ((!b) = false → KN ⟨t', l', c'⟩ m) ∧ ((!b) = true → K (.ret (.bool false)) m) := by
      intro b t' l' c' hb g1 g3 g0 gc g14 g15 g16
      refine ⟨fun q => next _ _ _ _ _ (by omega) ⟨rfl, i + 1, g1, g3, g0, gc, by rw [g14, List.length_map], g15, g16, by omega, rfl, hall' (by rw [hb]; simpa using q)⟩, fun q => ?_⟩
      rw [hno (by rw [hb]; simpa using q)] at h
      exact h
    cases hloc : ps[g.toNat].ups[i].loc with
    | true =>
      refine goh_ ?_
      refine s_l3in ?_
      refine goh_ ?_
      exact go _ _ _ _ (by simp only [upOk, hloc, if_true]) h1 h3 (by simp only [upd_far, q0, q1, hl0]) (by omega) (h14.trans (by rw [List.length_map])) h15 rfl
    | false =>
      refine goh_ ?_
      refine s_l3in ?_
      refine goh_ ?_
      exact And.symm (go _ _ _ _ (by simp [upOk, hloc, w64]) h1 h3 (by simp only [upd_far, q0, q1, hl0]) (by omega) (h14.trans (by rw [List.length_map])) h15 rfl)
  · have hj : i = ps[g.toNat].ups.length := by omega
    rw [hj, List.take_length] at hall
    rw [show upsOk ps[p] ps[g.toNat].ups = true from hall] at h
    exact gox_
end Go.Proofs.YtdonkjepjobhnaaDoor.IM
namespace Go.Proofs.IM
open Go
theorem PsR.len' {m : Mem} {s : AV} {ps : List Pr} (h : PsR m s ps) (C : Cx) (ty : TypeId) (l : Loc) (K : KS) (ht : isSl (kd C ty) = true) : aLen C ty s l m K = K (.int .i64 ps.length) l m := by
  obtain ⟨rs, h1, h2, -⟩ := h
  rw [h1.len' C ty l K ht, h2]
theorem far_of {a c : Nat} (h : a < c) : (a == c) = false ∧ ∀ k, (a == c + k) = false := ⟨by simp; omega, fun k => by simp; omega⟩
/-- The two private variables that every loop leaves alone. -/
def Two (t : Nat → AV) (l : Loc) (c : Nat) (s : AV) : Prop := t 1 = .ptr (.lc 0) 0 0 ∧ t 2 = .ptr (.lc 1) 0 0 ∧ l 0 = some ⟨[[s]], 1⟩ ∧ l 1 = some ⟨[[.int .i64 0, .int .i64 0, .int .i64 0]], 3⟩ ∧ 2 ≤ c
theorem headF_eq {ps : List Pr} {i : Nat} (h : i < ps.length) : headF ps i = if hok ps[i] (i == 0) = true then none else some (2, (i : Int), 0) := by simp only [headF, List.getElem?_eq_getElem h]
theorem constF_eq {ps : List Pr} {i : Nat} (h : i < ps.length) : constF ps i = scan (constF1 ps[i] i) (ps[i].consts.length - 0) 0 := by simp only [constF, List.getElem?_eq_getElem h]
theorem constF1_eq {p : Pr} {i j : Nat} (h : j < p.consts.length) : constF1 p i j = if cok p.consts[j] = true then none else some (3, (i : Int), (j : Int)) := by simp only [constF1, List.getElem?_eq_getElem h]
theorem namedF_eq {ps : List Pr} {i : Nat} (h : i < ps.length) : namedF ps i = scan (namedF1 ps[i] i) (ps[i].named.length - 0) 0 := by simp only [namedF, List.getElem?_eq_getElem h]
theorem namedF1_eq {p : Pr} {i j : Nat} (h : j < p.named.length) : namedF1 p i j = if (decide ((j : Int) < 500) && nok p p.named[j]) = true then none else some (4, (i : Int), (j : Int)) := by simp only [namedF1, List.getElem?_eq_getElem h]
theorem insF_eq {ps : List Pr} {i : Nat} (h : i < ps.length) : insF ps i = if ps[i].ins.length = 0 then some (5, (i : Int), 0) else scan (insF1 ps.length ps[i] i) (ps[i].ins.length - 0) 0 := by simp only [insF, List.getElem?_eq_getElem h]
theorem insF1_eq {n : Nat} {p : Pr} {i j : Nat} (h : j < p.ins.length) : insF1 n p i j = if insS n p p.ins[j] (j + 1 == p.ins.length) = true then none else some (5, (i : Int), (j : Int)) := by simp only [insF1, List.getElem?_eq_getElem h]
end Go.Proofs.IM
namespace Go.Proofs.YtdonkjepjobhnaaDoor.IM
open Go Go.Proofs.IM Go.Proofs.Flt
set_option maxHeartbeats 16000000
set_option maxRecDepth 100000
theorem s_l3parts {s : AV} {ps : List Pr} {m : Mem} {K : AR → Mem → Prop} (hp : PsR m s ps) (hl : ps.length < 2 ^ 63) (hL : ∀ p ∈ ps, p.ok)
    (h : ∀ m', m.le m' → K (.ret (partsF ps).av) m') :
    Sim Tryd.prog 51 [.agg [s]] m K := by
  refine entry (cxok []) Tryd.func51 rfl rfl (by decide) (by decide) ?_
  obtain ⟨a1, a2, a3, a4⟩ := hp.facts
  have hlen := hp.len'
  refine goh_ ?_
  refine loop_ (fun k t l c m' => m' = m ∧ ∃ (i : Nat) (a : Int), Two t l c s ∧ t 3 = .int .i64 a ∧ t 18 = s ∧ t 19 = .int .i64 ps.length ∧ t 20 = .int .i64 i ∧ i ≤ ps.length ∧ k = ps.length - i ∧ totL (ps.drop i) a = totL ps 0) ps.length ?_ ?_
  · exact ⟨rfl, 0, 0, ⟨rfl, rfl, rfl, rfl, by omega⟩, rfl, rfl, rfl, rfl, by omega, by omega, by simp⟩
  intro k t l c m1 KN ⟨hm, i, a, ⟨h1, h2, hl0, hl1, hc⟩, h3, h18, h19, h20, hi, hk, htot⟩ next
  subst m1
  obtain ⟨q0, q0'⟩ := far_of (a := 0) (c := c) (by omega)
  obtain ⟨q1, q1'⟩ := far_of (a := 1) (c := c) (by omega)
  refine goh_ ?_
  refine ⟨fun hd => ?_, fun hd => ?_⟩
  · have hj : i < ps.length := by omega
    obtain ⟨a, i0, c', B, s1, s2, s3, s4, rfl, hb, hz, hr, e1, e2, e3, e4⟩ := hp.at_ hj
    obtain ⟨b1, b2, b3, b4⟩ := e1.facts
    obtain ⟨c1, c2, c3, c4⟩ := e2.facts
    obtain ⟨d1, d2, d3, d4⟩ := e3.facts
    obtain ⟨f1, f2, f3, f4⟩ := e4.facts
    have hw := w64_succ hj hl
    have l3 := e3.len'
    rw [List.length_map] at l3
    rw [totL_at hj] at htot
    refine goh_ ?_
    exact next _ _ _ _ _ (by omega) ⟨rfl, i + 1, _, ⟨h1, h2, by simp only [upd_far, q0, q0', hl0], by simp only [upd_far, q1, q1', hl1], by omega⟩, rfl, h18, h19, rfl, by omega, rfl, htot⟩
  have hin : i = ps.length := by omega
  rw [hin, List.drop_length] at htot
  simp only [totL] at htot
  subst htot
  clear next
  have e0 : ((ps.length : Int) == 0) = decide (ps.length = 0) := by rw [Bool.eq_iff_iff]; simp
  have fa : (ps.length = 0 ∨ 200 < ps.length ∨ 6000 < totL ps 0) → (partsF ps) = (1, 0, 0) := by intro q; simp only [partsF, if_pos q]
  by_cases g1 : ps.length = 0
  · have h := h _ (Mem.le.refl _)
    rw [fa (.inl g1)] at h
    simp only [F3.av] at h
    simp only [g1] at e0
    refine goh_ ?_
    refine s_l3fault ?_
    exact gox_
  by_cases g2 : 200 < ps.length
  · have h := h _ (Mem.le.refl _)
    rw [fa (.inr (.inl g2))] at h
    simp only [F3.av] at h
    have g2' : (200 : Int) < ps.length := by omega
    have e0 : ((ps.length : Int) == 0) = false := by rw [beq_eq_false_iff_ne]; omega
    refine goh_ ?_
    refine s_l3fault ?_
    exact gox_
  by_cases g3 : 6000 < totL ps 0
  · have h := h _ (Mem.le.refl _)
    rw [fa (.inr (.inr g3))] at h
    simp only [F3.av] at h
    have h200 : ((200 : Int) < ps.length) = False := by rw [eq_iff_iff, iff_false]; omega
    have g2' : ((200 : Int) < ps.length) = False := by rw [eq_iff_iff, iff_false]; omega
    have e0 : ((ps.length : Int) == 0) = false := by rw [beq_eq_false_iff_ne]; omega
    refine goh_ ?_
    refine s_l3fault ?_
    exact gox_
  have g2' : ((200 : Int) < ps.length) = False := by rw [eq_iff_iff, iff_false]; omega
  have g3' : ((6000 : Int) < totL ps 0) = False := by rw [eq_iff_iff, iff_false]; omega
  have e0 : ((ps.length : Int) == 0) = false := by rw [beq_eq_false_iff_ne]; omega
  have hP : partsF ps = parts2 ps := by
    unfold partsF
    rw [if_neg]
    rintro (q | q | q)
    · exact g1 q
    · exact g2 q
    · exact g3 q
  refine goh_ ?_
  clear e0 g2' g3' fa h18 h19 h20 h3 hd hk hi
  refine loop_ (fun k t l c m' => m' = m ∧ ∃ (i : Nat), Two t l c s ∧ t 46 = s ∧ t 47 = .int .i64 ps.length ∧ t 48 = .int .i64 i ∧ i ≤ ps.length ∧ k = ps.length - i ∧ orF (scan (headF ps) (ps.length - i) i) (parts3 ps) = parts2 ps) ps.length ?_ ?_
  · exact ⟨rfl, 0, ⟨h1, h2, by simp only [upd_far, q0, q0', hl0], by simp only [upd_far, q1, q1', hl1], by omega⟩, rfl, rfl, rfl, by omega, by omega, rfl⟩
  clear h1 h2 hl0 hl1 hc q0 q0' q1 q1' hin
  intro k t l c m1 KN ⟨hm, i, ⟨h1, h2, hl0, hl1, hc⟩, h46, h47, h48, hi, hk, hS⟩ next
  subst m1
  obtain ⟨q0, q0'⟩ := far_of (a := 0) (c := c) (by omega)
  obtain ⟨q1, q1'⟩ := far_of (a := 1) (c := c) (by omega)
  refine goh_ ?_
  refine ⟨fun hd => ?_, fun hd => ?_⟩
  · have hj : i < ps.length := by omega
    have hw := w64_succ hj hl
    rw [orF_at hj, headF_eq hj] at hS
    refine s_l3headOk hp hj ?_
    cases hh : hok ps[i] (i == 0) with
    | true =>
      rw [hh] at hS
      refine goh_ ?_
      exact next _ _ _ _ _ (by omega) ⟨rfl, i + 1, ⟨h1, h2, by simp only [upd_far, q0, q0', hl0], by simp only [upd_far, q1, q1', hl1], by omega⟩, h46, h47, rfl, by omega, rfl, hS⟩
    | false =>
      rw [hh] at hS
      have h := h _ (Mem.le.refl _)
      rw [hP, ← hS] at h
      simp only [F3.av, orF, Bool.false_eq_true, ↓reduceIte] at h
      refine goh_ ?_
      refine s_l3fault ?_
      exact gox_
  rw [show i = ps.length by omega, orF_end] at hS
  clear next h46 h47 h48 hd hk hi
  refine loop_ (fun k t l c m' => m' = m ∧ ∃ (i : Nat), Two t l c s ∧ t 59 = s ∧ t 60 = .int .i64 ps.length ∧ t 61 = .int .i64 i ∧ i ≤ ps.length ∧ k = ps.length - i ∧ orF (scan (constF ps) (ps.length - i) i) (parts4 ps) = partsF ps) ps.length ?_ ?_
  · exact ⟨rfl, 0, ⟨h1, h2, by simp only [upd_far, q0, q0', hl0], by simp only [upd_far, q1, q1', hl1], by omega⟩, rfl, rfl, rfl, by omega, by omega, by rw [hP, ← hS]; rfl⟩
  clear h1 h2 hl0 hl1 hc q0 q0' q1 q1' hS hP g1 g2 g3
  intro k t l c m1 KN ⟨hm, i, ⟨h1, h2, hl0, hl1, hc⟩, h59, h60, h61, hi, hk, hS⟩ next
  subst m1
  obtain ⟨q0, q0'⟩ := far_of (a := 0) (c := c) (by omega)
  obtain ⟨q1, q1'⟩ := far_of (a := 1) (c := c) (by omega)
  refine goh_ ?_
  refine ⟨fun hd => ?_, fun hd => ?_⟩
  · have hj : i < ps.length := by omega
    obtain ⟨a, i0, c', B, s1, s2, s3, s4, rfl, hb, hz, hr, e1, e2, e3, e4⟩ := hp.at_ hj
    obtain ⟨b1, b2, b3, b4⟩ := e1.facts
    obtain ⟨c1, c2, c3, c4⟩ := e2.facts
    obtain ⟨d1, d2, d3, d4⟩ := e3.facts
    obtain ⟨f1, f2, f3, f4⟩ := e4.facts
    have hw := w64_succ hj hl
    have l2 := e2.len'
    rw [List.length_map] at l2
    have hl2 := (hL ps[i] (by simp)).2.1
    rw [orF_at hj, constF_eq hj] at hS
    refine goh_ ?_
    refine loop_ (fun k t l c m' => m' = m ∧ ∃ (j : Nat), Two t l c (.sl a i0 ps.length c') ∧ t 59 = .sl a i0 ps.length c' ∧ t 60 = .int .i64 ps.length ∧ t 61 = .int .i64 i ∧ t 7 = .int .i64 i ∧ t 67 = s2 ∧ t 68 = .int .i64 ps[i].consts.length ∧ t 69 = .int .i64 j ∧ j ≤ ps[i].consts.length ∧ k = ps[i].consts.length - j ∧ orF (scan (constF1 ps[i] i) (ps[i].consts.length - j) j) (orF (scan (constF ps) (ps.length - (i + 1)) (i + 1)) (parts4 ps)) = partsF ps) ps[i].consts.length ?_ ?_
    · exact ⟨rfl, 0, ⟨h1, h2, by simp only [upd_far, q0, q0', hl0], by simp only [upd_far, q1, q1', hl1], by omega⟩, h59, h60, h61, rfl, rfl, rfl, rfl, by omega, by omega, hS⟩
    clear h1 h2 hl0 hl1 hc q0 q0' q1 q1' hS h59 h60 h61
    intro k t l c m1 KN2 ⟨hm, j, ⟨h1, h2, hl0, hl1, hc⟩, h59, h60, h61, h7, h67, h68, h69, hj', hk', hS⟩ next2
    subst m1
    obtain ⟨q0, q0'⟩ := far_of (a := 0) (c := c) (by omega)
    obtain ⟨q1, q1'⟩ := far_of (a := 1) (c := c) (by omega)
    refine goh_ ?_
    refine ⟨fun hd2 => ?_, fun hd2 => ?_⟩
    · have hjc : j < ps[i].consts.length := by omega
      obtain ⟨a5, i5, c5, B5, rfl, hb5, hz5, hr5⟩ := e2.some_ (j := j) (by simpa using hjc)
      have hr5 := fun l => hr5 l j (by simpa using hjc)
      simp only [List.getElem_map] at hr5
      have hw5 := w64_succ hjc hl2
      rw [orF_at hjc, constF1_eq hjc] at hS
      refine goh_ ?_
      refine s_l3constOk ?_
      rw [show (⟨ps[i].consts[j].k, ps[i].consts[j].n, ps[i].consts[j].f, ps[i].consts[j].s, ps[i].consts[j].r⟩ : V) = ps[i].consts[j] from rfl]
      cases hh : cok ps[i].consts[j] with
      | true =>
        rw [hh] at hS
        refine goh_ ?_
        exact next2 _ _ _ _ _ (by omega) ⟨rfl, j + 1, ⟨h1, h2, by simp only [upd_far, q0, q0', hl0], by simp only [upd_far, q1, q1', hl1], by omega⟩, h59, h60, h61, h7, h67, h68, rfl, by omega, rfl, hS⟩
      | false =>
        rw [hh] at hS
        have h := h _ (Mem.le.refl _)
        rw [← hS] at h
        simp only [F3.av, orF, Bool.false_eq_true, ↓reduceIte] at h
        refine goh_ ?_
        refine s_l3fault ?_
        exact gox_
    · rw [show j = ps[i].consts.length by omega, orF_end] at hS
      exact next _ _ _ _ _ (by omega) ⟨rfl, i + 1, ⟨h1, h2, hl0, hl1, by omega⟩, h59, h60, rfl, by omega, rfl, hS⟩
  rw [show i = ps.length by omega, orF_end] at hS
  clear next h59 h60 h61 hd hk hi
  refine loop_ (fun k t l c m' => m' = m ∧ ∃ (i : Nat), Two t l c s ∧ t 83 = s ∧ t 84 = .int .i64 ps.length ∧ t 85 = .int .i64 i ∧ i ≤ ps.length ∧ k = ps.length - i ∧ orF (scan (namedF ps) (ps.length - i) i) (parts5 ps) = partsF ps) ps.length ?_ ?_
  · exact ⟨rfl, 0, ⟨h1, h2, by simp only [upd_far, q0, q0', hl0], by simp only [upd_far, q1, q1', hl1], by omega⟩, rfl, rfl, rfl, by omega, by omega, by rw [← hS]; rfl⟩
  clear h1 h2 hl0 hl1 hc q0 q0' q1 q1' hS
  intro k t l c m1 KN ⟨hm, i, ⟨h1, h2, hl0, hl1, hc⟩, h59, h60, h61, hi, hk, hS⟩ next
  subst m1
  obtain ⟨q0, q0'⟩ := far_of (a := 0) (c := c) (by omega)
  obtain ⟨q1, q1'⟩ := far_of (a := 1) (c := c) (by omega)
  refine goh_ ?_
  refine ⟨fun hd => ?_, fun hd => ?_⟩
  · have hj : i < ps.length := by omega
    obtain ⟨a, i0, c', B, s1, s2, s3, s4, rfl, hb, hz, hr, e1, e2, e3, e4⟩ := hp.at_ hj
    obtain ⟨b1, b2, b3, b4⟩ := e1.facts
    obtain ⟨c1, c2, c3, c4⟩ := e2.facts
    obtain ⟨d1, d2, d3, d4⟩ := e3.facts
    obtain ⟨f1, f2, f3, f4⟩ := e4.facts
    have hw := w64_succ hj hl
    have l4 := e4.len'
    rw [List.length_map] at l4
    have hl4 := (hL ps[i] (by simp)).2.2.2
    rw [orF_at hj, namedF_eq hj] at hS
    refine goh_ ?_
    refine loop_ (fun k t l c2 m' => m' = m ∧ ∃ (j : Nat), Two t l c2 (.sl a i0 ps.length c') ∧ (t 12 = .ptr (.lc (c + 4)) 0 0 ∧ l (c + 4) = some ⟨[[.str ps[i].s, .int .i64 ps[i].line, .int .i64 ps[i].params, .bool ps[i].rest, .int .i64 ps[i].regs, s1, s2, s3, s4]], 9⟩ ∧ c + 4 < c2) ∧ t 83 = .sl a i0 ps.length c' ∧ t 84 = .int .i64 ps.length ∧ t 85 = .int .i64 i ∧ t 11 = .int .i64 i ∧ t 91 = s4 ∧ t 92 = .int .i64 ps[i].named.length ∧ t 93 = .int .i64 j ∧ j ≤ ps[i].named.length ∧ k = ps[i].named.length - j ∧ orF (scan (namedF1 ps[i] i) (ps[i].named.length - j) j) (orF (scan (namedF ps) (ps.length - (i + 1)) (i + 1)) (parts5 ps)) = partsF ps) ps[i].named.length ?_ ?_
    · exact ⟨rfl, 0, ⟨h1, h2, by simp only [upd_far, q0, q0', hl0], by simp only [upd_far, q1, q1', hl1], by omega⟩, ⟨rfl, by simp only [upd_same], by omega⟩, h59, h60, h61, rfl, rfl, rfl, rfl, by omega, by omega, hS⟩
    clear hS h59 h60 h61 h1 h2 hl0 hl1 q0 q0' q1 q1'
    intro k t l c2 m1 KN2 ⟨hm, j, ⟨h1, h2, hl0, hl1, hc2⟩, ⟨h12, hl12, hc12⟩, h59, h60, h61, h7, h67, h68, h69, hj', hk', hS⟩ next2
    subst m1
    obtain ⟨q0, q0'⟩ := far_of (a := 0) (c := c2) (by omega)
    obtain ⟨q1, q1'⟩ := far_of (a := 1) (c := c2) (by omega)
    obtain ⟨q2, q2'⟩ := far_of (a := c + 4) (c := c2) (by omega)
    refine goh_ ?_
    refine ⟨fun hd2 => ?_, fun hd2 => ?_⟩
    · have hjc : j < ps[i].named.length := by omega
      have hw5 := w64_succ hjc hl4
      rw [orF_at hjc, namedF1_eq hjc] at hS
      refine s_l3namedOk e1 e2 e3 e4 hjc ?_
      cases hh : decide ((j : Int) < 500) && nok ps[i] ps[i].named[j] with
      | true =>
        rw [hh] at hS
        refine goh_ ?_
        exact next2 _ _ _ _ _ (by omega) ⟨rfl, j + 1, ⟨h1, h2, hl0, hl1, by omega⟩, ⟨h12, hl12, by omega⟩, h59, h60, h61, h7, h67, h68, rfl, by omega, rfl, hS⟩
      | false =>
        rw [hh] at hS
        have h := h _ (Mem.le.refl _)
        rw [← hS] at h
        simp only [F3.av, orF, Bool.false_eq_true, ↓reduceIte] at h
        refine goh_ ?_
        refine s_l3fault ?_
        exact gox_
    · rw [show j = ps[i].named.length by omega, orF_end] at hS
      exact next _ _ _ _ _ (by omega) ⟨rfl, i + 1, ⟨h1, h2, hl0, hl1, by omega⟩, h59, h60, rfl, by omega, rfl, hS⟩
  rw [show i = ps.length by omega, orF_end] at hS
  clear next h59 h60 h61 hd hk hi
  refine loop_ (fun k t l c m' => m.le m' ∧ ∃ (i : Nat), Two t l c s ∧ t 106 = s ∧ t 107 = .int .i64 ps.length ∧ t 108 = .int .i64 i ∧ i ≤ ps.length ∧ k = ps.length - i ∧ orF (scan (insF ps) (ps.length - i) i) (0, 0, 0) = partsF ps) ps.length ?_ ?_
  · exact ⟨Mem.le.refl _, 0, ⟨h1, h2, by simp only [upd_far, q0, q0', hl0], by simp only [upd_far, q1, q1', hl1], by omega⟩, rfl, rfl, rfl, by omega, by omega, by rw [← hS]; rfl⟩
  clear h1 h2 hl0 hl1 hc q0 q0' q1 q1' hS
  intro k t l c m1 KN ⟨hm, i, ⟨h1, h2, hl0, hl1, hc⟩, h59, h60, h61, hi, hk, hS⟩ next
  replace h := fun m' (hm' : m1.le m') => h m' (hm.trans hm')
  replace next := fun k' t' l' c' m' (hk' : k' < k) (hm' : m1.le m') q => next k' t' l' c' m' hk' ⟨hm.trans hm', q⟩
  replace hp := hp.mono hm
  replace hlen := hp.len'
  clear hm
  obtain ⟨q0, q0'⟩ := far_of (a := 0) (c := c) (by omega)
  obtain ⟨q1, q1'⟩ := far_of (a := 1) (c := c) (by omega)
  refine goh_ ?_
  refine ⟨fun hd => ?_, fun hd => ?_⟩
  · have hj : i < ps.length := by omega
    obtain ⟨a, i0, c', B, s1, s2, s3, s4, rfl, hb, hz, hr, e1, e2, e3, e4⟩ := hp.at_ hj
    obtain ⟨b1, b2, b3, b4⟩ := e1.facts
    obtain ⟨c1, c2, c3, c4⟩ := e2.facts
    obtain ⟨d1, d2, d3, d4⟩ := e3.facts
    obtain ⟨f1, f2, f3, f4⟩ := e4.facts
    have hw := w64_succ hj hl
    have l4 := e3.len'
    rw [List.length_map] at l4
    have hl4 := (hL ps[i] (by simp)).2.2.1
    rw [orF_at hj, insF_eq hj] at hS
    by_cases hz0 : ps[i].ins.length = 0
    · rw [if_pos hz0] at hS
      have h := h _ (Mem.le.refl _)
      rw [← hS] at h
      simp only [F3.av, orF] at h
      have e0 : ((ps[i].ins.length : Int) == 0) = true := by rw [beq_iff_eq]; omega
      refine goh_ ?_
      refine s_l3fault ?_
      exact gox_
    rw [if_neg hz0] at hS
    have e0 : ((ps[i].ins.length : Int) == 0) = false := by rw [beq_eq_false_iff_ne]; omega
    refine goh_ ?_
    refine loop_ (fun k t l c2 m' => m1.le m' ∧ ∃ (j : Nat), Two t l c2 (.sl a i0 ps.length c') ∧ t 106 = .sl a i0 ps.length c' ∧ t 107 = .int .i64 ps.length ∧ t 108 = .int .i64 i ∧ t 14 = .int .i64 i ∧ t 120 = s3 ∧ t 121 = .int .i64 ps[i].ins.length ∧ t 122 = .int .i64 j ∧ j ≤ ps[i].ins.length ∧ k = ps[i].ins.length - j ∧ orF (scan (insF1 ps.length ps[i] i) (ps[i].ins.length - j) j) (orF (scan (insF ps) (ps.length - (i + 1)) (i + 1)) (0, 0, 0)) = partsF ps) ps[i].ins.length ?_ ?_
    · exact ⟨Mem.le.refl _, 0, ⟨h1, h2, by simp only [upd_far, q0, q0', hl0], by simp only [upd_far, q1, q1', hl1], by omega⟩, h59, h60, h61, rfl, rfl, rfl, rfl, by omega, by omega, hS⟩
    clear hS h59 h60 h61 h1 h2 hl0 hl1 q0 q0' q1 q1'
    intro k t l c2 m2 KN2 ⟨hm, j, ⟨h1, h2, hl0, hl1, hc2⟩, h59, h60, h61, h7, h67, h68, h69, hj', hk', hS⟩ next2
    replace h := fun m' (hm' : m2.le m') => h m' (hm.trans hm')
    replace next := fun k' t' l' c' m' hk' (hm' : m2.le m') => next k' t' l' c' m' hk' (hm.trans hm')
    replace next2 := fun k' t' l' c' m' hk' (hm' : m2.le m') q => next2 k' t' l' c' m' hk' ⟨hm.trans hm', q⟩
    replace hp := hp.mono hm
    clear hb hr e1 e2 e3 e4 hlen l4
    obtain ⟨q0, q0'⟩ := far_of (a := 0) (c := c2) (by omega)
    obtain ⟨q1, q1'⟩ := far_of (a := 1) (c := c2) (by omega)
    refine goh_ ?_
    refine ⟨fun hd2 => ?_, fun hd2 => ?_⟩
    · have hjc : j < ps[i].ins.length := by omega
      have hw5 := w64_succ hjc hl4
      rw [orF_at hjc, insF1_eq hjc] at hS
      refine s_l3insOk hp hj hjc hl4 ?_
      intro m3 hm3
      cases hh : insS ps.length ps[i] ps[i].ins[j] (j + 1 == ps[i].ins.length) with
      | true =>
        rw [hh] at hS
        refine goh_ ?_
        exact next2 _ _ _ _ _ (by omega) hm3 ⟨j + 1, ⟨h1, h2, hl0, hl1, by omega⟩, h59, h60, h61, h7, h67, h68, rfl, by omega, rfl, hS⟩
      | false =>
        rw [hh] at hS
        have h := h _ hm3
        rw [← hS] at h
        simp only [F3.av, orF, Bool.false_eq_true, ↓reduceIte] at h
        refine goh_ ?_
        refine s_l3fault ?_
        exact gox_
    · rw [show j = ps[i].ins.length by omega, orF_end] at hS
      exact next _ _ _ _ _ (by omega) (Mem.le.refl _) ⟨i + 1, ⟨h1, h2, hl0, hl1, by omega⟩, h59, h60, rfl, by omega, rfl, hS⟩
  rw [show i = ps.length by omega, orF_end] at hS
  have h := h _ (Mem.le.refl _)
  rw [← hS] at h
  simp only [F3.av] at h
  exact gox_
end Go.Proofs.YtdonkjepjobhnaaDoor.IM
namespace Go.Proofs.IM
open Go
theorem scan_some {α : Type} {f : Nat → Option α} {x : α} : ∀ {k i : Nat}, scan f k i = some x → ∃ j, i ≤ j ∧ j < i + k ∧ f j = some x := by
  intro k
  induction k with
  | zero => intro i h; cases h
  | succ k ih =>
    intro i h
    simp only [scan] at h
    split at h
    · rename_i e; cases h; exact ⟨i, by omega, by omega, e⟩
    · obtain ⟨j, h1, h2, h3⟩ := ih h
      exact ⟨j, by omega, by omega, h3⟩
/-- What stands when a code has passed the first five looks. -/
structure Parts (ps : List Pr) : Prop where
  n0 : ps.length ≠ 0
  n1 : ps.length ≤ 200
  tot : totL ps 0 ≤ 6000
  head : ∀ (i : Nat) (h : i < ps.length), hok ps[i] (i == 0) = true
  cst : ∀ (i : Nat) (h : i < ps.length) (j : Nat) (h' : j < ps[i].consts.length), cok ps[i].consts[j] = true
  nam : ∀ (i : Nat) (h : i < ps.length) (j : Nat) (h' : j < ps[i].named.length), (decide ((j : Int) < 500) && nok ps[i] ps[i].named[j]) = true
  ins0 : ∀ (i : Nat) (h : i < ps.length), ps[i].ins.length ≠ 0
  ins : ∀ (i : Nat) (h : i < ps.length) (j : Nat) (h' : j < ps[i].ins.length), insS ps.length ps[i] ps[i].ins[j] (j + 1 == ps[i].ins.length) = true
theorem orF_zero {x : Option F3} {y : F3} (hx : ∀ f, x = some f → f.1 ≠ 0) (h : (orF x y).1 = 0) : x = none ∧ y.1 = 0 := by
  cases x with
  | none => exact ⟨rfl, h⟩
  | some f => exact (hx f rfl h).elim
theorem shape_parts {ps : List Pr} (h : (partsF ps).1 = 0) : Parts ps ∧ partsF ps = (0, 0, 0) := by
  by_cases g : ps.length = 0 ∨ 200 < ps.length ∨ 6000 < totL ps 0
  · simp only [partsF, if_pos g] at h; cases h
  have e : partsF ps = parts2 ps := by simp only [partsF, if_neg g]
  rw [e] at h ⊢
  have k2 : ∀ i f, headF ps i = some f → f.1 ≠ 0 := by
    intro i f hf
    unfold headF at hf
    split at hf
    · split at hf <;> cases hf; simp
    · cases hf
  have k3' : ∀ p i j f, constF1 p i j = some f → f.1 ≠ 0 := by
    intro p i j f hf
    unfold constF1 at hf
    split at hf
    · split at hf <;> cases hf; simp
    · cases hf
  have k3 : ∀ i f, constF ps i = some f → f.1 ≠ 0 := by
    intro i f hf
    unfold constF at hf
    split at hf
    · obtain ⟨j, -, -, hj⟩ := scan_some hf; exact k3' _ _ _ _ hj
    · cases hf
  have k4' : ∀ p i j f, namedF1 p i j = some f → f.1 ≠ 0 := by
    intro p i j f hf
    unfold namedF1 at hf
    split at hf
    · split at hf <;> cases hf; simp
    · cases hf
  have k4 : ∀ i f, namedF ps i = some f → f.1 ≠ 0 := by
    intro i f hf
    unfold namedF at hf
    split at hf
    · obtain ⟨j, -, -, hj⟩ := scan_some hf; exact k4' _ _ _ _ hj
    · cases hf
  have k5' : ∀ n p i j f, insF1 n p i j = some f → f.1 ≠ 0 := by
    intro n p i j f hf
    unfold insF1 at hf
    split at hf
    · split at hf <;> cases hf; simp
    · cases hf
  have k5 : ∀ i f, insF ps i = some f → f.1 ≠ 0 := by
    intro i f hf
    unfold insF at hf
    split at hf
    · split at hf
      · cases hf; simp
      · obtain ⟨j, -, -, hj⟩ := scan_some hf; exact k5' _ _ _ _ _ hj
    · cases hf
  have sc : ∀ {F : Nat → Option F3} {k i : Nat}, (∀ i f, F i = some f → f.1 ≠ 0) → ∀ f, scan F k i = some f → f.1 ≠ 0 := fun hF f hf => let ⟨j, _, _, hj⟩ := scan_some hf; hF j f hj
  have h2 := h
  unfold parts2 at h2
  obtain ⟨s2, h3⟩ := orF_zero (sc k2) h2
  have h3' := h3
  unfold parts3 at h3
  obtain ⟨s3, h4⟩ := orF_zero (sc k3) h3
  have h4' := h4
  unfold parts4 at h4
  obtain ⟨s4, h5⟩ := orF_zero (sc k4) h4
  have h5' := h5
  unfold parts5 at h5
  obtain ⟨s5, -⟩ := orF_zero (sc k5) h5
  have n2 := fun i (hi : i < ps.length) => scan_none s2 i (by omega) (by omega)
  have n3 := fun i (hi : i < ps.length) => scan_none s3 i (by omega) (by omega)
  have n4 := fun i (hi : i < ps.length) => scan_none s4 i (by omega) (by omega)
  have n5 := fun i (hi : i < ps.length) => scan_none s5 i (by omega) (by omega)
  refine ⟨⟨fun q => g (.inl q), by omega, by omega, fun i hi => ?_, fun i hi j hj => ?_, fun i hi j hj => ?_, fun i hi q => ?_, fun i hi j hj => ?_⟩, ?_⟩
  · have := n2 i hi
    rw [headF_eq hi] at this
    split at this
    · rename_i q; exact q
    · simp at this
  · have := n3 i hi
    rw [constF_eq hi] at this
    have := scan_none this j (by omega) (by omega)
    rw [constF1_eq hj] at this
    split at this
    · rename_i q; exact q
    · simp at this
  · have := n4 i hi
    rw [namedF_eq hi] at this
    have := scan_none this j (by omega) (by omega)
    rw [namedF1_eq hj] at this
    split at this
    · rename_i q; exact q
    · simp at this
  · have := n5 i hi
    rw [insF_eq hi, if_pos q] at this
    simp at this
  · have := n5 i hi
    rw [insF_eq hi, if_neg (by omega)] at this
    have := scan_none this j (by omega) (by omega)
    rw [insF1_eq hj] at this
    split at this
    · rename_i q; exact q
    · simp at this
  · unfold parts2 parts3 parts4 parts5
    rw [s2, s3, s4, s5]; rfl
theorem Parts.fn {ps : List Pr} (h : Parts ps) {i j : Nat} (hi : i < ps.length) (hj : j < ps[i].ins.length) (hop : ps[i].ins[j].op = 11) : 0 ≤ ps[i].ins[j].b ∧ ps[i].ins[j].b < ps.length := by
  have := h.ins i hi j hj
  have n1 := h.n1
  simp only [insS, hop, rolesL, roleTab, List.lookup] at this
  simp [fits, inR] at this
  have hw : w64 ((ps.length : Int) - 1) = (ps.length : Int) - 1 := w64_id (by omega)
  rw [hw] at this
  omega
def bo (b : Bool) : List AV := [.bool b]
def bad6 (ps : List Pr) (i : Nat) (x : I) (made : List Bool) : Bool := decide (x.b ≤ i) || made.getD x.b.toNat true || !(match ps[i]?, ps[x.b.toNat]? with
  | some p, some q => upsOk p q.ups
  | _, _ => false)
def ins6 (ps : List Pr) (i : Nat) : List I → Nat → List Bool → F3 ⊕ List Bool
  | [], _, made => .inr made
  | x :: xs, j, made => if x.op ≠ 11 then ins6 ps i xs (j + 1) made else if bad6 ps i x made = true then .inl (6, i, j) else ins6 ps i xs (j + 1) (made.set x.b.toNat true)
def all6 (ps : List Pr) : List Pr → Nat → List Bool → F3 ⊕ List Bool
  | [], _, made => .inr made
  | p :: r, i, made => match ins6 ps i p.ins 0 made with
    | .inl f => .inl f
    | .inr made => all6 ps r (i + 1) made
def last7 (made : List Bool) (i : Nat) : Option F3 := if made.getD i true = true then none else some (7, i, 0)
def end7 (n : Nat) : F3 ⊕ List Bool → F3
  | .inl f => f
  | .inr made => orF (scan (last7 made) (n - 1) 1) (0, 0, 0)
def cont6 (ps : List Pr) (r : List Pr) (i : Nat) : F3 ⊕ List Bool → F3 ⊕ List Bool
  | .inl f => .inl f
  | .inr made => all6 ps r (i + 1) made
theorem all6_at {ps qs : List Pr} {i : Nat} (h : i < qs.length) (made : List Bool) : all6 ps (qs.drop i) i made = cont6 ps (qs.drop (i + 1)) i (ins6 ps i (qs[i].ins.drop 0) 0 made) := by
  rw [List.drop_eq_getElem_cons h, all6, List.drop_zero]
  cases ins6 ps i qs[i].ins 0 made <;> rfl
theorem ins6_at {ps : List Pr} {xs : List I} {i j : Nat} (h : j < xs.length) (made : List Bool) : ins6 ps i (xs.drop j) j made = if xs[j].op ≠ 11 then ins6 ps i (xs.drop (j + 1)) (j + 1) made else if bad6 ps i xs[j] made = true then .inl (6, i, j) else ins6 ps i (xs.drop (j + 1)) (j + 1) (made.set xs[j].b.toNat true) := by
  rw [List.drop_eq_getElem_cons h, ins6]
theorem bad6_eq {ps : List Pr} {i : Nat} {x : I} {made : List Bool} (hi : i < ps.length) (hx : x.b.toNat < ps.length) : bad6 ps i x made = (decide (x.b ≤ i) || made.getD x.b.toNat true || !(upsOk ps[i] ps[x.b.toNat].ups)) := by
  simp only [bad6, List.getElem?_eq_getElem hi, List.getElem?_eq_getElem hx]
def shapeF (ps : List Pr) : F3 := if (partsF ps).1 ≠ 0 then partsF ps else end7 ps.length (all6 ps ps 0 (List.replicate ps.length false))
theorem bo_get {made : List Bool} {i : Nat} (h : i < made.length) : (made.map bo)[i]? = some [.bool (made.getD i true)] := by simp [bo, h]
theorem bo_set {made : List Bool} {i : Nat} : (made.map bo).set i [.bool true] = (made.set i true).map bo := by rw [List.map_set]; rfl
end Go.Proofs.IM
namespace Go.Proofs.YtdonkjepjobhnaaDoor.IM
open Go Go.Proofs.IM Go.Proofs.Flt
set_option maxHeartbeats 16000000
set_option maxRecDepth 100000
theorem s_specCheckShape {s : AV} {ps : List Pr} {m : Mem} {K : AR → Mem → Prop} (hp : PsR m s ps) (hl : ps.length < 2 ^ 63) (hL : ∀ p ∈ ps, p.ok)
    (h : ∀ m', m.le m' → K (.ret (shapeF ps).av) m') :
    Sim Tryd.prog 22 [.agg [s]] m K := by
  refine entry (cxok []) Tryd.func22 rfl rfl (by decide) (by decide) ?_
  obtain ⟨a1, a2, a3, a4⟩ := hp.facts
  refine goh_ ?_
  refine s_l3parts hp hl hL ?_
  intro m0 hm0
  replace h := fun m' (hm' : m0.le m') => h m' (hm0.trans hm')
  replace hp := hp.mono hm0
  have hlen := hp.len'
  clear hm0
  simp only [F3.av]
  by_cases g : (partsF ps).1 = 0
  rotate_left
  · have h := h _ (Mem.le.refl _)
    simp only [shapeF, if_pos g] at h
    simp only [F3.av] at h
    have e : ((partsF ps).1 != 0) = true := by simpa using g
    exact gox_
  obtain ⟨hP, hE⟩ := shape_parts g
  simp only [shapeF, hE] at h
  simp only [ne_eq, not_true, if_false] at h
  rw [hE]
  have n1 := hP.n1
  refine goh_ ?_
  refine ⟨by omega, ?_⟩
  have hlenp := (hp.mono (Mem.le.push m0 ⟨List.replicate ps.length [.bool false], 1⟩)).len'
  refine goh_ ?_
  have hrep : List.replicate ps.length [AV.bool false] = (List.replicate ps.length false).map bo := by rw [List.map_replicate]; rfl
  refine loop_ (fun k t l c m1 => ∃ (i : Nat) (made : List Bool), made.length = ps.length ∧ m1 = m0.push ⟨made.map bo, 1⟩ ∧ Two t l c s ∧ t 4 = .sl (.hp m0.hp.length) 0 ps.length ps.length ∧ t 21 = s ∧ t 22 = .int .i64 ps.length ∧ t 23 = .int .i64 i ∧ i ≤ ps.length ∧ k = ps.length - i ∧ all6 ps (ps.drop i) i made = all6 ps ps 0 (List.replicate ps.length false)) ps.length ?_ ?_
  · exact ⟨0, List.replicate ps.length false, by simp, by rw [← hrep], ⟨rfl, rfl, rfl, rfl, by omega⟩, rfl, rfl, rfl, rfl, by omega, by omega, rfl⟩
  intro k t l c m1 KN ⟨i, made, hml, hm1, ⟨h1, h2, hl0, hl1, hc⟩, h4, h21, h22, h23, hi, hk, hS⟩ next
  subst m1
  have hp1 := hp.mono (Mem.le.push m0 ⟨made.map bo, 1⟩)
  have hlen1 := hp1.len'
  obtain ⟨q0, q0'⟩ := far_of (a := 0) (c := c) (by omega)
  obtain ⟨q1, q1'⟩ := far_of (a := 1) (c := c) (by omega)
  refine goh_ ?_
  refine ⟨fun hd => ?_, fun hd => ?_⟩
  · have hj : i < ps.length := by omega
    obtain ⟨a, i0, c', B, s1, s2, s3, s4, rfl, hb, hz, hr, e1, e2, e3, e4⟩ := hp.at_ hj
    obtain ⟨b1, b2, b3, b4⟩ := e1.facts
    obtain ⟨c1, c2, c3, c4⟩ := e2.facts
    obtain ⟨d1, d2, d3, d4⟩ := e3.facts
    obtain ⟨f1, f2, f3, f4⟩ := e4.facts
    have hw := w64_succ hj hl
    have hb1 := fun l => blk?_mono (Mem.le.push m0 ⟨made.map bo, 1⟩) (hb l)
    have hr1 := fun l => row?_mono (Mem.le.push m0 ⟨made.map bo, 1⟩) (hr l)
    have l3 := (e3.mono (Mem.le.push m0 ⟨made.map bo, 1⟩)).len'
    rw [List.length_map] at l3
    have hl3 := (hL ps[i] (by simp)).2.2.1
    rw [all6_at hj] at hS
    refine goh_ ?_
    refine loop_ (fun k t l c2 m1 => ∃ (j : Nat) (made : List Bool), made.length = ps.length ∧ m1 = m0.push ⟨made.map bo, 1⟩ ∧ Two t l c2 (.sl a i0 ps.length c') ∧ t 4 = .sl (.hp m0.hp.length) 0 ps.length ps.length ∧ t 21 = .sl a i0 ps.length c' ∧ t 22 = .int .i64 ps.length ∧ t 23 = .int .i64 i ∧ t 5 = .int .i64 i ∧ t 29 = s3 ∧ t 30 = .int .i64 ps[i].ins.length ∧ t 31 = .int .i64 j ∧ j ≤ ps[i].ins.length ∧ k = ps[i].ins.length - j ∧ cont6 ps (ps.drop (i + 1)) i (ins6 ps i (ps[i].ins.drop j) j made) = all6 ps ps 0 (List.replicate ps.length false)) ps[i].ins.length ?_ ?_
    · exact ⟨0, made, hml, rfl, ⟨h1, h2, by simp only [upd_far, q0, q0', hl0], by simp only [upd_far, q1, q1', hl1], by omega⟩, h4, h21, h22, h23, rfl, rfl, rfl, rfl, by omega, by omega, hS⟩
    clear hS h4 h21 h22 h23 h1 h2 hl0 hl1 q0 q0' q1 q1' hb hr hb1 hr1 e1 e2 e4 l3 hlen1 hp1 hml made
    intro k t l c2 m1 KN2 ⟨j, made, hml, hm1, ⟨h1, h2, hl0, hl1, hc2⟩, h4, h21, h22, h23, h5, h29, h30, h31, hj', hk', hS⟩ next2
    subst m1
    have hp1 := hp.mono (Mem.le.push m0 ⟨made.map bo, 1⟩)
    have e3' := e3.mono (Mem.le.push m0 ⟨made.map bo, 1⟩)
    obtain ⟨q0, q0'⟩ := far_of (a := 0) (c := c2) (by omega)
    obtain ⟨q1, q1'⟩ := far_of (a := 1) (c := c2) (by omega)
    refine goh_ ?_
    refine ⟨fun hd2 => ?_, fun hd2 => ?_⟩
    · have hjc : j < ps[i].ins.length := by omega
      have hw5 := w64_succ hjc hl3
      obtain ⟨a5, i5, c5, B5, rfl, hb5, hz5, hr5⟩ := e3'.some_ (j := j) (by simpa using hjc)
      have hr5 := fun l => hr5 l j (by simpa using hjc)
      simp only [List.getElem_map] at hr5
      rw [ins6_at hjc] at hS
      by_cases hop : ps[i].ins[j].op = 11
      rotate_left
      · rw [if_pos hop] at hS
        have e : (ps[i].ins[j].op != 11) = true := by simpa using hop
        refine goh_ ?_
        exact next2 _ _ _ _ _ (by omega) ⟨j + 1, made, hml, rfl, ⟨h1, h2, by simp only [upd_far, q0, q0', hl0], by simp only [upd_far, q1, q1', hl1], by omega⟩, h4, h21, h22, h23, h5, h29, h30, rfl, by omega, rfl, hS⟩
      obtain ⟨r1, r2⟩ := hP.fn hj hjc hop
      rw [if_neg (by simpa using hop), bad6_eq hj (by omega)] at hS
      have e : (ps[i].ins[j].op != 11) = false := by simpa using hop
      have hbg := bo_get (made := made) (i := ps[i].ins[j].b.toNat) (by omega)
      have hbs := bo_set (made := made) (i := ps[i].ins[j].b.toNat)
      by_cases c1 : ps[i].ins[j].b ≤ i
      · have h := h _ (Mem.le.push m0 ⟨made.map bo, 1⟩)
        simp only [decide_eq_true c1, Bool.true_or, if_true, cont6] at hS
        rw [← hS] at h
        simp only [end7, F3.av] at h
        refine goh_ ?_
        refine s_l3fault ?_
        exact gox_
      have c1' : decide (ps[i].ins[j].b ≤ (i : Int)) = false := by simpa using c1
      cases c2 : made.getD ps[i].ins[j].b.toNat true with
      | true =>
        have h := h _ (Mem.le.push m0 ⟨made.map bo, 1⟩)
        simp only [c2, Bool.or_true, Bool.true_or, if_true, cont6] at hS
        rw [← hS] at h
        simp only [end7, F3.av] at h
        rw [c2] at hbg
        refine goh_ ?_
        refine s_l3fault ?_
        exact gox_
      | false =>
        rw [c2] at hbg
        refine goh_ ?_
        refine s_l3upsOk hp1 hj r1 r2 (hL _ (by simp)).1 ?_
        cases c3 : upsOk ps[i] ps[ps[i].ins[j].b.toNat].ups with
        | false =>
          have h := h _ (Mem.le.push m0 ⟨made.map bo, 1⟩)
          simp only [c3, Bool.not_false, Bool.or_true, if_true, cont6] at hS
          rw [← hS] at h
          simp only [end7, F3.av] at h
          refine goh_ ?_
          refine s_l3fault ?_
          exact gox_
        | true =>
          simp only [c1', c2, c3, Bool.not_true, Bool.or_false, Bool.false_eq_true, if_false] at hS
          refine goh_ ?_
          exact next2 _ _ _ _ _ (by omega) ⟨j + 1, made.set ps[i].ins[j].b.toNat true, by simp [hml], rfl, ⟨h1, h2, by simp only [upd_far, q0, q0', hl0], by simp only [upd_far, q1, q1', hl1], by omega⟩, h4, h21, h22, h23, h5, h29, h30, rfl, by omega, rfl, hS⟩
    · rw [show j = ps[i].ins.length by omega, List.drop_length] at hS
      simp only [ins6, cont6] at hS
      exact next _ _ _ _ _ (by omega) ⟨i + 1, made, hml, rfl, ⟨h1, h2, hl0, hl1, by omega⟩, h4, h21, h22, rfl, by omega, rfl, hS⟩
  rw [show i = ps.length by omega, List.drop_length] at hS
  simp only [all6] at hS
  rw [← hS] at h
  simp only [end7] at h
  clear next h21 h22 h23 hd hk hi hS
  refine loop_ (fun k t l c m1 => m1 = m0.push ⟨made.map bo, 1⟩ ∧ ∃ (i : Nat), Two t l c s ∧ t 4 = .sl (.hp m0.hp.length) 0 ps.length ps.length ∧ t 9 = .int .i64 i ∧ i ≤ ps.length ∧ k = ps.length - i ∧ orF (scan (last7 made) (ps.length - i) i) (0, 0, 0) = orF (scan (last7 made) (ps.length - 1) 1) (0, 0, 0)) (ps.length - 1) ?_ ?_
  · exact ⟨rfl, 1, ⟨h1, h2, by simp only [upd_far, q0, q0', hl0], by simp only [upd_far, q1, q1', hl1], by omega⟩, h4, rfl, by have := hP.n0; omega, by omega, rfl⟩
  clear h1 h2 hl0 hl1 hc q0 q0' q1 q1' h4
  intro k t l c m1 KN ⟨hm, i, ⟨h1, h2, hl0, hl1, hc⟩, h4, h9, hi, hk, hS⟩ next
  subst m1
  obtain ⟨q0, q0'⟩ := far_of (a := 0) (c := c) (by omega)
  obtain ⟨q1, q1'⟩ := far_of (a := 1) (c := c) (by omega)
  refine goh_ ?_
  refine ⟨fun hd => ?_, fun hd => ?_⟩
  · have hj : i < ps.length := by omega
    have hw := w64_succ hj hl
    have hbg := bo_get (made := made) (i := i) (by omega)
    rw [orF_at hj] at hS
    cases c2 : made.getD i true with
    | true =>
      rw [c2] at hbg
      simp only [last7, c2, if_true] at hS
      refine goh_ ?_
      exact next _ _ _ _ _ (by omega) ⟨rfl, i + 1, ⟨h1, h2, hl0, hl1, by omega⟩, h4, rfl, by omega, rfl, hS⟩
    | false =>
      rw [c2] at hbg
      simp only [last7, c2, Bool.false_eq_true, if_false] at hS
      have h := h _ (Mem.le.push m0 ⟨made.map bo, 1⟩)
      rw [← hS] at h
      simp only [F3.av, orF] at h
      refine goh_ ?_
      refine s_l3fault ?_
      exact gox_
  have h := h _ (Mem.le.push m0 ⟨made.map bo, 1⟩)
  rw [show i = ps.length by omega, orF_end] at hS
  rw [← hS] at h
  simp only [F3.av] at h
  exact gox_
end Go.Proofs.YtdonkjepjobhnaaDoor.IM
namespace Go.Proofs.IM
open Go
def fitsI (n : Nat) (p : Pr) (role x : Int) : Bool :=
  if role = 0 then x == 0
  else if role = 1 then inR x 1 100000
  else if role = 2 then inR x 0 100000
  else if role = 3 ∨ role = 4 ∨ role = 5 ∨ role = 6 ∨ role = 7 then inR x 0 (w64 (p.regs - 1))
  else if role = 8 ∨ role = 9 then inR x (w64 (0 - p.regs)) (w64 (p.regs - 1))
  else if role = 10 then inR x 0 (w64 (p.consts.length - 1))
  else if role = 11 then inR x 0 (w64 (p.ups.length - 1))
  else if role = 12 then inR x 0 (w64 (n - 1))
  else if role = 13 then inR x 0 (w64 (p.ins.length - 1))
  else if role = 14 then inR x 1 18
  else if role = 15 then inR x 19 22
  else if role = 16 then inR x 0 250
  else if role = 17 then inR x 0 p.regs
  else if role = 18 then inR x 0 (w64 (p.regs - 2))
  else if role = 19 then inR x 0 (w64 (w64 (p.regs - 1) - 2))
  else inR x 0 (w64 (w64 (p.regs - 1) - 1))
def rmap : List Int := [0, 3, 8, 9, 4, 5, 6, 10, 11, 12, 13, 1, 2, 17, 18, 15, 14, 16, 19, 20, 21, 7]
theorem fit_eq {n : Nat} {p : Pr} {x : Int} (h0 : 0 ≤ p.regs) (h1 : p.regs ≤ 250) : ∀ r : Nat, r < 22 → fits n p r x = fitsI n p (rmap.getD r 0) x := by
  have e3 : w64 (w64 (p.regs - 1) - 2) = w64 (p.regs - 3) := by rw [w64_id (x := p.regs - 1) (by omega)]; congr 1; omega
  have e2 : w64 (w64 (p.regs - 1) - 1) = w64 (p.regs - 2) := by rw [w64_id (x := p.regs - 1) (by omega)]; congr 1; omega
  intro r hr
  have : r = 0 ∨ r = 1 ∨ r = 2 ∨ r = 3 ∨ r = 4 ∨ r = 5 ∨ r = 6 ∨ r = 7 ∨ r = 8 ∨ r = 9 ∨ r = 10 ∨ r = 11 ∨ r = 12 ∨ r = 13 ∨ r = 14 ∨ r = 15 ∨ r = 16 ∨ r = 17 ∨ r = 18 ∨ r = 19 ∨ r = 20 ∨ r = 21 := by omega
  rcases this with rfl | rfl | rfl | rfl | rfl | rfl | rfl | rfl | rfl | rfl | rfl | rfl | rfl | rfl | rfl | rfl | rfl | rfl | rfl | rfl | rfl | rfl <;> simp [fits, fitsI, rmap, e2, e3]
def formsTab : List (List Int) := [[0, 0, 0, 0], [1, 0, 0, 0], [2, 0, 0, 0], [0, 0, 0, 0], [3, 10, 0, 0], [3, 8, 0, 0], [3, 8, 0, 0], [3, 5, 0, 0], [5, 8, 0, 0], [3, 11, 0, 0], [11, 8, 0, 0], [3, 12, 0, 0], [3, 0, 0, 0], [4, 8, 8, 0], [4, 8, 9, 0], [3, 8, 8, 0], [8, 8, 8, 0], [3, 15, 8, 0], [3, 14, 8, 8], [13, 0, 0, 0], [8, 13, 0, 0], [8, 13, 0, 0], [3, 0, 0, 0], [6, 8, 0, 0], [6, 9, 0, 0], [3, 9, 0, 0], [3, 6, 16, 0], [3, 6, 0, 0], [3, 8, 9, 0], [9, 0, 0, 0], [8, 0, 0, 0], [13, 18, 0, 0], [0, 0, 0, 0], [17, 0, 0, 0], [17, 0, 0, 0], [8, 9, 0, 0], [0, 0, 0, 0], [19, 0, 0, 0], [19, 13, 0, 0], [19, 13, 0, 0], [20, 0, 0, 0], [21, 13, 3, 0], [7, 0, 0, 0]]
def insI (n : Nat) (p : Pr) (x : I) : Bool := match formsTab[x.op.toNat]? with
  | some [r0, r1, r2, r3] => decide (1 ≤ x.op) && fitsI n p r0 x.a && fitsI n p r1 x.b && fitsI n p r2 x.c && fitsI n p r3 x.d
  | _ => false
end Go.Proofs.IM
namespace Go.Proofs.YtdonkjepjobhnaaDoor.IM
open Go Go.Proofs.IM Go.Proofs.Flt
set_option linter.unusedSimpArgs false
set_option maxHeartbeats 8000000
set_option maxRecDepth 100000
theorem s_fieldOk {s : AV} {ps : List Pr} {p : Pr} {s1 s2 s3 s4 : AV} {role x : Int} {m : Mem} {K : AR → Mem → Prop} (hp : PsR m s ps) (e1 : SlR m 2 s1 (p.ups.map U.av)) (e2 : SlR m 5 s2 (p.consts.map V.av)) (e3 : SlR m 5 s3 (p.ins.map I.av)) (e4 : SlR m 4 s4 (p.named.map Nm.av)) (h : K (.ret (.bool (fitsI ps.length p role x))) m) :
    Sim Tryd.prog 129 [.agg [s], .agg [.str p.s, .int .i64 p.line, .int .i64 p.params, .bool p.rest, .int .i64 p.regs, s1, s2, s3, s4], .int .i64 role, .int .i64 x] m K := by
  refine entry (cxok []) Tryd.func129 rfl rfl (by decide) (by decide) ?_
  obtain ⟨a1, a2, a3, a4⟩ := hp.facts
  obtain ⟨b1, b2, b3, b4⟩ := e1.facts
  obtain ⟨c1, c2, c3, c4⟩ := e2.facts
  obtain ⟨d1, d2, d3, d4⟩ := e3.facts
  obtain ⟨f1, f2, f3, f4⟩ := e4.facts
  have l0 := hp.len'
  have l1 := e1.len'
  have l2 := e2.len'
  have l3 := e3.len'
  rw [List.length_map] at l1 l2 l3
  clear hp e1 e2 e3 e4
  by_cases g0 : role = 0
  · subst g0; have h : _ := h; simp only [fitsI, Int.reduceEq, or_false, false_or, or_true, true_or, or_self, ↓reduceIte] at h; exact gox_
  have g0 : (role == 0) = false := by simpa using g0
  by_cases g1 : role = 1
  · subst g1; have h : _ := h; simp only [fitsI, Int.reduceEq, or_false, false_or, or_true, true_or, or_self, ↓reduceIte] at h; refine goh_ ?_; refine s_within ?_; exact gox_
  have g1 : (role == 1) = false := by simpa using g1
  by_cases g2 : role = 2
  · subst g2; have h : _ := h; simp only [fitsI, Int.reduceEq, or_false, false_or, or_true, true_or, or_self, ↓reduceIte] at h; refine goh_ ?_; refine s_within ?_; exact gox_
  have g2 : (role == 2) = false := by simpa using g2
  by_cases g3 : role = 3
  · subst g3; have h : _ := h; simp only [fitsI, Int.reduceEq, or_false, false_or, or_true, true_or, or_self, ↓reduceIte] at h; refine goh_ ?_; refine s_within ?_; exact gox_
  have g3 : (role == 3) = false := by simpa using g3
  by_cases g4 : role = 4
  · subst g4; have h : _ := h; simp only [fitsI, Int.reduceEq, or_false, false_or, or_true, true_or, or_self, ↓reduceIte] at h; refine goh_ ?_; refine s_within ?_; exact gox_
  have g4 : (role == 4) = false := by simpa using g4
  by_cases g5 : role = 5
  · subst g5; have h : _ := h; simp only [fitsI, Int.reduceEq, or_false, false_or, or_true, true_or, or_self, ↓reduceIte] at h; refine goh_ ?_; refine s_within ?_; exact gox_
  have g5 : (role == 5) = false := by simpa using g5
  by_cases g6 : role = 6
  · subst g6; have h : _ := h; simp only [fitsI, Int.reduceEq, or_false, false_or, or_true, true_or, or_self, ↓reduceIte] at h; refine goh_ ?_; refine s_within ?_; exact gox_
  have g6 : (role == 6) = false := by simpa using g6
  by_cases g7 : role = 7
  · subst g7; have h : _ := h; simp only [fitsI, Int.reduceEq, or_false, false_or, or_true, true_or, or_self, ↓reduceIte] at h; refine goh_ ?_; refine s_within ?_; exact gox_
  have g7 : (role == 7) = false := by simpa using g7
  by_cases g8 : role = 8
  · subst g8; have h : _ := h; simp only [fitsI, Int.reduceEq, or_false, false_or, or_true, true_or, or_self, ↓reduceIte] at h; refine goh_ ?_; refine s_within ?_; exact gox_
  have g8 : (role == 8) = false := by simpa using g8
  by_cases g9 : role = 9
  · subst g9; have h : _ := h; simp only [fitsI, Int.reduceEq, or_false, false_or, or_true, true_or, or_self, ↓reduceIte] at h; refine goh_ ?_; refine s_within ?_; exact gox_
  have g9 : (role == 9) = false := by simpa using g9
  by_cases g10 : role = 10
  · subst g10; have h : _ := h; simp only [fitsI, Int.reduceEq, or_false, false_or, or_true, true_or, or_self, ↓reduceIte] at h; refine goh_ ?_; refine s_within ?_; exact gox_
  have g10 : (role == 10) = false := by simpa using g10
  by_cases g11 : role = 11
  · subst g11; have h : _ := h; simp only [fitsI, Int.reduceEq, or_false, false_or, or_true, true_or, or_self, ↓reduceIte] at h; refine goh_ ?_; refine s_within ?_; exact gox_
  have g11 : (role == 11) = false := by simpa using g11
  by_cases g12 : role = 12
  · subst g12; have h : _ := h; simp only [fitsI, Int.reduceEq, or_false, false_or, or_true, true_or, or_self, ↓reduceIte] at h; refine goh_ ?_; refine s_within ?_; exact gox_
  have g12 : (role == 12) = false := by simpa using g12
  by_cases g13 : role = 13
  · subst g13; have h : _ := h; simp only [fitsI, Int.reduceEq, or_false, false_or, or_true, true_or, or_self, ↓reduceIte] at h; refine goh_ ?_; refine s_within ?_; exact gox_
  have g13 : (role == 13) = false := by simpa using g13
  by_cases g14 : role = 14
  · subst g14; have h : _ := h; simp only [fitsI, Int.reduceEq, or_false, false_or, or_true, true_or, or_self, ↓reduceIte] at h; refine goh_ ?_; refine s_within ?_; exact gox_
  have g14 : (role == 14) = false := by simpa using g14
  by_cases g15 : role = 15
  · subst g15; have h : _ := h; simp only [fitsI, Int.reduceEq, or_false, false_or, or_true, true_or, or_self, ↓reduceIte] at h; refine goh_ ?_; refine s_within ?_; exact gox_
  have g15 : (role == 15) = false := by simpa using g15
  by_cases g16 : role = 16
  · subst g16; have h : _ := h; simp only [fitsI, Int.reduceEq, or_false, false_or, or_true, true_or, or_self, ↓reduceIte] at h; refine goh_ ?_; refine s_within ?_; exact gox_
  have g16 : (role == 16) = false := by simpa using g16
  by_cases g17 : role = 17
  · subst g17; have h : _ := h; simp only [fitsI, Int.reduceEq, or_false, false_or, or_true, true_or, or_self, ↓reduceIte] at h; refine goh_ ?_; refine s_within ?_; exact gox_
  have g17 : (role == 17) = false := by simpa using g17
  by_cases g18 : role = 18
  · subst g18; have h : _ := h; simp only [fitsI, Int.reduceEq, or_false, false_or, or_true, true_or, or_self, ↓reduceIte] at h; refine goh_ ?_; refine s_within ?_; exact gox_
  have g18 : (role == 18) = false := by simpa using g18
  by_cases g19 : role = 19
  · subst g19; have h : _ := h; simp only [fitsI, Int.reduceEq, or_false, false_or, or_true, true_or, or_self, ↓reduceIte] at h; refine goh_ ?_; refine s_within ?_; exact gox_
  have g19 : (role == 19) = false := by simpa using g19
  have h : K (.ret (.bool (inR x 0 (w64 (w64 (p.regs - 1) - 1))))) m := by
    have e : fitsI ps.length p role x = inR x 0 (w64 (w64 (p.regs - 1) - 1)) := by
      simp only [beq_eq_false_iff_ne, ne_eq] at *
      simp only [fitsI, *]
      simp
    rw [e] at h; exact h
  refine goh_ ?_; refine s_within ?_; exact gox_
end Go.Proofs.YtdonkjepjobhnaaDoor.IM
namespace Go.Proofs.IM
open Go
def insCheck (k : Nat) : Bool := match rolesL k, formsTab[k]? with
  | [a, b, c, d], some [a', b', c', d'] => [(a, a'), (b, b'), (c, c'), (d, d')].all fun q => decide (0 ≤ q.1) && decide (q.1 < 22) && (rmap.getD q.1.toNat 0 == q.2)
  | _, _ => false
theorem insCheck_all : ∀ k : Nat, k < 43 → 1 ≤ k → insCheck k = true := by decide
theorem roles_out {op : Int} (h : op < 1 ∨ 42 < op) : rolesL op = [] := by
  have : roleTab.lookup op = none := by
    rw [List.lookup_eq_none_iff]
    intro q hq
    have : ∀ q ∈ roleTab, 1 ≤ q.1 ∧ q.1 ≤ 42 := by decide
    have := this q hq
    simp
    omega
  rw [rolesL, this]; rfl
theorem fit_eq' {n : Nat} {p : Pr} {x a a' : Int} (h0 : 0 ≤ p.regs) (h1 : p.regs ≤ 250) (h : (0 ≤ a ∧ a < 22) ∧ rmap.getD a.toNat 0 = a') : fits n p a x = fitsI n p a' x := by
  have := fit_eq (n := n) (p := p) (x := x) h0 h1 a.toNat (by omega)
  rw [h.2, show ((a.toNat : Nat) : Int) = a by omega] at this
  exact this
theorem ins_eq {n : Nat} {p : Pr} {x : I} {last : Bool} (h0 : 0 ≤ p.regs) (h1 : p.regs ≤ 250) : insS n p x last = (insI n p x && (!last || endsOp x.op)) := by
  by_cases hop : x.op < 1 ∨ 42 < x.op
  · have e : insI n p x = false := by
      unfold insI
      rcases hop with h | h
      · have : decide (1 ≤ x.op) = false := by simp; omega
        split
        · rw [this]; rfl
        · rfl
      · rw [List.getElem?_eq_none (by have : formsTab.length = 43 := rfl
                                      omega)]
    rw [e, insS, roles_out hop]; rfl
  · have hk := insCheck_all x.op.toNat (by omega) (by omega)
    have hd : decide (1 ≤ x.op) = true := by simp; omega
    unfold insCheck at hk
    rw [show ((x.op.toNat : Nat) : Int) = x.op by omega] at hk
    unfold insS insI
    split at hk
    · rename_i a b c d a' b' c' d' e1 e2
      simp only [List.all_cons, List.all_nil, Bool.and_true, Bool.and_eq_true, decide_eq_true_eq, beq_iff_eq] at hk
      obtain ⟨k1, k2, k3, k4⟩ := hk
      rw [e1, e2]
      simp only [hd, Bool.true_and]
      rw [fit_eq' h0 h1 k1, fit_eq' h0 h1 k2, fit_eq' h0 h1 k3, fit_eq' h0 h1 k4]
    · exact absurd hk Bool.false_ne_true
/-- The package variable that holds the forms. -/
def FormsR (g : Nat) (m : Mem) : Prop := ∃ (j : Nat) (s : AV), m.gl g = .ptr (.ro j) 0 0 ∧ m.ro j = some ⟨[[s]], 1⟩ ∧ SlR m 4 s (formsTab.map fun r => r.map (AV.int .i64))
theorem FormsR.mono {g : Nat} {m m' : Mem} (h : FormsR g m) (hm : m.le m') : FormsR g m' := let ⟨j, s, h1, h2, h3⟩ := h; ⟨j, s, by rw [hm.gl]; exact h1, by rw [hm.ro]; exact h2, h3.mono hm⟩
end Go.Proofs.IM
namespace Go.Proofs.YtdonkjepjobhnaaDoor.IM
open Go Go.Proofs.IM Go.Proofs.Flt
set_option maxHeartbeats 8000000
set_option maxRecDepth 100000
theorem s_insOk {s : AV} {ps : List Pr} {p : Pr} {s1 s2 s3 s4 : AV} {x : I} {m : Mem} {K : AR → Mem → Prop} (hF : FormsR 0 m) (hp : PsR m s ps) (e1 : SlR m 2 s1 (p.ups.map U.av)) (e2 : SlR m 5 s2 (p.consts.map V.av)) (e3 : SlR m 5 s3 (p.ins.map I.av)) (e4 : SlR m 4 s4 (p.named.map Nm.av)) (h : K (.ret (.bool (insI ps.length p x))) m) :
    Sim Tryd.prog 58 [.agg [s], .agg [.str p.s, .int .i64 p.line, .int .i64 p.params, .bool p.rest, .int .i64 p.regs, s1, s2, s3, s4], .agg [.int .i64 x.op, .int .i64 x.a, .int .i64 x.b, .int .i64 x.c, .int .i64 x.d]] m K := by
  refine entry (cxok []) Tryd.func58 rfl rfl (by decide) (by decide) ?_
  obtain ⟨a1, a2, a3, a4⟩ := hp.facts
  obtain ⟨b1, b2, b3, b4⟩ := e1.facts
  obtain ⟨c1, c2, c3, c4⟩ := e2.facts
  obtain ⟨d1, d2, d3, d4⟩ := e3.facts
  obtain ⟨f1, f2, f3, f4⟩ := e4.facts
  obtain ⟨jf, sf, g1, g2, g3⟩ := hF
  by_cases q1 : x.op < 1
  · have e : insI ps.length p x = false := by
      unfold insI
      have : decide (1 ≤ x.op) = false := by simp; omega
      split
      · rw [this]; rfl
      · rfl
    rw [e] at h
    exact gox_
  by_cases q2 : 42 < x.op
  · have e : insI ps.length p x = false := by
      unfold insI
      rw [List.getElem?_eq_none (by have : formsTab.length = 43 := rfl
                                    omega)]
    rw [e] at h
    exact gox_
  have hk := insCheck_all x.op.toNat (by omega) (by omega)
  unfold insCheck at hk
  unfold insI at h
  have hd : decide (1 ≤ x.op) = true := by simp; omega
  split at hk
  rotate_left
  · exact absurd hk Bool.false_ne_true
  rename_i r0' r1' r2' r3' r0 r1 r2 r3 k1 k2
  clear hk k1
  rw [k2] at h
  simp only [hd, Bool.true_and] at h
  have hlt : x.op.toNat < (formsTab.map fun r => r.map (AV.int .i64)).length := by rw [List.length_map]; show x.op.toNat < 43; omega
  have w1 : w64 1 = 1 := by decide
  have w2 : w64 2 = 2 := by decide
  have w3 : w64 3 = 3 := by decide
  have w4 : w64 4 = 4 := by decide
  obtain ⟨a5, i5, c5, B5, rfl, hb5, hz5, hr5⟩ := g3.some_ hlt
  have hr5 := fun l => hr5 l x.op.toNat hlt
  have e5 : (formsTab.map fun r => r.map (AV.int .i64))[x.op.toNat] = [.int .i64 r0, .int .i64 r1, .int .i64 r2, .int .i64 r3] := by
    apply Option.some.inj
    rw [← List.getElem?_eq_getElem hlt, List.getElem?_map, k2]; rfl
  rw [e5] at hr5
  have hl43 : ((formsTab.map fun r => r.map (AV.int .i64)).length : Int) = 43 := by rw [List.length_map]; rfl
  have u0 : 0 ≤ x.op := by omega
  have u1 : x.op < 43 := by omega
  clear hlt k2 e5 g3
  rw [List.length_map, show formsTab.length = 43 from rfl] at *
  refine goh_ ?_
  refine s_fields ?_
  refine goh_ ?_
  refine loop_n (KN0 := fun _ _ => True) 5 ?_
  rw [rounds_s]
  refine goh_ ?_
  refine draw_ [(0, .read), (1, .read), (2, .read), (3, .pure), (4, .read), (5, .pure), (6, .pure), (7, .pure), (8, .read), (9, .pure), (10, .step []), (11, .pure)] (by kernel_rfl) ?_
  refine goh_ ?_
  refine s_fieldOk hp e1 e2 e3 e4 ?_
  refine goh_ ?_
  refine ⟨fun q => by simp at q; simpa [q] using h, fun p0 => ?_⟩
  rw [rounds_s]
  refine goh_ ?_
  refine draw_ [(0, .read), (1, .read), (2, .read), (3, .pure), (4, .read), (5, .pure), (6, .pure), (7, .pure), (8, .read), (9, .pure), (10, .step []), (11, .pure)] (by kernel_rfl) ?_
  refine goh_ ?_
  refine s_fieldOk hp e1 e2 e3 e4 ?_
  refine goh_ ?_
  refine ⟨fun q => by simp at q; simpa [q] using h, fun p1 => ?_⟩
  rw [rounds_s]
  refine goh_ ?_
  refine draw_ [(0, .read), (1, .read), (2, .read), (3, .pure), (4, .read), (5, .pure), (6, .pure), (7, .pure), (8, .read), (9, .pure), (10, .step []), (11, .pure)] (by kernel_rfl) ?_
  refine goh_ ?_
  refine s_fieldOk hp e1 e2 e3 e4 ?_
  refine goh_ ?_
  refine ⟨fun q => by simp at q; simpa [q] using h, fun p2 => ?_⟩
  rw [rounds_s]
  refine goh_ ?_
  refine draw_ [(0, .read), (1, .read), (2, .read), (3, .pure), (4, .read), (5, .pure), (6, .pure), (7, .pure), (8, .read), (9, .pure), (10, .step []), (11, .pure)] (by kernel_rfl) ?_
  refine goh_ ?_
  refine s_fieldOk hp e1 e2 e3 e4 ?_
  refine goh_ ?_
  refine ⟨fun q => by simp at q; simpa [q] using h, fun p3 => ?_⟩
  rw [rounds_s]
  refine goh_ ?_
  simp only [Bool.not_eq_false'] at p0 p1 p2 p3
  simp only [p0, p1, p2, p3, Bool.and_self] at h
  exact h
end Go.Proofs.YtdonkjepjobhnaaDoor.IM
namespace Go.Proofs.YtdonkjepjobhnaaDoor.IM
open Go Go.Proofs.IM Go.Proofs.Flt
set_option maxHeartbeats 16000000
set_option maxRecDepth 100000
theorem s_implCheckShape {s : AV} {ps : List Pr} {m : Mem} {K : AR → Mem → Prop} (hF : FormsR 0 m) (hp : PsR m s ps) (hl : ps.length < 2 ^ 63) (hL : ∀ p ∈ ps, p.ok)
    (h : ∀ m', m.le m' → K (.ret (shapeF ps).av) m') :
    Sim Tryd.prog 24 [.agg [s]] m K := by
  refine entry (cxok []) Tryd.func24 rfl rfl (by decide) (by decide) ?_
  obtain ⟨a1, a2, a3, a4⟩ := hp.facts
  have hlen := hp.len'
  have hsh : (partsF ps).1 ≠ 0 → shapeF ps = partsF ps := fun q => by simp only [shapeF, if_pos q]
  refine goh_ ?_
  refine loop_ (fun k t l c m' => m' = m ∧ ∃ (i : Nat) (a : Int), Two t l c s ∧ t 3 = .int .i64 a ∧ t 29 = s ∧ t 30 = .int .i64 ps.length ∧ t 31 = .int .i64 i ∧ i ≤ ps.length ∧ k = ps.length - i ∧ totL (ps.drop i) a = totL ps 0) ps.length ?_ ?_
  · exact ⟨rfl, 0, 0, ⟨rfl, rfl, rfl, rfl, by omega⟩, rfl, rfl, rfl, rfl, by omega, by omega, by simp⟩
  intro k t l c m1 KN ⟨hm, i, a, ⟨h1, h2, hl0, hl1, hc⟩, h3, h18, h19, h20, hi, hk, htot⟩ next
  subst m1
  obtain ⟨q0, q0'⟩ := far_of (a := 0) (c := c) (by omega)
  obtain ⟨q1, q1'⟩ := far_of (a := 1) (c := c) (by omega)
  refine goh_ ?_
  refine ⟨fun hd => ?_, fun hd => ?_⟩
  · have hj : i < ps.length := by omega
    obtain ⟨a, i0, c', B, s1, s2, s3, s4, rfl, hb, hz, hr, e1, e2, e3, e4⟩ := hp.at_ hj
    obtain ⟨b1, b2, b3, b4⟩ := e1.facts
    obtain ⟨c1, c2, c3, c4⟩ := e2.facts
    obtain ⟨d1, d2, d3, d4⟩ := e3.facts
    obtain ⟨f1, f2, f3, f4⟩ := e4.facts
    have hw := w64_succ hj hl
    have l3 := e3.len'
    rw [List.length_map] at l3
    rw [totL_at hj] at htot
    refine goh_ ?_
    exact next _ _ _ _ _ (by omega) ⟨rfl, i + 1, _, ⟨h1, h2, by simp only [upd_far, q0, q0', hl0], by simp only [upd_far, q1, q1', hl1], by omega⟩, rfl, h18, h19, rfl, by omega, rfl, htot⟩
  have hin : i = ps.length := by omega
  rw [hin, List.drop_length] at htot
  simp only [totL] at htot
  subst htot
  clear next
  have fa : (ps.length = 0 ∨ 200 < ps.length ∨ 6000 < totL ps 0) → (partsF ps) = (1, 0, 0) := by intro q; simp only [partsF, if_pos q]
  have fb : (ps.length = 0 ∨ 200 < ps.length ∨ 6000 < totL ps 0) → K (.ret (.agg [.int .i64 1, .int .i64 0, .int .i64 0])) m := by
    intro q
    have h := h _ (Mem.le.refl _)
    rw [hsh (by rw [fa q]; decide), fa q] at h
    exact h
  by_cases g1 : ps.length = 0
  · have h := fb (.inl g1)
    have e0 : ((ps.length : Int) == 0) = true := by rw [beq_iff_eq]; omega
    exact gox_
  by_cases g2 : 200 < ps.length
  · have h := fb (.inr (.inl g2))
    have g2' : (200 : Int) < ps.length := by omega
    have e0 : ((ps.length : Int) == 0) = false := by rw [beq_eq_false_iff_ne]; omega
    exact gox_
  by_cases g3 : 6000 < totL ps 0
  · have h := fb (.inr (.inr g3))
    have g2' : ((200 : Int) < ps.length) = False := by rw [eq_iff_iff, iff_false]; omega
    have e0 : ((ps.length : Int) == 0) = false := by rw [beq_eq_false_iff_ne]; omega
    exact gox_
  have g2' : ((200 : Int) < ps.length) = False := by rw [eq_iff_iff, iff_false]; omega
  have g3' : ((6000 : Int) < totL ps 0) = False := by rw [eq_iff_iff, iff_false]; omega
  have e0 : ((ps.length : Int) == 0) = false := by rw [beq_eq_false_iff_ne]; omega
  have hP : partsF ps = parts2 ps := by
    unfold partsF
    rw [if_neg]
    rintro (q | q | q)
    · exact g1 q
    · exact g2 q
    · exact g3 q
  refine goh_ ?_
  clear e0 g2' g3' fa fb h18 h19 h20 h3 hd hk hi
  -- what a fault among the first five means
  have flt : ∀ f : F3, f.1 ≠ 0 → f = partsF ps → K (.ret (.agg [.int .i64 f.1, .int .i64 f.2.1, .int .i64 f.2.2])) m := by
    intro f hf e
    have h := h _ (Mem.le.refl _)
    rw [hsh (by rw [← e]; exact hf), ← e] at h
    exact h
  refine loop_ (fun k t l c m' => m' = m ∧ ∃ (i : Nat), Two t l c s ∧ t 57 = s ∧ t 58 = .int .i64 ps.length ∧ t 59 = .int .i64 i ∧ i ≤ ps.length ∧ k = ps.length - i ∧ (∀ j (q : j < ps.length), j < i → hok ps[j] (j == 0) = true) ∧ orF (scan (headF ps) (ps.length - i) i) (parts3 ps) = partsF ps) ps.length ?_ ?_
  · exact ⟨rfl, 0, ⟨h1, h2, by simp only [upd_far, q0, q0', hl0], by simp only [upd_far, q1, q1', hl1], by omega⟩, rfl, rfl, rfl, by omega, by omega, fun j _ q => by omega, by rw [hP]; rfl⟩
  clear h1 h2 hl0 hl1 hc q0 q0' q1 q1' hin
  intro k t l c m1 KN ⟨hm, i, ⟨h1, h2, hl0, hl1, hc⟩, h46, h47, h48, hi, hk, hH, hS⟩ next
  subst m1
  obtain ⟨q0, q0'⟩ := far_of (a := 0) (c := c) (by omega)
  obtain ⟨q1, q1'⟩ := far_of (a := 1) (c := c) (by omega)
  refine goh_ ?_
  refine ⟨fun hd => ?_, fun hd => ?_⟩
  · have hj : i < ps.length := by omega
    obtain ⟨a, i0, c', B, s1, s2, s3, s4, rfl, hb, hz, hr, e1, e2, e3, e4⟩ := hp.at_ hj
    obtain ⟨b1, b2, b3, b4⟩ := e1.facts
    obtain ⟨c1, c2, c3, c4⟩ := e2.facts
    obtain ⟨d1, d2, d3, d4⟩ := e3.facts
    obtain ⟨f1, f2, f3, f4⟩ := e4.facts
    have hw := w64_succ hj hl
    have ei : ((i : Int) == 0) = (i == 0) := by rw [Bool.eq_iff_iff]; simp
    rw [orF_at hj, headF_eq hj] at hS
    refine goh_ ?_
    refine s_headOk e1 e2 e3 e4 ?_
    cases hh : hok ps[i] (i == 0) with
    | true =>
      rw [hh] at hS
      refine goh_ ?_
      refine next _ _ _ _ _ (by omega) ⟨rfl, i + 1, ⟨h1, h2, by simp only [upd_far, q0, q0', hl0], by simp only [upd_far, q1, q1', hl1], by omega⟩, h46, h47, rfl, by omega, rfl, fun j q q' => ?_, hS⟩
      by_cases e : j = i
      · subst e; exact hh
      · exact hH j q (by omega)
    | false =>
      rw [hh] at hS
      simp only [orF, Bool.false_eq_true, ↓reduceIte] at hS
      have h := flt _ (by simp) hS
      exact gox_
  rw [show i = ps.length by omega, orF_end] at hS
  have hH : ∀ j (q : j < ps.length), hok ps[j] (j == 0) = true := fun j q => hH j q (by omega)
  clear next h46 h47 h48 hd hk hi
  refine loop_ (fun k t l c m' => m' = m ∧ ∃ (i : Nat), Two t l c s ∧ t 73 = s ∧ t 74 = .int .i64 ps.length ∧ t 75 = .int .i64 i ∧ i ≤ ps.length ∧ k = ps.length - i ∧ orF (scan (constF ps) (ps.length - i) i) (parts4 ps) = partsF ps) ps.length ?_ ?_
  · exact ⟨rfl, 0, ⟨h1, h2, by simp only [upd_far, q0, q0', hl0], by simp only [upd_far, q1, q1', hl1], by omega⟩, rfl, rfl, rfl, by omega, by omega, by rw [← hS]; rfl⟩
  clear h1 h2 hl0 hl1 hc q0 q0' q1 q1' hS hP g1 g2 g3
  intro k t l c m1 KN ⟨hm, i, ⟨h1, h2, hl0, hl1, hc⟩, h59, h60, h61, hi, hk, hS⟩ next
  subst m1
  obtain ⟨q0, q0'⟩ := far_of (a := 0) (c := c) (by omega)
  obtain ⟨q1, q1'⟩ := far_of (a := 1) (c := c) (by omega)
  refine goh_ ?_
  refine ⟨fun hd => ?_, fun hd => ?_⟩
  · have hj : i < ps.length := by omega
    obtain ⟨a, i0, c', B, s1, s2, s3, s4, rfl, hb, hz, hr, e1, e2, e3, e4⟩ := hp.at_ hj
    obtain ⟨b1, b2, b3, b4⟩ := e1.facts
    obtain ⟨c1, c2, c3, c4⟩ := e2.facts
    obtain ⟨d1, d2, d3, d4⟩ := e3.facts
    obtain ⟨f1, f2, f3, f4⟩ := e4.facts
    have hw := w64_succ hj hl
    have l2 := e2.len'
    rw [List.length_map] at l2
    have hl2 := (hL ps[i] (by simp)).2.1
    rw [orF_at hj, constF_eq hj] at hS
    refine goh_ ?_
    refine loop_ (fun k t l c m' => m' = m ∧ ∃ (j : Nat), Two t l c (.sl a i0 ps.length c') ∧ t 73 = .sl a i0 ps.length c' ∧ t 74 = .int .i64 ps.length ∧ t 75 = .int .i64 i ∧ t 8 = .int .i64 i ∧ t 81 = s2 ∧ t 82 = .int .i64 ps[i].consts.length ∧ t 83 = .int .i64 j ∧ j ≤ ps[i].consts.length ∧ k = ps[i].consts.length - j ∧ orF (scan (constF1 ps[i] i) (ps[i].consts.length - j) j) (orF (scan (constF ps) (ps.length - (i + 1)) (i + 1)) (parts4 ps)) = partsF ps) ps[i].consts.length ?_ ?_
    · exact ⟨rfl, 0, ⟨h1, h2, by simp only [upd_far, q0, q0', hl0], by simp only [upd_far, q1, q1', hl1], by omega⟩, h59, h60, h61, rfl, rfl, rfl, rfl, by omega, by omega, hS⟩
    clear h1 h2 hl0 hl1 hc q0 q0' q1 q1' hS h59 h60 h61
    intro k t l c m1 KN2 ⟨hm, j, ⟨h1, h2, hl0, hl1, hc⟩, h59, h60, h61, h7, h67, h68, h69, hj', hk', hS⟩ next2
    subst m1
    obtain ⟨q0, q0'⟩ := far_of (a := 0) (c := c) (by omega)
    obtain ⟨q1, q1'⟩ := far_of (a := 1) (c := c) (by omega)
    refine goh_ ?_
    refine ⟨fun hd2 => ?_, fun hd2 => ?_⟩
    · have hjc : j < ps[i].consts.length := by omega
      obtain ⟨a5, i5, c5, B5, rfl, hb5, hz5, hr5⟩ := e2.some_ (j := j) (by simpa using hjc)
      have hr5 := fun l => hr5 l j (by simpa using hjc)
      simp only [List.getElem_map] at hr5
      have hw5 := w64_succ hjc hl2
      rw [orF_at hjc, constF1_eq hjc] at hS
      refine goh_ ?_
      refine s_constOk ?_
      rw [show (⟨ps[i].consts[j].k, ps[i].consts[j].n, ps[i].consts[j].f, ps[i].consts[j].s, ps[i].consts[j].r⟩ : V) = ps[i].consts[j] from rfl]
      cases hh : cok ps[i].consts[j] with
      | true =>
        rw [hh] at hS
        refine goh_ ?_
        exact next2 _ _ _ _ _ (by omega) ⟨rfl, j + 1, ⟨h1, h2, by simp only [upd_far, q0, q0', hl0], by simp only [upd_far, q1, q1', hl1], by omega⟩, h59, h60, h61, h7, h67, h68, rfl, by omega, rfl, hS⟩
      | false =>
        rw [hh] at hS
        simp only [orF, Bool.false_eq_true, ↓reduceIte] at hS
        have h := flt _ (by simp) hS
        exact gox_
    · rw [show j = ps[i].consts.length by omega, orF_end] at hS
      exact next _ _ _ _ _ (by omega) ⟨rfl, i + 1, ⟨h1, h2, hl0, hl1, by omega⟩, h59, h60, rfl, by omega, rfl, hS⟩
  rw [show i = ps.length by omega, orF_end] at hS
  clear next h59 h60 h61 hd hk hi
  refine loop_ (fun k t l c m' => m' = m ∧ ∃ (i : Nat), Two t l c s ∧ t 97 = s ∧ t 98 = .int .i64 ps.length ∧ t 99 = .int .i64 i ∧ i ≤ ps.length ∧ k = ps.length - i ∧ orF (scan (namedF ps) (ps.length - i) i) (parts5 ps) = partsF ps) ps.length ?_ ?_
  · exact ⟨rfl, 0, ⟨h1, h2, by simp only [upd_far, q0, q0', hl0], by simp only [upd_far, q1, q1', hl1], by omega⟩, rfl, rfl, rfl, by omega, by omega, by rw [← hS]; rfl⟩
  clear h1 h2 hl0 hl1 hc q0 q0' q1 q1' hS
  intro k t l c m1 KN ⟨hm, i, ⟨h1, h2, hl0, hl1, hc⟩, h59, h60, h61, hi, hk, hS⟩ next
  subst m1
  obtain ⟨q0, q0'⟩ := far_of (a := 0) (c := c) (by omega)
  obtain ⟨q1, q1'⟩ := far_of (a := 1) (c := c) (by omega)
  refine goh_ ?_
  refine ⟨fun hd => ?_, fun hd => ?_⟩
  · have hj : i < ps.length := by omega
    obtain ⟨a, i0, c', B, s1, s2, s3, s4, rfl, hb, hz, hr, e1, e2, e3, e4⟩ := hp.at_ hj
    obtain ⟨b1, b2, b3, b4⟩ := e1.facts
    obtain ⟨c1, c2, c3, c4⟩ := e2.facts
    obtain ⟨d1, d2, d3, d4⟩ := e3.facts
    obtain ⟨f1, f2, f3, f4⟩ := e4.facts
    have hw := w64_succ hj hl
    have l4 := e4.len'
    rw [List.length_map] at l4
    have hl4 := (hL ps[i] (by simp)).2.2.2
    rw [orF_at hj, namedF_eq hj] at hS
    refine goh_ ?_
    refine loop_ (fun k t l c2 m' => m' = m ∧ ∃ (j : Nat), Two t l c2 (.sl a i0 ps.length c') ∧ (t 13 = .ptr (.lc (c + 4)) 0 0 ∧ l (c + 4) = some ⟨[[.str ps[i].s, .int .i64 ps[i].line, .int .i64 ps[i].params, .bool ps[i].rest, .int .i64 ps[i].regs, s1, s2, s3, s4]], 9⟩ ∧ c + 4 < c2) ∧ t 97 = .sl a i0 ps.length c' ∧ t 98 = .int .i64 ps.length ∧ t 99 = .int .i64 i ∧ t 12 = .int .i64 i ∧ t 105 = s4 ∧ t 106 = .int .i64 ps[i].named.length ∧ t 107 = .int .i64 j ∧ j ≤ ps[i].named.length ∧ j ≤ 500 ∧ k = ps[i].named.length - j ∧ orF (scan (namedF1 ps[i] i) (ps[i].named.length - j) j) (orF (scan (namedF ps) (ps.length - (i + 1)) (i + 1)) (parts5 ps)) = partsF ps) ps[i].named.length ?_ ?_
    · exact ⟨rfl, 0, ⟨h1, h2, by simp only [upd_far, q0, q0', hl0], by simp only [upd_far, q1, q1', hl1], by omega⟩, ⟨rfl, by simp only [upd_same], by omega⟩, h59, h60, h61, rfl, rfl, rfl, rfl, by omega, by omega, by omega, hS⟩
    clear hS h59 h60 h61 h1 h2 hl0 hl1 q0 q0' q1 q1'
    intro k t l c2 m1 KN2 ⟨hm, j, ⟨h1, h2, hl0, hl1, hc2⟩, ⟨h12, hl12, hc12⟩, h59, h60, h61, h7, h67, h68, h69, hj', hj5, hk', hS⟩ next2
    subst m1
    obtain ⟨q0, q0'⟩ := far_of (a := 0) (c := c2) (by omega)
    obtain ⟨q1, q1'⟩ := far_of (a := 1) (c := c2) (by omega)
    obtain ⟨q2, q2'⟩ := far_of (a := c + 4) (c := c2) (by omega)
    refine goh_ ?_
    refine ⟨fun hd2 => ?_, fun hd2 => ?_⟩
    · have hjc : j < ps[i].named.length := by omega
      obtain ⟨a5, i5, c5, B5, rfl, hb5, hz5, hr5⟩ := e4.some_ (j := j) (by simpa using hjc)
      have hr5 := fun l => hr5 l j (by simpa using hjc)
      simp only [List.getElem_map] at hr5
      have hw5 := w64_succ hjc hl4
      rw [orF_at hjc, namedF1_eq hjc] at hS
      by_cases h5 : j = 500
      · have e5 : ((j : Int) == 500) = true := by rw [beq_iff_eq]; omega
        have e6 : decide ((j : Int) < 500) = false := by simp; omega
        rw [e6] at hS
        simp only [Bool.false_and, orF, Bool.false_eq_true, ↓reduceIte] at hS
        have h := flt _ (by simp) hS
        clear h5
        exact gox_
      have e5 : ((j : Int) == 500) = false := by rw [beq_eq_false_iff_ne]; omega
      have e6 : decide ((j : Int) < 500) = true := by simp; omega
      rw [e6, Bool.true_and] at hS
      simp only [List.length_map] at e4
      obtain ⟨x1, x2, x3, x4⟩ := e4.facts
      have hj6 : j + 1 ≤ 500 := by omega
      clear h5
      refine goh_ ?_
      refine s_namedOk e1 e2 e3 e4 ?_
      rw [show (⟨ps[i].named[j].s, ps[i].named[j].reg, ps[i].named[j].lo, ps[i].named[j].hi⟩ : Nm) = ps[i].named[j] from rfl]
      cases hh : nok ps[i] ps[i].named[j] with
      | true =>
        rw [hh] at hS
        refine goh_ ?_
        exact next2 _ _ _ _ _ (by omega) ⟨rfl, j + 1, ⟨h1, h2, by simp only [upd_far, q0, q0', hl0], by simp only [upd_far, q1, q1', hl1], by omega⟩, ⟨h12, by simp only [upd_far, q2, q2', hl12], by omega⟩, h59, h60, h61, h7, h67, h68, rfl, by omega, by omega, rfl, hS⟩
      | false =>
        rw [hh] at hS
        simp only [orF, Bool.false_eq_true, ↓reduceIte] at hS
        have h := flt _ (by simp) hS
        exact gox_
    · rw [show j = ps[i].named.length by omega, orF_end] at hS
      exact next _ _ _ _ _ (by omega) ⟨rfl, i + 1, ⟨h1, h2, hl0, hl1, by omega⟩, h59, h60, rfl, by omega, rfl, hS⟩
  rw [show i = ps.length by omega, orF_end] at hS
  clear next h59 h60 h61 hd hk hi
  refine loop_ (fun k t l c m' => m' = m ∧ ∃ (i : Nat), Two t l c s ∧ t 126 = s ∧ t 127 = .int .i64 ps.length ∧ t 128 = .int .i64 i ∧ i ≤ ps.length ∧ k = ps.length - i ∧ orF (scan (insF ps) (ps.length - i) i) (0, 0, 0) = partsF ps) ps.length ?_ ?_
  · exact ⟨rfl, 0, ⟨h1, h2, by simp only [upd_far, q0, q0', hl0], by simp only [upd_far, q1, q1', hl1], by omega⟩, rfl, rfl, rfl, by omega, by omega, by rw [← hS]; rfl⟩
  clear h1 h2 hl0 hl1 hc q0 q0' q1 q1' hS
  intro k t l c m1 KN ⟨hm, i, ⟨h1, h2, hl0, hl1, hc⟩, h59, h60, h61, hi, hk, hS⟩ next
  subst m1
  obtain ⟨q0, q0'⟩ := far_of (a := 0) (c := c) (by omega)
  obtain ⟨q1, q1'⟩ := far_of (a := 1) (c := c) (by omega)
  refine goh_ ?_
  refine ⟨fun hd => ?_, fun hd => ?_⟩
  · have hj : i < ps.length := by omega
    obtain ⟨a, i0, c', B, s1, s2, s3, s4, rfl, hb, hz, hr, e1, e2, e3, e4⟩ := hp.at_ hj
    obtain ⟨b1, b2, b3, b4⟩ := e1.facts
    obtain ⟨c1, c2, c3, c4⟩ := e2.facts
    obtain ⟨d1, d2, d3, d4⟩ := e3.facts
    obtain ⟨f1, f2, f3, f4⟩ := e4.facts
    have hw := w64_succ hj hl
    have l4 := e3.len'
    rw [List.length_map] at l4
    have hl4 := (hL ps[i] (by simp)).2.2.1
    rw [orF_at hj, insF_eq hj] at hS
    by_cases hz0 : ps[i].ins.length = 0
    · rw [if_pos hz0] at hS
      simp only [orF] at hS
      have h := flt _ (by simp) hS
      have e0 : ((ps[i].ins.length : Int) == 0) = true := by rw [beq_iff_eq]; omega
      exact gox_
    rw [if_neg hz0] at hS
    have e0 : ((ps[i].ins.length : Int) == 0) = false := by rw [beq_eq_false_iff_ne]; omega
    have hreg := hH i hj
    simp only [hok, inR, Bool.and_eq_true, decide_eq_true_eq] at hreg
    have hr0 : 0 ≤ ps[i].regs := hreg.1.1.1.1.2.1
    have hr1 : ps[i].regs ≤ 250 := hreg.1.1.1.1.2.2
    clear hreg
    refine goh_ ?_
    refine loop_ (fun k t l c2 m' => m' = m ∧ ∃ (j : Nat), Two t l c2 (.sl a i0 ps.length c') ∧ (t 17 = .ptr (.lc (c + 4)) 0 0 ∧ l (c + 4) = some ⟨[[.str ps[i].s, .int .i64 ps[i].line, .int .i64 ps[i].params, .bool ps[i].rest, .int .i64 ps[i].regs, s1, s2, s3, s4]], 9⟩ ∧ c + 4 < c2) ∧ t 126 = .sl a i0 ps.length c' ∧ t 127 = .int .i64 ps.length ∧ t 128 = .int .i64 i ∧ t 16 = .int .i64 i ∧ t 140 = s3 ∧ t 141 = .int .i64 ps[i].ins.length ∧ t 142 = .int .i64 j ∧ j ≤ ps[i].ins.length ∧ k = ps[i].ins.length - j ∧ orF (scan (insF1 ps.length ps[i] i) (ps[i].ins.length - j) j) (orF (scan (insF ps) (ps.length - (i + 1)) (i + 1)) (0, 0, 0)) = partsF ps) ps[i].ins.length ?_ ?_
    · exact ⟨rfl, 0, ⟨h1, h2, by simp only [upd_far, q0, q0', hl0], by simp only [upd_far, q1, q1', hl1], by omega⟩, ⟨rfl, by simp only [upd_same], by omega⟩, h59, h60, h61, rfl, rfl, rfl, rfl, by omega, by omega, hS⟩
    clear hS h59 h60 h61 h1 h2 hl0 hl1 q0 q0' q1 q1'
    intro k t l c2 m1 KN2 ⟨hm, j, ⟨h1, h2, hl0, hl1, hc2⟩, ⟨h12, hl12, hc12⟩, h59, h60, h61, h7, h67, h68, h69, hj', hk', hS⟩ next2
    subst m1
    obtain ⟨q0, q0'⟩ := far_of (a := 0) (c := c2) (by omega)
    obtain ⟨q1, q1'⟩ := far_of (a := 1) (c := c2) (by omega)
    obtain ⟨q2, q2'⟩ := far_of (a := c + 4) (c := c2) (by omega)
    refine goh_ ?_
    refine ⟨fun hd2 => ?_, fun hd2 => ?_⟩
    · have hjc : j < ps[i].ins.length := by omega
      obtain ⟨a5, i5, c5, B5, rfl, hb5, hz5, hr5⟩ := e3.some_ (j := j) (by simpa using hjc)
      have hr5 := fun l => hr5 l j (by simpa using hjc)
      simp only [List.getElem_map] at hr5
      have hw5 := w64_succ hjc hl4
      rw [orF_at hjc, insF1_eq hjc, ins_eq hr0 hr1] at hS
      simp only [List.length_map] at e3
      obtain ⟨x1, x2, x3, x4⟩ := e3.facts
      refine goh_ ?_
      refine s_insOk (x := ps[i].ins[j]) hF hp e1 e2 e3 e4 ?_
      have el : ((j : Int) == w64 ((ps[i].ins.length : Int) - 1)) = (j + 1 == ps[i].ins.length) := by
        rw [w64_id (by omega), Bool.eq_iff_iff]; simp; omega
      cases hh : insI ps.length ps[i] ps[i].ins[j] with
      | false =>
        rw [hh] at hS
        simp only [orF, Bool.false_and, Bool.false_eq_true, ↓reduceIte] at hS
        have h := flt _ (by simp) hS
        exact gox_
      | true =>
        rw [hh, Bool.true_and] at hS
        cases hlast : (j + 1 == ps[i].ins.length) with
        | false =>
          rw [hlast] at hS el
          simp only [Bool.not_false, Bool.true_or, ↓reduceIte] at hS
          refine goh_ ?_
          exact next2 _ _ _ _ _ (by omega) ⟨rfl, j + 1, ⟨h1, h2, by simp only [upd_far, q0, q0', hl0], by simp only [upd_far, q1, q1', hl1], by omega⟩, ⟨h12, by simp only [upd_far, q2, q2', hl12], by omega⟩, h59, h60, h61, h7, h67, h68, rfl, by omega, rfl, hS⟩
        | true =>
          rw [hlast] at hS el
          simp only [Bool.not_true, Bool.false_or] at hS
          refine goh_ ?_
          refine s_ends ?_
          cases hends : endsOp ps[i].ins[j].op with
          | true =>
            rw [hends] at hS
            refine goh_ ?_
            exact next2 _ _ _ _ _ (by omega) ⟨rfl, j + 1, ⟨h1, h2, by simp only [upd_far, q0, q0', hl0], by simp only [upd_far, q1, q1', hl1], by omega⟩, ⟨h12, by simp only [upd_far, q2, q2', hl12], by omega⟩, h59, h60, h61, h7, h67, h68, rfl, by omega, rfl, hS⟩
          | false =>
            rw [hends] at hS
            simp only [orF, Bool.false_eq_true, ↓reduceIte] at hS
            have h := flt _ (by simp) hS
            exact gox_
    · rw [show j = ps[i].ins.length by omega, orF_end] at hS
      exact next _ _ _ _ _ (by omega) ⟨rfl, i + 1, ⟨h1, h2, hl0, hl1, by omega⟩, h59, h60, rfl, by omega, rfl, hS⟩
  rw [show i = ps.length by omega, orF_end] at hS
  obtain ⟨hP, hE⟩ := shape_parts (ps := ps) (by rw [← hS])
  simp only [shapeF, hE] at h
  simp only [ne_eq, not_true, if_false] at h
  have n1 := hP.n1
  clear next h59 h60 h61 hd hk hi flt hS
  refine ⟨by omega, ?_⟩
  have hlenp := (hp.mono (Mem.le.push m ⟨List.replicate ps.length [.bool false], 1⟩)).len'
  refine goh_ ?_
  have hrep : List.replicate ps.length [AV.bool false] = (List.replicate ps.length false).map bo := by rw [List.map_replicate]; rfl
  refine loop_ (fun k t l c m1 => ∃ (i : Nat) (made : List Bool), made.length = ps.length ∧ m1 = m.push ⟨made.map bo, 1⟩ ∧ Two t l c s ∧ t 20 = .sl (.hp m.hp.length) 0 ps.length ps.length ∧ t 176 = s ∧ t 177 = .int .i64 ps.length ∧ t 178 = .int .i64 i ∧ i ≤ ps.length ∧ k = ps.length - i ∧ all6 ps (ps.drop i) i made = all6 ps ps 0 (List.replicate ps.length false)) ps.length ?_ ?_
  · exact ⟨0, List.replicate ps.length false, by simp, by rw [← hrep], ⟨h1, h2, by simp only [upd_far, q0, q0', hl0], by simp only [upd_far, q1, q1', hl1], by omega⟩, rfl, rfl, rfl, rfl, by omega, by omega, rfl⟩
  clear hrep hlenp h1 h2 hl0 hl1 hc q0 q0' q1 q1'
  intro k t l c m1 KN ⟨i, made, hml, hm1, ⟨h1, h2, hl0, hl1, hc⟩, h4, h21, h22, h23, hi, hk, hS⟩ next
  subst m1
  have hp1 := hp.mono (Mem.le.push m ⟨made.map bo, 1⟩)
  have hlen1 := hp1.len'
  obtain ⟨q0, q0'⟩ := far_of (a := 0) (c := c) (by omega)
  obtain ⟨q1, q1'⟩ := far_of (a := 1) (c := c) (by omega)
  refine goh_ ?_
  refine ⟨fun hd => ?_, fun hd => ?_⟩
  · have hj : i < ps.length := by omega
    obtain ⟨a, i0, c', B, s1, s2, s3, s4, rfl, hb, hz, hr, e1, e2, e3, e4⟩ := hp.at_ hj
    obtain ⟨b1, b2, b3, b4⟩ := e1.facts
    obtain ⟨c1, c2, c3, c4⟩ := e2.facts
    obtain ⟨d1, d2, d3, d4⟩ := e3.facts
    obtain ⟨f1, f2, f3, f4⟩ := e4.facts
    have hw := w64_succ hj hl
    have hb1 := fun l => blk?_mono (Mem.le.push m ⟨made.map bo, 1⟩) (hb l)
    have hr1 := fun l => row?_mono (Mem.le.push m ⟨made.map bo, 1⟩) (hr l)
    have l3 := (e3.mono (Mem.le.push m ⟨made.map bo, 1⟩)).len'
    rw [List.length_map] at l3
    have hl3 := (hL ps[i] (by simp)).2.2.1
    rw [all6_at hj] at hS
    refine goh_ ?_
    refine loop_ (fun k t l c2 m1 => ∃ (j : Nat) (made : List Bool), made.length = ps.length ∧ m1 = m.push ⟨made.map bo, 1⟩ ∧ Two t l c2 (.sl a i0 ps.length c') ∧ (t 22 = .ptr (.lc (c + 4)) 0 0 ∧ l (c + 4) = some ⟨[[.str ps[i].s, .int .i64 ps[i].line, .int .i64 ps[i].params, .bool ps[i].rest, .int .i64 ps[i].regs, s1, s2, s3, s4]], 9⟩ ∧ c + 4 < c2) ∧ t 20 = .sl (.hp m.hp.length) 0 ps.length ps.length ∧ t 176 = .sl a i0 ps.length c' ∧ t 177 = .int .i64 ps.length ∧ t 178 = .int .i64 i ∧ t 21 = .int .i64 i ∧ t 184 = s3 ∧ t 185 = .int .i64 ps[i].ins.length ∧ t 186 = .int .i64 j ∧ j ≤ ps[i].ins.length ∧ k = ps[i].ins.length - j ∧ cont6 ps (ps.drop (i + 1)) i (ins6 ps i (ps[i].ins.drop j) j made) = all6 ps ps 0 (List.replicate ps.length false)) ps[i].ins.length ?_ ?_
    · exact ⟨0, made, hml, rfl, ⟨h1, h2, by simp only [upd_far, q0, q0', hl0], by simp only [upd_far, q1, q1', hl1], by omega⟩, ⟨rfl, by simp only [upd_same], by omega⟩, h4, h21, h22, h23, rfl, rfl, rfl, rfl, by omega, by omega, hS⟩
    clear hS h4 h21 h22 h23 h1 h2 hl0 hl1 q0 q0' q1 q1' hb1 hr1 l3 hlen1 hp1 hml made
    intro k t l c2 m1 KN2 ⟨j, made, hml, hm1, ⟨h1, h2, hl0, hl1, hc2⟩, ⟨h12, hl12, hc12⟩, h4, h21, h22, h23, h5, h29, h30, h31, hj', hk', hS⟩ next2
    subst m1
    have hp1 := hp.mono (Mem.le.push m ⟨made.map bo, 1⟩)
    have e3' := e3.mono (Mem.le.push m ⟨made.map bo, 1⟩)
    obtain ⟨q0, q0'⟩ := far_of (a := 0) (c := c2) (by omega)
    obtain ⟨q1, q1'⟩ := far_of (a := 1) (c := c2) (by omega)
    obtain ⟨q2, q2'⟩ := far_of (a := c + 4) (c := c2) (by omega)
    refine goh_ ?_
    refine ⟨fun hd2 => ?_, fun hd2 => ?_⟩
    · have hjc : j < ps[i].ins.length := by omega
      have hw5 := w64_succ hjc hl3
      obtain ⟨a5, i5, c5, B5, rfl, hb5, hz5, hr5⟩ := e3'.some_ (j := j) (by simpa using hjc)
      have hr5 := fun l => hr5 l j (by simpa using hjc)
      simp only [List.getElem_map] at hr5
      rw [ins6_at hjc] at hS
      by_cases hop : ps[i].ins[j].op = 11
      rotate_left
      · rw [if_pos hop] at hS
        have e : (ps[i].ins[j].op != 11) = true := by simpa using hop
        refine goh_ ?_
        exact next2 _ _ _ _ _ (by omega) ⟨j + 1, made, hml, rfl, ⟨h1, h2, by simp only [upd_far, q0, q0', hl0], by simp only [upd_far, q1, q1', hl1], by omega⟩, ⟨h12, by simp only [upd_far, q2, q2', hl12], by omega⟩, h4, h21, h22, h23, h5, h29, h30, rfl, by omega, rfl, hS⟩
      obtain ⟨r1, r2⟩ := hP.fn hj hjc hop
      rw [if_neg (by simpa using hop), bad6_eq hj (by omega)] at hS
      have e : (ps[i].ins[j].op != 11) = false := by simpa using hop
      have hbg := bo_get (made := made) (i := ps[i].ins[j].b.toNat) (by omega)
      have hbs := bo_set (made := made) (i := ps[i].ins[j].b.toNat)
      have flt : ∀ made : List Bool, .inl (6, (i : Int), (j : Int)) = all6 ps ps 0 (List.replicate ps.length false) → K (.ret (.agg [.int .i64 6, .int .i64 i, .int .i64 j])) (m.push ⟨made.map bo, 1⟩) := by
        intro made q
        have h := h _ (Mem.le.push m ⟨made.map bo, 1⟩)
        rw [← q] at h
        exact h
      by_cases c1 : ps[i].ins[j].b ≤ i
      · simp only [decide_eq_true c1, Bool.true_or, if_true, cont6] at hS
        have h := flt made hS
        exact gox_
      have c1' : decide (ps[i].ins[j].b ≤ (i : Int)) = false := by simpa using c1
      cases c2' : made.getD ps[i].ins[j].b.toNat true with
      | true =>
        simp only [c2', Bool.or_true, Bool.true_or, if_true, cont6] at hS
        have h := flt made hS
        rw [c2'] at hbg
        exact gox_
      | false =>
        rw [c2'] at hbg
        simp only [c1', c2', Bool.false_or] at hS
        have hpg := (hp.mono (Mem.le.push m ⟨(made.set ps[i].ins[j].b.toNat true).map bo, 1⟩)).at_ (i := ps[i].ins[j].b.toNat) (by omega)
        obtain ⟨a6, i6, c6, B6, z1, z2, z3, z4, e6, hb6, hz6, hr6, y1, -, -, -⟩ := hpg
        obtain ⟨e6a, e6b, e6c⟩ : a = a6 ∧ i0 = i6 ∧ c' = c6 := by cases e6; exact ⟨rfl, rfl, rfl⟩
        subst e6a e6b e6c
        have ly := y1.len'
        rw [List.length_map] at ly
        have hly := (hL ps[ps[i].ins[j].b.toNat] (by simp)).1
        have hb6' := fun l => blk?_mono (l := l) (Mem.le.push m ⟨(made.set ps[i].ins[j].b.toNat true).map bo, 1⟩) (hb l)
        have lu := (e1.mono (Mem.le.push m ⟨(made.set ps[i].ins[j].b.toNat true).map bo, 1⟩)).len'
        rw [List.length_map] at lu
        have hml' : (made.set ps[i].ins[j].b.toNat true).length = ps.length := by simp [hml]
        refine goh_ ?_
        generalize hmd : made.set ps[i].ins[j].b.toNat true = made' at *
        refine loop_ (fun k t l c3 m1 => m1 = m.push ⟨made'.map bo, 1⟩ ∧ ∃ (u : Nat), Two t l c3 (.sl a i0 ps.length c') ∧ (t 22 = .ptr (.lc (c + 4)) 0 0 ∧ l (c + 4) = some ⟨[[.str ps[i].s, .int .i64 ps[i].line, .int .i64 ps[i].params, .bool ps[i].rest, .int .i64 ps[i].regs, s1, s2, .sl a5 i5 (ps[i].ins.map I.av).length c5, s4]], 9⟩ ∧ c + 4 < c3) ∧ t 20 = .sl (.hp m.hp.length) 0 ps.length ps.length ∧ t 176 = .sl a i0 ps.length c' ∧ t 177 = .int .i64 ps.length ∧ t 178 = .int .i64 i ∧ t 21 = .int .i64 i ∧ t 23 = .int .i64 j ∧ t 184 = .sl a5 i5 (ps[i].ins.map I.av).length c5 ∧ t 185 = .int .i64 ps[i].ins.length ∧ t 186 = .int .i64 j ∧ t 218 = z1 ∧ t 219 = .int .i64 ps[ps[i].ins[j].b.toNat].ups.length ∧ t 220 = .int .i64 u ∧ u ≤ ps[ps[i].ins[j].b.toNat].ups.length ∧ k = ps[ps[i].ins[j].b.toNat].ups.length - u ∧ (ps[ps[i].ins[j].b.toNat].ups.take u).all (upOk ps[i]) = true) ps[ps[i].ins[j].b.toNat].ups.length ?_ ?_
        · exact ⟨rfl, 0, ⟨h1, h2, by simp only [upd_far, q0, q0', hl0], by simp only [upd_far, q1, q1', hl1], by omega⟩, ⟨h12, by simp only [upd_far, q2, q2', hl12], by omega⟩, h4, h21, h22, h23, h5, rfl, h29, h30, h31, rfl, rfl, rfl, by omega, by omega, by simp⟩
        clear hc12 hc2 h12 hl12 h4 h21 h22 h23 h5 h29 h30 h31 h1 h2 hl0 hl1 q0 q0' q1 q1' q2 q2'
        intro k t l c3 m1 KN3 ⟨hm1, u, ⟨h1, h2, hl0, hl1, hc3⟩, ⟨h12, hl12, hc12⟩, h4, h21, h22, h23, h5, h6, h29, h30, h31, h32, h33, h34, hu, hk3, hall⟩ next3
        subst m1
        obtain ⟨q0, q0'⟩ := far_of (a := 0) (c := c3) (by omega)
        obtain ⟨q1, q1'⟩ := far_of (a := 1) (c := c3) (by omega)
        obtain ⟨q2, q2'⟩ := far_of (a := c + 4) (c := c3) (by omega)
        refine goh_ ?_
        refine ⟨fun hd3 => ?_, fun hd3 => ?_⟩
        · have hju : u < ps[ps[i].ins[j].b.toNat].ups.length := by omega
          obtain ⟨a7, i7, c7, B7, rfl, hb7, hz7, hr7⟩ := y1.some_ (j := u) (by simpa using hju)
          have hr7 := fun l => hr7 l u (by simpa using hju)
          simp only [List.getElem_map] at hr7
          have hw7 := w64_succ hju hly
          have hall' : upOk ps[i] ps[ps[i].ins[j].b.toNat].ups[u] = true → (ps[ps[i].ins[j].b.toNat].ups.take (u + 1)).all (upOk ps[i]) = true := by
            intro hh
            rw [List.take_succ_eq_append_getElem hju, List.all_append, hall]; simp [hh]
          have hno : upOk ps[i] ps[ps[i].ins[j].b.toNat].ups[u] = false → K (.ret (.agg [.int .i64 6, .int .i64 i, .int .i64 j])) (m.push ⟨made'.map bo, 1⟩) := by
            intro hh
            refine flt made' ?_
            rw [← hS, if_pos]
            · rfl
            · rw [Bool.not_eq_true']
              simp only [upsOk, List.all_eq_false]
              exact ⟨_, List.getElem_mem hju, by simp [hh]⟩
          have go : ∀ (b : Bool) (t' : Nat → AV) (l' : IM.Loc) (c4 : Nat), upOk ps[i] ps[ps[i].ins[j].b.toNat].ups[u] = b → Two t' l' c4 (.sl a i0 ps.length c') → (t' 22 = .ptr (.lc (c + 4)) 0 0 ∧ l' (c + 4) = some ⟨[[.str ps[i].s, .int .i64 ps[i].line, .int .i64 ps[i].params, .bool ps[i].rest, .int .i64 ps[i].regs, s1, s2, .sl a5 i5 (ps[i].ins.map I.av).length c5, s4]], 9⟩ ∧ c + 4 < c4) → t' 20 = t 20 → t' 176 = t 176 → t' 177 = t 177 → t' 178 = t 178 → t' 21 = t 21 → t' 23 = t 23 → t' 184 = t 184 → t' 185 = t 185 → t' 186 = t 186 → t' 218 = t 218 → t' 219 = t 219 → t' 220 = .int .i64 ((u + 1 : Nat) : Int) → ((!b) = false → KN3 ⟨t', l', c4⟩ (m.push ⟨made'.map bo, 1⟩)) ∧ ((!b) = true → K (.ret (.agg [.int .i64 6, .int .i64 i, .int .i64 j])) (m.push ⟨made'.map bo, 1⟩)) := by
            intro b t' l' c4 hb g1 g2 g20 g176 g177 g178 g21 g23 g184 g185 g186 g218 g219 g220
            exact ⟨fun q => next3 _ _ _ _ _ (by omega) ⟨rfl, u + 1, g1, g2, g20.trans h4, g176.trans h21, g177.trans h22, g178.trans h23, g21.trans h5, g23.trans h6, g184.trans h29, g185.trans h30, g186.trans h31, g218.trans h32, g219.trans h33, g220, by omega, rfl, hall' (by rw [hb]; simpa using q)⟩, fun q => hno (by rw [hb]; simpa using q)⟩
          cases hloc : ps[ps[i].ins[j].b.toNat].ups[u].loc with
          | true =>
            refine goh_ ?_
            refine s_within ?_
            refine goh_ ?_
            exact go _ _ _ _ (by simp [upOk, hloc, w64]) ⟨h1, h2, by simp only [upd_far, q0, q0', hl0], by simp only [upd_far, q1, q1', hl1], by omega⟩ ⟨h12, by simp only [upd_far, q2, q2', hl12], by omega⟩ rfl rfl rfl rfl rfl rfl rfl rfl rfl rfl rfl rfl
          | false =>
            refine goh_ ?_
            refine s_within ?_
            refine goh_ ?_
            exact And.symm (go _ _ _ _ (by simp [upOk, hloc, w64]) ⟨h1, h2, by simp only [upd_far, q0, q0', hl0], by simp only [upd_far, q1, q1', hl1], by omega⟩ ⟨h12, by simp only [upd_far, q2, q2', hl12], by omega⟩ rfl rfl rfl rfl rfl rfl rfl rfl rfl rfl rfl rfl)
        · have hua : upsOk ps[i] ps[ps[i].ins[j].b.toNat].ups = true := by
            rw [show u = ps[ps[i].ins[j].b.toNat].ups.length by omega, List.take_length] at hall
            exact hall
          rw [if_neg (by rw [hua]; decide)] at hS
          exact next2 _ _ _ _ _ (by omega) ⟨j + 1, made', hml', rfl, ⟨h1, h2, hl0, hl1, by omega⟩, ⟨h12, hl12, by omega⟩, h4, h21, h22, h23, h5, h29, h30, rfl, by omega, rfl, hS⟩
    · rw [show j = ps[i].ins.length by omega, List.drop_length] at hS
      simp only [ins6, cont6] at hS
      exact next _ _ _ _ _ (by omega) ⟨i + 1, made, hml, rfl, ⟨h1, h2, hl0, hl1, by omega⟩, h4, h21, h22, rfl, by omega, rfl, hS⟩
  rw [show i = ps.length by omega, List.drop_length] at hS
  simp only [all6] at hS
  rw [← hS] at h
  simp only [end7] at h
  clear next h21 h22 h23 hd hk hi hS
  refine loop_ (fun k t l c m1 => m1 = m.push ⟨made.map bo, 1⟩ ∧ ∃ (i : Nat), Two t l c s ∧ t 20 = .sl (.hp m.hp.length) 0 ps.length ps.length ∧ t 257 = s ∧ t 258 = .int .i64 ps.length ∧ t 259 = .int .i64 i ∧ i ≤ ps.length ∧ k = ps.length - i ∧ (i ≠ 0 → orF (scan (last7 made) (ps.length - i) i) (0, 0, 0) = orF (scan (last7 made) (ps.length - 1) 1) (0, 0, 0))) ps.length ?_ ?_
  · exact ⟨rfl, 0, ⟨h1, h2, by simp only [upd_far, q0, q0', hl0], by simp only [upd_far, q1, q1', hl1], by omega⟩, h4, rfl, rfl, rfl, by omega, by omega, fun q => by omega⟩
  clear h1 h2 hl0 hl1 hc q0 q0' q1 q1' h4
  intro k t l c m1 KN ⟨hm, i, ⟨h1, h2, hl0, hl1, hc⟩, h4, h21, h22, h9, hi, hk, hS⟩ next
  subst m1
  obtain ⟨q0, q0'⟩ := far_of (a := 0) (c := c) (by omega)
  obtain ⟨q1, q1'⟩ := far_of (a := 1) (c := c) (by omega)
  refine goh_ ?_
  refine ⟨fun hd => ?_, fun hd => ?_⟩
  · have hj : i < ps.length := by omega
    have hw := w64_succ hj hl
    have hbg := bo_get (made := made) (i := i) (by omega)
    by_cases g0 : i = 0
    · have gp : ((0 : Int) < i) = False := by rw [eq_iff_iff, iff_false]; omega
      have hg : orF (scan (last7 made) (ps.length - (i + 1)) (i + 1)) (0, 0, 0) = orF (scan (last7 made) (ps.length - 1) 1) (0, 0, 0) := by rw [g0]
      clear g0
      refine goh_ ?_
      exact next _ _ _ _ _ (by omega) ⟨rfl, i + 1, ⟨h1, h2, hl0, hl1, by omega⟩, h4, h21, h22, rfl, by omega, rfl, fun _ => hg⟩
    have gp : ((0 : Int) < i) = True := by rw [eq_iff_iff, iff_true]; omega
    replace hS := hS g0
    rw [orF_at hj] at hS
    cases c2 : made.getD i true with
    | true =>
      rw [c2] at hbg
      simp only [last7, c2, if_true] at hS
      refine goh_ ?_
      exact next _ _ _ _ _ (by omega) ⟨rfl, i + 1, ⟨h1, h2, hl0, hl1, by omega⟩, h4, h21, h22, rfl, by omega, rfl, fun _ => hS⟩
    | false =>
      rw [c2] at hbg
      simp only [last7, c2, Bool.false_eq_true, if_false] at hS
      have h := h _ (Mem.le.push m ⟨made.map bo, 1⟩)
      rw [← hS] at h
      simp only [F3.av, orF] at h
      exact gox_
  have h := h _ (Mem.le.push m ⟨made.map bo, 1⟩)
  have hS := hS (by have := hP.n0; omega)
  rw [show i = ps.length by omega, orF_end] at hS
  rw [← hS] at h
  simp only [F3.av] at h
  exact gox_
end Go.Proofs.YtdonkjepjobhnaaDoor.IM
namespace Go.Proofs.IM
open Go
abbrev i64 (x : Int) : Prop := -9223372036854775808 ≤ x ∧ x ≤ 9223372036854775807
structure V.good (v : V) : Prop where
  k : i64 v.k
  n : i64 v.n
  f : v.f < 18446744073709551616
  s : v.s.size ≤ 9223372036854775807
  r : i64 v.r
structure I.good (x : I) : Prop where
  op : i64 x.op
  a : i64 x.a
  b : i64 x.b
  c : i64 x.c
  d : i64 x.d
structure Nm.good (n : Nm) : Prop where
  s : n.s.size ≤ 9223372036854775807
  reg : i64 n.reg
  lo : i64 n.lo
  hi : i64 n.hi
structure Pr.good (p : Pr) : Prop where
  s : p.s.size ≤ 9223372036854775807
  line : i64 p.line
  params : i64 p.params
  regs : i64 p.regs
  ups : p.ups.length ≤ 9223372036854775807
  consts : p.consts.length ≤ 9223372036854775807
  ins : p.ins.length ≤ 9223372036854775807
  named : p.named.length ≤ 9223372036854775807
  up : ∀ u ∈ p.ups, i64 u.ix
  const : ∀ v ∈ p.consts, v.good
  insn : ∀ x ∈ p.ins, x.good
  name : ∀ n ∈ p.named, n.good
theorem Pr.good.ok {p : Pr} (h : p.good) : p.ok := ⟨by have := h.ups; omega, by have := h.consts; omega, by have := h.ins; omega, by have := h.named; omega⟩
def sumBy {α : Type} (g : α → Nat) : List α → Nat
  | [] => 0
  | x :: xs => g x + sumBy g xs
def V.wt (v : V) : Nat := v.s.size
def Nm.wt (n : Nm) : Nat := n.s.size
def Pr.wt (p : Pr) : Nat := p.s.size + p.ups.length + (p.consts.length + sumBy V.wt p.consts) + p.ins.length + (p.named.length + sumBy Nm.wt p.named)
def wtC (ps : List Pr) : Nat := ps.length + sumBy Pr.wt ps
theorem szL_eq {α : Type} {f : α → Int → Int} {g : α → Nat} : ∀ {xs : List α} (_ : ∀ x ∈ xs, ∀ l, 0 ≤ l → l ≤ 1048576 → 0 ≤ f x l → f x l = l - g x) {l : Int}, 0 ≤ l → l ≤ 1048576 → 0 ≤ szL f xs l → szL f xs l = l - sumBy g xs := by
  intro xs
  induction xs with
  | nil => intro _ l _ _ _; simp [szL, sumBy]
  | cons x xs ih =>
    intro hf l h0 h1 h
    simp only [szL] at h ⊢
    by_cases hx : f x l < 0
    · rw [if_pos hx] at h; omega
    · rw [if_neg hx] at h ⊢
      have e := hf x (by simp) l h0 h1 (by omega)
      rw [ih (fun y hy => hf y (by simp [hy])) (by omega) (by omega) h, e]
      simp only [sumBy]; omega
theorem szS_eq {α : Type} {f : α → Int → Int} {g : α → Nat} {xs : List α} (hf : ∀ x ∈ xs, ∀ l, 0 ≤ l → l ≤ 1048576 → 0 ≤ f x l → f x l = l - g x) (hl : xs.length ≤ 9223372036854775807) {l : Int} (h0 : 0 ≤ l) (h1 : l ≤ 1048576) (h : 0 ≤ szS f xs l) : szS f xs l = l - (xs.length + sumBy g xs : Nat) := by
  simp only [szS] at h ⊢
  rw [w64_id (by omega)] at h ⊢
  by_cases hx : l - (xs.length : Int) < 0
  · rw [if_pos hx] at h; omega
  · rw [if_neg hx] at h ⊢
    rw [szL_eq hf (by omega) (by omega) h]; omega
theorem szS0_eq {α : Type} {xs : List α} (hl : xs.length ≤ 9223372036854775807) {l : Int} (h0 : 0 ≤ l) (h1 : l ≤ 1048576) (h : 0 ≤ szS0 xs l) : szS0 xs l = l - xs.length := by
  simp only [szS0] at h ⊢
  rw [w64_id (by omega)] at h ⊢
  by_cases hx : l - (xs.length : Int) < 0
  · rw [if_pos hx] at h; omega
  · rw [if_neg hx]
theorem szV_eq {v : V} (hv : v.s.size ≤ 9223372036854775807) {l : Int} (h0 : 0 ≤ l) (h1 : l ≤ 1048576) (h : 0 ≤ szV v l) : szV v l = l - v.wt := by
  simp only [szV] at h ⊢
  rw [w64_id (by omega)] at h ⊢
  by_cases hx : l - (v.s.size : Int) < 0
  · rw [if_pos hx] at h; omega
  · rw [if_neg hx]; rfl
theorem szN_eq {v : Nm} (hv : v.s.size ≤ 9223372036854775807) {l : Int} (h0 : 0 ≤ l) (h1 : l ≤ 1048576) (h : 0 ≤ szN v l) : szN v l = l - v.wt := by
  simp only [szN] at h ⊢
  rw [w64_id (by omega)] at h ⊢
  by_cases hx : l - (v.s.size : Int) < 0
  · rw [if_pos hx] at h; omega
  · rw [if_neg hx]; rfl
theorem szP_eq {p : Pr} (hp : p.good) {l : Int} (h0 : 0 ≤ l) (h1 : l ≤ 1048576) (h : 0 ≤ szP p l) : szP p l = l - p.wt := by
  have hs := hp.s
  simp only [szP] at h ⊢
  rw [w64_id (x := l - (p.s.size : Int)) (by omega)] at h ⊢
  by_cases x1 : l - (p.s.size : Int) < 0
  · rw [if_pos x1] at h; omega
  rw [if_neg x1] at h ⊢
  by_cases x2 : szS0 p.ups (l - (p.s.size : Int)) < 0
  · rw [if_pos x2] at h; omega
  have e2 := szS0_eq hp.ups (l := l - (p.s.size : Int)) (by omega) (by omega) (by omega)
  rw [if_neg x2] at h ⊢
  rw [e2] at x2 h ⊢
  have f3 : ∀ x ∈ p.consts, ∀ l, 0 ≤ l → l ≤ 1048576 → 0 ≤ szV x l → szV x l = l - x.wt := fun x hx l a b c => szV_eq (hp.const x hx).s a b c
  by_cases x3 : szS szV p.consts (l - (p.s.size : Int) - p.ups.length) < 0
  · rw [if_pos x3] at h; omega
  have e3 := szS_eq f3 hp.consts (l := l - (p.s.size : Int) - p.ups.length) (by omega) (by omega) (by omega)
  rw [if_neg x3] at h ⊢
  rw [e3] at x3 h ⊢
  generalize hl3 : l - (p.s.size : Int) - p.ups.length - ((p.consts.length + sumBy V.wt p.consts : Nat) : Int) = l3 at x3 h ⊢
  by_cases x4 : szS0 p.ins l3 < 0
  · rw [if_pos x4] at h; omega
  have e4 := szS0_eq hp.ins (l := l3) (by omega) (by omega) (by omega)
  rw [if_neg x4] at h ⊢
  rw [e4] at x4 h ⊢
  have f5 : ∀ x ∈ p.named, ∀ l, 0 ≤ l → l ≤ 1048576 → 0 ≤ szN x l → szN x l = l - x.wt := fun x hx l a b c => szN_eq (hp.name x hx).s a b c
  by_cases x5 : szS szN p.named (l3 - p.ins.length) < 0
  · rw [if_pos x5] at h; omega
  have e5 := szS_eq f5 hp.named (l := l3 - p.ins.length) (by omega) (by omega) (by omega)
  rw [if_neg x5]
  rw [e5]
  simp only [Pr.wt]
  omega
theorem szC_eq {ps : List Pr} (hL : ∀ p ∈ ps, p.good) (hl : ps.length ≤ 9223372036854775807) (h : ¬ szC ps 1048576 < 0) : wtC ps ≤ 1048576 := by
  have h' : 0 ≤ szS szP ps 1048576 := by
    simp only [szC] at h
    split at h
    · omega
    · omega
  have := szS_eq (f := szP) (g := Pr.wt) (fun x hx l a b c => szP_eq (hL x hx) a b c) hl (by omega) (by omega) h'
  simp only [wtC]
  omega
theorem sumBy_le {α : Type} {g : α → Nat} {xs : List α} {x : α} (h : x ∈ xs) : g x ≤ sumBy g xs := by
  induction xs with
  | nil => cases h
  | cons y ys ih =>
    rcases List.mem_cons.1 h with e | e
    · subst e; simp only [sumBy]; omega
    · have := ih e; simp only [sumBy]; omega
theorem fit_of {ps : List Pr} (h : wtC ps ≤ 1048576) : ps.length < 2 ^ 40 ∧ ∀ p ∈ ps, p.fit := by
  refine ⟨by simp only [wtC] at h; omega, fun p hp => ?_⟩
  have := sumBy_le (g := Pr.wt) hp
  simp only [wtC] at h
  have hw : p.wt ≤ 1048576 := by omega
  simp only [Pr.wt] at hw
  exact ⟨by omega, by omega, by omega, by omega⟩
end Go.Proofs.IM
namespace Go.Proofs.YtdonkjepjobhnaaDoor.IM
open Go Go.Proofs.IM Go.Proofs.Flt
set_option maxHeartbeats 8000000
set_option maxRecDepth 100000
theorem s_FnExactCheckShape {s : AV} {ps : List Pr} {m : Mem} {K : AR → Mem → Prop} (hF : FormsR 0 m) (hp : PsR m s ps) (hl : ps.length ≤ 9223372036854775807) (hL : ∀ p ∈ ps, p.good)
    (h : ∀ m', m.le m' → K (.ret (.bool true)) m') :
    Sim Tryd.prog 5 [.agg [s]] m K := by
  refine entry (cxok []) Tryd.func5 rfl rfl (by decide) (by decide) ?_
  obtain ⟨a1, a2, a3, a4⟩ := hp.facts
  have hok := fun p hp => (hL p hp).ok
  refine goh_ ?_
  refine s_szCode hp (by omega) hok ?_
  refine goh_ ?_
  refine ⟨fun hd => by have h := h _ (Mem.le.refl _); exact gox_, fun hd => ?_⟩
  obtain ⟨hl', hfit⟩ := fit_of (szC_eq hL hl hd)
  clear hd
  refine s_toCode hp hl' hfit ?_
  intro m1 own1 hm1 ho1 hr1
  refine goh_ ?_
  refine s_specCheckShape ho1.r (by omega) hok ?_
  intro m2 hm2
  simp only [F3.av]
  refine goh_ ?_
  refine s_toCode (hp.mono (hm1.trans hm2)) hl' hfit ?_
  intro m3 own3 hm3 ho3 hr3
  refine goh_ ?_
  refine s_implCheckShape (hF.mono ((hm1.trans hm2).trans hm3)) ho3.r (by omega) hok ?_
  intro m4 hm4
  simp only [F3.av]
  refine goh_ ?_
  refine s_eqFault ?_
  refine goh_ ?_
  refine draw_ [(0, .read), (1, .read), (2, .step [0]), (3, .step []), (4, .pure)] (by kernel_rfl) ?_
  refine goh_ ?_
  refine s_toCode (hp.mono (((hm1.trans hm2).trans hm3).trans hm4)) hl' hfit ?_
  intro m5 own5 hm5 ho5 hr5
  refine goh_ ?_
  refine s_eqCode (ho3.r.mono (hm4.trans hm5)) ho5.r (by omega) hok ?_
  have h := h m5 ((((hm1.trans hm2).trans hm3).trans hm4).trans hm5)
  exact gox_
end Go.Proofs.YtdonkjepjobhnaaDoor.IM
