/- The laws' guard and copies. -/
import Derived.Test.YtdonkjepjobhnaaDoorIU
namespace Go.Proofs.IM
open Go
/-- The laws' guard: what is left. -/
def szV (v : V) (left : Int) : Int := let l := w64 (left - v.s.size); if l < 0 then -1 else l
def szL {α : Type} (f : α → Int → Int) : List α → Int → Int
  | [], l => l
  | x :: xs, l => let l' := f x l; if l' < 0 then -1 else szL f xs l'
def szS {α : Type} (f : α → Int → Int) (xs : List α) (left : Int) : Int := let l := w64 (left - xs.length); if l < 0 then -1 else szL f xs l
def szS0 {α : Type} (xs : List α) (left : Int) : Int := let l := w64 (left - xs.length); if l < 0 then -1 else l
def szN (v : Nm) (left : Int) : Int := let l := w64 (left - v.s.size); if l < 0 then -1 else l
def szP (p : Pr) (left : Int) : Int :=
  let a := w64 (left - p.s.size)
  if a < 0 then -1 else
  let b := szS0 p.ups a
  if b < 0 then -1 else
  let c := szS szV p.consts b
  if c < 0 then -1 else
  let d := szS0 p.ins c
  if d < 0 then -1 else
  let e := szS szN p.named d
  if e < 0 then -1 else e
def szC (ps : List Pr) (left : Int) : Int := let l := szS szP ps left; if l < 0 then -1 else l
theorem szL_at {α : Type} {f : α → Int → Int} {xs : List α} {i : Nat} (hi : i < xs.length) (l : Int) : szL f (xs.drop i) l = if f xs[i] l < 0 then -1 else szL f (xs.drop (i + 1)) (f xs[i] l) := by
  rw [List.drop_eq_getElem_cons hi]; rfl
theorem w64_succ {i n : Nat} (hi : i < n) (hn : n < 2 ^ 63) : w64 ((i : Int) + 1) = ((i + 1 : Nat) : Int) := by
  rw [w64_id (by omega)]; omega
end Go.Proofs.IM
namespace Go.Proofs.YtdonkjepjobhnaaDoor.IM
open Go Go.Proofs.IM
theorem s_szValue {k n r : Int} {f : Nat} {s : ByteArray} {left : Int} {m : Mem} {K : AR → Mem → Prop} (h : K (.ret (.int .i64 (szV ⟨k, n, f, s, r⟩ left))) m) :
    Sim Tryd.prog 17 [.agg [.int .i64 k, .int .i64 n, .flt f, .str s, .int .i64 r], .int .i64 left] m K := by
  refine entry (cxok []) Tryd.func17 rfl rfl (by decide) (by decide) ?_
  refine go_ ?_
  refine ⟨fun c => ?_, fun c => ?_⟩ <;> simpa [szV, c] using h
theorem s_szValueS {s : AV} {xs : List V} {left : Int} {m : Mem} {K : AR → Mem → Prop} (hs : SlR m 5 s (xs.map V.av)) (hl : xs.length < 2 ^ 63) (h : K (.ret (.int .i64 (szS szV xs left))) m) :
    Sim Tryd.prog 164 [s, .int .i64 left] m K := by
  refine entry (cxok []) Tryd.func164 rfl rfl (by decide) (by decide) ?_
  have hlen := hs.len'
  rw [List.length_map] at hlen
  refine goh_ ?_
  refine ⟨fun c => by simpa [szS, c] using h, fun c => ?_⟩
  refine loop_ (fun k t l c m' => m' = m ∧ ∃ (i : Nat) (left : Int), t 0 = s ∧ t 1 = .int .i64 left ∧ t 5 = .int .i64 i ∧ i ≤ xs.length ∧ k = xs.length - i ∧ K (.ret (.int .i64 (szL szV (xs.drop i) left))) m) xs.length ?_ ?_
  · exact ⟨rfl, 0, _, rfl, rfl, rfl, by omega, by omega, by simpa [szS, c] using h⟩
  intro k t l c m KN ⟨hm, i, left, h0, h1, h5, hi, hk, hK⟩ next
  subst hm
  refine goh_ ?_
  refine ⟨fun hc => ?_, fun hc => ?_⟩
  · have hj : i < xs.length := by omega
    obtain ⟨a, i0, cap, B, rfl, hb, hz, hr⟩ := hs.some_ (j := i) (by simpa using hj)
    have hr := fun l => hr l i (by simpa using hj)
    simp only [List.getElem_map] at hr
    have hw := w64_succ hj hl
    refine goh_ ?_
    refine s_szValue ?_
    refine goh_ ?_
    rw [szL_at hj] at hK
    refine ⟨fun hd => by rw [if_pos hd] at hK; exact hK, fun hd => ?_⟩
    rw [if_neg hd] at hK
    exact next _ _ _ _ _ (by omega) ⟨rfl, i + 1, _, h0, rfl, rfl, by omega, rfl, hK⟩
  · have hj : xs.length = i := by omega
    subst hj
    simpa [szL] using hK
theorem s_szNamed {r a b : Int} {s : ByteArray} {left : Int} {m : Mem} {K : AR → Mem → Prop} (h : K (.ret (.int .i64 (szN ⟨s, r, a, b⟩ left))) m) :
    Sim Tryd.prog 186 [.agg [.str s, .int .i64 r, .int .i64 a, .int .i64 b], .int .i64 left] m K := by
  refine entry (cxok []) Tryd.func186 rfl rfl (by decide) (by decide) ?_
  refine go_ ?_
  exact ⟨fun c => by simpa [szN, c] using h, fun c => by simpa [szN, c] using h⟩
theorem s_szNamedS {s : AV} {xs : List Nm} {left : Int} {m : Mem} {K : AR → Mem → Prop} (hs : SlR m 4 s (xs.map Nm.av)) (hl : xs.length < 2 ^ 63) (h : K (.ret (.int .i64 (szS szN xs left))) m) :
    Sim Tryd.prog 166 [s, .int .i64 left] m K := by
  refine entry (cxok []) Tryd.func166 rfl rfl (by decide) (by decide) ?_
  have hlen := hs.len'
  rw [List.length_map] at hlen
  refine goh_ ?_
  refine ⟨fun c => by simpa [szS, c] using h, fun c => ?_⟩
  refine loop_ (fun k t l c m' => m' = m ∧ ∃ (i : Nat) (left : Int), t 0 = s ∧ t 1 = .int .i64 left ∧ t 5 = .int .i64 i ∧ i ≤ xs.length ∧ k = xs.length - i ∧ K (.ret (.int .i64 (szL szN (xs.drop i) left))) m) xs.length ?_ ?_
  · exact ⟨rfl, 0, _, rfl, rfl, rfl, by omega, by omega, by simpa [szS, c] using h⟩
  intro k t l c m KN ⟨hm, i, left, h0, h1, h5, hi, hk, hK⟩ next
  subst hm
  refine goh_ ?_
  refine ⟨fun hc => ?_, fun hc => ?_⟩
  · have hj : i < xs.length := by omega
    obtain ⟨a, i0, cap, B, rfl, hb, hz, hr⟩ := hs.some_ (j := i) (by simpa using hj)
    have hr := fun l => hr l i (by simpa using hj)
    simp only [List.getElem_map] at hr
    have hw := w64_succ hj hl
    refine goh_ ?_
    refine s_szNamed ?_
    refine goh_ ?_
    rw [szL_at hj] at hK
    refine ⟨fun hd => by rw [if_pos hd] at hK; exact hK, fun hd => ?_⟩
    rw [if_neg hd] at hK
    exact next _ _ _ _ _ (by omega) ⟨rfl, i + 1, _, h0, rfl, rfl, by omega, rfl, hK⟩
  · have hj : xs.length = i := by omega
    subst hj
    simpa [szL] using hK
theorem s_szUpS {s : AV} {xs : List U} {left : Int} {m : Mem} {K : AR → Mem → Prop} (hs : SlR m 2 s (xs.map U.av)) (h : K (.ret (.int .i64 (szS0 xs left))) m) :
    Sim Tryd.prog 163 [s, .int .i64 left] m K := by
  refine entry (cxok []) Tryd.func163 rfl rfl (by decide) (by decide) ?_
  have hlen := hs.len'
  rw [List.length_map] at hlen
  refine goh_ ?_
  exact ⟨fun c => by simpa [szS0, c] using h, fun c => by simpa [szS0, c] using h⟩
theorem s_szInsS {s : AV} {xs : List I} {left : Int} {m : Mem} {K : AR → Mem → Prop} (hs : SlR m 5 s (xs.map I.av)) (h : K (.ret (.int .i64 (szS0 xs left))) m) :
    Sim Tryd.prog 165 [s, .int .i64 left] m K := by
  refine entry (cxok []) Tryd.func165 rfl rfl (by decide) (by decide) ?_
  have hlen := hs.len'
  rw [List.length_map] at hlen
  refine goh_ ?_
  exact ⟨fun c => by simpa [szS0, c] using h, fun c => by simpa [szS0, c] using h⟩
theorem s_szProto {p : Pr} {s1 s2 s3 s4 : AV} {left : Int} {m : Mem} {K : AR → Mem → Prop} (h1 : SlR m 2 s1 (p.ups.map U.av)) (h2 : SlR m 5 s2 (p.consts.map V.av)) (h3 : SlR m 5 s3 (p.ins.map I.av)) (h4 : SlR m 4 s4 (p.named.map Nm.av))
    (hl2 : p.consts.length < 2 ^ 63) (hl4 : p.named.length < 2 ^ 63) (h : K (.ret (.int .i64 (szP p left))) m) :
    Sim Tryd.prog 122 [.agg [.str p.s, .int .i64 p.line, .int .i64 p.params, .bool p.rest, .int .i64 p.regs, s1, s2, s3, s4], .int .i64 left] m K := by
  refine entry (cxok []) Tryd.func122 rfl rfl (by decide) (by decide) ?_
  obtain ⟨a1, a2, a3, a4⟩ := h1.facts
  obtain ⟨b1, b2, b3, b4⟩ := h2.facts
  obtain ⟨c1, c2, c3, c4⟩ := h3.facts
  obtain ⟨d1, d2, d3, d4⟩ := h4.facts
  dsimp only [szP] at h
  refine goh_ ?_
  refine ⟨fun c => by rw [if_pos c] at h; exact h, fun c => ?_⟩
  rw [if_neg c] at h
  refine s_szUpS h1 ?_
  refine goh_ ?_
  refine ⟨fun c => by rw [if_pos c] at h; exact h, fun c => ?_⟩
  rw [if_neg c] at h
  refine s_szValueS h2 hl2 ?_
  refine goh_ ?_
  refine ⟨fun c => by rw [if_pos c] at h; exact h, fun c => ?_⟩
  rw [if_neg c] at h
  refine s_szInsS h3 ?_
  refine goh_ ?_
  refine ⟨fun c => by rw [if_pos c] at h; exact h, fun c => ?_⟩
  rw [if_neg c] at h
  refine s_szNamedS h4 hl4 ?_
  refine goh_ ?_
  refine ⟨fun c => by rw [if_pos c] at h; exact h, fun c => ?_⟩
  rw [if_neg c] at h
  exact h
theorem s_szProtoS {ps : List Pr} {s : AV} {left : Int} {m : Mem} {K : AR → Mem → Prop} (hp : PsR m s ps) (hl : ps.length < 2 ^ 63) (hL : ∀ p ∈ ps, p.ok) (h : K (.ret (.int .i64 (szS szP ps left))) m) :
    Sim Tryd.prog 50 [s, .int .i64 left] m K := by
  refine entry (cxok []) Tryd.func50 rfl rfl (by decide) (by decide) ?_
  obtain ⟨rs, hs, hrl, hrow⟩ := hp
  have hlen := hs.len'
  rw [hrl] at hlen
  refine goh_ ?_
  refine ⟨fun c => by simpa [szS, c] using h, fun c => ?_⟩
  refine loop_ (fun k t l c m' => m' = m ∧ ∃ (i : Nat) (left : Int), t 0 = s ∧ t 1 = .int .i64 left ∧ t 5 = .int .i64 i ∧ i ≤ ps.length ∧ k = ps.length - i ∧ K (.ret (.int .i64 (szL szP (ps.drop i) left))) m) ps.length ?_ ?_
  · exact ⟨rfl, 0, _, rfl, rfl, rfl, by omega, by omega, by simpa [szS, c] using h⟩
  intro k t l c m KN ⟨hm, i, left, h0, h1, h5, hi, hk, hK⟩ next
  subst hm
  refine goh_ ?_
  refine ⟨fun hc => ?_, fun hc => ?_⟩
  · have hj : i < ps.length := by omega
    have hj' : i < rs.length := by omega
    obtain ⟨a, i0, cap, B, rfl, hb, hz, hr⟩ := hs.some_ hj'
    have hr := fun l => hr l i hj'
    obtain ⟨s1, s2, s3, s4, e0, e1, e2, e3, e4⟩ := (hrow i rs[i] ps[i] (by simp [hj']) (by simp [hj])).ex
    rw [e0] at hr
    obtain ⟨a1, a2, a3, a4⟩ := e1.facts
    obtain ⟨b1, b2, b3, b4⟩ := e2.facts
    obtain ⟨c1, c2, c3, c4⟩ := e3.facts
    obtain ⟨d1, d2, d3, d4⟩ := e4.facts
    have hw := w64_succ hj hl
    have ok := hL ps[i] (by simp)
    refine goh_ ?_
    refine s_szProto e1 e2 e3 e4 ok.2.1 ok.2.2.2 ?_
    refine goh_ ?_
    rw [szL_at hj] at hK
    refine ⟨fun hd => by rw [if_pos hd] at hK; exact hK, fun hd => ?_⟩
    rw [if_neg hd] at hK
    exact next _ _ _ _ _ (by omega) ⟨rfl, i + 1, _, h0, rfl, rfl, by omega, rfl, hK⟩
  · have hj : ps.length = i := by omega
    subst hj
    simpa [szL] using hK
theorem s_szCode {ps : List Pr} {s : AV} {left : Int} {m : Mem} {K : AR → Mem → Prop} (hp : PsR m s ps) (hl : ps.length < 2 ^ 63) (hL : ∀ p ∈ ps, p.ok) (h : K (.ret (.int .i64 (szC ps left))) m) :
    Sim Tryd.prog 21 [.agg [s], .int .i64 left] m K := by
  refine entry (cxok []) Tryd.func21 rfl rfl (by decide) (by decide) ?_
  obtain ⟨a1, a2, a3, a4⟩ := hp.facts
  dsimp only [szC] at h
  refine goh_ ?_
  refine s_szProtoS hp hl hL ?_
  refine goh_ ?_
  refine ⟨fun c => by rw [if_pos c] at h; exact h, fun c => ?_⟩
  rw [if_neg c] at h
  exact h
theorem s_toUp {b : Bool} {i : Int} {m : Mem} {K : AR → Mem → Prop} (h : K (.ret (.agg [.bool b, .int .i64 i])) m) : Sim Tryd.prog 187 [.agg [.bool b, .int .i64 i]] m K := by
  refine entry (cxok []) Tryd.func187 rfl rfl (by decide) (by decide) ?_
  refine go_ ?_
  exact h
theorem s_toValue {k n r : Int} {f : Nat} {s : ByteArray} {m : Mem} {K : AR → Mem → Prop} (h : K (.ret (.agg [.int .i64 k, .int .i64 n, .flt f, .str s, .int .i64 r])) m) : Sim Tryd.prog 19 [.agg [.int .i64 k, .int .i64 n, .flt f, .str s, .int .i64 r]] m K := by
  refine entry (cxok []) Tryd.func19 rfl rfl (by decide) (by decide) ?_
  refine go_ ?_
  exact h
theorem s_toIns {a b c d e : Int} {m : Mem} {K : AR → Mem → Prop} (h : K (.ret (.agg [.int .i64 a, .int .i64 b, .int .i64 c, .int .i64 d, .int .i64 e])) m) : Sim Tryd.prog 188 [.agg [.int .i64 a, .int .i64 b, .int .i64 c, .int .i64 d, .int .i64 e]] m K := by
  refine entry (cxok []) Tryd.func188 rfl rfl (by decide) (by decide) ?_
  refine go_ ?_
  exact h
theorem s_toNamed {s : ByteArray} {a b c : Int} {m : Mem} {K : AR → Mem → Prop} (h : K (.ret (.agg [.str s, .int .i64 a, .int .i64 b, .int .i64 c])) m) : Sim Tryd.prog 189 [.agg [.str s, .int .i64 a, .int .i64 b, .int .i64 c]] m K := by
  refine entry (cxok []) Tryd.func189 rfl rfl (by decide) (by decide) ?_
  refine go_ ?_
  exact h
theorem s_toUpS {s : AV} {xs : List U} {m : Mem} {K : AR → Mem → Prop} (hs : SlR m 2 s (xs.map U.av)) (hl : xs.length < 2 ^ 40) (h : K (.ret (.sl (.hp m.hp.length) 0 xs.length xs.length)) (m.push ⟨xs.map U.av, 2⟩)) :
    Sim Tryd.prog 169 [s] m K := by
  refine entry (cxok []) Tryd.func169 rfl rfl (by decide) (by decide) ?_
  have hlen := hs.len'
  rw [List.length_map] at hlen
  refine goh_ ?_
  refine ⟨by omega, ?_⟩
  refine loop_ (fun k t l c m' => ∃ (i : Nat), m' = m.push ⟨fillR (xs.map U.av) [.bool false, .int .i64 0] i, 2⟩ ∧ t 0 = s ∧ t 3 = .sl (.hp m.hp.length) 0 xs.length xs.length ∧ t 4 = .int .i64 i ∧ i ≤ xs.length ∧ k = xs.length - i) xs.length ?_ ?_
  · exact ⟨0, by rw [fillR_0, List.length_map], rfl, rfl, rfl, by omega, by omega⟩
  intro k t l c m' KN ⟨i, hm, h0, h3, h4, hi, hk⟩ next
  subst hm
  have hs := hs.mono (Mem.le.push m ⟨fillR (xs.map U.av) [.bool false, .int .i64 0] i, 2⟩)
  have hlen := hs.len'
  rw [List.length_map] at hlen
  refine goh_ ?_
  refine ⟨fun hc => ?_, fun hc => ?_⟩
  · have hj : i < xs.length := by omega
    obtain ⟨a, i0, cap, B, rfl, hb, hz, hr⟩ := hs.some_ (j := i) (by simpa using hj)
    have hr := fun l => hr l i (by simpa using hj)
    simp only [List.getElem_map] at hr
    have hw := w64_succ hj (show xs.length < 2 ^ 63 by omega)
    have hg := fillR_get (A := xs.map U.av) (z := [.bool false, .int .i64 0]) (i := i) (by simpa using hj)
    have hf := fillR_set (A := xs.map U.av) (z := [.bool false, .int .i64 0]) (i := i) (by simpa using hj)
    simp only [List.getElem_map, U.av] at hf
    refine goh_ ?_
    refine s_toUp ?_
    refine goh_ ?_
    exact next _ _ _ _ _ (by omega) ⟨i + 1, rfl, h0, h3, rfl, by omega, rfl⟩
  · have hj : i = xs.length := by omega
    subst hj
    have := fillR_end (xs.map U.av) [.bool false, .int .i64 0]
    rw [List.length_map] at this
    rw [this]
    exact h
theorem s_toValueS {s : AV} {xs : List V} {m : Mem} {K : AR → Mem → Prop} (hs : SlR m 5 s (xs.map V.av)) (hl : xs.length < 2 ^ 40) (h : K (.ret (.sl (.hp m.hp.length) 0 xs.length xs.length)) (m.push ⟨xs.map V.av, 5⟩)) :
    Sim Tryd.prog 170 [s] m K := by
  refine entry (cxok []) Tryd.func170 rfl rfl (by decide) (by decide) ?_
  have hlen := hs.len'
  rw [List.length_map] at hlen
  refine goh_ ?_
  refine ⟨by omega, ?_⟩
  refine loop_ (fun k t l c m' => ∃ (i : Nat), m' = m.push ⟨fillR (xs.map V.av) [.int .i64 0, .int .i64 0, .flt 0, .str ByteArray.empty, .int .i64 0] i, 5⟩ ∧ t 0 = s ∧ t 3 = .sl (.hp m.hp.length) 0 xs.length xs.length ∧ t 4 = .int .i64 i ∧ i ≤ xs.length ∧ k = xs.length - i) xs.length ?_ ?_
  · exact ⟨0, by rw [fillR_0, List.length_map], rfl, rfl, rfl, by omega, by omega⟩
  intro k t l c m' KN ⟨i, hm, h0, h3, h4, hi, hk⟩ next
  subst hm
  have hs := hs.mono (Mem.le.push m ⟨fillR (xs.map V.av) [.int .i64 0, .int .i64 0, .flt 0, .str ByteArray.empty, .int .i64 0] i, 5⟩)
  have hlen := hs.len'
  rw [List.length_map] at hlen
  refine goh_ ?_
  refine ⟨fun hc => ?_, fun hc => ?_⟩
  · have hj : i < xs.length := by omega
    obtain ⟨a, i0, cap, B, rfl, hb, hz, hr⟩ := hs.some_ (j := i) (by simpa using hj)
    have hr := fun l => hr l i (by simpa using hj)
    simp only [List.getElem_map] at hr
    have hw := w64_succ hj (show xs.length < 2 ^ 63 by omega)
    have hg := fillR_get (A := xs.map V.av) (z := [.int .i64 0, .int .i64 0, .flt 0, .str ByteArray.empty, .int .i64 0]) (i := i) (by simpa using hj)
    have hf := fillR_set (A := xs.map V.av) (z := [.int .i64 0, .int .i64 0, .flt 0, .str ByteArray.empty, .int .i64 0]) (i := i) (by simpa using hj)
    simp only [List.getElem_map, V.av] at hf
    refine goh_ ?_
    refine s_toValue ?_
    refine goh_ ?_
    exact next _ _ _ _ _ (by omega) ⟨i + 1, rfl, h0, h3, rfl, by omega, rfl⟩
  · have hj : i = xs.length := by omega
    subst hj
    have := fillR_end (xs.map V.av) [.int .i64 0, .int .i64 0, .flt 0, .str ByteArray.empty, .int .i64 0]
    rw [List.length_map] at this
    rw [this]
    exact h
theorem s_toInsS {s : AV} {xs : List I} {m : Mem} {K : AR → Mem → Prop} (hs : SlR m 5 s (xs.map I.av)) (hl : xs.length < 2 ^ 40) (h : K (.ret (.sl (.hp m.hp.length) 0 xs.length xs.length)) (m.push ⟨xs.map I.av, 5⟩)) :
    Sim Tryd.prog 171 [s] m K := by
  refine entry (cxok []) Tryd.func171 rfl rfl (by decide) (by decide) ?_
  have hlen := hs.len'
  rw [List.length_map] at hlen
  refine goh_ ?_
  refine ⟨by omega, ?_⟩
  refine loop_ (fun k t l c m' => ∃ (i : Nat), m' = m.push ⟨fillR (xs.map I.av) [.int .i64 0, .int .i64 0, .int .i64 0, .int .i64 0, .int .i64 0] i, 5⟩ ∧ t 0 = s ∧ t 3 = .sl (.hp m.hp.length) 0 xs.length xs.length ∧ t 4 = .int .i64 i ∧ i ≤ xs.length ∧ k = xs.length - i) xs.length ?_ ?_
  · exact ⟨0, by rw [fillR_0, List.length_map], rfl, rfl, rfl, by omega, by omega⟩
  intro k t l c m' KN ⟨i, hm, h0, h3, h4, hi, hk⟩ next
  subst hm
  have hs := hs.mono (Mem.le.push m ⟨fillR (xs.map I.av) [.int .i64 0, .int .i64 0, .int .i64 0, .int .i64 0, .int .i64 0] i, 5⟩)
  have hlen := hs.len'
  rw [List.length_map] at hlen
  refine goh_ ?_
  refine ⟨fun hc => ?_, fun hc => ?_⟩
  · have hj : i < xs.length := by omega
    obtain ⟨a, i0, cap, B, rfl, hb, hz, hr⟩ := hs.some_ (j := i) (by simpa using hj)
    have hr := fun l => hr l i (by simpa using hj)
    simp only [List.getElem_map] at hr
    have hw := w64_succ hj (show xs.length < 2 ^ 63 by omega)
    have hg := fillR_get (A := xs.map I.av) (z := [.int .i64 0, .int .i64 0, .int .i64 0, .int .i64 0, .int .i64 0]) (i := i) (by simpa using hj)
    have hf := fillR_set (A := xs.map I.av) (z := [.int .i64 0, .int .i64 0, .int .i64 0, .int .i64 0, .int .i64 0]) (i := i) (by simpa using hj)
    simp only [List.getElem_map, I.av] at hf
    refine goh_ ?_
    refine s_toIns ?_
    refine goh_ ?_
    exact next _ _ _ _ _ (by omega) ⟨i + 1, rfl, h0, h3, rfl, by omega, rfl⟩
  · have hj : i = xs.length := by omega
    subst hj
    have := fillR_end (xs.map I.av) [.int .i64 0, .int .i64 0, .int .i64 0, .int .i64 0, .int .i64 0]
    rw [List.length_map] at this
    rw [this]
    exact h
theorem s_toNamedS {s : AV} {xs : List Nm} {m : Mem} {K : AR → Mem → Prop} (hs : SlR m 4 s (xs.map Nm.av)) (hl : xs.length < 2 ^ 40) (h : K (.ret (.sl (.hp m.hp.length) 0 xs.length xs.length)) (m.push ⟨xs.map Nm.av, 4⟩)) :
    Sim Tryd.prog 172 [s] m K := by
  refine entry (cxok []) Tryd.func172 rfl rfl (by decide) (by decide) ?_
  have hlen := hs.len'
  rw [List.length_map] at hlen
  refine goh_ ?_
  refine ⟨by omega, ?_⟩
  refine loop_ (fun k t l c m' => ∃ (i : Nat), m' = m.push ⟨fillR (xs.map Nm.av) [.str ByteArray.empty, .int .i64 0, .int .i64 0, .int .i64 0] i, 4⟩ ∧ t 0 = s ∧ t 3 = .sl (.hp m.hp.length) 0 xs.length xs.length ∧ t 4 = .int .i64 i ∧ i ≤ xs.length ∧ k = xs.length - i) xs.length ?_ ?_
  · exact ⟨0, by rw [fillR_0, List.length_map], rfl, rfl, rfl, by omega, by omega⟩
  intro k t l c m' KN ⟨i, hm, h0, h3, h4, hi, hk⟩ next
  subst hm
  have hs := hs.mono (Mem.le.push m ⟨fillR (xs.map Nm.av) [.str ByteArray.empty, .int .i64 0, .int .i64 0, .int .i64 0] i, 4⟩)
  have hlen := hs.len'
  rw [List.length_map] at hlen
  refine goh_ ?_
  refine ⟨fun hc => ?_, fun hc => ?_⟩
  · have hj : i < xs.length := by omega
    obtain ⟨a, i0, cap, B, rfl, hb, hz, hr⟩ := hs.some_ (j := i) (by simpa using hj)
    have hr := fun l => hr l i (by simpa using hj)
    simp only [List.getElem_map] at hr
    have hw := w64_succ hj (show xs.length < 2 ^ 63 by omega)
    have hg := fillR_get (A := xs.map Nm.av) (z := [.str ByteArray.empty, .int .i64 0, .int .i64 0, .int .i64 0]) (i := i) (by simpa using hj)
    have hf := fillR_set (A := xs.map Nm.av) (z := [.str ByteArray.empty, .int .i64 0, .int .i64 0, .int .i64 0]) (i := i) (by simpa using hj)
    simp only [List.getElem_map, Nm.av] at hf
    refine goh_ ?_
    refine s_toNamed ?_
    refine goh_ ?_
    exact next _ _ _ _ _ (by omega) ⟨i + 1, rfl, h0, h3, rfl, by omega, rfl⟩
  · have hj : i = xs.length := by omega
    subst hj
    have := fillR_end (xs.map Nm.av) [.str ByteArray.empty, .int .i64 0, .int .i64 0, .int .i64 0]
    rw [List.length_map] at this
    rw [this]
    exact h
theorem s_toProto {p : Pr} {s1 s2 s3 s4 : AV} {m : Mem} {K : AR → Mem → Prop} (h1 : SlR m 2 s1 (p.ups.map U.av)) (h2 : SlR m 5 s2 (p.consts.map V.av)) (h3 : SlR m 5 s3 (p.ins.map I.av)) (h4 : SlR m 4 s4 (p.named.map Nm.av)) (hl : p.fit)
    (h : K (.ret (.agg [.str p.s, .int .i64 p.line, .int .i64 p.params, .bool p.rest, .int .i64 p.regs, .sl (.hp m.hp.length) 0 p.ups.length p.ups.length, .sl (.hp (m.hp.length + 1)) 0 p.consts.length p.consts.length, .sl (.hp (m.hp.length + 2)) 0 p.ins.length p.ins.length, .sl (.hp (m.hp.length + 3)) 0 p.named.length p.named.length])) (m.push4 p)) :
    Sim Tryd.prog 128 [.agg [.str p.s, .int .i64 p.line, .int .i64 p.params, .bool p.rest, .int .i64 p.regs, s1, s2, s3, s4]] m K := by
  refine entry (cxok []) Tryd.func128 rfl rfl (by decide) (by decide) ?_
  obtain ⟨a1, a2, a3, a4⟩ := h1.facts
  obtain ⟨b1, b2, b3, b4⟩ := h2.facts
  obtain ⟨c1, c2, c3, c4⟩ := h3.facts
  obtain ⟨d1, d2, d3, d4⟩ := h4.facts
  obtain ⟨l1, l2, l3, l4⟩ := hl
  refine goh_ ?_
  refine s_toUpS h1 l1 ?_
  have h2 := h2.mono (Mem.le.push m ⟨p.ups.map U.av, 2⟩)
  have h3 := h3.mono (Mem.le.push m ⟨p.ups.map U.av, 2⟩)
  have h4 := h4.mono (Mem.le.push m ⟨p.ups.map U.av, 2⟩)
  refine goh_ ?_
  refine s_toValueS h2 l2 ?_
  have h3 := h3.mono (Mem.le.push _ ⟨p.consts.map V.av, 5⟩)
  have h4 := h4.mono (Mem.le.push _ ⟨p.consts.map V.av, 5⟩)
  refine goh_ ?_
  refine s_toInsS h3 l3 ?_
  have h4 := h4.mono (Mem.le.push _ ⟨p.ins.map I.av, 5⟩)
  refine goh_ ?_
  refine s_toNamedS h4 l4 ?_
  refine goh_ ?_
  exact h
end Go.Proofs.YtdonkjepjobhnaaDoor.IM
