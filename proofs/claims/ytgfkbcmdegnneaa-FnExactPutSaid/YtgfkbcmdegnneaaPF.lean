/- Tables: a key's place. -/
import Derived.Test.YtgfkbcmdegnneaaPE
namespace Go.Proofs.IM
open Go Go.Proofs.Flt
theorem far_of {a c : Nat} (h : a < c) : (a == c) = false ∧ ∀ k, (a == c + k) = false := ⟨by simp; omega, fun k => by simp; omega⟩
def Pa.i64 (p : Pa) : Prop := i64r p.k.n ∧ i64r p.v.n ∧ i64r p.turn
end Go.Proofs.IM
namespace Go.Proofs.Ytgfkbcmdegnneaa.IM
open Go Go.Proofs.IM Go.Proofs.Flt
set_option maxHeartbeats 8000000
set_option maxRecDepth 100000
theorem s_place {sl : AV} {ps : List Pa} {tn k n r : Int} {f : Nat} {s : ByteArray} {m : Mem} {K : AR → Mem → Prop} (hs : SlR m 11 sl (ps.map Pa.av)) (hl : ps.length < 2 ^ 40) (hg : ∀ p ∈ ps, p.i64) (hn : i64r n)
    (h1 : ∀ i (hi : i < ps.length), sameV ps[i].k ⟨k, n, f, s, r⟩ = true → (∀ (j : Nat) (hj : j < i), sameV ps[j].k ⟨k, n, f, s, r⟩ = false) → K (.ret (.int .i64 i)) m)
    (h2 : (∀ p ∈ ps, sameV p.k ⟨k, n, f, s, r⟩ = false) → K (.ret (.int .i64 (-1))) m) :
    Sim Try.prog 41 [.agg [sl, .int .i64 tn], .agg [.int .i64 k, .int .i64 n, .flt f, .str s, .int .i64 r]] m K := by
  refine entry (cxok []) Try.func41 rfl rfl (by decide) (by decide) ?_
  obtain ⟨a1, a2, a3, a4⟩ := hs.facts
  have hlen := hs.len'
  rw [List.length_map] at hlen
  refine goh_ ?_
  refine loop_ (fun k' t l c m' => m' = m ∧ ∃ (i : Nat), t 3 = .ptr (.lc 1) 0 0 ∧ l 1 = some ⟨[[.int .i64 k, .int .i64 n, .flt f, .str s, .int .i64 r]], 5⟩ ∧ 2 ≤ c ∧ t 8 = sl ∧ t 9 = .int .i64 ps.length ∧ t 10 = .int .i64 i ∧ i ≤ ps.length ∧ k' = ps.length - i ∧ (∀ (j : Nat) (hj : j < ps.length), j < i → sameV ps[j].k ⟨k, n, f, s, r⟩ = false)) ps.length ?_ ?_
  · exact ⟨rfl, 0, rfl, rfl, by omega, rfl, rfl, rfl, by omega, by omega, fun j _ hj => absurd hj (by omega)⟩
  intro k' t l c m1 KN ⟨hm, i, g3, gl, hc2, g8, g9, g10, hi, hk', hno⟩ next
  subst hm
  obtain ⟨q0, q0'⟩ := far_of (a := 1) (c := c) (by omega)
  rcases Nat.lt_or_ge i ps.length with hj | hj
  · have e8 : ((i : Int) < ps.length) = True := by rw [eq_iff_iff, iff_true]; omega
    obtain ⟨a, i0, cap, B, rfl, hb, hz, hr⟩ := hs.some_ (j := i) (by simpa using hj)
    have hr := fun l => hr l i (by simpa using hj)
    simp only [List.getElem_map] at hr
    have hav : ps[i].av = [.int .i64 ps[i].k.k, .int .i64 ps[i].k.n, .flt ps[i].k.f, .str ps[i].k.s, .int .i64 ps[i].k.r, .int .i64 ps[i].v.k, .int .i64 ps[i].v.n, .flt ps[i].v.f, .str ps[i].v.s, .int .i64 ps[i].v.r, .int .i64 ps[i].turn] := rfl
    have hw := w64_succ hj (show ps.length < 2 ^ 63 by omega)
    refine goh_ ?_
    refine s_implSame (hg _ (List.getElem_mem hj)).1 hn ?_
    cases hb' : sameV ps[i].k ⟨k, n, f, s, r⟩ with
    | true =>
      have h := h1 i hj hb' fun j hj' => hno j (by omega) hj'
      replace hb' : sameV ⟨ps[i].k.k, ps[i].k.n, ps[i].k.f, ps[i].k.s, ps[i].k.r⟩ ⟨k, n, f, s, r⟩ = true := hb'
      clear h1 h2 hno hg
      exact gox_
    | false =>
      have hno' : ∀ (j : Nat) (hj : j < ps.length), j < i + 1 → sameV ps[j].k ⟨k, n, f, s, r⟩ = false := fun j hj' hji => by
        by_cases e : j = i
        · subst e; exact hb'
        · exact hno j hj' (by omega)
      replace hb' : sameV ⟨ps[i].k.k, ps[i].k.n, ps[i].k.f, ps[i].k.s, ps[i].k.r⟩ ⟨k, n, f, s, r⟩ = false := hb'
      clear h1 h2 hno hg
      refine goh_ ?_
      exact next _ _ _ _ _ (by omega) ⟨rfl, i + 1, g3, by simp only [upd_far, q0, q0', gl], by omega, g8, g9, rfl, by omega, rfl, hno'⟩
  · have hj : i = ps.length := by omega
    subst hj
    have e8 : ((ps.length : Int) < ps.length) = False := by rw [eq_iff_iff, iff_false]; omega
    have h := h2 fun p hp => by
      obtain ⟨j, hj, rfl⟩ := List.getElem_of_mem hp
      exact hno j hj hj
    clear h1 h2 hno hg
    exact gox_
end Go.Proofs.Ytgfkbcmdegnneaa.IM
