/- The copy of a code. -/
import Derived.Test.YtdonkjepjobhnaaDoorIW
namespace Go.Proofs.YtdonkjepjobhnaaDoor.IM
open Go Go.Proofs.IM
theorem s_toProtoS {s : AV} {ps : List Pr} {m : Mem} {K : AR → Mem → Prop} (hp : PsR m s ps) (hl : ps.length < 2 ^ 40) (hL : ∀ p ∈ ps, p.fit)
    (h : ∀ m' own, m.le m' → PsO m' (.sl (.hp m.hp.length) 0 ps.length ps.length) ps own → (∀ j ∈ own, m.hp.length ≤ j ∧ j < m'.hp.length) → K (.ret (.sl (.hp m.hp.length) 0 ps.length ps.length)) m') :
    Sim Tryd.prog 54 [s] m K := by
  refine entry (cxok []) Tryd.func54 rfl rfl (by decide) (by decide) ?_
  obtain ⟨rs, hs, hrl, hrow⟩ := hp
  have hlen := hs.len'
  rw [hrl] at hlen
  refine goh_ ?_
  refine ⟨by omega, ?_⟩
  refine loop_ (fun k t l c m' => m.le m' ∧ ∃ (i : Nat) (rows : List (List AV)) (os : List (List Nat)), m'.hp[m.hp.length]? = some ⟨rows, 9⟩ ∧ rows.length = ps.length ∧
    (∀ j, i ≤ j → j < ps.length → rows[j]? = some [.str ByteArray.empty, .int .i64 0, .int .i64 0, .bool false, .int .i64 0, .nils, .nils, .nils, .nils]) ∧ os.length = i ∧
    (∀ (j : Nat) (r : List AV) (p : Pr) (w : List Nat), rows[j]? = some r → ps[j]? = some p → os[j]? = some w → PrO m' r p w) ∧ os.flatten.Nodup ∧ (∀ x ∈ os.flatten, m.hp.length < x ∧ x < m'.hp.length) ∧
    t 0 = s ∧ t 3 = .sl (.hp m.hp.length) 0 ps.length ps.length ∧ t 4 = .int .i64 i ∧ i ≤ ps.length ∧ k = ps.length - i) ps.length ?_ ?_
  · exact ⟨Mem.le.push _ _, 0, _, [], push_at, by simp, fun j _ hj => by rw [List.getElem?_replicate, if_pos hj], rfl, fun j r p w _ _ hw => by simp at hw, by simp, fun x hx => by simp at hx, rfl, rfl, rfl, by omega, by omega⟩
  intro k t l c m' KN ⟨hle, i, rows, os, hk0, hrn, hz, hos, hpr, hnd, hrg, h0, h3, h4, hi, hk⟩ next
  have hs := hs.mono hle
  have hlen := hs.len'
  rw [hrl] at hlen
  refine goh_ ?_
  refine ⟨fun hc => ?_, fun hc => ?_⟩
  · have hj : i < ps.length := by omega
    have hj' : i < rs.length := by omega
    obtain ⟨a, i0, cap, B, rfl, hb, hz9, hr⟩ := hs.some_ hj'
    have hr := fun l => hr l i hj'
    obtain ⟨s1, s2, s3, s4, e0, e1, e2, e3, e4⟩ := ((hrow i rs[i] ps[i] (by simp [hj']) (by simp [hj])).mono hle).ex
    rw [e0] at hr
    obtain ⟨a1, a2, a3, a4⟩ := e1.facts
    obtain ⟨b1, b2, b3, b4⟩ := e2.facts
    obtain ⟨c1, c2, c3, c4⟩ := e3.facts
    obtain ⟨d1, d2, d3, d4⟩ := e4.facts
    have hw := w64_succ hj (show ps.length < 2 ^ 63 by omega)
    have ok := hL ps[i] (by simp)
    have hzi := hz i (Nat.le_refl _) hj
    have hkl : m.hp.length < m'.hp.length := (List.getElem?_eq_some_iff.1 hk0).1
    have hk4 : (m'.push4 ps[i]).hp[m.hp.length]? = some ⟨rows, 9⟩ := (push4_old hkl).trans hk0
    refine goh_ ?_
    refine s_toProto e1 e2 e3 e4 ok ?_
    refine goh_ ?_
    have hget : ∀ x, x ≠ m.hp.length → ({ m'.push4 ps[i] with hp := (m'.push4 ps[i]).hp.set m.hp.length ⟨rows.set i (prRow m'.hp.length ps[i]), 9⟩ } : Mem).hp[x]? = (m'.push4 ps[i]).hp[x]? := fun x hx => List.getElem?_set_ne (Ne.symm hx)
    refine next _ _ _ _ { m'.push4 ps[i] with hp := (m'.push4 ps[i]).hp.set m.hp.length ⟨rows.set i (prRow m'.hp.length ps[i]), 9⟩ } (show ps.length - (i + 1) < k by omega) ⟨?_, i + 1, rows.set i (prRow m'.hp.length ps[i]), os ++ [[m'.hp.length, m'.hp.length + 1, m'.hp.length + 2, m'.hp.length + 3]], ?_, by simpa using hrn, ?_, by simp [hos], ?_, ?_, ?_, h0, h3, rfl, by omega, rfl⟩
    · refine ⟨hle.ro, hle.gl, fun j B hB => ?_⟩
      have := (List.getElem?_eq_some_iff.1 hB).1
      rw [hget j (by omega), push4_old (by omega)]
      exact hle.hp j B hB
    · exact List.getElem?_set_self (by rw [push4_len]; omega)
    · intro j hj1 hj2
      rw [List.getElem?_set_ne (by omega)]
      exact hz j (by omega) hj2
    · intro j r p w hr' hp' hw'
      by_cases e : j < i
      · rw [List.getElem?_set_ne (by omega)] at hr'
        rw [List.getElem?_append_left (by omega)] at hw'
        refine (hpr j r p w hr' hp' hw').ext fun x hx => ?_
        have := hrg x (by simp only [List.mem_flatten]; exact ⟨w, List.mem_of_getElem? hw', hx⟩)
        rw [hget x (by omega), push4_old this.2]
      · have hji : j = i := by
          have := (List.getElem?_eq_some_iff.1 hw').1
          simp at this; omega
        subst hji
        rw [List.getElem?_set_self (by omega)] at hr'
        rw [List.getElem?_append_right (by omega), hos, Nat.sub_self] at hw'
        simp at hw'
        rw [List.getElem?_eq_getElem hj] at hp'
        cases hr'; cases hp'; subst hw'
        refine (PrO_push4 m' ps[j]).ext fun x hx => hget x ?_
        simp at hx; omega
    · simp only [List.flatten_append, List.flatten_cons, List.flatten_nil, List.append_nil]
      rw [List.nodup_append]
      refine ⟨hnd, by simp <;> omega, fun x hx y hy e => ?_⟩
      have := (hrg x hx).2
      simp at hy; omega
    · intro x hx
      simp only [List.flatten_append, List.flatten_cons, List.flatten_nil, List.append_nil, List.mem_append] at hx
      have hl4 : ({ m'.push4 ps[i] with hp := (m'.push4 ps[i]).hp.set m.hp.length ⟨rows.set i (prRow m'.hp.length ps[i]), 9⟩ } : Mem).hp.length = m'.hp.length + 4 := by simp [push4_len]
      rw [hl4]
      rcases hx with hx | hx
      · have := hrg x hx; omega
      · simp at hx; omega
  · have hj : i = ps.length := by omega
    subst hj
    refine h m' (m.hp.length :: os.flatten) hle ⟨rows, [m.hp.length], os, .inr ⟨_, _, _, _, rfl, hk0, rfl, by simp [hrn], by rw [← hrn, List.take_length], rfl⟩, hrn, hos, hpr, rfl, ?_⟩ ?_
    · rw [List.nodup_cons]
      exact ⟨fun hx => by have := hrg _ hx; omega, hnd⟩
    · intro x hx
      have hkl : m.hp.length < m'.hp.length := (List.getElem?_eq_some_iff.1 hk0).1
      rcases List.mem_cons.1 hx with e | e
      · omega
      · have := hrg x e; omega
theorem s_toCode {s : AV} {ps : List Pr} {m : Mem} {K : AR → Mem → Prop} (hp : PsR m s ps) (hl : ps.length < 2 ^ 40) (hL : ∀ p ∈ ps, p.fit)
    (h : ∀ m' own, m.le m' → PsO m' (.sl (.hp m.hp.length) 0 ps.length ps.length) ps own → (∀ j ∈ own, m.hp.length ≤ j ∧ j < m'.hp.length) → K (.ret (.agg [.sl (.hp m.hp.length) 0 ps.length ps.length])) m') :
    Sim Tryd.prog 23 [.agg [s]] m K := by
  refine entry (cxok []) Tryd.func23 rfl rfl (by decide) (by decide) ?_
  obtain ⟨a1, a2, a3, a4⟩ := hp.facts
  refine goh_ ?_
  refine s_toProtoS hp hl hL fun m' own hle ho hr => ?_
  refine goh_ ?_
  exact h m' own hle ho hr
end Go.Proofs.YtdonkjepjobhnaaDoor.IM
