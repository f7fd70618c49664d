/- Tables: the reference's Put, whole; what it answers. -/
import Derived.Test.YtgfkbcmdegnneaaPJ
namespace Go.Proofs.IM
open Go Go.Proofs.Flt
/-- What Put answers. -/
def putA (ps : List Pa) (tn : Int) (k v : V) : List Pa × Int := if tabOk ps tn && vok v && (keyV k).1 == 0 then putS ps tn (keyV k).2 v else ([], 0)
theorem keyV_i64 {v : V} (h : i64r v.n) : i64r (keyV v).2.n := by
  have z : i64r vZ.n := ⟨by decide, by decide⟩
  unfold keyV
  split
  · split
    · exact z
    · split
      · rename_i hw
        have hi := ((wholeB_iff _).1 hw.2).1
        have := inr_tr hi
        have e := (inr_f2i hi).2
        show i64r (f2i v.f)
        rw [e]; exact this
      · exact h
  · exact z
theorem tabOk_facts {ps : List Pa} {tn : Int} (h : tabOk ps tn = true) : ps.length ≤ 500 ∧ 0 ≤ tn ∧ tn ≤ 1000000000000 ∧ tabL tn [] 0 ps = true := by
  simp only [tabOk, Bool.and_eq_true, decide_eq_true_eq] at h
  exact ⟨h.1.1.1, h.1.1.2, h.1.2, h.2⟩
theorem tabL_facts {tn : Int} : ∀ {ps prev : List Pa} {last : Int}, tabL tn prev last ps = true → ∀ (i : Nat) (h : i < ps.length), (ps[i].v.k == 0) = false ∧ ((prev ++ ps.take i).any fun q => sameV q.k ps[i].k) = false
  | [], _, _, _, i, h => absurd h (by simp)
  | p :: ps, prev, last, ht, i, h => by
    simp only [tabL, Bool.and_eq_true, rowOk, Bool.not_eq_true'] at ht
    obtain ⟨⟨⟨⟨⟨h1, h2⟩, h3⟩, h4⟩, h5⟩, h6⟩ := ht
    rcases i with _ | i
    · simp only [List.getElem_cons_zero, List.take_zero, List.append_nil]
      simp_all
    · have := tabL_facts h6 i (by simpa using h)
      simp only [List.getElem_cons_succ, List.take_succ_cons]
      rw [List.append_assoc] at this
      exact this
theorem cmpN_zero {a b : V} (h : (cmpN a b == 0) = true) : nanV a = false ∧ nanV b = false ∧ numV a = numV b := by
  unfold cmpN at h
  cases ha : nanV a <;> cases hb : nanV b <;> rw [ha, hb] at h <;> simp at h
  refine ⟨rfl, rfl, ?_⟩
  unfold sgn at h
  split at h
  · cases h
  · split at h
    · cases h
    · omega
theorem sameV_trans {a b k : V} (h1 : sameV a k = true) (h2 : sameV b k = true) : sameV a b = true := by
  unfold sameV at h1 h2 ⊢
  rw [Bool.and_eq_true, Bool.and_eq_true] at h1 h2 ⊢
  obtain ⟨⟨v1, v2⟩, h1⟩ := h1
  obtain ⟨⟨v3, -⟩, h2⟩ := h2
  refine ⟨⟨v1, v3⟩, ?_⟩
  have hk : ∀ x : V, (if (numK x && numK k) = true then cmpN x k == 0 else x.k == k.k && x.n == k.n && x.s.toList == k.s.toList && x.r == k.r) = true → numK x = numK k := fun x h => by
    split at h
    · rename_i c; simp only [Bool.and_eq_true] at c; rw [c.1, c.2]
    · simp only [Bool.and_eq_true, beq_iff_eq] at h
      unfold numK; rw [h.1.1.1]
  have e1 := hk a h1
  have e2 := hk b h2
  rw [e1, e2]
  rw [e1] at h1
  rw [e2] at h2
  cases hn : numK k with
  | true =>
    rw [hn] at h1 h2
    rw [if_pos (by decide)] at h1 h2 ⊢
    obtain ⟨n1, n2, n3⟩ := cmpN_zero h1
    obtain ⟨n4, _, n5⟩ := cmpN_zero h2
    unfold cmpN
    rw [n1, n4, n3, n5]
    simp [sgn]
  | false =>
    rw [hn] at h1 h2
    rw [if_neg (by decide)] at h1 h2 ⊢
    simp only [Bool.and_eq_true, beq_iff_eq] at h1 h2 ⊢
    obtain ⟨⟨⟨a1, a2⟩, a3⟩, a4⟩ := h1
    obtain ⟨⟨⟨b1, b2⟩, b3⟩, b4⟩ := h2
    exact ⟨⟨⟨by rw [a1, b1], by rw [a2, b2]⟩, by rw [a3, b3]⟩, by rw [a4, b4]⟩
theorem putL_app {key v : V} : ∀ {ps qs : List Pa}, putL key v (ps ++ qs) = putL key v ps ++ putL key v qs
  | [], _ => rfl
  | p :: ps, qs => by simp only [List.cons_append, putL, putL_app, List.append_assoc]
theorem putL_none {key v : V} : ∀ {ps : List Pa}, (∀ p ∈ ps, sameV p.k key = false ∧ (p.v.k == 0) = false) → putL key v ps = ps
  | [], _ => rfl
  | p :: ps, h => by
    obtain ⟨h1, h2⟩ := h p (by simp)
    have := putL_none (key := key) (v := v) (ps := ps) fun q hq => h q (by simp [hq])
    simp only [putL, putOne, h1, h2, this]
    rfl
theorem putL_one {key v : V} {ps : List Pa} {i : Nat} (hi : i < ps.length) (hs : sameV ps[i].k key = true) (hn : ∀ (j : Nat) (hj : j < ps.length), j ≠ i → sameV ps[j].k key = false) (hz : ∀ p ∈ ps, (p.v.k == 0) = false) : putL key v ps = ps.take i ++ ((if v.k == 0 then [] else [⟨ps[i].k, v, ps[i].turn⟩]) ++ ps.drop (i + 1)) := by
  have e : ps = ps.take i ++ (ps[i] :: ps.drop (i + 1)) := by rw [← List.drop_eq_getElem_cons hi, List.take_append_drop]
  conv => lhs; rw [e]
  rw [putL_app, putL, putL_none, putL_none]
  · unfold putOne; rw [hs, if_pos rfl]
  · intro p hp
    obtain ⟨j, hj, rfl⟩ := List.getElem_of_mem hp
    rw [List.length_drop] at hj
    rw [List.getElem_drop]
    exact ⟨hn _ (by omega) (by omega), hz _ (List.getElem_mem _)⟩
  · intro p hp
    obtain ⟨j, hj, rfl⟩ := List.getElem_of_mem hp
    rw [List.length_take] at hj
    rw [List.getElem_take]
    exact ⟨hn _ (by omega) (by omega), hz _ (List.getElem_mem _)⟩
/-- In a valid table one pair at most has a key. -/
theorem tab_one {ps : List Pa} {tn : Int} {key : V} (h : tabOk ps tn = true) {i : Nat} (hi : i < ps.length) (hs : sameV ps[i].k key = true) : ∀ (j : Nat) (hj : j < ps.length), j ≠ i → sameV ps[j].k key = false := by
  intro j hj hne
  have ht := tabL_facts (tabOk_facts h).2.2.2
  cases e : sameV ps[j].k key with
  | false => rfl
  | true =>
    exfalso
    rcases Nat.lt_or_gt_of_ne hne with hlt | hlt
    · have := (ht i hi).2
      rw [List.nil_append, any_yes hj hlt (sameV_trans e hs)] at this
      cases this
    · have := (ht j hj).2
      rw [List.nil_append, any_yes hi hlt (sameV_trans hs e)] at this
      cases this
theorem tab_nil {ps : List Pa} {tn : Int} (h : tabOk ps tn = true) : ∀ p ∈ ps, (p.v.k == 0) = false := by
  intro p hp
  obtain ⟨j, hj, rfl⟩ := List.getElem_of_mem hp
  exact (tabL_facts (tabOk_facts h).2.2.2 j hj).1
end Go.Proofs.IM
namespace Go.Proofs.Ytgfkbcmdegnneaa.IM
open Go Go.Proofs.IM Go.Proofs.Flt
set_option maxHeartbeats 8000000
set_option maxRecDepth 100000
theorem s_specPut {sl : AV} {ps : List Pa} {tn k n r k' n' r' : Int} {f f' : Nat} {s s' : ByteArray} {m : Mem} {K : AR → Mem → Prop} (hs : SlR m 11 sl (ps.map Pa.av)) (hl : ps.length < 2 ^ 40) (hg : ∀ p ∈ ps, p.i64) (hn : i64r n)
    (h : ∀ q m', m.le m' → GrO m m' 11 q ((putA ps tn ⟨k, n, f, s, r⟩ ⟨k', n', f', s', r'⟩).1.map Pa.av) → K (.ret (.agg [q, .int .i64 (putA ps tn ⟨k, n, f, s, r⟩ ⟨k', n', f', s', r'⟩).2])) m') :
    Sim Try.prog 6 [.agg [sl, .int .i64 tn], .agg [.int .i64 k, .int .i64 n, .flt f, .str s, .int .i64 r], .agg [.int .i64 k', .int .i64 n', .flt f', .str s', .int .i64 r']] m K := by
  refine entry (cxok []) Try.func6 rfl rfl (by decide) (by decide) ?_
  obtain ⟨a1, a2, a3, a4⟩ := hs.facts
  unfold putA at h
  have hki := keyV_i64 (v := ⟨k, n, f, s, r⟩) hn
  refine goh_ ?_
  refine s_specKey ?_
  rw [keyR_eq]
  generalize keyV ⟨k, n, f, s, r⟩ = q at h hki ⊢
  obtain ⟨kc, ⟨kk, kn, kf, ks, kr⟩⟩ := q
  simp only at h hki
  refine goh_ ?_
  refine s_specTableOk hs hl hg ?_
  have hno : K (.ret (.agg [.nils, .int .i64 0])) m ∨ (tabOk ps tn && vok ⟨k', n', f', s', r'⟩ && kc == 0) = true := by
    cases e : (tabOk ps tn && vok ⟨k', n', f', s', r'⟩ && kc == 0) with
    | true => exact .inr rfl
    | false =>
      left
      have h := h .nils m (Mem.le.refl _) (by rw [e]; exact .inl ⟨rfl, rfl⟩)
      rw [e] at h; exact h
  cases t1 : tabOk ps tn with
  | false =>
    have h := hno.resolve_right (by rw [t1]; simp)
    clear hno hki hg hn
    exact gox_
  | true =>
  refine goh_ ?_
  refine s_specValueOk ?_
  cases t2 : vok ⟨k', n', f', s', r'⟩ with
  | false =>
    have h := hno.resolve_right (by rw [t1, t2]; simp)
    clear hno hki hg hn
    exact gox_
  | true =>
  cases t3 : kc == 0 with
  | false =>
    have h := hno.resolve_right (by rw [t1, t2, t3]; simp)
    have t3' : (kc != 0) = true := by rw [bne, t3]; rfl
    clear hno hki hg hn
    exact gox_
  | true =>
    have t3' : (kc != 0) = false := by rw [bne, t3]; rfl
    rw [t1, t2, t3] at h
    simp only [Bool.and_self, if_true] at h
    obtain ⟨f1, f2, f3, -⟩ := tabOk_facts t1
    clear hno
    refine goh_ ?_
    refine s_l2put hs f1 hg hki ⟨by omega, by omega⟩ fun q m' hm hq => ?_
    obtain ⟨y1, y2, y3, y4⟩ := hq.r.facts
    have h := h q m' hm hq
    clear hq hki hg hn f1 f2 f3
    exact gox_
end Go.Proofs.Ytgfkbcmdegnneaa.IM
