/- Tables: when one is valid, both ways. -/
import Derived.Test.YtgfkbcmdegnneaaPF
namespace Go.Proofs.IM
open Go Go.Proofs.Flt
def keyOk (k : V) : Bool := (keyV k).1 == 0 && (keyV k).2.k == k.k
def rowOk (turns last : Int) (p : Pa) : Bool := keyOk p.k && vok p.v && !(p.v.k == 0) && decide (last < p.turn) && decide (p.turn ≤ turns)
def tabL (turns : Int) : List Pa → Int → List Pa → Bool
  | _, _, [] => true
  | prev, last, p :: ps => rowOk turns last p && !(prev.any fun q => sameV q.k p.k) && tabL turns (prev ++ [p]) p.turn ps
/-- A table is valid. -/
def tabOk (ps : List Pa) (turns : Int) : Bool := decide (ps.length ≤ 500) && decide (0 ≤ turns) && decide (turns ≤ 1000000000000) && tabL turns [] 0 ps
theorem tabL_at {turns last : Int} {ps : List Pa} {i : Nat} (h : i < ps.length) : tabL turns (ps.take i) last (ps.drop i) = (rowOk turns last ps[i] && !((ps.take i).any fun q => sameV q.k ps[i].k) && tabL turns (ps.take (i + 1)) ps[i].turn (ps.drop (i + 1))) := by
  have e : ps.take (i + 1) = ps.take i ++ [ps[i]] := by rw [List.take_add_one]; simp [h]
  rw [List.drop_eq_getElem_cons h, tabL, e]
theorem keyR_eq (v : V) : keyR v = .agg [.int .i64 (keyV v).1, .int .i64 (keyV v).2.k, .int .i64 (keyV v).2.n, .flt (keyV v).2.f, .str (keyV v).2.s, .int .i64 (keyV v).2.r] := rfl
theorem any_no {ps : List Pa} {k : V} {i : Nat} (hi : i ≤ ps.length) (h : ∀ (j : Nat) (hj : j < ps.length), j < i → sameV ps[j].k k = false) : (ps.take i).any (fun q => sameV q.k k) = false := by
  rw [List.any_eq_false]
  intro q hq
  obtain ⟨j, hj, rfl⟩ := List.getElem_of_mem hq
  rw [List.length_take] at hj
  rw [List.getElem_take, h j (by omega) (by omega)]; decide
theorem any_yes {ps : List Pa} {k : V} {i j : Nat} (hj : j < ps.length) (hji : j < i) (h : sameV ps[j].k k = true) : (ps.take i).any (fun q => sameV q.k k) = true := by
  rw [List.any_eq_true]
  exact ⟨ps[j], by rw [List.mem_iff_getElem]; exact ⟨j, by rw [List.length_take]; omega, by rw [List.getElem_take]⟩, h⟩
end Go.Proofs.IM
namespace Go.Proofs.Ytgfkbcmdegnneaa.IM
open Go Go.Proofs.IM Go.Proofs.Flt
set_option maxHeartbeats 8000000
set_option maxRecDepth 100000
theorem s_l2keyOk {k n r : Int} {f : Nat} {s : ByteArray} {m : Mem} {K : AR → Mem → Prop} (h : K (.ret (.bool (keyOk ⟨k, n, f, s, r⟩))) m) : Sim Try.prog 32 [.agg [.int .i64 k, .int .i64 n, .flt f, .str s, .int .i64 r]] m K := by
  refine entry (cxok []) Try.func32 rfl rfl (by decide) (by decide) ?_
  simp only [keyOk] at h
  refine goh_ ?_
  refine s_specKey ?_
  rw [keyR_eq]
  generalize keyV ⟨k, n, f, s, r⟩ = q at h ⊢
  obtain ⟨c, ⟨k', n', f', s', r'⟩⟩ := q
  cases e1 : c == 0 with
  | false => rw [e1] at h; replace h : K (.ret (.bool false)) m := h; exact gox_
  | true => rw [e1, Bool.true_and] at h; exact gox_
theorem s_specTableOk {sl : AV} {ps : List Pa} {tn : Int} {m : Mem} {K : AR → Mem → Prop} (hs : SlR m 11 sl (ps.map Pa.av)) (hl : ps.length < 2 ^ 40) (hg : ∀ p ∈ ps, p.i64)
    (h : K (.ret (.bool (tabOk ps tn))) m) :
    Sim Try.prog 15 [.agg [sl, .int .i64 tn]] m K := by
  refine entry (cxok []) Try.func15 rfl rfl (by decide) (by decide) ?_
  obtain ⟨a1, a2, a3, a4⟩ := hs.facts
  have hlen := hs.len'
  rw [List.length_map] at hlen
  simp only [tabOk] at h
  by_cases c1 : 500 < ps.length
  · have e1 : ((500 : Int) < ps.length) = True := by rw [eq_iff_iff, iff_true]; omega
    rw [decide_eq_false (by omega)] at h; replace h : K (.ret (.bool false)) m := h; clear hg hl; exact gox_
  have e1 : ((500 : Int) < ps.length) = False := by rw [eq_iff_iff, iff_false]; omega
  rw [decide_eq_true (by omega), Bool.true_and] at h
  by_cases c2 : tn < 0
  · rw [decide_eq_false (by omega)] at h; replace h : K (.ret (.bool false)) m := h; clear hg hl c1; exact gox_
  rw [decide_eq_true (by omega), Bool.true_and] at h
  by_cases c3 : 1000000000000 < tn
  · rw [decide_eq_false (by omega)] at h; replace h : K (.ret (.bool false)) m := h; clear hg hl c1; exact gox_
  rw [decide_eq_true (by omega), Bool.true_and] at h
  clear c1
  refine goh_ ?_
  clear e1 c2 c3
  refine loop_ (fun k' t l c m' => m' = m ∧ ∃ (i : Nat) (last : Int), t 1 = .ptr (.lc 0) 0 0 ∧ l 0 = some ⟨[[sl, .int .i64 tn]], 2⟩ ∧ 1 ≤ c ∧ t 3 = .int .i64 last ∧ t 22 = sl ∧ t 23 = .int .i64 ps.length ∧ t 24 = .int .i64 i ∧ i ≤ ps.length ∧ k' = ps.length - i ∧ K (.ret (.bool (tabL tn (ps.take i) last (ps.drop i)))) m) ps.length ?_ ?_
  · exact ⟨rfl, 0, 0, rfl, rfl, by omega, rfl, rfl, rfl, rfl, by omega, by omega, h⟩
  clear h
  intro k' t l c m1 KN ⟨hm, i, last, g1, gl, hc1, g3, g22, g23, g24, hi, hk', h⟩ next
  subst hm
  obtain ⟨q0, q0'⟩ := far_of (a := 0) (c := c) (by omega)
  rcases Nat.lt_or_ge i ps.length with hj | hj
  · have e8 : ((i : Int) < ps.length) = True := by rw [eq_iff_iff, iff_true]; omega
    obtain ⟨a, i0, cap, B, rfl, hb, hz, hr⟩ := hs.some_ (j := i) (by simpa using hj)
    have hr := fun l j (hj : j < ps.length) => hr l j (by simpa using hj)
    simp only [List.getElem_map] at hr
    have hrr := fun l => hr l i hj
    have hav : ps[i].av = [.int .i64 ps[i].k.k, .int .i64 ps[i].k.n, .flt ps[i].k.f, .str ps[i].k.s, .int .i64 ps[i].k.r, .int .i64 ps[i].v.k, .int .i64 ps[i].v.n, .flt ps[i].v.f, .str ps[i].v.s, .int .i64 ps[i].v.r, .int .i64 ps[i].turn] := rfl
    have hw := w64_succ hj (show ps.length < 2 ^ 63 by omega)
    rw [tabL_at hj] at h
    simp only [rowOk] at h
    have hbad : ∀ {x y : Bool}, K (.ret (.bool (false && x && y))) m1 → K (.ret (.bool false)) m1 := fun h => h
    refine goh_ ?_
    refine s_l2keyOk ?_
    cases k1 : keyOk ps[i].k with
    | false => rw [k1] at h; replace h : K (.ret (.bool false)) m1 := h; replace k1 : keyOk ⟨ps[i].k.k, ps[i].k.n, ps[i].k.f, ps[i].k.s, ps[i].k.r⟩ = false := k1; clear hg; exact gox_
    | true =>
    rw [k1, Bool.true_and] at h
    replace k1 : keyOk ⟨ps[i].k.k, ps[i].k.n, ps[i].k.f, ps[i].k.s, ps[i].k.r⟩ = true := k1
    refine goh_ ?_
    refine s_specValueOk ?_
    clear k1
    cases k2 : vok ps[i].v with
    | false => rw [k2] at h; replace h : K (.ret (.bool false)) m1 := h; replace k2 : vok ⟨ps[i].v.k, ps[i].v.n, ps[i].v.f, ps[i].v.s, ps[i].v.r⟩ = false := k2; clear hg; exact gox_
    | true =>
    rw [k2, Bool.true_and] at h
    replace k2 : vok ⟨ps[i].v.k, ps[i].v.n, ps[i].v.f, ps[i].v.s, ps[i].v.r⟩ = true := k2
    cases k3 : ps[i].v.k == 0 with
    | true => rw [k3] at h; replace h : K (.ret (.bool false)) m1 := h; clear hg; exact gox_
    | false =>
    rw [k3, Bool.not_false, Bool.true_and] at h
    by_cases k4 : last < ps[i].turn
    rotate_left
    · rw [decide_eq_false k4] at h; replace h : K (.ret (.bool false)) m1 := h
      have k4' : (ps[i].turn ≤ last) = True := by rw [eq_iff_iff, iff_true]; omega
      clear hg; exact gox_
    rw [decide_eq_true k4, Bool.true_and] at h
    replace k4 : (ps[i].turn ≤ last) = False := by rw [eq_iff_iff, iff_false]; omega
    by_cases k5 : ps[i].turn ≤ tn
    rotate_left
    · rw [decide_eq_false k5] at h; replace h : K (.ret (.bool false)) m1 := h
      have k5' : (tn < ps[i].turn) = True := by rw [eq_iff_iff, iff_true]; omega
      clear hg; exact gox_
    rw [decide_eq_true k5, Bool.true_and] at h
    replace k5 : (tn < ps[i].turn) = False := by rw [eq_iff_iff, iff_false]; omega
    refine goh_ ?_
    clear k2 k3 k4 k5
    clear hw e8 hrr hav
    refine loop_ (fun k2 t2 l2 c2 m2 => m2 = m1 ∧ ∃ (j : Nat), t2 1 = .ptr (.lc 0) 0 0 ∧ t2 5 = .ptr (.lc (c + 4)) 0 0 ∧ l2 0 = some ⟨[[AV.sl a i0 (List.map Pa.av ps).length cap, .int .i64 tn]], 2⟩ ∧ l2 (c + 4) = some ⟨[[.int .i64 ps[i].k.k, .int .i64 ps[i].k.n, .flt ps[i].k.f, .str ps[i].k.s, .int .i64 ps[i].k.r, .int .i64 ps[i].v.k, .int .i64 ps[i].v.n, .flt ps[i].v.f, .str ps[i].v.s, .int .i64 ps[i].v.r, .int .i64 ps[i].turn]], 11⟩ ∧ c + 4 < c2 ∧ t2 3 = .int .i64 ps[i].turn ∧ t2 4 = .int .i64 i ∧ t2 22 = AV.sl a i0 (List.map Pa.av ps).length cap ∧ t2 23 = .int .i64 ps.length ∧ t2 24 = .int .i64 i ∧ t2 6 = .int .i64 j ∧ j ≤ i ∧ k2 = i - j ∧ (∀ (j' : Nat) (hj' : j' < ps.length), j' < j → sameV ps[j'].k ps[i].k = false)) i ?_ ?_
    · exact ⟨rfl, 0, g1, rfl, by simp only [upd_far, q0, q0', gl], by simp [upd], by omega, rfl, rfl, g22, g23, g24, rfl, by omega, by omega, fun _ _ q => absurd q (by omega)⟩
    intro k2 t2 l2 c2 m2 KN2 ⟨hm2, j, p1, p5, pl0, pl4, pc, p3, p4, p22, p23, p24, p6, hji, hk2, hno⟩ next2
    subst hm2
    clear g1 g3 gl g22 g23 g24 q0 q0'
    obtain ⟨w0, w0'⟩ := far_of (a := 0) (c := c2) (by omega)
    obtain ⟨w4, w4'⟩ := far_of (a := c + 4) (c := c2) (by omega)
    rcases Nat.lt_or_ge j i with hj2 | hj2
    · have f8 : ((j : Int) < i) = True := by rw [eq_iff_iff, iff_true]; omega
      have f9 : ((j : Int) < ps.length) = True := by rw [eq_iff_iff, iff_true]; omega
      have hrj := fun l => hr l j (by omega)
      have hav : ps[j].av = [.int .i64 ps[j].k.k, .int .i64 ps[j].k.n, .flt ps[j].k.f, .str ps[j].k.s, .int .i64 ps[j].k.r, .int .i64 ps[j].v.k, .int .i64 ps[j].v.n, .flt ps[j].v.f, .str ps[j].v.s, .int .i64 ps[j].v.r, .int .i64 ps[j].turn] := rfl
      have hw := w64_succ hj2 (by omega)
      refine goh_ ?_
      refine draw_ [(0, .pure), (1, .read), (2, .pure), (3, .pure), (4, .pure), (5, .read), (6, .pure), (7, .read), (8, .step [])] (by kernel_rfl) ?_
      refine goh_ ?_
      refine s_specSame (hg _ (List.getElem_mem (show j < ps.length by omega))).1 (hg _ (List.getElem_mem hj)).1 ?_
      cases hsm : sameV ps[j].k ps[i].k with
      | true =>
        rw [any_yes (by omega) hj2 hsm] at h
        replace h : K (.ret (.bool false)) m2 := h
        replace hsm : sameV ⟨ps[j].k.k, ps[j].k.n, ps[j].k.f, ps[j].k.s, ps[j].k.r⟩ ⟨ps[i].k.k, ps[i].k.n, ps[i].k.f, ps[i].k.s, ps[i].k.r⟩ = true := hsm
        clear hg hno hr
        exact gox_
      | false =>
        have hno' : ∀ (j' : Nat) (hj' : j' < ps.length), j' < j + 1 → sameV ps[j'].k ps[i].k = false := fun j' hj' hlt => by
          by_cases e : j' = j
          · subst e; exact hsm
          · exact hno j' hj' (by omega)
        replace hsm : sameV ⟨ps[j].k.k, ps[j].k.n, ps[j].k.f, ps[j].k.s, ps[j].k.r⟩ ⟨ps[i].k.k, ps[i].k.n, ps[i].k.f, ps[i].k.s, ps[i].k.r⟩ = false := hsm
        clear hg hno hr
        refine goh_ ?_
        exact next2 _ _ _ _ _ (by omega) ⟨rfl, j + 1, p1, p5, by simp only [upd_far, w0, w0', pl0], by simp only [upd_far, w4, w4', pl4], by omega, p3, p4, p22, p23, p24, rfl, by omega, rfl, hno'⟩
    · have hji' : j = i := by omega
      subst hji'
      rw [any_no (by omega) hno, Bool.not_false, Bool.true_and] at h
      have f8 : ((j : Int) < j) = False := by rw [eq_iff_iff, iff_false]; omega
      have hw := w64_succ hj (show ps.length < 2 ^ 63 by omega)
      clear hg hno hr hj2
      refine goh_ ?_
      exact next _ _ _ _ _ (by omega) ⟨rfl, j + 1, _, p1, by simp only [upd_far, w0, w0', pl0], by omega, p3, p22, p23, rfl, by omega, rfl, h⟩
  · have hj : i = ps.length := by omega
    subst hj
    have e8 : ((ps.length : Int) < ps.length) = False := by rw [eq_iff_iff, iff_false]; omega
    rw [List.drop_length] at h
    replace h : K (.ret (.bool true)) m1 := h
    clear hg
    exact gox_
end Go.Proofs.Ytgfkbcmdegnneaa.IM
