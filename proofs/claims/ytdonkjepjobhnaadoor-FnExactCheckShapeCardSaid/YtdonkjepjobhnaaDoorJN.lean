/- The shape of a code, and what follows of it; the reference's CheckShape. -/
import Derived.Test.YtdonkjepjobhnaaDoorJL
namespace Go.Proofs.IM
open Go
theorem scan_some {α : Type} {f : Nat → Option α} {x : α} : ∀ {k i : Nat}, scan f k i = some x → ∃ j, i ≤ j ∧ j < i + k ∧ f j = some x := by
  intro k
  induction k with
  | zero => intro i h; cases h
  | succ k ih =>
    intro i h
    simp only [scan] at h
    split at h
    · rename_i e; cases h; exact ⟨i, by omega, by omega, e⟩
    · obtain ⟨j, h1, h2, h3⟩ := ih h
      exact ⟨j, by omega, by omega, h3⟩
/-- What stands when a code has passed the first five looks. -/
structure Parts (ps : List Pr) : Prop where
  n0 : ps.length ≠ 0
  n1 : ps.length ≤ 200
  tot : totL ps 0 ≤ 6000
  head : ∀ (i : Nat) (h : i < ps.length), hok ps[i] (i == 0) = true
  cst : ∀ (i : Nat) (h : i < ps.length) (j : Nat) (h' : j < ps[i].consts.length), cok ps[i].consts[j] = true
  nam : ∀ (i : Nat) (h : i < ps.length) (j : Nat) (h' : j < ps[i].named.length), (decide ((j : Int) < 500) && nok ps[i] ps[i].named[j]) = true
  ins0 : ∀ (i : Nat) (h : i < ps.length), ps[i].ins.length ≠ 0
  ins : ∀ (i : Nat) (h : i < ps.length) (j : Nat) (h' : j < ps[i].ins.length), insS ps.length ps[i] ps[i].ins[j] (j + 1 == ps[i].ins.length) = true
theorem orF_zero {x : Option F3} {y : F3} (hx : ∀ f, x = some f → f.1 ≠ 0) (h : (orF x y).1 = 0) : x = none ∧ y.1 = 0 := by
  cases x with
  | none => exact ⟨rfl, h⟩
  | some f => exact (hx f rfl h).elim
theorem shape_parts {ps : List Pr} (h : (partsF ps).1 = 0) : Parts ps ∧ partsF ps = (0, 0, 0) := by
  by_cases g : ps.length = 0 ∨ 200 < ps.length ∨ 6000 < totL ps 0
  · simp only [partsF, if_pos g] at h; cases h
  have e : partsF ps = parts2 ps := by simp only [partsF, if_neg g]
  rw [e] at h ⊢
  have k2 : ∀ i f, headF ps i = some f → f.1 ≠ 0 := by
    intro i f hf
    unfold headF at hf
    split at hf
    · split at hf <;> cases hf; simp
    · cases hf
  have k3' : ∀ p i j f, constF1 p i j = some f → f.1 ≠ 0 := by
    intro p i j f hf
    unfold constF1 at hf
    split at hf
    · split at hf <;> cases hf; simp
    · cases hf
  have k3 : ∀ i f, constF ps i = some f → f.1 ≠ 0 := by
    intro i f hf
    unfold constF at hf
    split at hf
    · obtain ⟨j, -, -, hj⟩ := scan_some hf; exact k3' _ _ _ _ hj
    · cases hf
  have k4' : ∀ p i j f, namedF1 p i j = some f → f.1 ≠ 0 := by
    intro p i j f hf
    unfold namedF1 at hf
    split at hf
    · split at hf <;> cases hf; simp
    · cases hf
  have k4 : ∀ i f, namedF ps i = some f → f.1 ≠ 0 := by
    intro i f hf
    unfold namedF at hf
    split at hf
    · obtain ⟨j, -, -, hj⟩ := scan_some hf; exact k4' _ _ _ _ hj
    · cases hf
  have k5' : ∀ n p i j f, insF1 n p i j = some f → f.1 ≠ 0 := by
    intro n p i j f hf
    unfold insF1 at hf
    split at hf
    · split at hf <;> cases hf; simp
    · cases hf
  have k5 : ∀ i f, insF ps i = some f → f.1 ≠ 0 := by
    intro i f hf
    unfold insF at hf
    split at hf
    · split at hf
      · cases hf; simp
      · obtain ⟨j, -, -, hj⟩ := scan_some hf; exact k5' _ _ _ _ _ hj
    · cases hf
  have sc : ∀ {F : Nat → Option F3} {k i : Nat}, (∀ i f, F i = some f → f.1 ≠ 0) → ∀ f, scan F k i = some f → f.1 ≠ 0 := fun hF f hf => let ⟨j, _, _, hj⟩ := scan_some hf; hF j f hj
  have h2 := h
  unfold parts2 at h2
  obtain ⟨s2, h3⟩ := orF_zero (sc k2) h2
  have h3' := h3
  unfold parts3 at h3
  obtain ⟨s3, h4⟩ := orF_zero (sc k3) h3
  have h4' := h4
  unfold parts4 at h4
  obtain ⟨s4, h5⟩ := orF_zero (sc k4) h4
  have h5' := h5
  unfold parts5 at h5
  obtain ⟨s5, -⟩ := orF_zero (sc k5) h5
  have n2 := fun i (hi : i < ps.length) => scan_none s2 i (by omega) (by omega)
  have n3 := fun i (hi : i < ps.length) => scan_none s3 i (by omega) (by omega)
  have n4 := fun i (hi : i < ps.length) => scan_none s4 i (by omega) (by omega)
  have n5 := fun i (hi : i < ps.length) => scan_none s5 i (by omega) (by omega)
  refine ⟨⟨fun q => g (.inl q), by omega, by omega, fun i hi => ?_, fun i hi j hj => ?_, fun i hi j hj => ?_, fun i hi q => ?_, fun i hi j hj => ?_⟩, ?_⟩
  · have := n2 i hi
    rw [headF_eq hi] at this
    split at this
    · rename_i q; exact q
    · simp at this
  · have := n3 i hi
    rw [constF_eq hi] at this
    have := scan_none this j (by omega) (by omega)
    rw [constF1_eq hj] at this
    split at this
    · rename_i q; exact q
    · simp at this
  · have := n4 i hi
    rw [namedF_eq hi] at this
    have := scan_none this j (by omega) (by omega)
    rw [namedF1_eq hj] at this
    split at this
    · rename_i q; exact q
    · simp at this
  · have := n5 i hi
    rw [insF_eq hi, if_pos q] at this
    simp at this
  · have := n5 i hi
    rw [insF_eq hi, if_neg (by omega)] at this
    have := scan_none this j (by omega) (by omega)
    rw [insF1_eq hj] at this
    split at this
    · rename_i q; exact q
    · simp at this
  · unfold parts2 parts3 parts4 parts5
    rw [s2, s3, s4, s5]; rfl
theorem Parts.fn {ps : List Pr} (h : Parts ps) {i j : Nat} (hi : i < ps.length) (hj : j < ps[i].ins.length) (hop : ps[i].ins[j].op = 11) : 0 ≤ ps[i].ins[j].b ∧ ps[i].ins[j].b < ps.length := by
  have := h.ins i hi j hj
  have n1 := h.n1
  simp only [insS, hop, rolesL, roleTab, List.lookup] at this
  simp [fits, inR] at this
  have hw : w64 ((ps.length : Int) - 1) = (ps.length : Int) - 1 := w64_id (by omega)
  rw [hw] at this
  omega
def bo (b : Bool) : List AV := [.bool b]
def bad6 (ps : List Pr) (i : Nat) (x : I) (made : List Bool) : Bool := decide (x.b ≤ i) || made.getD x.b.toNat true || !(match ps[i]?, ps[x.b.toNat]? with
  | some p, some q => upsOk p q.ups
  | _, _ => false)
def ins6 (ps : List Pr) (i : Nat) : List I → Nat → List Bool → F3 ⊕ List Bool
  | [], _, made => .inr made
  | x :: xs, j, made => if x.op ≠ 11 then ins6 ps i xs (j + 1) made else if bad6 ps i x made = true then .inl (6, i, j) else ins6 ps i xs (j + 1) (made.set x.b.toNat true)
def all6 (ps : List Pr) : List Pr → Nat → List Bool → F3 ⊕ List Bool
  | [], _, made => .inr made
  | p :: r, i, made => match ins6 ps i p.ins 0 made with
    | .inl f => .inl f
    | .inr made => all6 ps r (i + 1) made
def last7 (made : List Bool) (i : Nat) : Option F3 := if made.getD i true = true then none else some (7, i, 0)
def end7 (n : Nat) : F3 ⊕ List Bool → F3
  | .inl f => f
  | .inr made => orF (scan (last7 made) (n - 1) 1) (0, 0, 0)
def cont6 (ps : List Pr) (r : List Pr) (i : Nat) : F3 ⊕ List Bool → F3 ⊕ List Bool
  | .inl f => .inl f
  | .inr made => all6 ps r (i + 1) made
theorem all6_at {ps qs : List Pr} {i : Nat} (h : i < qs.length) (made : List Bool) : all6 ps (qs.drop i) i made = cont6 ps (qs.drop (i + 1)) i (ins6 ps i (qs[i].ins.drop 0) 0 made) := by
  rw [List.drop_eq_getElem_cons h, all6, List.drop_zero]
  cases ins6 ps i qs[i].ins 0 made <;> rfl
theorem ins6_at {ps : List Pr} {xs : List I} {i j : Nat} (h : j < xs.length) (made : List Bool) : ins6 ps i (xs.drop j) j made = if xs[j].op ≠ 11 then ins6 ps i (xs.drop (j + 1)) (j + 1) made else if bad6 ps i xs[j] made = true then .inl (6, i, j) else ins6 ps i (xs.drop (j + 1)) (j + 1) (made.set xs[j].b.toNat true) := by
  rw [List.drop_eq_getElem_cons h, ins6]
theorem bad6_eq {ps : List Pr} {i : Nat} {x : I} {made : List Bool} (hi : i < ps.length) (hx : x.b.toNat < ps.length) : bad6 ps i x made = (decide (x.b ≤ i) || made.getD x.b.toNat true || !(upsOk ps[i] ps[x.b.toNat].ups)) := by
  simp only [bad6, List.getElem?_eq_getElem hi, List.getElem?_eq_getElem hx]
def shapeF (ps : List Pr) : F3 := if (partsF ps).1 ≠ 0 then partsF ps else end7 ps.length (all6 ps ps 0 (List.replicate ps.length false))
theorem bo_get {made : List Bool} {i : Nat} (h : i < made.length) : (made.map bo)[i]? = some [.bool (made.getD i true)] := by simp [bo, h]
theorem bo_set {made : List Bool} {i : Nat} : (made.map bo).set i [.bool true] = (made.set i true).map bo := by rw [List.map_set]; rfl
end Go.Proofs.IM
namespace Go.Proofs.YtdonkjepjobhnaaDoor.IM
open Go Go.Proofs.IM Go.Proofs.Flt
set_option maxHeartbeats 16000000
set_option maxRecDepth 100000
theorem s_specCheckShape {s : AV} {ps : List Pr} {m : Mem} {K : AR → Mem → Prop} (hp : PsR m s ps) (hl : ps.length < 2 ^ 63) (hL : ∀ p ∈ ps, p.ok)
    (h : ∀ m', m.le m' → K (.ret (shapeF ps).av) m') :
    Sim Tryd.prog 22 [.agg [s]] m K := by
  refine entry (cxok []) Tryd.func22 rfl rfl (by decide) (by decide) ?_
  obtain ⟨a1, a2, a3, a4⟩ := hp.facts
  refine goh_ ?_
  refine s_l3parts hp hl hL ?_
  intro m0 hm0
  replace h := fun m' (hm' : m0.le m') => h m' (hm0.trans hm')
  replace hp := hp.mono hm0
  have hlen := hp.len'
  clear hm0
  simp only [F3.av]
  by_cases g : (partsF ps).1 = 0
  rotate_left
  · have h := h _ (Mem.le.refl _)
    simp only [shapeF, if_pos g] at h
    simp only [F3.av] at h
    have e : ((partsF ps).1 != 0) = true := by simpa using g
    exact gox_
  obtain ⟨hP, hE⟩ := shape_parts g
  simp only [shapeF, hE] at h
  simp only [ne_eq, not_true, if_false] at h
  rw [hE]
  have n1 := hP.n1
  refine goh_ ?_
  refine ⟨by omega, ?_⟩
  have hlenp := (hp.mono (Mem.le.push m0 ⟨List.replicate ps.length [.bool false], 1⟩)).len'
  refine goh_ ?_
  have hrep : List.replicate ps.length [AV.bool false] = (List.replicate ps.length false).map bo := by rw [List.map_replicate]; rfl
  refine loop_ (fun k t l c m1 => ∃ (i : Nat) (made : List Bool), made.length = ps.length ∧ m1 = m0.push ⟨made.map bo, 1⟩ ∧ Two t l c s ∧ t 4 = .sl (.hp m0.hp.length) 0 ps.length ps.length ∧ t 21 = s ∧ t 22 = .int .i64 ps.length ∧ t 23 = .int .i64 i ∧ i ≤ ps.length ∧ k = ps.length - i ∧ all6 ps (ps.drop i) i made = all6 ps ps 0 (List.replicate ps.length false)) ps.length ?_ ?_
  · exact ⟨0, List.replicate ps.length false, by simp, by rw [← hrep], ⟨rfl, rfl, rfl, rfl, by omega⟩, rfl, rfl, rfl, rfl, by omega, by omega, rfl⟩
  intro k t l c m1 KN ⟨i, made, hml, hm1, ⟨h1, h2, hl0, hl1, hc⟩, h4, h21, h22, h23, hi, hk, hS⟩ next
  subst m1
  have hp1 := hp.mono (Mem.le.push m0 ⟨made.map bo, 1⟩)
  have hlen1 := hp1.len'
  obtain ⟨q0, q0'⟩ := far_of (a := 0) (c := c) (by omega)
  obtain ⟨q1, q1'⟩ := far_of (a := 1) (c := c) (by omega)
  refine goh_ ?_
  refine ⟨fun hd => ?_, fun hd => ?_⟩
  · have hj : i < ps.length := by omega
    obtain ⟨a, i0, c', B, s1, s2, s3, s4, rfl, hb, hz, hr, e1, e2, e3, e4⟩ := hp.at_ hj
    obtain ⟨b1, b2, b3, b4⟩ := e1.facts
    obtain ⟨c1, c2, c3, c4⟩ := e2.facts
    obtain ⟨d1, d2, d3, d4⟩ := e3.facts
    obtain ⟨f1, f2, f3, f4⟩ := e4.facts
    have hw := w64_succ hj hl
    have hb1 := fun l => blk?_mono (Mem.le.push m0 ⟨made.map bo, 1⟩) (hb l)
    have hr1 := fun l => row?_mono (Mem.le.push m0 ⟨made.map bo, 1⟩) (hr l)
    have l3 := (e3.mono (Mem.le.push m0 ⟨made.map bo, 1⟩)).len'
    rw [List.length_map] at l3
    have hl3 := (hL ps[i] (by simp)).2.2.1
    rw [all6_at hj] at hS
    refine goh_ ?_
    refine loop_ (fun k t l c2 m1 => ∃ (j : Nat) (made : List Bool), made.length = ps.length ∧ m1 = m0.push ⟨made.map bo, 1⟩ ∧ Two t l c2 (.sl a i0 ps.length c') ∧ t 4 = .sl (.hp m0.hp.length) 0 ps.length ps.length ∧ t 21 = .sl a i0 ps.length c' ∧ t 22 = .int .i64 ps.length ∧ t 23 = .int .i64 i ∧ t 5 = .int .i64 i ∧ t 29 = s3 ∧ t 30 = .int .i64 ps[i].ins.length ∧ t 31 = .int .i64 j ∧ j ≤ ps[i].ins.length ∧ k = ps[i].ins.length - j ∧ cont6 ps (ps.drop (i + 1)) i (ins6 ps i (ps[i].ins.drop j) j made) = all6 ps ps 0 (List.replicate ps.length false)) ps[i].ins.length ?_ ?_
    · exact ⟨0, made, hml, rfl, ⟨h1, h2, by simp only [upd_far, q0, q0', hl0], by simp only [upd_far, q1, q1', hl1], by omega⟩, h4, h21, h22, h23, rfl, rfl, rfl, rfl, by omega, by omega, hS⟩
    clear hS h4 h21 h22 h23 h1 h2 hl0 hl1 q0 q0' q1 q1' hb hr hb1 hr1 e1 e2 e4 l3 hlen1 hp1 hml made
    intro k t l c2 m1 KN2 ⟨j, made, hml, hm1, ⟨h1, h2, hl0, hl1, hc2⟩, h4, h21, h22, h23, h5, h29, h30, h31, hj', hk', hS⟩ next2
    subst m1
    have hp1 := hp.mono (Mem.le.push m0 ⟨made.map bo, 1⟩)
    have e3' := e3.mono (Mem.le.push m0 ⟨made.map bo, 1⟩)
    obtain ⟨q0, q0'⟩ := far_of (a := 0) (c := c2) (by omega)
    obtain ⟨q1, q1'⟩ := far_of (a := 1) (c := c2) (by omega)
    refine goh_ ?_
    refine ⟨fun hd2 => ?_, fun hd2 => ?_⟩
    · have hjc : j < ps[i].ins.length := by omega
      have hw5 := w64_succ hjc hl3
      obtain ⟨a5, i5, c5, B5, rfl, hb5, hz5, hr5⟩ := e3'.some_ (j := j) (by simpa using hjc)
      have hr5 := fun l => hr5 l j (by simpa using hjc)
      simp only [List.getElem_map] at hr5
      rw [ins6_at hjc] at hS
      by_cases hop : ps[i].ins[j].op = 11
      rotate_left
      · rw [if_pos hop] at hS
        have e : (ps[i].ins[j].op != 11) = true := by simpa using hop
        refine goh_ ?_
        exact next2 _ _ _ _ _ (by omega) ⟨j + 1, made, hml, rfl, ⟨h1, h2, by simp only [upd_far, q0, q0', hl0], by simp only [upd_far, q1, q1', hl1], by omega⟩, h4, h21, h22, h23, h5, h29, h30, rfl, by omega, rfl, hS⟩
      obtain ⟨r1, r2⟩ := hP.fn hj hjc hop
      rw [if_neg (by simpa using hop), bad6_eq hj (by omega)] at hS
      have e : (ps[i].ins[j].op != 11) = false := by simpa using hop
      have hbg := bo_get (made := made) (i := ps[i].ins[j].b.toNat) (by omega)
      have hbs := bo_set (made := made) (i := ps[i].ins[j].b.toNat)
      by_cases c1 : ps[i].ins[j].b ≤ i
      · have h := h _ (Mem.le.push m0 ⟨made.map bo, 1⟩)
        simp only [decide_eq_true c1, Bool.true_or, if_true, cont6] at hS
        rw [← hS] at h
        simp only [end7, F3.av] at h
        refine goh_ ?_
        refine s_l3fault ?_
        exact gox_
      have c1' : decide (ps[i].ins[j].b ≤ (i : Int)) = false := by simpa using c1
      cases c2 : made.getD ps[i].ins[j].b.toNat true with
      | true =>
        have h := h _ (Mem.le.push m0 ⟨made.map bo, 1⟩)
        simp only [c2, Bool.or_true, Bool.true_or, if_true, cont6] at hS
        rw [← hS] at h
        simp only [end7, F3.av] at h
        rw [c2] at hbg
        refine goh_ ?_
        refine s_l3fault ?_
        exact gox_
      | false =>
        rw [c2] at hbg
        refine goh_ ?_
        refine s_l3upsOk hp1 hj r1 r2 (hL _ (by simp)).1 ?_
        cases c3 : upsOk ps[i] ps[ps[i].ins[j].b.toNat].ups with
        | false =>
          have h := h _ (Mem.le.push m0 ⟨made.map bo, 1⟩)
          simp only [c3, Bool.not_false, Bool.or_true, if_true, cont6] at hS
          rw [← hS] at h
          simp only [end7, F3.av] at h
          refine goh_ ?_
          refine s_l3fault ?_
          exact gox_
        | true =>
          simp only [c1', c2, c3, Bool.not_true, Bool.or_false, Bool.false_eq_true, if_false] at hS
          refine goh_ ?_
          exact next2 _ _ _ _ _ (by omega) ⟨j + 1, made.set ps[i].ins[j].b.toNat true, by simp [hml], rfl, ⟨h1, h2, by simp only [upd_far, q0, q0', hl0], by simp only [upd_far, q1, q1', hl1], by omega⟩, h4, h21, h22, h23, h5, h29, h30, rfl, by omega, rfl, hS⟩
    · rw [show j = ps[i].ins.length by omega, List.drop_length] at hS
      simp only [ins6, cont6] at hS
      exact next _ _ _ _ _ (by omega) ⟨i + 1, made, hml, rfl, ⟨h1, h2, hl0, hl1, by omega⟩, h4, h21, h22, rfl, by omega, rfl, hS⟩
  rw [show i = ps.length by omega, List.drop_length] at hS
  simp only [all6] at hS
  rw [← hS] at h
  simp only [end7] at h
  clear next h21 h22 h23 hd hk hi hS
  refine loop_ (fun k t l c m1 => m1 = m0.push ⟨made.map bo, 1⟩ ∧ ∃ (i : Nat), Two t l c s ∧ t 4 = .sl (.hp m0.hp.length) 0 ps.length ps.length ∧ t 9 = .int .i64 i ∧ i ≤ ps.length ∧ k = ps.length - i ∧ orF (scan (last7 made) (ps.length - i) i) (0, 0, 0) = orF (scan (last7 made) (ps.length - 1) 1) (0, 0, 0)) (ps.length - 1) ?_ ?_
  · exact ⟨rfl, 1, ⟨h1, h2, by simp only [upd_far, q0, q0', hl0], by simp only [upd_far, q1, q1', hl1], by omega⟩, h4, rfl, by have := hP.n0; omega, by omega, rfl⟩
  clear h1 h2 hl0 hl1 hc q0 q0' q1 q1' h4
  intro k t l c m1 KN ⟨hm, i, ⟨h1, h2, hl0, hl1, hc⟩, h4, h9, hi, hk, hS⟩ next
  subst m1
  obtain ⟨q0, q0'⟩ := far_of (a := 0) (c := c) (by omega)
  obtain ⟨q1, q1'⟩ := far_of (a := 1) (c := c) (by omega)
  refine goh_ ?_
  refine ⟨fun hd => ?_, fun hd => ?_⟩
  · have hj : i < ps.length := by omega
    have hw := w64_succ hj hl
    have hbg := bo_get (made := made) (i := i) (by omega)
    rw [orF_at hj] at hS
    cases c2 : made.getD i true with
    | true =>
      rw [c2] at hbg
      simp only [last7, c2, if_true] at hS
      refine goh_ ?_
      exact next _ _ _ _ _ (by omega) ⟨rfl, i + 1, ⟨h1, h2, hl0, hl1, by omega⟩, h4, rfl, by omega, rfl, hS⟩
    | false =>
      rw [c2] at hbg
      simp only [last7, c2, Bool.false_eq_true, if_false] at hS
      have h := h _ (Mem.le.push m0 ⟨made.map bo, 1⟩)
      rw [← hS] at h
      simp only [F3.av, orF] at h
      refine goh_ ?_
      refine s_l3fault ?_
      exact gox_
  have h := h _ (Mem.le.push m0 ⟨made.map bo, 1⟩)
  rw [show i = ps.length by omega, orF_end] at hS
  rw [← hS] at h
  simp only [F3.av] at h
  exact gox_
end Go.Proofs.YtdonkjepjobhnaaDoor.IM
