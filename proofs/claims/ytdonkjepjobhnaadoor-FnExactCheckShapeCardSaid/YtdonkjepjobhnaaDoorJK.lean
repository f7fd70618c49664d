/- Whether a fn's upvalues are in shape; the plain words of the shape. -/
import Derived.Test.YtdonkjepjobhnaaDoorJI
namespace Go.Proofs.IM
open Go
def upOk (p : Pr) (u : U) : Bool := if u.loc = true then inR u.ix 0 (w64 (p.regs - 1)) else inR u.ix 0 (w64 (p.ups.length - 1))
def upsOk (p : Pr) (us : List U) : Bool := us.all (upOk p)
def totL : List Pr → Int → Int
  | [], a => a
  | p :: ps, a => totL ps (w64 (a + p.ins.length))
theorem totL_at {ps : List Pr} {i : Nat} (hi : i < ps.length) (a : Int) : totL (ps.drop i) a = totL (ps.drop (i + 1)) (w64 (a + ps[i].ins.length)) := by
  rw [List.drop_eq_getElem_cons hi]; rfl
/-- The first answer of f at i, i + 1, .. -/
def scan {α : Type} (f : Nat → Option α) : Nat → Nat → Option α
  | 0, _ => none
  | k + 1, i => match f i with
    | some x => some x
    | none => scan f k (i + 1)
theorem scan_at {α : Type} {f : Nat → Option α} {i n : Nat} (h : i < n) : scan f (n - i) i = match f i with
    | some x => some x
    | none => scan f (n - (i + 1)) (i + 1) := by
  rw [show n - i = (n - (i + 1)) + 1 by omega]; rfl
theorem scan_end {α : Type} {f : Nat → Option α} {n : Nat} : scan f (n - n) n = none := by simp [scan]
theorem scan_none {α : Type} {f : Nat → Option α} : ∀ {k i : Nat}, scan f k i = none → ∀ j, i ≤ j → j < i + k → f j = none := by
  intro k
  induction k with
  | zero => intro i _ j h1 h2; omega
  | succ k ih =>
    intro i h j h1 h2
    simp only [scan] at h
    split at h
    · cases h
    · rename_i e
      by_cases hj : j = i
      · subst hj; exact e
      · exact ih h j (by omega) (by omega)
abbrev F3 := Int × Int × Int
def F3.av (f : F3) : AV := .agg [.int .i64 f.1, .int .i64 f.2.1, .int .i64 f.2.2]
def headF (ps : List Pr) (i : Nat) : Option F3 := match ps[i]? with
  | some p => if hok p (i == 0) = true then none else some (2, i, 0)
  | none => none
def constF1 (p : Pr) (i j : Nat) : Option F3 := match p.consts[j]? with
  | some v => if cok v = true then none else some (3, i, j)
  | none => none
def constF (ps : List Pr) (i : Nat) : Option F3 := match ps[i]? with
  | some p => scan (constF1 p i) (p.consts.length - 0) 0
  | none => none
def namedF1 (p : Pr) (i j : Nat) : Option F3 := match p.named[j]? with
  | some n => if (decide ((j : Int) < 500) && nok p n) = true then none else some (4, i, j)
  | none => none
def namedF (ps : List Pr) (i : Nat) : Option F3 := match ps[i]? with
  | some p => scan (namedF1 p i) (p.named.length - 0) 0
  | none => none
def insF1 (k : Nat) (p : Pr) (i j : Nat) : Option F3 := match p.ins[j]? with
  | some x => if insS k p x (j + 1 == p.ins.length) = true then none else some (5, i, j)
  | none => none
def insF (ps : List Pr) (i : Nat) : Option F3 := match ps[i]? with
  | some p => if p.ins.length = 0 then some (5, i, 0) else scan (insF1 ps.length p i) (p.ins.length - 0) 0
  | none => none
def orF (x : Option F3) (y : F3) : F3 := match x with
  | some f => f
  | none => y
def parts5 (ps : List Pr) : F3 := orF (scan (insF ps) (ps.length - 0) 0) (0, 0, 0)
def parts4 (ps : List Pr) : F3 := orF (scan (namedF ps) (ps.length - 0) 0) (parts5 ps)
def parts3 (ps : List Pr) : F3 := orF (scan (constF ps) (ps.length - 0) 0) (parts4 ps)
def parts2 (ps : List Pr) : F3 := orF (scan (headF ps) (ps.length - 0) 0) (parts3 ps)
def partsF (ps : List Pr) : F3 := if ps.length = 0 ∨ 200 < ps.length ∨ 6000 < totL ps 0 then (1, 0, 0) else parts2 ps
theorem orF_at {f : Nat → Option F3} {i n : Nat} {y : F3} (h : i < n) : orF (scan f (n - i) i) y = orF (f i) (orF (scan f (n - (i + 1)) (i + 1)) y) := by
  rw [scan_at h]
  cases f i <;> rfl
theorem orF_end {f : Nat → Option F3} {n : Nat} {y : F3} : orF (scan f (n - n) n) y = y := by rw [scan_end]; rfl
end Go.Proofs.IM
namespace Go.Proofs.YtdonkjepjobhnaaDoor.IM
open Go Go.Proofs.IM Go.Proofs.Flt
set_option maxHeartbeats 8000000
set_option maxRecDepth 100000
theorem s_l3upsOk {s : AV} {ps : List Pr} {p : Nat} {g : Int} {m : Mem} {K : AR → Mem → Prop} (hp : PsR m s ps) (hi : p < ps.length) (hg0 : 0 ≤ g) (hg : g < ps.length) (hl : ps[g.toNat].ups.length < 2 ^ 63)
    (h : K (.ret (.bool (upsOk ps[p] ps[g.toNat].ups))) m) :
    Sim Tryd.prog 52 [.agg [s], .int .i64 p, .int .i64 g] m K := by
  refine entry (cxok []) Tryd.func52 rfl rfl (by decide) (by decide) ?_
  obtain ⟨a1, a2, a3, a4⟩ := hp.facts
  obtain ⟨a, i0, cp, B, s1, s2, s3, s4, rfl, hb, hz, hr, e1, e2, e3, e4⟩ := hp.at_ (i := g.toNat) (by omega)
  obtain ⟨a', i0', cp', B', t1, t2, t3, t4, e0, -, -, hr2, d1, -, -, -⟩ := hp.at_ hi
  obtain ⟨e0, e0', e0''⟩ : a = a' ∧ i0 = i0' ∧ cp = cp' := by cases e0; exact ⟨rfl, rfl, rfl⟩
  subst e0 e0' e0''
  have l1 := e1.len'
  have l2 := d1.len'
  rw [List.length_map] at l1 l2
  have hii : ((p : Int) < ps.length) = True := by simp; omega
  refine goh_ ?_
  refine loop_ (fun k t l c m' => m' = m ∧ ∃ (i : Nat), t 1 = .int .i64 p ∧ t 3 = .ptr (.lc 0) 0 0 ∧ l 0 = some ⟨[[.sl a i0 ps.length cp]], 1⟩ ∧ 1 ≤ c ∧ t 14 = s1 ∧ t 15 = .int .i64 ps[g.toNat].ups.length ∧ t 16 = .int .i64 i ∧ i ≤ ps[g.toNat].ups.length ∧ k = ps[g.toNat].ups.length - i ∧ (ps[g.toNat].ups.take i).all (upOk ps[p]) = true) ps[g.toNat].ups.length ?_ ?_
  · exact ⟨rfl, 0, rfl, rfl, rfl, by omega, rfl, rfl, rfl, by omega, by omega, by simp⟩
  intro k t l c m KN ⟨hm, i, h1, h3, hl0, hc1, h14, h15, h16, hi', hk, hall⟩ next
  subst hm
  have q0 : (0 == c) = false := by simp; omega
  have q1 : ∀ k, (0 == c + k) = false := by intro k; simp; omega
  refine goh_ ?_
  refine ⟨fun hc => ?_, fun hc => ?_⟩
  · have hj : i < ps[g.toNat].ups.length := by omega
    obtain ⟨a5, i5, c5, B5, rfl, hb5, hz5, hr5⟩ := e1.some_ (j := i) (by simpa using hj)
    have hr5 := fun l => hr5 l i (by simpa using hj)
    simp only [List.getElem_map] at hr5
    have hw := w64_succ hj hl
    have hall' : upOk ps[p] ps[g.toNat].ups[i] = true → (ps[g.toNat].ups.take (i + 1)).all (upOk ps[p]) = true := by
      intro hh
      rw [List.take_succ_eq_append_getElem hj, List.all_append, hall]; simp [hh]
    have hno : upOk ps[p] ps[g.toNat].ups[i] = false → upsOk ps[p] ps[g.toNat].ups = false := by
      intro hh
      simp only [upsOk, List.all_eq_false]
      exact ⟨_, List.getElem_mem hj, by simp [hh]⟩
    refine goh_ ?_
    refine draw_ [(0, .pure), (1, .read), (2, .pure), (3, .pure), (4, .read), (5, .pure), (6, .read), (7, .pure), (8, .pure), (9, .pure), (10, .read), (11, .pure), (12, .step []), (13, .pure), (14, .pure), (15, .pure), (16, .pure), (17, .read), (18, .pure), (19, .pure), (20, .pure), (21, .read), (22, .pure), (23, .read), (24, .pure), (25, .pure), (26, .pure), (27, .read), (28, .pure), (29, .pure), (30, .step []), (31, .pure), (32, .pure), (33, .pure)] (by kernel_rfl) ?_
    have go : ∀ (b : Bool) (t' : Nat → AV) (l' : IM.Loc) (c' : Nat), upOk ps[p] ps[g.toNat].ups[i] = b → t' 1 = .int .i64 p → t' 3 = .ptr (.lc 0) 0 0 → l' 0 = some ⟨[[.sl a i0 ps.length cp]], 1⟩ → 1 ≤ c' → t' 14 = .sl a5 i5 ps[g.toNat].ups.length c5 → t' 15 = .int .i64 ps[g.toNat].ups.length → t' 16 = .int .i64 ((i + 1 : Nat) : Int) → ((!b) = false → KN ⟨t', l', c'⟩ m) ∧ ((!b) = true → K (.ret (.bool false)) m) := by
      intro b t' l' c' hb g1 g3 g0 gc g14 g15 g16
      refine ⟨fun q => next _ _ _ _ _ (by omega) ⟨rfl, i + 1, g1, g3, g0, gc, by rw [g14, List.length_map], g15, g16, by omega, rfl, hall' (by rw [hb]; simpa using q)⟩, fun q => ?_⟩
      rw [hno (by rw [hb]; simpa using q)] at h
      exact h
    cases hloc : ps[g.toNat].ups[i].loc with
    | true =>
      refine goh_ ?_
      refine s_l3in ?_
      refine goh_ ?_
      exact go _ _ _ _ (by simp only [upOk, hloc, if_true]) h1 h3 (by simp only [upd_far, q0, q1, hl0]) (by omega) (h14.trans (by rw [List.length_map])) h15 rfl
    | false =>
      refine goh_ ?_
      refine s_l3in ?_
      refine goh_ ?_
      exact And.symm (go _ _ _ _ (by simp [upOk, hloc, w64]) h1 h3 (by simp only [upd_far, q0, q1, hl0]) (by omega) (h14.trans (by rw [List.length_map])) h15 rfl)
  · have hj : i = ps[g.toNat].ups.length := by omega
    rw [hj, List.take_length] at hall
    rw [show upsOk ps[p] ps[g.toNat].ups = true from hall] at h
    exact gox_
end Go.Proofs.YtdonkjepjobhnaaDoor.IM
