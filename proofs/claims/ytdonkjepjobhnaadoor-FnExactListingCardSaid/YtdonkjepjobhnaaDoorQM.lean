/- Walks and laws, joined into one text. -/
import Derived.Test.YtdonkjepjobhnaaDoorQB
import Derived.Test.YtdonkjepjobhnaaDoorQA
set_option linter.unusedSimpArgs false
set_option linter.unusedVariables false
set_option linter.unnecessarySimpa false
namespace Go.Proofs.IM
open Go Go.Proofs.Flt
def mkU (k : Nat) : U := ⟨((k : Int).tmod 3 == 0), ((k + 1 : Nat) : Int)⟩
def mkV (k : Nat) : V := ⟨(k : Int), ((k + 1 : Nat) : Int), i2f ((k + 2 : Nat) : Int), mT (k + 3), ((k + 4 : Nat) : Int)⟩
def mkI (k : Nat) : I := ⟨(k : Int), ((k + 1 : Nat) : Int), ((k + 2 : Nat) : Int), ((k + 3 : Nat) : Int), ((k + 4 : Nat) : Int)⟩
def mkN (k : Nat) : Nm := ⟨mT k, ((k + 1 : Nat) : Int), ((k + 2 : Nat) : Int), ((k + 3 : Nat) : Int)⟩
/-- The rows of one's own slice of n elements are told. -/
theorem SlO.cases {m : Mem} {z : Nat} {s : AV} {rs : List (List AV)} {own : List Nat} (h : SlO m z s rs own) : (s = .nils ∧ rs = [] ∧ own = []) ∨ ∃ (j c : Nat) (rows : List (List AV)), s = .sl (.hp j) 0 rs.length c ∧ m.hp[j]? = some ⟨rows, z⟩ ∧ rs.length ≤ rows.length ∧ rows.take rs.length = rs ∧ own = [j] := by
  rcases h with h | ⟨j, n, c, B, rfl, h1, h2, h3, h4, h5⟩
  · exact .inl h
  · obtain ⟨rows, sz⟩ := B
    simp only at h2 h3 h4
    subst h2
    have e : rs.length = n := by rw [← h4]; simp; omega
    exact .inr ⟨j, c, rows, by rw [e], h1, by omega, by rw [e]; exact h4, h5⟩
theorem take_get {rows rs : List (List AV)} {i : Nat} (h : rows.take rs.length = rs) (hi : i < rs.length) : rows[i]? = some rs[i] := by
  have : (rows.take rs.length)[i]? = rs[i]? := by rw [h]
  rw [List.getElem?_take_of_lt hi] at this
  rw [this]; simp [hi]
end Go.Proofs.IM
namespace Go.Proofs.YtdonkjepjobhnaaDoor.IM
open Go Go.Proofs.IM Go.Proofs.Flt
set_option maxHeartbeats 8000000
set_option maxRecDepth 100000
theorem s_markUpS {s : AV} {xs : List U} {own : List Nat} {k : Nat} {m : Mem} {K : AR → Mem → Prop} (hs : SlO m 2 s (xs.map U.av) own) (hl : xs.length ≤ 2 ^ 30) (hk1 : 1 ≤ k) (hk : k ≤ 2 ^ 38)
    (h : ∀ m', Ch own m m' → SlO m' 2 s ((mkL mkU 2 k xs.length).map U.av) own → K (.ret (.int .i64 ((k + 2 * xs.length : Nat) : Int))) m') : Sim Tryd.prog 106 [s, .int .i64 k] m K := by
  refine entry (cxok []) Tryd.func106 rfl rfl (by decide) (by decide) ?_
  rcases hs.cases with ⟨rfl, hx, rfl⟩ | ⟨j, c0, rows, rfl, b1, b2, b3, rfl⟩
  · have : xs = [] := by simpa using hx
    subst this
    have h := h m (Ch.refl _ _) (.inl ⟨rfl, rfl, rfl⟩)
    simp only [List.length_nil, Nat.mul_zero, Nat.add_zero] at h
    refine goh_ ?_
    refine loop_n (KN0 := fun _ _ => True) 1 ?_
    rw [rounds_s]
    exact gox_
  clear hs
  rw [List.length_map] at b2
  have hjl : j < m.hp.length := (List.getElem?_eq_some_iff.1 b1).1
  refine goh_ ?_
  refine loop_ (fun k' t l c m' => ∃ (i : Nat), t 0 = .sl (.hp j) 0 xs.length c0 ∧ t 1 = .int .i64 ((k + 2 * i : Nat) : Int) ∧ t 5 = .int .i64 i ∧ Ch [j] m m' ∧ m'.hp[j]? = some ⟨mkRows (fun a => (mkU a).av) 2 k rows i, 2⟩ ∧ i ≤ xs.length ∧ k' = xs.length - i) xs.length ?_ ?_
  · exact ⟨0, by rw [← List.length_map (f := U.av)]; rfl, rfl, rfl, Ch.refl _ _, by rw [mkRows_0, b1], by omega, by omega⟩
  intro k' t l c m1 KN ⟨i, g0, g1, g5, hch, hb, hi, hk'⟩ next
  have hjl' : j < m1.hp.length := by rw [hch.len]; exact hjl
  rcases Nat.lt_or_ge i xs.length with hj | hj
  · have e8 : ((i : Int) < xs.length) = True := by rw [eq_iff_iff, iff_true]; omega
    have e0 : (0 ≤ (i : Int) ∧ (i : Int) < xs.length) = True := by rw [eq_iff_iff, iff_true]; omega
    have e1 : (mkRows (fun a => (mkU a).av) 2 k rows i)[i]? = some xs[i].av := by
      rw [mkRows_get, take_get b3 (by rw [List.length_map]; exact hj)]; simp
    have hs1 : ∀ B, (m1.hp.set j B)[j]? = some B := fun B => by simp [hjl']
    have hs2 : ∀ A B, (m1.hp.set j A).set j B = m1.hp.set j B := fun A B => by simp
    have hrl : i < (mkRows (fun a => (mkU a).av) 2 k rows i).length := by rw [mkRows_len (by omega)]; omega
    have hs3 : ∀ r, ((mkRows (fun a => (mkU a).av) 2 k rows i).set i r)[i]? = some r := fun r => by simp [hrl]
    have hs4 : ∀ a b, ((mkRows (fun a => (mkU a).av) 2 k rows i).set i a).set i b = (mkRows (fun a => (mkU a).av) 2 k rows i).set i b := fun a b => by simp
    have e3 : (mkRows (fun a => (mkU a).av) 2 k rows i).set i (mkU (k + 2 * i)).av = mkRows (fun a => (mkU a).av) 2 k rows (i + 1) := mkRows_set (by omega)
    have e9 : k + 2 * (i + 1) = k + 2 * i + 2 := by omega
    have hq : k + 2 * i ≤ 2 ^ 39 := by omega
    have hw := w64_succ hj (by omega)
    generalize hqd : k + 2 * i = q at e3 hq g1 e9
    have i0 : w64 (((q : Nat) : Int) + 1) = ((q + 1 : Nat) : Int) := by rw [w64_id (by omega)]; omega
    have i1 : w64 (((q + 1 : Nat) : Int) + 1) = ((q + 2 : Nat) : Int) := by rw [w64_id (by omega)]; omega
    have hav : (mkU q).av = [.bool ((q : Int).tmod 3 == 0), .int .i64 ((q + 1 : Nat) : Int)] := rfl
    rw [hav] at e3
    generalize hR : mkRows (fun a => (mkU a).av) 2 k rows i = R at e1 hs3 hs4 e3 hb
    clear hrl hR hqd
    refine goh_ ?_
    exact next _ _ _ _ _ (by omega) ⟨i + 1, g0, by rw [e9]; rfl, rfl, hch.set (by simp) _, by simp only [hs1]; rfl, by omega, rfl⟩
  · have hj : i = xs.length := by omega
    subst hj
    have e8 : ((xs.length : Int) < xs.length) = False := by rw [eq_iff_iff, iff_false]; omega
    have h := h m1 hch (.inr ⟨j, xs.length, c0, _, by rw [List.length_map], hb, rfl, by rw [mkRows_len (by omega)]; omega, by rw [mkRows_take (by omega), mkL_map]; rfl, rfl⟩)
    exact gox_
theorem s_markValueS {s : AV} {xs : List V} {own : List Nat} {k : Nat} {m : Mem} {K : AR → Mem → Prop} (hs : SlO m 5 s (xs.map V.av) own) (hl : xs.length ≤ 2 ^ 30) (hk1 : 1 ≤ k) (hk : k ≤ 2 ^ 38)
    (h : ∀ m', Ch own m m' → SlO m' 5 s ((mkL mkV 5 k xs.length).map V.av) own → K (.ret (.int .i64 ((k + 5 * xs.length : Nat) : Int))) m') : Sim Tryd.prog 107 [s, .int .i64 k] m K := by
  refine entry (cxok []) Tryd.func107 rfl rfl (by decide) (by decide) ?_
  rcases hs.cases with ⟨rfl, hx, rfl⟩ | ⟨j, c0, rows, rfl, b1, b2, b3, rfl⟩
  · have : xs = [] := by simpa using hx
    subst this
    have h := h m (Ch.refl _ _) (.inl ⟨rfl, rfl, rfl⟩)
    simp only [List.length_nil, Nat.mul_zero, Nat.add_zero] at h
    refine goh_ ?_
    refine loop_n (KN0 := fun _ _ => True) 1 ?_
    rw [rounds_s]
    exact gox_
  clear hs
  rw [List.length_map] at b2
  have hjl : j < m.hp.length := (List.getElem?_eq_some_iff.1 b1).1
  refine goh_ ?_
  refine loop_ (fun k' t l c m' => ∃ (i : Nat), t 0 = .sl (.hp j) 0 xs.length c0 ∧ t 1 = .int .i64 ((k + 5 * i : Nat) : Int) ∧ t 5 = .int .i64 i ∧ Ch [j] m m' ∧ m'.hp[j]? = some ⟨mkRows (fun a => (mkV a).av) 5 k rows i, 5⟩ ∧ i ≤ xs.length ∧ k' = xs.length - i) xs.length ?_ ?_
  · exact ⟨0, by rw [← List.length_map (f := V.av)]; rfl, rfl, rfl, Ch.refl _ _, by rw [mkRows_0, b1], by omega, by omega⟩
  intro k' t l c m1 KN ⟨i, g0, g1, g5, hch, hb, hi, hk'⟩ next
  have hjl' : j < m1.hp.length := by rw [hch.len]; exact hjl
  rcases Nat.lt_or_ge i xs.length with hj | hj
  · have e8 : ((i : Int) < xs.length) = True := by rw [eq_iff_iff, iff_true]; omega
    have e0 : (0 ≤ (i : Int) ∧ (i : Int) < xs.length) = True := by rw [eq_iff_iff, iff_true]; omega
    have e1 : (mkRows (fun a => (mkV a).av) 5 k rows i)[i]? = some xs[i].av := by
      rw [mkRows_get, take_get b3 (by rw [List.length_map]; exact hj)]; simp
    have hs1 : ∀ B, (m1.hp.set j B)[j]? = some B := fun B => by simp [hjl']
    have hs2 : ∀ A B, (m1.hp.set j A).set j B = m1.hp.set j B := fun A B => by simp
    have hrl : i < (mkRows (fun a => (mkV a).av) 5 k rows i).length := by rw [mkRows_len (by omega)]; omega
    have hs3 : ∀ r, ((mkRows (fun a => (mkV a).av) 5 k rows i).set i r)[i]? = some r := fun r => by simp [hrl]
    have hs4 : ∀ a b, ((mkRows (fun a => (mkV a).av) 5 k rows i).set i a).set i b = (mkRows (fun a => (mkV a).av) 5 k rows i).set i b := fun a b => by simp
    have e3 : (mkRows (fun a => (mkV a).av) 5 k rows i).set i (mkV (k + 5 * i)).av = mkRows (fun a => (mkV a).av) 5 k rows (i + 1) := mkRows_set (by omega)
    have e9 : k + 5 * (i + 1) = k + 5 * i + 5 := by omega
    have hq : k + 5 * i ≤ 2 ^ 39 := by omega
    have hw := w64_succ hj (by omega)
    generalize hqd : k + 5 * i = q at e3 hq g1 e9
    have i0 : w64 (((q : Nat) : Int) + 1) = ((q + 1 : Nat) : Int) := by rw [w64_id (by omega)]; omega
    have i1 : w64 (((q + 1 : Nat) : Int) + 1) = ((q + 2 : Nat) : Int) := by rw [w64_id (by omega)]; omega
    have i2 : w64 (((q + 2 : Nat) : Int) + 1) = ((q + 3 : Nat) : Int) := by rw [w64_id (by omega)]; omega
    have i3 : w64 (((q + 3 : Nat) : Int) + 1) = ((q + 4 : Nat) : Int) := by rw [w64_id (by omega)]; omega
    have i4 : w64 (((q + 4 : Nat) : Int) + 1) = ((q + 5 : Nat) : Int) := by rw [w64_id (by omega)]; omega
    have hav : (mkV q).av = [.int .i64 (q : Int), .int .i64 ((q + 1 : Nat) : Int), .flt (i2f ((q + 2 : Nat) : Int)), .str (mT (q + 3)), .int .i64 ((q + 4 : Nat) : Int)] := rfl
    rw [hav] at e3
    generalize hR : mkRows (fun a => (mkV a).av) 5 k rows i = R at e1 hs3 hs4 e3 hb
    clear hrl hR hqd
    refine goh_ ?_
    refine s_markText (by clear e8 e0; omega) (by clear e8 e0; omega) ?_
    refine goh_ ?_
    exact next _ _ _ _ _ (by omega) ⟨i + 1, g0, by rw [e9]; rfl, rfl, hch.set (by simp) _, by simp only [hs1]; rfl, by omega, rfl⟩
  · have hj : i = xs.length := by omega
    subst hj
    have e8 : ((xs.length : Int) < xs.length) = False := by rw [eq_iff_iff, iff_false]; omega
    have h := h m1 hch (.inr ⟨j, xs.length, c0, _, by rw [List.length_map], hb, rfl, by rw [mkRows_len (by omega)]; omega, by rw [mkRows_take (by omega), mkL_map]; rfl, rfl⟩)
    exact gox_
theorem s_markInsS {s : AV} {xs : List I} {own : List Nat} {k : Nat} {m : Mem} {K : AR → Mem → Prop} (hs : SlO m 5 s (xs.map I.av) own) (hl : xs.length ≤ 2 ^ 30) (hk1 : 1 ≤ k) (hk : k ≤ 2 ^ 38)
    (h : ∀ m', Ch own m m' → SlO m' 5 s ((mkL mkI 5 k xs.length).map I.av) own → K (.ret (.int .i64 ((k + 5 * xs.length : Nat) : Int))) m') : Sim Tryd.prog 108 [s, .int .i64 k] m K := by
  refine entry (cxok []) Tryd.func108 rfl rfl (by decide) (by decide) ?_
  rcases hs.cases with ⟨rfl, hx, rfl⟩ | ⟨j, c0, rows, rfl, b1, b2, b3, rfl⟩
  · have : xs = [] := by simpa using hx
    subst this
    have h := h m (Ch.refl _ _) (.inl ⟨rfl, rfl, rfl⟩)
    simp only [List.length_nil, Nat.mul_zero, Nat.add_zero] at h
    refine goh_ ?_
    refine loop_n (KN0 := fun _ _ => True) 1 ?_
    rw [rounds_s]
    exact gox_
  clear hs
  rw [List.length_map] at b2
  have hjl : j < m.hp.length := (List.getElem?_eq_some_iff.1 b1).1
  refine goh_ ?_
  refine loop_ (fun k' t l c m' => ∃ (i : Nat), t 0 = .sl (.hp j) 0 xs.length c0 ∧ t 1 = .int .i64 ((k + 5 * i : Nat) : Int) ∧ t 5 = .int .i64 i ∧ Ch [j] m m' ∧ m'.hp[j]? = some ⟨mkRows (fun a => (mkI a).av) 5 k rows i, 5⟩ ∧ i ≤ xs.length ∧ k' = xs.length - i) xs.length ?_ ?_
  · exact ⟨0, by rw [← List.length_map (f := I.av)]; rfl, rfl, rfl, Ch.refl _ _, by rw [mkRows_0, b1], by omega, by omega⟩
  intro k' t l c m1 KN ⟨i, g0, g1, g5, hch, hb, hi, hk'⟩ next
  have hjl' : j < m1.hp.length := by rw [hch.len]; exact hjl
  rcases Nat.lt_or_ge i xs.length with hj | hj
  · have e8 : ((i : Int) < xs.length) = True := by rw [eq_iff_iff, iff_true]; omega
    have e0 : (0 ≤ (i : Int) ∧ (i : Int) < xs.length) = True := by rw [eq_iff_iff, iff_true]; omega
    have e1 : (mkRows (fun a => (mkI a).av) 5 k rows i)[i]? = some xs[i].av := by
      rw [mkRows_get, take_get b3 (by rw [List.length_map]; exact hj)]; simp
    have hs1 : ∀ B, (m1.hp.set j B)[j]? = some B := fun B => by simp [hjl']
    have hs2 : ∀ A B, (m1.hp.set j A).set j B = m1.hp.set j B := fun A B => by simp
    have hrl : i < (mkRows (fun a => (mkI a).av) 5 k rows i).length := by rw [mkRows_len (by omega)]; omega
    have hs3 : ∀ r, ((mkRows (fun a => (mkI a).av) 5 k rows i).set i r)[i]? = some r := fun r => by simp [hrl]
    have hs4 : ∀ a b, ((mkRows (fun a => (mkI a).av) 5 k rows i).set i a).set i b = (mkRows (fun a => (mkI a).av) 5 k rows i).set i b := fun a b => by simp
    have e3 : (mkRows (fun a => (mkI a).av) 5 k rows i).set i (mkI (k + 5 * i)).av = mkRows (fun a => (mkI a).av) 5 k rows (i + 1) := mkRows_set (by omega)
    have e9 : k + 5 * (i + 1) = k + 5 * i + 5 := by omega
    have hq : k + 5 * i ≤ 2 ^ 39 := by omega
    have hw := w64_succ hj (by omega)
    generalize hqd : k + 5 * i = q at e3 hq g1 e9
    have i0 : w64 (((q : Nat) : Int) + 1) = ((q + 1 : Nat) : Int) := by rw [w64_id (by omega)]; omega
    have i1 : w64 (((q + 1 : Nat) : Int) + 1) = ((q + 2 : Nat) : Int) := by rw [w64_id (by omega)]; omega
    have i2 : w64 (((q + 2 : Nat) : Int) + 1) = ((q + 3 : Nat) : Int) := by rw [w64_id (by omega)]; omega
    have i3 : w64 (((q + 3 : Nat) : Int) + 1) = ((q + 4 : Nat) : Int) := by rw [w64_id (by omega)]; omega
    have i4 : w64 (((q + 4 : Nat) : Int) + 1) = ((q + 5 : Nat) : Int) := by rw [w64_id (by omega)]; omega
    have hav : (mkI q).av = [.int .i64 (q : Int), .int .i64 ((q + 1 : Nat) : Int), .int .i64 ((q + 2 : Nat) : Int), .int .i64 ((q + 3 : Nat) : Int), .int .i64 ((q + 4 : Nat) : Int)] := rfl
    rw [hav] at e3
    generalize hR : mkRows (fun a => (mkI a).av) 5 k rows i = R at e1 hs3 hs4 e3 hb
    clear hrl hR hqd
    refine goh_ ?_
    exact next _ _ _ _ _ (by omega) ⟨i + 1, g0, by rw [e9]; rfl, rfl, hch.set (by simp) _, by simp only [hs1]; rfl, by omega, rfl⟩
  · have hj : i = xs.length := by omega
    subst hj
    have e8 : ((xs.length : Int) < xs.length) = False := by rw [eq_iff_iff, iff_false]; omega
    have h := h m1 hch (.inr ⟨j, xs.length, c0, _, by rw [List.length_map], hb, rfl, by rw [mkRows_len (by omega)]; omega, by rw [mkRows_take (by omega), mkL_map]; rfl, rfl⟩)
    exact gox_
theorem s_markNamedS {s : AV} {xs : List Nm} {own : List Nat} {k : Nat} {m : Mem} {K : AR → Mem → Prop} (hs : SlO m 4 s (xs.map Nm.av) own) (hl : xs.length ≤ 2 ^ 30) (hk1 : 1 ≤ k) (hk : k ≤ 2 ^ 38)
    (h : ∀ m', Ch own m m' → SlO m' 4 s ((mkL mkN 4 k xs.length).map Nm.av) own → K (.ret (.int .i64 ((k + 4 * xs.length : Nat) : Int))) m') : Sim Tryd.prog 109 [s, .int .i64 k] m K := by
  refine entry (cxok []) Tryd.func109 rfl rfl (by decide) (by decide) ?_
  rcases hs.cases with ⟨rfl, hx, rfl⟩ | ⟨j, c0, rows, rfl, b1, b2, b3, rfl⟩
  · have : xs = [] := by simpa using hx
    subst this
    have h := h m (Ch.refl _ _) (.inl ⟨rfl, rfl, rfl⟩)
    simp only [List.length_nil, Nat.mul_zero, Nat.add_zero] at h
    refine goh_ ?_
    refine loop_n (KN0 := fun _ _ => True) 1 ?_
    rw [rounds_s]
    exact gox_
  clear hs
  rw [List.length_map] at b2
  have hjl : j < m.hp.length := (List.getElem?_eq_some_iff.1 b1).1
  refine goh_ ?_
  refine loop_ (fun k' t l c m' => ∃ (i : Nat), t 0 = .sl (.hp j) 0 xs.length c0 ∧ t 1 = .int .i64 ((k + 4 * i : Nat) : Int) ∧ t 5 = .int .i64 i ∧ Ch [j] m m' ∧ m'.hp[j]? = some ⟨mkRows (fun a => (mkN a).av) 4 k rows i, 4⟩ ∧ i ≤ xs.length ∧ k' = xs.length - i) xs.length ?_ ?_
  · exact ⟨0, by rw [← List.length_map (f := Nm.av)]; rfl, rfl, rfl, Ch.refl _ _, by rw [mkRows_0, b1], by omega, by omega⟩
  intro k' t l c m1 KN ⟨i, g0, g1, g5, hch, hb, hi, hk'⟩ next
  have hjl' : j < m1.hp.length := by rw [hch.len]; exact hjl
  rcases Nat.lt_or_ge i xs.length with hj | hj
  · have e8 : ((i : Int) < xs.length) = True := by rw [eq_iff_iff, iff_true]; omega
    have e0 : (0 ≤ (i : Int) ∧ (i : Int) < xs.length) = True := by rw [eq_iff_iff, iff_true]; omega
    have e1 : (mkRows (fun a => (mkN a).av) 4 k rows i)[i]? = some xs[i].av := by
      rw [mkRows_get, take_get b3 (by rw [List.length_map]; exact hj)]; simp
    have hs1 : ∀ B, (m1.hp.set j B)[j]? = some B := fun B => by simp [hjl']
    have hs2 : ∀ A B, (m1.hp.set j A).set j B = m1.hp.set j B := fun A B => by simp
    have hrl : i < (mkRows (fun a => (mkN a).av) 4 k rows i).length := by rw [mkRows_len (by omega)]; omega
    have hs3 : ∀ r, ((mkRows (fun a => (mkN a).av) 4 k rows i).set i r)[i]? = some r := fun r => by simp [hrl]
    have hs4 : ∀ a b, ((mkRows (fun a => (mkN a).av) 4 k rows i).set i a).set i b = (mkRows (fun a => (mkN a).av) 4 k rows i).set i b := fun a b => by simp
    have e3 : (mkRows (fun a => (mkN a).av) 4 k rows i).set i (mkN (k + 4 * i)).av = mkRows (fun a => (mkN a).av) 4 k rows (i + 1) := mkRows_set (by omega)
    have e9 : k + 4 * (i + 1) = k + 4 * i + 4 := by omega
    have hq : k + 4 * i ≤ 2 ^ 39 := by omega
    have hw := w64_succ hj (by omega)
    generalize hqd : k + 4 * i = q at e3 hq g1 e9
    have i0 : w64 (((q : Nat) : Int) + 1) = ((q + 1 : Nat) : Int) := by rw [w64_id (by omega)]; omega
    have i1 : w64 (((q + 1 : Nat) : Int) + 1) = ((q + 2 : Nat) : Int) := by rw [w64_id (by omega)]; omega
    have i2 : w64 (((q + 2 : Nat) : Int) + 1) = ((q + 3 : Nat) : Int) := by rw [w64_id (by omega)]; omega
    have i3 : w64 (((q + 3 : Nat) : Int) + 1) = ((q + 4 : Nat) : Int) := by rw [w64_id (by omega)]; omega
    have hav : (mkN q).av = [.str (mT q), .int .i64 ((q + 1 : Nat) : Int), .int .i64 ((q + 2 : Nat) : Int), .int .i64 ((q + 3 : Nat) : Int)] := rfl
    rw [hav] at e3
    generalize hR : mkRows (fun a => (mkN a).av) 4 k rows i = R at e1 hs3 hs4 e3 hb
    clear hrl hR hqd
    refine goh_ ?_
    refine s_markText (by clear e8 e0; omega) (by clear e8 e0; omega) ?_
    refine goh_ ?_
    exact next _ _ _ _ _ (by omega) ⟨i + 1, g0, by rw [e9]; rfl, rfl, hch.set (by simp) _, by simp only [hs1]; rfl, by omega, rfl⟩
  · have hj : i = xs.length := by omega
    subst hj
    have e8 : ((xs.length : Int) < xs.length) = False := by rw [eq_iff_iff, iff_false]; omega
    have h := h m1 hch (.inr ⟨j, xs.length, c0, _, by rw [List.length_map], hb, rfl, by rw [mkRows_len (by omega)]; omega, by rw [mkRows_take (by omega), mkL_map]; rfl, rfl⟩)
    exact gox_
end Go.Proofs.YtdonkjepjobhnaaDoor.IM
namespace Go.Proofs.IM
open Go Go.Proofs.Flt
def stP (p : Pr) : Nat := 5 + 2 * p.ups.length + 5 * p.consts.length + 5 * p.ins.length + 4 * p.named.length
def mkP (k : Nat) (p : Pr) : Pr := ⟨mT k, ((k + 1 : Nat) : Int), ((k + 2 : Nat) : Int), (((k + 3 : Nat) : Int).tmod 3 == 0), ((k + 4 : Nat) : Int), mkL mkU 2 (k + 5) p.ups.length, mkL mkV 5 (k + 5 + 2 * p.ups.length) p.consts.length, mkL mkI 5 (k + 5 + 2 * p.ups.length + 5 * p.consts.length) p.ins.length, mkL mkN 4 (k + 5 + 2 * p.ups.length + 5 * p.consts.length + 5 * p.ins.length) p.named.length⟩
def mkPs : Nat → List Pr → List Pr
  | _, [] => []
  | k, p :: ps => mkP k p :: mkPs (k + stP p) ps
theorem mkPs_len : ∀ {ps : List Pr} {k : Nat}, (mkPs k ps).length = ps.length
  | [], _ => rfl
  | _ :: ps, _ => by simp only [mkPs, List.length_cons, mkPs_len]
theorem mkPs_snoc : ∀ {ps : List Pr} {k : Nat} {p : Pr}, mkPs k (ps ++ [p]) = mkPs k ps ++ [mkP (k + sumBy stP ps) p]
  | [], _, _ => rfl
  | q :: ps, k, p => by simp only [List.cons_append, mkPs, mkPs_snoc, sumBy, Nat.add_assoc]
theorem sumBy_snoc {α : Type} {f : α → Nat} {p : α} : ∀ {ps : List α}, sumBy f (ps ++ [p]) = sumBy f ps + f p
  | [] => by simp [sumBy]
  | q :: ps => by simp only [List.cons_append, sumBy, sumBy_snoc, Nat.add_assoc]
theorem sumBy_take_le {α : Type} {f : α → Nat} : ∀ {ps : List α} {i : Nat}, sumBy f (ps.take i) ≤ sumBy f ps
  | _, 0 => by simp [sumBy]
  | [], _ + 1 => by simp
  | q :: ps, i + 1 => by
    have := sumBy_take_le (f := f) (ps := ps) (i := i)
    simp only [List.take_succ_cons, sumBy]; omega
/-- Protos of which the first i have been marked. -/
def mkPi (k : Nat) (ps : List Pr) (i : Nat) : List Pr := mkPs k (ps.take i) ++ ps.drop i
theorem mkPi_0 {k : Nat} {ps : List Pr} : mkPi k ps 0 = ps := rfl
theorem mkPi_end {k : Nat} {ps : List Pr} : mkPi k ps ps.length = mkPs k ps := by simp [mkPi]
theorem mkPi_len {k i : Nat} {ps : List Pr} (h : i ≤ ps.length) : (mkPi k ps i).length = ps.length := by simp [mkPi, mkPs_len]; omega
theorem mkPi_get {k i : Nat} {ps : List Pr} (h : i < ps.length) : (mkPi k ps i)[i]? = some ps[i] := by
  unfold mkPi
  rw [List.getElem?_append_right (by rw [mkPs_len, List.length_take]; omega)]
  rw [mkPs_len, List.length_take, Nat.min_eq_left (by omega), Nat.sub_self, List.getElem?_drop, Nat.add_zero]
  simp [h]
theorem mkPi_set {k i : Nat} {ps : List Pr} (h : i < ps.length) : (mkPi k ps i).set i (mkP (k + sumBy stP (ps.take i)) ps[i]) = mkPi k ps (i + 1) := by
  have e : ps.take (i + 1) = ps.take i ++ [ps[i]] := by rw [List.take_add_one]; simp [h]
  unfold mkPi
  rw [List.set_append, if_neg (by rw [mkPs_len]; simp; omega), mkPs_len, List.length_take, Nat.min_eq_left (by omega), Nat.sub_self, List.drop_eq_getElem_cons h, List.set_cons_zero, e, mkPs_snoc, List.append_assoc]
  rfl
theorem PsO.at {m : Mem} {s : AV} {ps : List Pr} {own : List Nat} {i : Nat} (h : PsO m s ps own) (hi : i < ps.length) : ∃ (j c : Nat) (rows : List (List AV)) (r : List AV) (w : List Nat), s = .sl (.hp j) 0 ps.length c ∧ m.hp[j]? = some ⟨rows, 9⟩ ∧ ps.length ≤ rows.length ∧ rows[i]? = some r ∧ PrO m r ps[i] w ∧ j ∉ w ∧ w.Nodup ∧ (∀ a ∈ w, a ∈ own) ∧ j ∈ own ∧
    ∀ m' r' p', Ch (j :: w) m m' → m'.hp[j]? = some ⟨rows.set i r', 9⟩ → PrO m' r' p' w → PsO m' s (ps.set i p') own := by
  obtain ⟨rs, o, os, h1, h2, h3, h4, rfl, h6⟩ := h
  rcases h1.cases with ⟨rfl, rfl, rfl⟩ | ⟨j, c, rows, rfl, b1, b2, b3, rfl⟩
  · simp at h2; omega
  have hri : i < rs.length := by omega
  have hoi : i < os.length := by omega
  have hw : os[i] ∈ os := List.getElem_mem hoi
  obtain ⟨n1, n2, n3⟩ := List.nodup_append.1 h6
  have hjw : ∀ w ∈ os, j ∉ w := fun w hw hj => n3 j (by simp) j (by simp only [List.mem_flatten]; exact ⟨w, hw, hj⟩) rfl
  have hnd := List.pairwise_flatten.1 n2
  refine ⟨j, c, rows, rs[i], os[i], by rw [h2], b1, by omega, take_get b3 hri, h4 i _ _ _ (by simp) (by simp [hi]) (by simp), hjw _ hw, hnd.1 _ hw, fun a ha => ?_, by simp, fun m' r' p' hch hb hpr => ?_⟩
  · simp only [List.mem_append, List.mem_flatten]; exact .inr ⟨_, hw, ha⟩
  refine ⟨rs.set i r', [j], os, .inr ⟨j, ps.length, c, _, by rw [← h2], hb, rfl, by simp; omega, ?_, rfl⟩, by simpa using h2, by simpa using h3, fun a r p w hr hp hw' => ?_, rfl, h6⟩
  · show (rows.set i r').take ps.length = _
    rw [← h2, List.take_set, b3]
  · by_cases ha : i = a
    · subst ha
      rw [List.getElem?_set_self (by omega)] at hr hp
      obtain rfl := Option.some.inj hr
      obtain rfl := Option.some.inj hp
      rw [List.getElem?_eq_getElem hoi] at hw'
      obtain rfl := Option.some.inj hw'
      exact hpr
    · rw [List.getElem?_set_ne ha] at hr hp
      refine (h4 a r p w hr hp hw').ext fun b hb' => hch.far b fun hm => ?_
      rcases List.mem_cons.1 hm with rfl | hm
      · exact hjw w (List.mem_of_getElem? hw') hb'
      · have hal : a < os.length := (List.getElem?_eq_some_iff.1 hw').1
        have ew : os[a] = w := (List.getElem?_eq_some_iff.1 hw').2
        have hpw := List.pairwise_iff_getElem.1 hnd.2
        rcases Nat.lt_or_gt_of_ne ha with hlt | hlt
        · exact (hpw i a hoi hal hlt) b hm b (ew ▸ hb') rfl
        · exact (hpw a i hal hoi hlt) b (ew ▸ hb') b hm rfl
theorem Ch.app {a b : List Nat} {m m' m'' : Mem} (h : Ch a m m') (h' : Ch b m' m'') : Ch (a ++ b) m m'' := (h.sub fun j hj => by simp [hj]).trans (h'.sub fun j hj => by simp [hj])
theorem sumBy_get {α : Type} {f : α → Nat} {ps : List α} {i : Nat} (h : i < ps.length) : sumBy f (ps.take i) + f ps[i] ≤ sumBy f ps := by
  have e : ps.take (i + 1) = ps.take i ++ [ps[i]] := by rw [List.take_add_one]; simp [h]
  have := sumBy_take_le (f := f) (ps := ps) (i := i + 1)
  rw [e, sumBy_snoc] at this
  exact this
theorem sumBy_take_succ {α : Type} {f : α → Nat} {ps : List α} {i : Nat} (h : i < ps.length) : sumBy f (ps.take (i + 1)) = sumBy f (ps.take i) + f ps[i] := by
  rw [List.take_add_one, show ps[i]?.toList = [ps[i]] by simp [h], sumBy_snoc]
theorem len_le_sum : ∀ {ps : List Pr}, ps.length ≤ sumBy stP ps
  | [] => by simp
  | q :: ps => by
    have := len_le_sum (ps := ps)
    simp only [List.length_cons, sumBy, stP]; omega
end Go.Proofs.IM
namespace Go.Proofs.YtdonkjepjobhnaaDoor.IM
open Go Go.Proofs.IM Go.Proofs.Flt
set_option maxHeartbeats 8000000
set_option maxRecDepth 100000
theorem s_markProtoS {s : AV} {ps : List Pr} {own : List Nat} {k : Nat} {m : Mem} {K : AR → Mem → Prop} (hs : PsO m s ps own) (hk1 : 1 ≤ k) (hk : k + sumBy stP ps ≤ 2 ^ 30)
    (h : ∀ m', Ch own m m' → PsO m' s (mkPs k ps) own → K (.ret (.int .i64 ((k + sumBy stP ps : Nat) : Int))) m') : Sim Tryd.prog 42 [s, .int .i64 k] m K := by
  refine entry (cxok []) Tryd.func42 rfl rfl (by decide) (by decide) ?_
  have hll := len_le_sum (ps := ps)
  rcases (show (s = .nils ∧ ps = []) ∨ ∃ j c, s = .sl (.hp j) 0 ps.length c by
    obtain ⟨rs, o, os, h1, h2, -⟩ := hs
    rcases h1.cases with ⟨rfl, rfl, -⟩ | ⟨j, c, rows, rfl, -⟩
    · exact .inl ⟨rfl, List.length_eq_zero_iff.1 (by simpa using h2.symm)⟩
    · exact .inr ⟨j, c, by rw [h2]⟩) with ⟨rfl, rfl⟩ | ⟨j, c0, rfl⟩
  · have h := h m (Ch.refl _ _) hs
    simp only [sumBy, Nat.add_zero] at h
    clear hs
    refine goh_ ?_
    refine loop_n (KN0 := fun _ _ => True) 1 ?_
    rw [rounds_s]
    exact gox_
  refine goh_ ?_
  refine loop_ (fun k' t l c m' => ∃ (i : Nat), t 0 = .sl (.hp j) 0 ps.length c0 ∧ t 1 = .int .i64 ((k + sumBy stP (ps.take i) : Nat) : Int) ∧ t 5 = .int .i64 i ∧ Ch own m m' ∧ PsO m' (.sl (.hp j) 0 ps.length c0) (mkPi k ps i) own ∧ i ≤ ps.length ∧ k' = ps.length - i) ps.length ?_ ?_
  · exact ⟨0, rfl, rfl, rfl, Ch.refl _ _, hs, by omega, by omega⟩
  clear hs
  intro k' t l c m1 KN ⟨i, g0, g1, g5, hch, hps, hi, hk'⟩ next
  rcases Nat.lt_or_ge i ps.length with hj | hj
  · have hgi := mkPi_get (k := k) hj
    have hil : i < (mkPi k ps i).length := (List.getElem?_eq_some_iff.1 hgi).1
    obtain ⟨j', c', rows, r, w, es, hb, hrl, hr, hpr, hjw, hwn, hwo, hjo, hup⟩ := hps.at hil
    obtain ⟨rfl, rfl⟩ : j' = j ∧ c' = c0 := by simp only [AV.sl.injEq, AA.hp.injEq] at es; omega
    rw [mkPi_len (by omega)] at hrl
    rw [(List.getElem?_eq_some_iff.1 hgi).2] at hpr
    have hset := mkPi_set (k := k) hj
    have hsum := sumBy_get (f := stP) hj
    have e9 := sumBy_take_succ (f := stP) hj
    clear es hps hgi hil
    generalize ps[i] = p at hpr hset hsum e9
    obtain ⟨s1, s2, s3, s4, o1, o2, o3, o4, rfl, q1, q2, q3, q4, rfl⟩ := hpr
    have hst : stP p = 5 + 2 * p.ups.length + 5 * p.consts.length + 5 * p.ins.length + 4 * p.named.length := rfl
    generalize hqd : k + sumBy stP (ps.take i) = q at hset g1
    have e9' : k + sumBy stP (ps.take (i + 1)) = q + stP p := by omega
    have hq : q + stP p ≤ 2 ^ 30 := by omega
    have hq1 : 1 ≤ q := by omega
    clear e9 hqd hsum
    have hjl : j' < m1.hp.length := (List.getElem?_eq_some_iff.1 hb).1
    have e8 : ((i : Int) < ps.length) = True := by rw [eq_iff_iff, iff_true]; omega
    have e0 : (0 ≤ (i : Int) ∧ (i : Int) < ps.length) = True := by rw [eq_iff_iff, iff_true]; omega
    have hs1 : ∀ B, (m1.hp.set j' B)[j']? = some B := fun B => by simp [hjl]
    have hs2 : ∀ A B, (m1.hp.set j' A).set j' B = m1.hp.set j' B := fun A B => by simp
    have hir : i < rows.length := by omega
    have hs3 : ∀ r, (rows.set i r)[i]? = some r := fun r => by simp [hir]
    have hs4 : ∀ a b, (rows.set i a).set i b = rows.set i b := fun a b => by simp
    have hw := w64_succ hj (by omega)
    have i0 : w64 ((q : Int) + 1) = ((q + 1 : Nat) : Int) := by rw [w64_id (by omega)]; omega
    have i1 : w64 (((q + 1 : Nat) : Int) + 1) = ((q + 2 : Nat) : Int) := by rw [w64_id (by omega)]; omega
    have i2 : w64 (((q + 2 : Nat) : Int) + 1) = ((q + 3 : Nat) : Int) := by rw [w64_id (by omega)]; omega
    have i3 : w64 (((q + 3 : Nat) : Int) + 1) = ((q + 4 : Nat) : Int) := by rw [w64_id (by omega)]; omega
    have i4 : w64 (((q + 4 : Nat) : Int) + 1) = ((q + 5 : Nat) : Int) := by rw [w64_id (by omega)]; omega
    clear hir hrl
    obtain ⟨a1, a2, a3, a4⟩ := q1.r.facts
    obtain ⟨a5, a6, a7, a8⟩ := q2.r.facts
    obtain ⟨c1, c2, c3, c4⟩ := q3.r.facts
    obtain ⟨c5, c6, c7, c8⟩ := q4.r.facts
    refine goh_ ?_
    refine s_markText hq1 (by omega) ?_
    refine goh_ ?_
    have hbA : ({ m1 with hp := m1.hp.set j' ⟨rows.set i [.str (mT q), .int .i64 ((q + 1 : Nat) : Int), .int .i64 ((q + 2 : Nat) : Int), .bool (((q + 3 : Nat) : Int).tmod 3 == 0), .int .i64 ((q + 4 : Nat) : Int), s1, s2, s3, s4], 9⟩ } : Mem).hp[j']? = some ⟨rows.set i [.str (mT q), .int .i64 ((q + 1 : Nat) : Int), .int .i64 ((q + 2 : Nat) : Int), .bool (((q + 3 : Nat) : Int).tmod 3 == 0), .int .i64 ((q + 4 : Nat) : Int), s1, s2, s3, s4], 9⟩ := hs1 _
    have hrA := hs3 [.str (mT q), .int .i64 ((q + 1 : Nat) : Int), .int .i64 ((q + 2 : Nat) : Int), .bool (((q + 3 : Nat) : Int).tmod 3 == 0), .int .i64 ((q + 4 : Nat) : Int), s1, s2, s3, s4]
    have hchA : Ch [j'] m1 { m1 with hp := m1.hp.set j' ⟨rows.set i [.str (mT q), .int .i64 ((q + 1 : Nat) : Int), .int .i64 ((q + 2 : Nat) : Int), .bool (((q + 3 : Nat) : Int).tmod 3 == 0), .int .i64 ((q + 4 : Nat) : Int), s1, s2, s3, s4], 9⟩ } := (Ch.refl _ _).set (by simp) _
    generalize ({ m1 with hp := m1.hp.set j' ⟨rows.set i [.str (mT q), .int .i64 ((q + 1 : Nat) : Int), .int .i64 ((q + 2 : Nat) : Int), .bool (((q + 3 : Nat) : Int).tmod 3 == 0), .int .i64 ((q + 4 : Nat) : Int), s1, s2, s3, s4], 9⟩ } : Mem) = mA at hbA hchA ⊢
    generalize hR : rows.set i [.str (mT q), .int .i64 ((q + 1 : Nat) : Int), .int .i64 ((q + 2 : Nat) : Int), .bool (((q + 3 : Nat) : Int).tmod 3 == 0), .int .i64 ((q + 4 : Nat) : Int), s1, s2, s3, s4] = RA at hbA hrA
    clear hs1 hs2 hs3 hs4 hb hr hjl i0 i1 i2 i3 i4
    have jn : j' ∉ o1 ∧ j' ∉ o2 ∧ j' ∉ o3 ∧ j' ∉ o4 := by simpa [and_assoc] using hjw
    obtain ⟨n123, -, d4⟩ := List.nodup_append.1 hwn
    obtain ⟨n12, -, d3⟩ := List.nodup_append.1 n123
    obtain ⟨-, -, d2⟩ := List.nodup_append.1 n12
    clear n123 n12 hwn hjw
    have fA : ∀ a, a ≠ j' → mA.hp[a]? = m1.hp[a]? := fun a ha => hchA.far a (by simpa using ha)
    have q1' := q1.ext (m' := mA) fun a ha => fA a (by rintro rfl; exact jn.1 ha)
    have q2' := q2.ext (m' := mA) fun a ha => fA a (by rintro rfl; exact jn.2.1 ha)
    have q3' := q3.ext (m' := mA) fun a ha => fA a (by rintro rfl; exact jn.2.2.1 ha)
    have q4' := q4.ext (m' := mA) fun a ha => fA a (by rintro rfl; exact jn.2.2.2 ha)
    clear q1 q2 q3 q4 fA
    refine s_markUpS (k := q + 5) q1' (by clear e0 e8; omega) (by clear e0 e8; omega) (by clear e0 e8; omega) fun mB hB b1 => ?_
    replace hbA := (hB.far j' jn.1).trans hbA
    replace q2' := q2'.ext (m' := mB) fun a ha => hB.far a fun ha' => d2 a ha' a ha rfl
    replace q3' := q3'.ext (m' := mB) fun a ha => hB.far a fun ha' => d3 a (by simp [ha']) a ha rfl
    replace q4' := q4'.ext (m' := mB) fun a ha => hB.far a fun ha' => d4 a (by simp [ha']) a ha rfl
    clear q1'
    generalize hk2 : q + 5 + 2 * p.ups.length = k2
    refine goh_ ?_
    refine s_markValueS (k := k2) q2' (by clear e0 e8; omega) (by clear e0 e8; omega) (by clear e0 e8; omega) fun mC hC b2 => ?_
    replace hbA := (hC.far j' jn.2.1).trans hbA
    replace q3' := q3'.ext (m' := mC) fun a ha => hC.far a fun ha' => d3 a (by simp [ha']) a ha rfl
    replace q4' := q4'.ext (m' := mC) fun a ha => hC.far a fun ha' => d4 a (by simp [ha']) a ha rfl
    replace b1 := b1.ext (m' := mC) fun a ha => hC.far a fun ha' => d2 a ha a ha' rfl
    clear q2'
    generalize hk3 : k2 + 5 * p.consts.length = k3
    refine goh_ ?_
    refine s_markInsS (k := k3) q3' (by clear e0 e8; omega) (by clear e0 e8; omega) (by clear e0 e8; omega) fun mD hD b3 => ?_
    replace hbA := (hD.far j' jn.2.2.1).trans hbA
    replace q4' := q4'.ext (m' := mD) fun a ha => hD.far a fun ha' => d4 a (by simp [ha']) a ha rfl
    replace b1 := b1.ext (m' := mD) fun a ha => hD.far a fun ha' => d3 a (by simp [ha]) a ha' rfl
    replace b2 := b2.ext (m' := mD) fun a ha => hD.far a fun ha' => d3 a (by simp [ha]) a ha' rfl
    clear q3'
    generalize hk4 : k3 + 5 * p.ins.length = k4
    refine goh_ ?_
    refine s_markNamedS (k := k4) q4' (by clear e0 e8; omega) (by clear e0 e8; omega) (by clear e0 e8; omega) fun mE hE b4 => ?_
    replace hbA := (hE.far j' jn.2.2.2).trans hbA
    replace b1 := b1.ext (m' := mE) fun a ha => hE.far a fun ha' => d4 a (by simp [ha]) a ha' rfl
    replace b2 := b2.ext (m' := mE) fun a ha => hE.far a fun ha' => d4 a (by simp [ha]) a ha' rfl
    replace b3 := b3.ext (m' := mE) fun a ha => hE.far a fun ha' => d4 a (by simp [ha]) a ha' rfl
    clear q4'
    generalize hk5 : k4 + 4 * p.named.length = k5
    have hall := (((hchA.app hB).app hC).app hD).app hE
    subst hR hk2 hk3 hk4
    have hfin := hup mE _ (mkP q p) (hall.sub fun a ha => by simpa [or_assoc] using ha) hbA ⟨s1, s2, s3, s4, o1, o2, o3, o4, rfl, b1, b2, b3, b4, rfl⟩
    rw [hset] at hfin
    have hown := hch.trans (hall.sub (own' := own) fun a ha => by
      simp only [List.append_assoc, List.mem_append, List.mem_cons, List.not_mem_nil, or_false] at ha
      rcases ha with rfl | ha
      · exact hjo
      · exact hwo a (by simpa [or_assoc] using ha))
    clear hall hchA hB hC hD hE hup hset hch
    refine goh_ ?_
    have et : k5 = k + sumBy stP (ps.take (i + 1)) := by clear e0 e8; omega
    exact next _ _ _ _ _ (by clear e0 e8; omega) ⟨i + 1, g0, by rw [← et]; rfl, rfl, hown, hfin, by clear e0 e8; omega, rfl⟩
  · have hj : i = ps.length := by omega
    subst hj
    have e8 : ((ps.length : Int) < ps.length) = False := by rw [eq_iff_iff, iff_false]; omega
    rw [mkPi_end] at hps
    rw [List.take_length] at g1
    have h := h m1 hch hps
    exact gox_
theorem s_markCode {s : AV} {ps : List Pr} {own : List Nat} {k : Nat} {m : Mem} {K : AR → Mem → Prop} (hs : PsO m s ps own) (hk1 : 1 ≤ k) (hk : k + sumBy stP ps ≤ 2 ^ 30)
    (h : ∀ m', Ch own m m' → PsO m' s (mkPs k ps) own → K (.ret (.int .i64 ((k + sumBy stP ps : Nat) : Int))) m') : Sim Tryd.prog 15 [.agg [s], .int .i64 k] m K := by
  refine entry (cxok []) Tryd.func15 rfl rfl (by decide) (by decide) ?_
  obtain ⟨a1, a2, a3, a4⟩ := hs.r.facts
  refine goh_ ?_
  refine s_markProtoS hs hk1 hk fun m' hch hps => ?_
  have h := h m' hch hps
  exact gox_
end Go.Proofs.YtdonkjepjobhnaaDoor.IM
namespace Go.Proofs.IM
open Go Go.Proofs.Flt
/-- Bytes that were answered: nothing, or a buffer behind m0. -/
def GB (m0 m : Mem) (s : AV) (bs : List UInt8) : Prop := (s = .nils ∧ bs = []) ∨ ∃ j, m0.hp.length ≤ j ∧ BufO m s bs j
theorem GB.r {m0 m : Mem} {s : AV} {bs : List UInt8} (h : GB m0 m s bs) : SlR m 1 s (bs.map bR) := by
  rcases h with ⟨rfl, rfl⟩ | ⟨j, -, h⟩
  · rfl
  · exact h.r
theorem BufO.lt {m : Mem} {s : AV} {bs : List UInt8} {j : Nat} (h : BufO m s bs j) : j < m.hp.length := by
  obtain ⟨c, B, -, h1, -⟩ := h
  exact (List.getElem?_eq_some_iff.1 h1).1
theorem BufO.ext {m m' : Mem} {s : AV} {bs : List UInt8} {j : Nat} (h : BufO m s bs j) (e : m'.hp[j]? = m.hp[j]?) : BufO m' s bs j := by
  obtain ⟨c, B, h0, h1, h2⟩ := h
  exact ⟨c, B, h0, e.trans h1, h2⟩
theorem GB.le {m0 m m' : Mem} {s : AV} {bs : List UInt8} (h : GB m0 m s bs) (hm : m.le m') : GB m0 m' s bs := by
  rcases h with h | ⟨j, h1, h2⟩
  · exact .inl h
  · refine .inr ⟨j, h1, ?_⟩
    obtain ⟨c, B, h0, h3, h4⟩ := h2
    exact ⟨c, B, h0, hm.hp _ _ h3, h4⟩
theorem GB.far {m0 m m' : Mem} {s : AV} {bs : List UInt8} {own : List Nat} (h : GB m0 m s bs) (hm : Ch own m m') (ho : ∀ j ∈ own, j < m0.hp.length) : GB m0 m' s bs := by
  rcases h with h | ⟨j, h1, h2⟩
  · exact .inl h
  · exact .inr ⟨j, h1, h2.ext (hm.far j fun hj => by have := ho j hj; omega)⟩
theorem GB.facts {m0 m : Mem} {s : AV} {bs : List UInt8} (h : GB m0 m s bs) : s.pub1 = true ∧ s.pub2 = true ∧ AV.pub s = true ∧ s.cells = [s] := h.r.facts
def ob (x : Option (List UInt8)) : List UInt8 := x.getD []
theorem ansB.mk {m : Mem} {K : AR → Mem → Prop} {x : Option (List UInt8)} (h : ∀ s m', m.le m' → GB m m' s (ob x) → K (.ret s) m') : ansB m K x := by
  cases x with
  | none => exact fun m' hm => h .nils m' hm (.inl ⟨rfl, rfl⟩)
  | some b => exact fun s m' ⟨hm, j, hj, hb⟩ => h s m' hm (.inr ⟨j, hj, hb⟩)
theorem encLoop_le : ∀ {ps : List Pr} {b c : List UInt8}, encLoop ps b = some c → c.length ≤ b.length ∨ c.length ≤ 1000000
  | [], b, c, h => by obtain rfl := Option.some.inj h; exact .inl (Nat.le_refl _)
  | p :: ps, b, c, h => by
    rw [encLoop] at h
    split at h
    · cases h
    · rename_i h1
      rcases encLoop_le h with h2 | h2 <;> right <;> omega
theorem ob_len {ps : List Pr} (hl : ps.length ≤ 9223372036854775807) : (ob (encode ps)).length ≤ 2 ^ 30 := by
  cases h : encode ps with
  | none => simp [ob]
  | some c =>
    simp only [encode] at h
    split at h
    · cases h
    · have hn := encN_len (n := (ps.length : Int)) ⟨by omega, by omega⟩
      rcases encLoop_le h with h2 | h2
      · simp only [ob, Option.getD_some, List.length_append, List.length_cons, List.length_nil] at h2 ⊢; omega
      · simp only [ob, Option.getD_some]; omega
theorem stP_le {p : Pr} : stP p ≤ 5 + 5 * p.wt := by simp only [stP, Pr.wt]; omega
theorem sum_stP : ∀ {ps : List Pr}, sumBy stP ps ≤ 5 * ps.length + 5 * sumBy Pr.wt ps
  | [] => by simp [sumBy]
  | p :: ps => by
    have := sum_stP (ps := ps)
    have := stP_le (p := p)
    simp only [sumBy, List.length_cons]; omega
end Go.Proofs.IM
namespace Go.Proofs.YtdonkjepjobhnaaDoor.IM
open Go Go.Proofs.IM Go.Proofs.Flt
set_option maxHeartbeats 8000000
set_option maxRecDepth 100000
theorem s_FnExactEncode {s : AV} {ps : List Pr} {m : Mem} {K : AR → Mem → Prop} (hF : FormsR 0 m) (hp : PsR m s ps) (hl : ps.length ≤ 9223372036854775807) (hL : ∀ p ∈ ps, p.good)
    (h : ∀ m', m.le m' → K (.ret (.bool true)) m') :
    Sim Tryd.prog 7 [.agg [s]] m K := by
  refine entry (cxok []) Tryd.func7 rfl rfl (by decide) (by decide) ?_
  obtain ⟨a1, a2, a3, a4⟩ := hp.facts
  have hok := fun p hp => (hL p hp).ok
  refine goh_ ?_
  refine s_szCode hp (by omega) hok ?_
  refine goh_ ?_
  refine ⟨fun hd => by have h := h _ (Mem.le.refl _); exact gox_, fun hd => ?_⟩
  have hwt := szC_eq hL hl hd
  obtain ⟨hl', hfit⟩ := fit_of hwt
  have hsum := sum_stP (ps := ps)
  simp only [wtC] at hwt
  have hst : 1 + sumBy stP ps ≤ 2 ^ 30 := by omega
  have hbl := ob_len hl
  replace hwt : wtC ps ≤ 1048576 := by simpa only [wtC] using hwt
  clear hd hsum
  refine s_toCode hp hl' hfit ?_
  intro m1 own1 hm1 ho1 hr1
  refine goh_ ?_
  refine s_specEncode ho1.r hl hL hwt (ansB.mk fun w0 m2 hm2 hw0 => ?_)
  have hm12 := hm1.trans hm2
  obtain ⟨b1, b2, b3, b4⟩ := hw0.facts
  refine goh_ ?_
  refine s_toCode (hp.mono hm12) hl' hfit ?_
  intro m3 own3 hm3 ho3 hr3
  have hm13 := hm12.trans hm3
  refine goh_ ?_
  refine s_implEncode (hF.mono hm13) ho3.r hl hL hwt (ansB.mk fun g0 m4 hm4 hg0 => ?_)
  obtain ⟨c1, c2, c3, c4⟩ := hg0.facts
  have hm14 := hm13.trans hm4
  have hw4 := hw0.r.mono (hm3.trans hm4)
  refine goh_ ?_
  refine s_eqByteS hg0.r hw4 (by omega) ?_
  refine goh_ ?_
  refine draw_ [(0, .read), (1, .read), (2, .step [0]), (3, .step []), (4, .pure)] (by kernel_rfl) ?_
  refine goh_ ?_
  refine s_toCode (hp.mono hm14) hl' hfit ?_
  intro m5 own5 hm5 ho5 hr5
  have ho3' := ho3.ext (m' := m5) fun j hj => by
    have := (List.getElem?_eq_getElem (hr3 j hj).2 (l := m3.hp))
    rw [this]; exact (hm4.trans hm5).hp _ _ this
  refine goh_ ?_
  refine s_eqCode ho3'.r ho5.r (by omega) hok ?_
  refine goh_ ?_
  refine s_markCode (k := 1) ho3' (by omega) hst fun m6 hch hmk => ?_
  have hm6 : m2.le m6 := hch.le ((hm3.trans hm4).trans hm5) fun j hj => (hr3 j hj).1
  have hg6 : GB m3 m6 g0 (ob (encode ps)) := (hg0.le hm5).far hch fun j hj => (hr3 j hj).2
  have hw6 := hw0.r.mono hm6
  have e1 : (((1 + sumBy stP ps : Nat) : Int) < 0) = False := by rw [eq_iff_iff, iff_false]; omega
  refine goh_ ?_
  refine s_eqByteS hg6.r hw6 (by omega) ?_
  refine goh_ ?_
  clear e1
  obtain ⟨j, hj, hB⟩ : ∃ j, m3.hp.length ≤ j ∧ (g0 = .nils ∧ ob (encode ps) = [] ∨ BufO m6 g0 (ob (encode ps)) j) := by
    rcases hg6 with h | ⟨j, h1, h2⟩
    · exact ⟨_, Nat.le_refl _, .inl h⟩
    · exact ⟨j, h1, .inr h2⟩
  refine s_markByteS (k := 1) hB hbl (by decide) fun m7 hch7 hm => ?_
  have hs7 : SlR m7 1 g0 ((mkL mB 1 1 (ob (encode ps)).length).map bR) := by
    rcases hB with ⟨rfl, hb⟩ | hB
    · rw [hb]; rfl
    · rcases hm with rfl | hm
      · obtain ⟨c, B, h0, -⟩ := hB
        cases h0
      · exact hm.r
  have hm7 : m2.le m7 := hch7.le hm6 fun a ha => by
    obtain rfl : a = j := by simpa using ha
    exact Nat.le_trans hm3.len hj
  clear hB hm hch7 hch
  have hm07 := hm12.trans hm7
  generalize hn : (ob (encode ps)).length = n at *
  have e1 : (((1 + n : Nat) : Int) < 0) = False := by rw [eq_iff_iff, iff_false]; omega
  refine goh_ ?_
  refine s_heldByteS (k := 1) hs7 hbl (by decide) ?_
  refine goh_ ?_
  refine s_toCode (hp.mono hm07) hl' hfit ?_
  intro m8 own8 hm8 ho8 hr8
  have hm08 := hm07.trans hm8
  refine goh_ ?_
  refine s_implEncode (hF.mono hm08) ho8.r hl hL hwt (ansB.mk fun h0 m9 hm9 hh0 => ?_)
  obtain ⟨d1, d2, d3, d4⟩ := hh0.facts
  have hw9 := hw0.r.mono ((hm7.trans hm8).trans hm9)
  have hs9 := hs7.mono (hm8.trans hm9)
  have hm09 := hm08.trans hm9
  refine goh_ ?_
  refine s_eqByteS hh0.r hw9 (by clear e1; omega) ?_
  refine goh_ ?_
  refine s_heldByteS (k := 1) hs9 hbl (by decide) ?_
  have h := h _ hm09
  exact gox_
end Go.Proofs.YtdonkjepjobhnaaDoor.IM
namespace Go.Proofs.IM
open Go Go.Proofs.Flt
theorem fne_i2f (n : Int) : fne (i2f n) (i2f n) = false := by rw [fne_iff, feq_self, nan_i2f]; rfl
theorem mkPs_get : ∀ {ps : List Pr} {k i : Nat} (h : i < ps.length), (mkPs k ps)[i]'(by rw [mkPs_len]; exact h) = mkP (k + sumBy stP (ps.take i)) ps[i]
  | [], _, _, h => absurd h (by simp)
  | p :: ps, k, 0, h => rfl
  | p :: ps, k, i + 1, h => by
    have := mkPs_get (ps := ps) (k := k + stP p) (i := i) (by simpa using h)
    simp only [mkPs, List.getElem_cons_succ, List.take_succ_cons, sumBy]
    rw [this, Nat.add_assoc]
end Go.Proofs.IM
namespace Go.Proofs.YtdonkjepjobhnaaDoor.IM
open Go Go.Proofs.IM Go.Proofs.Flt
set_option maxHeartbeats 8000000
set_option maxRecDepth 100000
theorem s_heldUpS {s : AV} {n k : Nat} {m : Mem} {K : AR → Mem → Prop} (hs : SlR m 2 s ((mkL mkU 2 k n).map U.av)) (hl : n ≤ 2 ^ 30) (hk1 : 1 ≤ k) (hk : k ≤ 2 ^ 38) (h : K (.ret (.int .i64 ((k + 2 * n : Nat) : Int))) m) : Sim Tryd.prog 110 [s, .int .i64 k] m K := by
  refine entry (cxok []) Tryd.func110 rfl rfl (by decide) (by decide) ?_
  have l1 := hs.len'
  rw [List.length_map, mkL_len] at l1
  refine goh_ ?_
  refine loop_ (fun k' t l c m' => m' = m ∧ ∃ (i : Nat), t 0 = s ∧ t 1 = .int .i64 ((k + 2 * i : Nat) : Int) ∧ t 5 = .int .i64 i ∧ i ≤ n ∧ k' = n - i) n ?_ ?_
  · exact ⟨rfl, 0, rfl, rfl, rfl, by omega, by omega⟩
  intro k' t l c m1 KN ⟨hm, i, g0, g1, g5, hi, hk'⟩ next
  subst m1
  rcases Nat.lt_or_ge i n with hj | hj
  · have e8 : ((i : Int) < n) = True := by rw [eq_iff_iff, iff_true]; omega
    obtain ⟨a, i0, cap, B, rfl, hb, hz, hr⟩ := hs.some_ (j := i) (by rw [List.length_map, mkL_len]; exact hj)
    replace hr := fun l => hr l i (by rw [List.length_map, mkL_len]; exact hj)
    simp only [List.getElem_map, mkL_get hj] at hr
    have hml : (mkL mkU 2 k n).length = n := mkL_len
    have hw := w64_succ hj (by omega)
    have hq : k + 2 * i ≤ 2 ^ 39 := by omega
    have e9 : k + 2 * (i + 1) = k + 2 * i + 2 := by omega
    generalize hqd : k + 2 * i = q at hr hq g1 e9
    have hav : (mkU q).av = [.bool ((q : Int).tmod 3 == 0), .int .i64 ((q + 1 : Nat) : Int)] := rfl
    rw [hav] at hr
    have hq1 : 1 ≤ q := by omega
    have ef := fne_i2f
    have i0 : w64 (((q : Nat) : Int) + 1) = ((q + 1 : Nat) : Int) := by rw [w64_id (by omega)]; omega
    have i1 : w64 (((q + 1 : Nat) : Int) + 1) = ((q + 2 : Nat) : Int) := by rw [w64_id (by omega)]; omega
    clear hqd hav
    refine goh_ ?_
    exact next _ _ _ _ _ (by clear e8; omega) ⟨rfl, i + 1, g0, by rw [e9]; rfl, rfl, by clear e8; omega, rfl⟩
  · have hj : i = n := by omega
    subst hj
    have e8 : ((i : Int) < i) = False := by rw [eq_iff_iff, iff_false]; omega
    exact gox_
theorem s_heldValueS {s : AV} {n k : Nat} {m : Mem} {K : AR → Mem → Prop} (hs : SlR m 5 s ((mkL mkV 5 k n).map V.av)) (hl : n ≤ 2 ^ 30) (hk1 : 1 ≤ k) (hk : k ≤ 2 ^ 38) (h : K (.ret (.int .i64 ((k + 5 * n : Nat) : Int))) m) : Sim Tryd.prog 111 [s, .int .i64 k] m K := by
  refine entry (cxok []) Tryd.func111 rfl rfl (by decide) (by decide) ?_
  have l1 := hs.len'
  rw [List.length_map, mkL_len] at l1
  refine goh_ ?_
  refine loop_ (fun k' t l c m' => m' = m ∧ ∃ (i : Nat), t 0 = s ∧ t 1 = .int .i64 ((k + 5 * i : Nat) : Int) ∧ t 5 = .int .i64 i ∧ i ≤ n ∧ k' = n - i) n ?_ ?_
  · exact ⟨rfl, 0, rfl, rfl, rfl, by omega, by omega⟩
  intro k' t l c m1 KN ⟨hm, i, g0, g1, g5, hi, hk'⟩ next
  subst m1
  rcases Nat.lt_or_ge i n with hj | hj
  · have e8 : ((i : Int) < n) = True := by rw [eq_iff_iff, iff_true]; omega
    obtain ⟨a, i0, cap, B, rfl, hb, hz, hr⟩ := hs.some_ (j := i) (by rw [List.length_map, mkL_len]; exact hj)
    replace hr := fun l => hr l i (by rw [List.length_map, mkL_len]; exact hj)
    simp only [List.getElem_map, mkL_get hj] at hr
    have hml : (mkL mkV 5 k n).length = n := mkL_len
    have hw := w64_succ hj (by omega)
    have hq : k + 5 * i ≤ 2 ^ 39 := by omega
    have e9 : k + 5 * (i + 1) = k + 5 * i + 5 := by omega
    generalize hqd : k + 5 * i = q at hr hq g1 e9
    have hav : (mkV q).av = [.int .i64 (q : Int), .int .i64 ((q + 1 : Nat) : Int), .flt (i2f ((q + 2 : Nat) : Int)), .str (mT (q + 3)), .int .i64 ((q + 4 : Nat) : Int)] := rfl
    rw [hav] at hr
    have hq1 : 1 ≤ q := by omega
    have ef := fne_i2f
    have i0 : w64 (((q : Nat) : Int) + 1) = ((q + 1 : Nat) : Int) := by rw [w64_id (by omega)]; omega
    have i1 : w64 (((q + 1 : Nat) : Int) + 1) = ((q + 2 : Nat) : Int) := by rw [w64_id (by omega)]; omega
    have i2 : w64 (((q + 2 : Nat) : Int) + 1) = ((q + 3 : Nat) : Int) := by rw [w64_id (by omega)]; omega
    have i3 : w64 (((q + 3 : Nat) : Int) + 1) = ((q + 4 : Nat) : Int) := by rw [w64_id (by omega)]; omega
    have i4 : w64 (((q + 4 : Nat) : Int) + 1) = ((q + 5 : Nat) : Int) := by rw [w64_id (by omega)]; omega
    clear hqd hav
    refine goh_ ?_
    refine draw_ [(0, .pure), (1, .pure), (2, .pure), (3, .pure), (4, .read), (5, .pure), (6, .step [4]), (7, .pure)] (by kernel_rfl) ?_
    refine goh_ ?_
    refine s_markText (by clear e8; omega) (by clear e8; omega) ?_
    refine goh_ ?_
    exact next _ _ _ _ _ (by clear e8; omega) ⟨rfl, i + 1, g0, by rw [e9]; rfl, rfl, by clear e8; omega, rfl⟩
  · have hj : i = n := by omega
    subst hj
    have e8 : ((i : Int) < i) = False := by rw [eq_iff_iff, iff_false]; omega
    exact gox_
theorem s_heldInsS {s : AV} {n k : Nat} {m : Mem} {K : AR → Mem → Prop} (hs : SlR m 5 s ((mkL mkI 5 k n).map I.av)) (hl : n ≤ 2 ^ 30) (hk1 : 1 ≤ k) (hk : k ≤ 2 ^ 38) (h : K (.ret (.int .i64 ((k + 5 * n : Nat) : Int))) m) : Sim Tryd.prog 112 [s, .int .i64 k] m K := by
  refine entry (cxok []) Tryd.func112 rfl rfl (by decide) (by decide) ?_
  have l1 := hs.len'
  rw [List.length_map, mkL_len] at l1
  refine goh_ ?_
  refine loop_ (fun k' t l c m' => m' = m ∧ ∃ (i : Nat), t 0 = s ∧ t 1 = .int .i64 ((k + 5 * i : Nat) : Int) ∧ t 5 = .int .i64 i ∧ i ≤ n ∧ k' = n - i) n ?_ ?_
  · exact ⟨rfl, 0, rfl, rfl, rfl, by omega, by omega⟩
  intro k' t l c m1 KN ⟨hm, i, g0, g1, g5, hi, hk'⟩ next
  subst m1
  rcases Nat.lt_or_ge i n with hj | hj
  · have e8 : ((i : Int) < n) = True := by rw [eq_iff_iff, iff_true]; omega
    obtain ⟨a, i0, cap, B, rfl, hb, hz, hr⟩ := hs.some_ (j := i) (by rw [List.length_map, mkL_len]; exact hj)
    replace hr := fun l => hr l i (by rw [List.length_map, mkL_len]; exact hj)
    simp only [List.getElem_map, mkL_get hj] at hr
    have hml : (mkL mkI 5 k n).length = n := mkL_len
    have hw := w64_succ hj (by omega)
    have hq : k + 5 * i ≤ 2 ^ 39 := by omega
    have e9 : k + 5 * (i + 1) = k + 5 * i + 5 := by omega
    generalize hqd : k + 5 * i = q at hr hq g1 e9
    have hav : (mkI q).av = [.int .i64 (q : Int), .int .i64 ((q + 1 : Nat) : Int), .int .i64 ((q + 2 : Nat) : Int), .int .i64 ((q + 3 : Nat) : Int), .int .i64 ((q + 4 : Nat) : Int)] := rfl
    rw [hav] at hr
    have hq1 : 1 ≤ q := by omega
    have ef := fne_i2f
    have i0 : w64 (((q : Nat) : Int) + 1) = ((q + 1 : Nat) : Int) := by rw [w64_id (by omega)]; omega
    have i1 : w64 (((q + 1 : Nat) : Int) + 1) = ((q + 2 : Nat) : Int) := by rw [w64_id (by omega)]; omega
    have i2 : w64 (((q + 2 : Nat) : Int) + 1) = ((q + 3 : Nat) : Int) := by rw [w64_id (by omega)]; omega
    have i3 : w64 (((q + 3 : Nat) : Int) + 1) = ((q + 4 : Nat) : Int) := by rw [w64_id (by omega)]; omega
    have i4 : w64 (((q + 4 : Nat) : Int) + 1) = ((q + 5 : Nat) : Int) := by rw [w64_id (by omega)]; omega
    clear hqd hav
    refine goh_ ?_
    exact next _ _ _ _ _ (by clear e8; omega) ⟨rfl, i + 1, g0, by rw [e9]; rfl, rfl, by clear e8; omega, rfl⟩
  · have hj : i = n := by omega
    subst hj
    have e8 : ((i : Int) < i) = False := by rw [eq_iff_iff, iff_false]; omega
    exact gox_
theorem s_heldNamedS {s : AV} {n k : Nat} {m : Mem} {K : AR → Mem → Prop} (hs : SlR m 4 s ((mkL mkN 4 k n).map Nm.av)) (hl : n ≤ 2 ^ 30) (hk1 : 1 ≤ k) (hk : k ≤ 2 ^ 38) (h : K (.ret (.int .i64 ((k + 4 * n : Nat) : Int))) m) : Sim Tryd.prog 113 [s, .int .i64 k] m K := by
  refine entry (cxok []) Tryd.func113 rfl rfl (by decide) (by decide) ?_
  have l1 := hs.len'
  rw [List.length_map, mkL_len] at l1
  refine goh_ ?_
  refine loop_ (fun k' t l c m' => m' = m ∧ ∃ (i : Nat), t 0 = s ∧ t 1 = .int .i64 ((k + 4 * i : Nat) : Int) ∧ t 5 = .int .i64 i ∧ i ≤ n ∧ k' = n - i) n ?_ ?_
  · exact ⟨rfl, 0, rfl, rfl, rfl, by omega, by omega⟩
  intro k' t l c m1 KN ⟨hm, i, g0, g1, g5, hi, hk'⟩ next
  subst m1
  rcases Nat.lt_or_ge i n with hj | hj
  · have e8 : ((i : Int) < n) = True := by rw [eq_iff_iff, iff_true]; omega
    obtain ⟨a, i0, cap, B, rfl, hb, hz, hr⟩ := hs.some_ (j := i) (by rw [List.length_map, mkL_len]; exact hj)
    replace hr := fun l => hr l i (by rw [List.length_map, mkL_len]; exact hj)
    simp only [List.getElem_map, mkL_get hj] at hr
    have hml : (mkL mkN 4 k n).length = n := mkL_len
    have hw := w64_succ hj (by omega)
    have hq : k + 4 * i ≤ 2 ^ 39 := by omega
    have e9 : k + 4 * (i + 1) = k + 4 * i + 4 := by omega
    generalize hqd : k + 4 * i = q at hr hq g1 e9
    have hav : (mkN q).av = [.str (mT q), .int .i64 ((q + 1 : Nat) : Int), .int .i64 ((q + 2 : Nat) : Int), .int .i64 ((q + 3 : Nat) : Int)] := rfl
    rw [hav] at hr
    have hq1 : 1 ≤ q := by omega
    have ef := fne_i2f
    have i0 : w64 (((q : Nat) : Int) + 1) = ((q + 1 : Nat) : Int) := by rw [w64_id (by omega)]; omega
    have i1 : w64 (((q + 1 : Nat) : Int) + 1) = ((q + 2 : Nat) : Int) := by rw [w64_id (by omega)]; omega
    have i2 : w64 (((q + 2 : Nat) : Int) + 1) = ((q + 3 : Nat) : Int) := by rw [w64_id (by omega)]; omega
    have i3 : w64 (((q + 3 : Nat) : Int) + 1) = ((q + 4 : Nat) : Int) := by rw [w64_id (by omega)]; omega
    clear hqd hav
    refine goh_ ?_
    refine draw_ [(0, .pure), (1, .pure), (2, .pure), (3, .pure), (4, .read), (5, .pure), (6, .step [4]), (7, .pure)] (by kernel_rfl) ?_
    refine goh_ ?_
    refine s_markText (by clear e8; omega) (by clear e8; omega) ?_
    refine goh_ ?_
    exact next _ _ _ _ _ (by clear e8; omega) ⟨rfl, i + 1, g0, by rw [e9]; rfl, rfl, by clear e8; omega, rfl⟩
  · have hj : i = n := by omega
    subst hj
    have e8 : ((i : Int) < i) = False := by rw [eq_iff_iff, iff_false]; omega
    exact gox_
theorem s_heldProtoS {s : AV} {ps : List Pr} {k : Nat} {m : Mem} {K : AR → Mem → Prop} (hs : PsR m s (mkPs k ps)) (hk1 : 1 ≤ k) (hk : k + sumBy stP ps ≤ 2 ^ 30) (h : K (.ret (.int .i64 ((k + sumBy stP ps : Nat) : Int))) m) : Sim Tryd.prog 43 [s, .int .i64 k] m K := by
  refine entry (cxok []) Tryd.func43 rfl rfl (by decide) (by decide) ?_
  have l1 := hs.len'
  rw [mkPs_len] at l1
  have hll := len_le_sum (ps := ps)
  refine goh_ ?_
  refine loop_ (fun k' t l c m' => m' = m ∧ ∃ (i : Nat), t 0 = s ∧ t 1 = .int .i64 ((k + sumBy stP (ps.take i) : Nat) : Int) ∧ t 5 = .int .i64 i ∧ i ≤ ps.length ∧ k' = ps.length - i) ps.length ?_ ?_
  · exact ⟨rfl, 0, rfl, rfl, rfl, by omega, by omega⟩
  intro k' t l c m1 KN ⟨hm, i, g0, g1, g5, hi, hk'⟩ next
  subst m1
  rcases Nat.lt_or_ge i ps.length with hj | hj
  · have e8 : ((i : Int) < ps.length) = True := by rw [eq_iff_iff, iff_true]; omega
    obtain ⟨a, i0, cp, B, s1, s2, s3, s4, rfl, hb, hz, hr, q1, q2, q3, q4⟩ := hs.at_ (i := i) (by rw [mkPs_len]; exact hj)
    rw [mkPs_get hj] at hr q1 q2 q3 q4
    have hml : (mkPs k ps).length = ps.length := mkPs_len
    have hsum := sumBy_get (f := stP) hj
    have e9 := sumBy_take_succ (f := stP) hj
    have hw := w64_succ hj (by omega)
    generalize ps[i] = p at hr q1 q2 q3 q4 hsum e9
    have hst : stP p = 5 + 2 * p.ups.length + 5 * p.consts.length + 5 * p.ins.length + 4 * p.named.length := rfl
    generalize hqd : k + sumBy stP (ps.take i) = q at hr q1 q2 q3 q4 g1
    have e9' : k + sumBy stP (ps.take (i + 1)) = q + stP p := by omega
    have hq : q + stP p ≤ 2 ^ 30 := by omega
    have hq1 : 1 ≤ q := by omega
    simp only [mkP] at hr q1 q2 q3 q4
    obtain ⟨a1, a2, a3, a4⟩ := q1.facts
    obtain ⟨a5, a6, a7, a8⟩ := q2.facts
    obtain ⟨c1, c2, c3, c4⟩ := q3.facts
    obtain ⟨c5, c6, c7, c8⟩ := q4.facts
    clear e9 hqd hsum
    have i0' : w64 ((q : Int) + 1) = ((q + 1 : Nat) : Int) := by rw [w64_id (by omega)]; omega
    have i1 : w64 (((q + 1 : Nat) : Int) + 1) = ((q + 2 : Nat) : Int) := by rw [w64_id (by omega)]; omega
    have i2 : w64 (((q + 2 : Nat) : Int) + 1) = ((q + 3 : Nat) : Int) := by rw [w64_id (by omega)]; omega
    have i3 : w64 (((q + 3 : Nat) : Int) + 1) = ((q + 4 : Nat) : Int) := by rw [w64_id (by omega)]; omega
    have i4 : w64 (((q + 4 : Nat) : Int) + 1) = ((q + 5 : Nat) : Int) := by rw [w64_id (by omega)]; omega
    have nn : ∀ x : Nat, (((x : Nat) : Int) < 0) = False := fun x => by rw [eq_iff_iff, iff_false]; omega
    refine goh_ ?_
    refine draw_ [(0, .pure), (1, .pure), (2, .pure), (3, .pure), (4, .read), (5, .pure), (6, .step [4]), (7, .pure)] (by kernel_rfl) ?_
    refine goh_ ?_
    refine s_markText hq1 (by clear e8 nn; omega) ?_
    refine goh_ ?_
    refine s_heldUpS (k := q + 5) q1 (by clear e8 nn; omega) (by clear e8 nn; omega) (by clear e8 nn; omega) ?_
    generalize hk2 : q + 5 + 2 * p.ups.length = k2 at q2 q3 q4 ⊢
    refine goh_ ?_
    refine s_heldValueS (k := k2) q2 (by clear e8 nn; omega) (by clear e8 nn; omega) (by clear e8 nn; omega) ?_
    generalize hk3 : k2 + 5 * p.consts.length = k3 at q3 q4 ⊢
    refine goh_ ?_
    refine s_heldInsS (k := k3) q3 (by clear e8 nn; omega) (by clear e8 nn; omega) (by clear e8 nn; omega) ?_
    generalize hk4 : k3 + 5 * p.ins.length = k4 at q4 ⊢
    refine goh_ ?_
    refine s_heldNamedS (k := k4) q4 (by clear e8 nn; omega) (by clear e8 nn; omega) (by clear e8 nn; omega) ?_
    generalize hk5 : k4 + 4 * p.named.length = k5
    refine goh_ ?_
    have et : k5 = k + sumBy stP (ps.take (i + 1)) := by clear e8 nn; omega
    exact next _ _ _ _ _ (by clear e8 nn; omega) ⟨rfl, i + 1, g0, by rw [← et]; rfl, rfl, by clear e8 nn; omega, rfl⟩
  · have hj : i = ps.length := by omega
    subst hj
    have e8 : ((ps.length : Int) < ps.length) = False := by rw [eq_iff_iff, iff_false]; omega
    rw [List.take_length] at g1
    exact gox_
theorem s_heldCode {s : AV} {ps : List Pr} {k : Nat} {m : Mem} {K : AR → Mem → Prop} (hs : PsR m s (mkPs k ps)) (hk1 : 1 ≤ k) (hk : k + sumBy stP ps ≤ 2 ^ 30) (h : K (.ret (.int .i64 ((k + sumBy stP ps : Nat) : Int))) m) : Sim Tryd.prog 16 [.agg [s], .int .i64 k] m K := by
  refine entry (cxok []) Tryd.func16 rfl rfl (by decide) (by decide) ?_
  obtain ⟨a1, a2, a3, a4⟩ := hs.facts
  have e0 : (((k + sumBy stP ps : Nat) : Int) < 0) = False := by rw [eq_iff_iff, iff_false]; omega
  refine goh_ ?_
  refine s_heldProtoS hs hk1 hk ?_
  exact gox_
end Go.Proofs.YtdonkjepjobhnaaDoor.IM
namespace Go.Proofs.YtdonkjepjobhnaaDoor.IM
open Go Go.Proofs.IM Go.Proofs.Flt
theorem s_frombits {b : Nat} {m : Mem} {K : AR → Mem → Prop} (h : K (.ret (.flt b)) m) : Sim Tryd.prog 152 [.int .u64 b] m K :=
  sim_one h fun E w x hx => by
    cases hx
    exact ⟨_, run_frombits Tryd.func152 (by decide) rfl (by kernel_rfl) (by kernel_rfl) (b : Int) w, .flt _⟩
end Go.Proofs.YtdonkjepjobhnaaDoor.IM
namespace Go.Proofs.YtdonkjepjobhnaaDoor.IM
open Go Go.Proofs.IM Go.Proofs.Flt
set_option maxHeartbeats 8000000
set_option maxRecDepth 100000
theorem s_vStr {s : ByteArray} {m : Mem} {K : AR → Mem → Prop} (h : K (.ret (.agg [.int .i64 4, .int .i64 0, .flt 0, .str s, .int .i64 0])) m) : Sim Tryd.prog 78 [.str s] m K := by
  refine entry (cxok []) Tryd.func78 rfl rfl (by decide) (by decide) ?_
  exact gox_
theorem s_vFlt {b : Nat} {m : Mem} {K : AR → Mem → Prop} (h : K (.ret (.agg [.int .i64 3, .int .i64 0, .flt b, .str ByteArray.empty, .int .i64 0])) m) : Sim Tryd.prog 80 [.flt b] m K := by
  refine entry (cxok []) Tryd.func80 rfl rfl (by decide) (by decide) ?_
  exact gox_
theorem s_toByteS {s : AV} {xs : List UInt8} {m : Mem} {K : AR → Mem → Prop} (hs : SlR m 1 s (xs.map bR)) (hl : xs.length < 2 ^ 40) (h : K (.ret (.sl (.hp m.hp.length) 0 xs.length xs.length)) (m.push ⟨xs.map bR, 1⟩)) :
    Sim Tryd.prog 10 [s] m K := by
  refine entry (cxok []) Tryd.func10 rfl rfl (by decide) (by decide) ?_
  have hlen := hs.len'
  rw [List.length_map] at hlen
  refine goh_ ?_
  refine ⟨by omega, ?_⟩
  refine loop_ (fun k t l c m' => ∃ (i : Nat), m' = m.push ⟨fillR (xs.map bR) [.int .u8 0] i, 1⟩ ∧ t 0 = s ∧ t 3 = .sl (.hp m.hp.length) 0 xs.length xs.length ∧ t 4 = .int .i64 i ∧ i ≤ xs.length ∧ k = xs.length - i) xs.length ?_ ?_
  · exact ⟨0, by rw [fillR_0, List.length_map], rfl, rfl, rfl, by omega, by omega⟩
  intro k t l c m' KN ⟨i, hm, h0, h3, h4, hi, hk⟩ next
  subst hm
  have hs := hs.mono (Mem.le.push m ⟨fillR (xs.map bR) [.int .u8 0] i, 1⟩)
  have hlen := hs.len'
  rw [List.length_map] at hlen
  refine goh_ ?_
  refine ⟨fun hc => ?_, fun hc => ?_⟩
  · have hj : i < xs.length := by omega
    obtain ⟨a, i0, cap, B, rfl, hb, hz, hr⟩ := hs.some_ (j := i) (by simpa using hj)
    replace hr := fun l => hr l i (by simpa using hj)
    simp only [List.getElem_map] at hr
    have hw := w64_succ hj (show xs.length < 2 ^ 63 by omega)
    have hg := fillR_get (A := xs.map bR) (z := [.int .u8 0]) (i := i) (by simpa using hj)
    have hf := fillR_set (A := xs.map bR) (z := [.int .u8 0]) (i := i) (by simpa using hj)
    simp only [List.getElem_map] at hf
    have hbR : bR xs[i] = [.int .u8 (xs[i].toNat : Int)] := rfl
    rw [hbR] at hf hr
    refine goh_ ?_
    exact next _ _ _ _ _ (by omega) ⟨i + 1, rfl, h0, h3, rfl, by omega, rfl⟩
  · have hj : i = xs.length := by omega
    subst hj
    have := fillR_end (xs.map bR) [.int .u8 0]
    rw [List.length_map] at this
    rw [this]
    exact h
end Go.Proofs.YtdonkjepjobhnaaDoor.IM
namespace Go.Proofs.IM
open Go
/-- A reader of the implementation: its row of one's own. -/
structure RdO (m0 m : Mem) (j : Nat) (s : AV) (bs : List UInt8) (i : Nat) : Prop where
  le : m0.le m
  out : m0.hp.length ≤ j
  form : ∃ jj, s = .sl (.hp jj) 0 bs.length bs.length ∧ m0.hp[jj]? = some ⟨bs.map bR, 1⟩
  pos : i ≤ bs.length
  len : bs.length ≤ 1048576
  row : m.hp[j]? = some ⟨[[s, .int .i64 i]], 2⟩
def Mem.rd (m : Mem) (j : Nat) (s : AV) (i : Nat) : Mem := { m with hp := m.hp.set j ⟨[[s, .int .i64 i]], 2⟩ }
theorem Mem.rd_rd (m : Mem) (j : Nat) (s : AV) (i i' : Nat) : (m.rd j s i).rd j s i' = m.rd j s i' := by simp [Mem.rd]
theorem RdO.sl {m0 m : Mem} {j : Nat} {s : AV} {bs : List UInt8} {i : Nat} (h : RdO m0 m j s bs i) : SlR m0 1 s (bs.map bR) := by
  obtain ⟨jj, rfl, h2⟩ := h.form
  exact ⟨fun _ h => (by cases h), _, h2, rfl, by simp, by
    show List.take bs.length (bs.map bR) = _
    have := List.take_length (l := bs.map bR)
    rwa [List.length_map] at this⟩
theorem RdO.set {m0 m : Mem} {j : Nat} {s : AV} {bs : List UInt8} {i i' : Nat} (h : RdO m0 m j s bs i) (hi : i' ≤ bs.length) : RdO m0 (m.rd j s i') j s bs i' :=
  ⟨h.le.set h.out _, h.out, h.form, hi, h.len, by
    have := (List.getElem?_eq_some_iff.1 h.row).1
    simp [Mem.rd, this]⟩
theorem RdO.same {m0 m : Mem} {j : Nat} {s : AV} {bs : List UInt8} {i : Nat} (h : RdO m0 m j s bs i) : m.rd j s i = m := by
  obtain ⟨h1, h2⟩ := List.getElem?_eq_some_iff.1 h.row
  have : m.hp.set j ⟨[[s, .int .i64 i]], 2⟩ = m.hp := by rw [← h2]; exact List.set_getElem_self h1
  unfold Mem.rd; rw [this]
theorem RdO.fact {m0 m : Mem} {j : Nat} {s : AV} {bs : List UInt8} {i : Nat} (h : RdO m0 m j s bs i) : i ≤ 1048576 ∧ (i : Int) ≤ bs.length ∧ (bs.length : Int) ≤ 1048576 := by
  have := h.pos; have := h.len; omega
end Go.Proofs.IM
namespace Go.Proofs.YtdonkjepjobhnaaDoor.IM
open Go Go.Proofs.IM Go.Proofs.Flt
set_option maxHeartbeats 8000000
set_option maxRecDepth 100000
abbrev shortV : Value := .iface 70 (.agg #[])
theorem s_rbyte {m0 m : Mem} {j : Nat} {s : AV} {bs : List UInt8} {i : Nat} {K : AR → Mem → Prop} (hr : RdO m0 m j s bs i)
    (h : ∀ (hi : i < bs.length), K (.ret (.int .u8 ((bs[i]'hi).toNat : Int))) (m.rd j s (i + 1))) (hp : bs.length ≤ i → K (.pan shortV) m) :
    Sim Tryd.prog 37 [.ptr (.hp j) 0 0] m K := by
  refine entry (cxok []) Tryd.func37 rfl rfl (by decide) (by decide) ?_
  obtain ⟨f1, f2, f3, f4⟩ := hr.sl.facts
  have hrow := hr.row
  have hl := (hr.sl.mono hr.le).len'
  rw [List.length_map] at hl
  refine goh_ ?_
  refine draw_ [(0, .pure), (1, .pure), (2, .pure), (3, .read), (4, .pure), (5, .pure), (6, .pure), (7, .read), (8, .pure), (9, .pure)] (by kernel_rfl) ?_
  have hpos := hr.pos
  have hle := hr.len
  have hw := w64_succ (n := bs.length) (i := i)
  refine goh_ ?_
  refine ⟨fun hc => hp (by omega), fun hc => ?_⟩
  have hi : i < bs.length := by omega
  replace hw := hw hi (by omega)
  have hr' := hr.set (i' := i + 1) (by omega)
  have hs := hr'.sl.mono hr'.le
  have hl := hs.len'
  rw [List.length_map] at hl
  obtain ⟨a, i0, cap, B, rfl, hb, hz, hrr⟩ := hs.some_ (j := i) (by simpa using hi)
  replace hrr := fun l => hrr l i (by simpa using hi)
  simp only [List.getElem_map] at hrr
  have hbR : bR bs[i] = [.int .u8 (bs[i].toNat : Int)] := rfl
  rw [hbR] at hrr
  replace h := h hi
  have hrow' : (m.hp.set j ⟨[[.sl a i0 (bs.map bR).length cap, .int .i64 ((i + 1 : Nat) : Int)]], 2⟩)[j]? = some ⟨[[.sl a i0 (bs.map bR).length cap, .int .i64 ((i + 1 : Nat) : Int)]], 2⟩ := hr'.row
  rw [List.length_map] at hrow'
  have hw2 : w64 (((i + 1 : Nat) : Int) - 1) = i := by rw [w64_id (by omega)]; omega
  unfold Mem.rd at *
  simp only [List.length_map] at hb hrr h
  have hlt : (i : Int) < (bs.length : Int) := by omega
  refine goh_ ?_
  refine draw_ [(0, .pure), (1, .pure), (2, .pure), (3, .read), (4, .pure), (5, .pure), (6, .pure), (7, .read), (8, .pure), (9, .pure), (10, .read), (11, .pure)] (by kernel_rfl) ?_
  exact gox_
end Go.Proofs.YtdonkjepjobhnaaDoor.IM
namespace Go.Proofs.IM
open Go
theorem drop_head {bs r : List UInt8} {a : UInt8} {i : Nat} (h : bs.drop i = a :: r) : ∃ hi : i < bs.length, bs[i] = a ∧ bs.drop (i + 1) = r := by
  have hi : i < bs.length := by
    rcases Nat.lt_or_ge i bs.length with h1 | h1
    · exact h1
    · rw [List.drop_eq_nil_of_le h1] at h; cases h
  rw [List.drop_eq_getElem_cons hi] at h
  cases h
  exact ⟨hi, rfl, rfl⟩
def orN (x b k : Nat) : Nat := x ||| ((b % 128) * 128 ^ k % 2 ^ 64)
theorem orN_lt {x b k : Nat} (h : x < 2 ^ 64) : orN x b k < 2 ^ 64 := Nat.or_lt_two_pow h (Nat.mod_lt _ (by decide))
theorem orN_add {x b k : Nat} (hx : x < 128 ^ k) (hb : (b % 128) * 128 ^ k < 2 ^ 64) : orN x b k = x + (b % 128) * 128 ^ k := by
  unfold orN
  rw [Nat.mod_eq_of_lt hb]
  have e : (128 : Nat) ^ k = 2 ^ (7 * k) := by rw [Nat.pow_mul]
  rw [e] at hx ⊢
  have := Nat.shiftLeft_add_eq_or_of_lt hx (b % 128)
  rw [Nat.shiftLeft_eq] at this
  rw [Nat.or_comm, ← this, Nat.add_comm]
theorem and127 : ∀ y : Fin 256, (BitVec.ofNat 8 y.val &&& 127#8).toNat = y.val % 128 := by decide +kernel
theorem byte_and (b : UInt8) : IntKind.u8.wrap ((BitVec.ofInt IntKind.u8.bits (b.toNat : Int) &&& BitVec.ofInt IntKind.u8.bits 127).toNat : Int) = ((b.toNat % 128 : Nat) : Int) := by
  have hb : IntKind.u8.bits = 8 := rfl
  have := b.toNat_lt
  rw [hb, u8_wrap]
  have e1 : BitVec.ofInt 8 (b.toNat : Int) = BitVec.ofNat 8 b.toNat := BitVec.ofInt_natCast 8 _
  have e2 : BitVec.ofInt 8 127 = 127#8 := by decide
  rw [e1, e2, and127 ⟨b.toNat, by omega⟩]
  simp only
  omega
theorem u64_or (x y : Nat) (hx : x < 2 ^ 64) (hy : y < 2 ^ 64) : IntKind.u64.wrap ((BitVec.ofInt IntKind.u64.bits (x : Int) ||| BitVec.ofInt IntKind.u64.bits (y : Int)).toNat : Int) = ((x ||| y : Nat) : Int) := by
  have hb : IntKind.u64.bits = 64 := rfl
  have := Nat.or_lt_two_pow hx hy
  rw [hb, u64_wrap, BitVec.ofInt_natCast, BitVec.ofInt_natCast, BitVec.toNat_or, BitVec.toNat_ofNat, BitVec.toNat_ofNat, Nat.mod_eq_of_lt hx, Nat.mod_eq_of_lt hy]
  omega
theorem u64_shl7 (y k : Nat) (hk : k ≤ 9) : IntKind.u64.wrap ((y : Int) * 2 ^ min (7 * k) IntKind.u64.bits) = ((y * 128 ^ k % 2 ^ 64 : Nat) : Int) := by
  have hb : IntKind.u64.bits = 64 := rfl
  rw [hb, u64_wrap, Nat.min_eq_left (by omega)]
  have e : (128 : Nat) ^ k = 2 ^ (7 * k) := by rw [Nat.pow_mul]
  rw [e]
  have e2 : ((y : Int) * 2 ^ (7 * k)) = ((y * 2 ^ (7 * k) : Nat) : Int) := by simp
  rw [e2]
  generalize y * 2 ^ (7 * k) = z
  have e3 : (2 : Nat) ^ 64 = 18446744073709551616 := by decide
  rw [e3]; omega
theorem or_orN {x b k : Nat} (hx : x < 2 ^ 64) : IntKind.u64.wrap ((BitVec.ofInt IntKind.u64.bits (x : Int) ||| BitVec.ofInt IntKind.u64.bits ((b % 128 * 128 ^ k % 2 ^ 64 : Nat) : Int)).toNat : Int) = ((orN x b k : Nat) : Int) := by
  unfold orN
  generalize hy : b % 128 * 128 ^ k % 2 ^ 64 = y
  have : y < 2 ^ 64 := by rw [← hy]; exact Nat.mod_lt _ (by decide)
  exact u64_or x y hx this
theorem wrap7 {k : Nat} (hk : k ≤ 10) : IntKind.u64.wrap (IntKind.i64.wrap (7 * (k : Int))) = ((7 * k : Nat) : Int) := by
  have h : IntKind.i64.wrap (7 * (k : Int)) = 7 * (k : Int) := w64_id (by omega)
  rw [h, u64_wrap]; omega
theorem zz_lt {v : Int} (hv : i64 v) : zz v < 2 ^ 64 := by
  have e3 : (2 : Nat) ^ 64 = 18446744073709551616 := by decide
  rw [e3]; unfold zz; split <;> omega
theorem num_g {v : Int} {x k i' : Nat} {bs tl : List UInt8} (hv : i64 v) (hx : x = zz v % 128 ^ k) (hd : bs.drop i' = vb (zz v / 128 ^ k) ++ tl) (hk0 : 0 < k → 0 < zz v / 128 ^ k) :
    ∃ hlt : i' < bs.length, k ≤ 9 ∧ (k = 9 → (bs[i']'hlt).toNat ≤ 1) ∧ ((bs[i']'hlt).toNat < 128 → orN x (bs[i']'hlt).toNat k = zz v ∧ bs.drop (i' + 1) = tl) ∧
      (¬ (bs[i']'hlt).toNat < 128 → orN x (bs[i']'hlt).toNat k = zz v % 128 ^ (k + 1) ∧ bs.drop (i' + 1) = vb (zz v / 128 ^ (k + 1)) ++ tl ∧ 0 < zz v / 128 ^ (k + 1)) := by
  have hz := zz_lt hv
  generalize zz v = z at *
  have h64 : (2 : Nat) ^ 64 = 18446744073709551616 := by decide
  have hpos : 0 < 128 ^ k := Nat.pow_pos (by decide)
  have hxl : x < 128 ^ k := by rw [hx]; exact Nat.mod_lt _ hpos
  have hq : z / 128 ^ k * 128 ^ k ≤ z := Nat.div_mul_le_self _ _
  have hzz : z % 128 ^ k + z / 128 ^ k * 128 ^ k = z := by rw [Nat.mul_comm]; exact Nat.mod_add_div _ _
  have hk9 : k ≤ 9 := by
    rcases Nat.lt_or_ge 9 k with h | h
    · exfalso
      have h1 := hk0 (by omega)
      have h2 : 128 ^ 10 ≤ 128 ^ k := Nat.pow_le_pow_right (by decide) (by omega)
      have h3 : (128 : Nat) ^ 10 = 1180591620717411303424 := by decide
      have := Nat.div_eq_of_lt (a := z) (b := 128 ^ k) (by omega)
      omega
    · exact h
  have hq9 : k = 9 → z / 128 ^ k ≤ 1 := by
    rintro rfl
    have h3 : (128 : Nat) ^ 9 = 9223372036854775808 := by decide
    rw [h3]; omega
  have hs1 : z / 128 ^ (k + 1) = z / 128 ^ k / 128 := by rw [Nat.pow_succ, Nat.div_div_eq_div_mul]
  have hs2 : z % 128 ^ (k + 1) = z % 128 ^ k + 128 ^ k * (z / 128 ^ k % 128) := by rw [Nat.pow_succ, Nat.mod_mul]
  generalize hqq : z / 128 ^ k = q at *
  by_cases hlt : q < 128
  · rw [vb_lt hlt] at hd
    obtain ⟨hi, he, ht⟩ := drop_head hd
    have hb : (bs[i']'hi).toNat = q := by rw [he, UInt8.toNat_ofNat']; omega
    refine ⟨hi, hk9, fun h => by rw [hb]; exact hq9 h, fun _ => ⟨?_, ht⟩, fun h => absurd (by rw [hb]; exact hlt) h⟩
    rw [hb, orN_add hxl (by rw [Nat.mod_eq_of_lt hlt]; omega), Nat.mod_eq_of_lt hlt, hx]
    exact hzz
  · rw [vb_ge hlt] at hd
    obtain ⟨hi, he, ht⟩ := drop_head hd
    have hb : (bs[i']'hi).toNat = q % 128 + 128 := by rw [he, UInt8.toNat_ofNat']; omega
    refine ⟨hi, hk9, fun h => by have := hq9 h; omega, fun h => by omega, fun _ => ⟨?_, by rw [hs1]; exact ht, by rw [hs1]; omega⟩⟩
    have e : (q % 128 + 128) % 128 = q % 128 := by omega
    have hm : q % 128 * 128 ^ k ≤ q * 128 ^ k := Nat.mul_le_mul_right _ (Nat.mod_le _ _)
    rw [hb, orN_add hxl (by rw [e]; omega), e, hs2, hx, Nat.mul_comm (128 ^ k)]
def unz (x : Nat) : Int := if x % 2 = 0 then ((x / 2 : Nat) : Int) else -((x / 2 : Nat) : Int) - 1
theorem unz_zz (v : Int) : unz (zz v) = v := by
  unfold unz zz; split <;> split <;> omega
theorem unz_i64 {x : Nat} (h : x < 2 ^ 64) : i64 (unz x) := by
  have h64 : (2 : Nat) ^ 64 = 18446744073709551616 := by decide
  unfold unz i64; split <;> omega
theorem unz_even {x : Nat} (h : x < 2 ^ 64) (he : (((x : Int).tmod 2) == 0) = true) : IntKind.i64.wrap (IntKind.u64.wrap ((x : Int).tdiv 2)) = unz x := by
  have h64 : (2 : Nat) ^ 64 = 18446744073709551616 := by decide
  rw [Int.tmod_eq_emod_of_nonneg (by omega)] at he
  have he : (x : Int) % 2 = 0 := by simpa using he
  rw [Int.tdiv_eq_ediv_of_nonneg (by omega)]
  have e : IntKind.u64.wrap ((x : Int) / 2) = (x : Int) / 2 := by rw [u64_wrap]; omega
  rw [e]
  have e : IntKind.i64.wrap ((x : Int) / 2) = (x : Int) / 2 := w64_id (by omega)
  rw [e]
  unfold unz; rw [if_pos (by omega)]; omega
theorem unz_odd {x : Nat} (h : x < 2 ^ 64) (he : (((x : Int).tmod 2) == 0) = false) : IntKind.i64.wrap (IntKind.i64.wrap (0 - IntKind.i64.wrap (IntKind.u64.wrap ((x : Int).tdiv 2))) - 1) = unz x := by
  have h64 : (2 : Nat) ^ 64 = 18446744073709551616 := by decide
  rw [Int.tmod_eq_emod_of_nonneg (by omega)] at he
  have he : ¬ (x : Int) % 2 = 0 := by simpa using he
  rw [Int.tdiv_eq_ediv_of_nonneg (by omega)]
  have e : IntKind.u64.wrap ((x : Int) / 2) = (x : Int) / 2 := by rw [u64_wrap]; omega
  rw [e]
  have e : IntKind.i64.wrap ((x : Int) / 2) = (x : Int) / 2 := w64_id (by omega)
  rw [e]
  have e : IntKind.i64.wrap (0 - (x : Int) / 2) = 0 - (x : Int) / 2 := w64_id (by omega)
  rw [e]
  have e : IntKind.i64.wrap (0 - (x : Int) / 2 - 1) = 0 - (x : Int) / 2 - 1 := w64_id (by omega)
  rw [e]
  unfold unz; rw [if_neg (by omega)]; omega
end Go.Proofs.IM
namespace Go.Proofs.YtdonkjepjobhnaaDoor.IM
open Go Go.Proofs.IM Go.Proofs.Flt
set_option maxHeartbeats 8000000
set_option maxRecDepth 100000
theorem s_rnum {m0 m : Mem} {j : Nat} {s : AV} {bs : List UInt8} {i : Nat} {K : AR → Mem → Prop} (v : Int) (tl : List UInt8) (g : Prop) (hr : RdO m0 m j s bs i) (hg : g → i64 v ∧ bs.drop i = encN v ++ tl)
    (h : ∀ (n : Int) (i' : Nat), i64 n → i < i' → i' ≤ bs.length → (g → n = v ∧ bs.drop i' = tl) → K (.ret (.int .i64 n)) (m.rd j s i'))
    (hp : ¬ g → ∀ i', i ≤ i' → i' ≤ bs.length → K (.pan shortV) (m.rd j s i')) :
    Sim Tryd.prog 100 [.ptr (.hp j) 0 0] m K := by
  refine entry (cxok []) Tryd.func100 rfl rfl (by decide) (by decide) ?_
  refine goh_ ?_
  refine loop_ (fun d t l c m' => ∃ (k x i' : Nat), m' = m.rd j s i' ∧ t 0 = .ptr (.hp j) 0 0 ∧ t 3 = .int .u64 x ∧ t 4 = .int .i64 k ∧ i + k ≤ i' ∧ i' ≤ bs.length ∧ x < 2 ^ 64 ∧ k ≤ 10 ∧ (g → x = zz v % 128 ^ k ∧ bs.drop i' = vb (zz v / 128 ^ k) ++ tl ∧ (0 < k → 0 < zz v / 128 ^ k)) ∧ d = 10 - k) 10 ?_ ?_
  · exact ⟨0, 0, i, hr.same.symm, rfl, rfl, rfl, by omega, hr.pos, by decide, by omega, fun hg' => ⟨by simp [Nat.mod_one], by rw [(hg hg').2]; simp [encN], fun h => absurd h (by decide)⟩, rfl⟩
  intro d t l c m' KN ⟨k, x, i', hm, h0, h3, h4, hi, hi', hx, hk, hG, hd⟩ next
  subst hm
  have hr' := hr.set hi'
  have hstep : g → ∃ hlt : i' < bs.length, k ≤ 9 ∧ (k = 9 → (bs[i']'hlt).toNat ≤ 1) ∧ ((bs[i']'hlt).toNat < 128 → orN x (bs[i']'hlt).toNat k = zz v ∧ bs.drop (i' + 1) = tl) ∧
      (¬ (bs[i']'hlt).toNat < 128 → orN x (bs[i']'hlt).toNat k = zz v % 128 ^ (k + 1) ∧ bs.drop (i' + 1) = vb (zz v / 128 ^ (k + 1)) ++ tl ∧ 0 < zz v / 128 ^ (k + 1)) :=
    fun hg' => num_g (hg hg').1 (hG hg').1 (hG hg').2.1 (hG hg').2.2
  refine goh_ ?_
  refine s_rbyte hr' (fun hlt => ?_) (fun hge => hp (fun hg' => by obtain ⟨h1, _⟩ := hstep hg'; omega) i' (by omega) hi')
  rw [Mem.rd_rd]
  have hB := (bs[i']'hlt).toNat_lt
  have e1 := byte_and bs[i']
  have hpan : (¬ g) → K (.pan shortV) (m.rd j s (i' + 1)) := fun hg' => hp hg' _ (by omega) (by omega)
  rcases (by omega : k = 10 ∨ k ≤ 9) with rfl | hk9
  · replace hpan := hpan (fun hg' => by obtain ⟨_, h1, _⟩ := hstep hg'; omega)
    exact gox_
  have e2 : IntKind.u64.wrap (IntKind.i64.wrap (7 * (k : Int))) = ((7 * k : Nat) : Int) := wrap7 (by omega)
  have e3 : IntKind.u64.wrap ((bs[i'].toNat % 128 : Nat) : Int) = ((bs[i'].toNat % 128 : Nat) : Int) := by rw [u64_wrap]; omega
  have e4 := u64_shl7 (bs[i'].toNat % 128) k hk9
  have e5 : IntKind.u64.wrap ((BitVec.ofInt IntKind.u64.bits (x : Int) ||| BitVec.ofInt IntKind.u64.bits ((bs[i'].toNat % 128 * 128 ^ k % 2 ^ 64 : Nat) : Int)).toNat : Int) = ((orN x bs[i'].toNat k : Nat) : Int) := or_orN hx
  have e6 : (((k : Int)) == 10) = false := by simp; omega
  have e7 : (0 : Int) ≤ ((7 * k : Nat) : Int) := by omega
  have e8 : (((7 * k : Nat) : Int)).toNat = 7 * k := by omega
  have ho := orN_lt (b := bs[i'].toNat) (k := k) hx
  have hc : g → (k = 9 → bs[i'].toNat ≤ 1) ∧ (bs[i'].toNat < 128 → orN x bs[i'].toNat k = zz v ∧ bs.drop (i' + 1) = tl) ∧ (¬ bs[i'].toNat < 128 → orN x bs[i'].toNat k = zz v % 128 ^ (k + 1) ∧ bs.drop (i' + 1) = vb (zz v / 128 ^ (k + 1)) ++ tl ∧ 0 < zz v / 128 ^ (k + 1)) :=
    fun hg' => by obtain ⟨_, _, h1, h2, h3⟩ := hstep hg'; exact ⟨h1, h2, h3⟩
  clear hstep
  generalize bs[i'].toNat % 128 * 128 ^ k % 2 ^ 64 = yy at *
  generalize orN x bs[i'].toNat k = oo at *
  refine goh_ ?_
  have hend : (bs[i'].toNat < 128) → (g → unz oo = v ∧ bs.drop (i' + 1) = tl) := fun hb hg' => by
    obtain ⟨_, h1, _⟩ := hc hg'
    rw [(h1 hb).1, unz_zz]; exact ⟨rfl, (h1 hb).2⟩
  replace h := h (unz oo) (i' + 1) (unz_i64 ho) (by omega) (by omega)
  refine ⟨fun hk => ⟨fun hb => hpan fun hg' => ?_, fun hb => ⟨fun hlo => ?_, fun hlo => ?_⟩⟩, fun hk => ⟨fun hlo => ?_, fun hlo => ?_⟩⟩
  · obtain ⟨h1, _⟩ := hc hg'
    have hk : (k : Int) = 9 := by simpa using hk
    have := h1 (by omega); omega
  · replace h := h (hend (by omega))
    refine (x_far rfl).mpr ?_
    refine goh_ ?_
    exact ⟨fun he => by rw [unz_even ho he]; exact h, fun he => by rw [unz_odd ho he]; exact h⟩
  · have hw : IntKind.i64.wrap ((k : Int) + 1) = ((k + 1 : Nat) : Int) := w64_id (by omega)
    refine goh_ ?_
    refine next _ _ _ _ _ ?_ ⟨k + 1, oo, i' + 1, rfl, h0, rfl, rfl, by omega, by omega, ho, by omega, fun hg' => ?_, rfl⟩
    · omega
    · obtain ⟨_, _, h3⟩ := hc hg'
      obtain ⟨a1, a2, a3⟩ := h3 (by omega)
      exact ⟨a1, a2, fun _ => a3⟩
  · replace h := h (hend (by omega))
    refine (x_far rfl).mpr ?_
    refine goh_ ?_
    exact ⟨fun he => by rw [unz_even ho he]; exact h, fun he => by rw [unz_odd ho he]; exact h⟩
  · have hw : IntKind.i64.wrap ((k : Int) + 1) = ((k + 1 : Nat) : Int) := w64_id (by omega)
    refine goh_ ?_
    refine next _ _ _ _ _ ?_ ⟨k + 1, oo, i' + 1, rfl, h0, rfl, rfl, by omega, by omega, ho, by omega, fun hg' => ?_, rfl⟩
    · omega
    · obtain ⟨_, _, h3⟩ := hc hg'
      obtain ⟨a1, a2, a3⟩ := h3 (by omega)
      exact ⟨a1, a2, fun _ => a3⟩
end Go.Proofs.YtdonkjepjobhnaaDoor.IM
namespace Go.Proofs.IM
open Go
theorem bytes_bR (bs : List UInt8) : bytes? (bs.map bR) = some bs := by
  induction bs with
  | nil => rfl
  | cons b bs ih =>
    simp only [List.map_cons, bR, bytes?, ih]
    simp
theorem sliceR_ {Te : TI} {aa : AA} {i n c : Nat} {k k' : IntKind} {a b : Int} {l : Loc} {m : Mem} {K : KS} {B : Blk} (hB : blk? l m aa = some B) (hz : B.sz = Te.size) (h : 0 ≤ a ∧ a ≤ b ∧ b ≤ c)
    (hK : K (.sl aa (if c = a.toNat then i else i + a.toNat) (b.toNat - a.toNat) (c - a.toNat)) l m) : aSliceR Te aa i n c (.int k a) (some (.int k' b)) l m K := by
  simp only [aSliceR, hB]; exact ⟨hz, h, hK⟩
end Go.Proofs.IM
namespace Go.Proofs.YtdonkjepjobhnaaDoor.IM
open Go Go.Proofs.IM Go.Proofs.Flt
set_option maxHeartbeats 8000000
set_option maxRecDepth 100000
theorem s_rsize {m0 m : Mem} {j : Nat} {s : AV} {bs : List UInt8} {i : Nat} {K : AR → Mem → Prop} (v : Nat) (tl : List UInt8) (g : Prop) (hr : RdO m0 m j s bs i) (hg : g → bs.drop i = encN v ++ tl ∧ v ≤ tl.length)
    (h : ∀ (n i' : Nat), n ≤ bs.length → i < i' → i' ≤ bs.length → (g → n = v ∧ bs.drop i' = tl) → K (.ret (.int .i64 n)) (m.rd j s i'))
    (hp : ¬ g → ∀ i', i ≤ i' → i' ≤ bs.length → K (.pan shortV) (m.rd j s i')) :
    Sim Tryd.prog 38 [.ptr (.hp j) 0 0] m K := by
  refine entry (cxok []) Tryd.func38 rfl rfl (by decide) (by decide) ?_
  have hlen := hr.len
  have htl : g → v ≤ bs.length ∧ tl.length ≤ bs.length := fun hg' => by
    have h1 := congrArg List.length (hg hg').1
    have h2 := (hg hg').2
    simp only [List.length_drop, List.length_append] at h1
    omega
  refine goh_ ?_
  refine s_rnum v tl g hr (fun hg' => ⟨by have := htl hg'; constructor <;> omega, (hg hg').1⟩) (fun n i' hn hi hi' hG => ?_) hp
  have hr' := hr.set hi'
  obtain ⟨f1, f2, f3, f4⟩ := hr'.sl.facts
  have hrow := hr'.row
  have hl := (hr'.sl.mono hr'.le).len'
  rw [List.length_map] at hl
  have hpan : ¬ g → K (.pan shortV) (m.rd j s i') := fun hg' => hp hg' i' (by omega) hi'
  by_cases hc : n < 0 ∨ (bs.length : Int) < n
  · have hng : ¬ g := fun hg' => by have := hG hg'; have := htl hg'; omega
    replace hpan := hpan hng
    rcases hc with hc | hc
    · exact gox_
    · by_cases h0 : n < 0
      · exact gox_
      · exact gox_
  · have h1 : ¬ n < 0 := by omega
    have h2 : ¬ (bs.length : Int) < n := by omega
    obtain ⟨k, rfl⟩ := Int.eq_ofNat_of_zero_le (by omega : 0 ≤ n)
    replace h := h k i' (by omega) hi hi' (fun hg' => ⟨by have := (hG hg').1; omega, (hG hg').2⟩)
    exact gox_
theorem s_rflag {m0 m : Mem} {j : Nat} {s : AV} {bs : List UInt8} {i : Nat} {K : AR → Mem → Prop} (v : Bool) (tl : List UInt8) (g : Prop) (hr : RdO m0 m j s bs i) (hg : g → bs.drop i = (if v then 1 else 0) :: tl)
    (h : ∀ (n : Bool), i + 1 ≤ bs.length → (g → n = v ∧ bs.drop (i + 1) = tl) → K (.ret (.bool n)) (m.rd j s (i + 1)))
    (hp : ¬ g → ∀ i', i ≤ i' → i' ≤ bs.length → K (.pan shortV) (m.rd j s i')) :
    Sim Tryd.prog 102 [.ptr (.hp j) 0 0] m K := by
  refine entry (cxok []) Tryd.func102 rfl rfl (by decide) (by decide) ?_
  have hlen := hr.len
  refine goh_ ?_
  refine s_rbyte hr (fun hi => ?_) (fun hge => ?_)
  · have hpan : ¬ g → K (.pan shortV) (m.rd j s (i + 1)) := fun hg' => hp hg' (i + 1) (by omega) hi
    have hG : g → bs[i] = (if v then 1 else 0) ∧ bs.drop (i + 1) = tl := fun hg' => by
      obtain ⟨_, h1, h2⟩ := drop_head (hg hg'); exact ⟨h1, h2⟩
    by_cases hc : 1 < (bs[i].toNat : Int)
    · replace hpan := hpan (fun hg' => by rw [(hG hg').1] at hc; cases v <;> exact absurd hc (by decide))
      exact gox_
    · replace h := h ((bs[i].toNat : Int) == 1) hi (fun hg' => ⟨by rw [(hG hg').1]; cases v <;> decide, (hG hg').2⟩)
      exact gox_
  · have := hp (fun hg' => by obtain ⟨h1, _⟩ := drop_head (hg hg'); omega) i (Nat.le_refl _) hr.pos
    rwa [hr.same] at this
theorem s_rtext {m0 m : Mem} {j : Nat} {s : AV} {bs : List UInt8} {i : Nat} {K : AR → Mem → Prop} (v : ByteArray) (tl : List UInt8) (g : Prop) (hr : RdO m0 m j s bs i) (hg : g → bs.drop i = encT v ++ tl)
    (h : ∀ (q : ByteArray) (i' : Nat), i + 1 + q.size ≤ i' → i' ≤ bs.length → (g → q = v ∧ bs.drop i' = tl) → K (.ret (.str q)) (m.rd j s i'))
    (hp : ¬ g → ∀ i', i ≤ i' → i' ≤ bs.length → K (.pan shortV) (m.rd j s i')) :
    Sim Tryd.prog 101 [.ptr (.hp j) 0 0] m K := by
  refine entry (cxok []) Tryd.func101 rfl rfl (by decide) (by decide) ?_
  have hlen := hr.len
  refine goh_ ?_
  refine s_rsize v.size (v.data.toList ++ tl) g hr (fun hg' => ⟨by rw [hg hg']; simp [encT], by simp⟩) (fun n i' hn hi hi' hG => ?_) hp
  have hr' := hr.set hi'
  obtain ⟨f1, f2, f3, f4⟩ := hr'.sl.facts
  have hrow := hr'.row
  have hl := (hr'.sl.mono hr'.le).len'
  rw [List.length_map] at hl
  have hw1 : w64 ((bs.length : Int) - i') = ((bs.length - i' : Nat) : Int) := by rw [w64_id (by omega)]; omega
  have hpan : ¬ g → K (.pan shortV) (m.rd j s i') := fun hg' => hp hg' i' (by omega) hi'
  refine goh_ ?_
  refine draw_ [(0, .pure), (1, .pure), (2, .pure), (3, .pure), (4, .read), (5, .pure), (6, .pure), (7, .pure), (8, .pure), (9, .read), (10, .pure), (11, .pure)] (by kernel_rfl) ?_
  refine goh_ ?_
  refine ⟨fun hc => hpan fun hg' => ?_, fun hc => ?_⟩
  · obtain ⟨h1, h2⟩ := hG hg'
    have h3 := congrArg List.length h2
    simp only [List.length_drop, List.length_append, Array.length_toList] at h3
    have : v.data.size = v.size := rfl
    omega
  have hw2 : w64 ((i' : Int) + n) = ((i' + n : Nat) : Int) := by rw [w64_id (by omega)]; omega
  have hw3 : w64 (((i' + n : Nat) : Int) - n) = (i' : Int) := by rw [w64_id (by omega)]; omega
  have hr2 := hr'.set (i' := i' + n) (by omega)
  refine goh_ ?_
  obtain ⟨jj, rfl, hjj⟩ := hr2.form
  generalize hM : m.rd j (.sl (.hp jj) 0 bs.length bs.length) i' = M at *
  have hrow2 : (M.hp.set j ⟨[[.sl (.hp jj) 0 bs.length bs.length, .int .i64 ((i' + n : Nat) : Int)]], 2⟩)[j]? = some ⟨[[.sl (.hp jj) 0 bs.length bs.length, .int .i64 ((i' + n : Nat) : Int)]], 2⟩ := hr2.row
  have hb : (M.hp.set j ⟨[[.sl (.hp jj) 0 bs.length bs.length, .int .i64 ((i' + n : Nat) : Int)]], 2⟩)[jj]? = some ⟨bs.map bR, 1⟩ := hr2.le.hp _ _ hjj
  have hq : bytes? (((bs.map bR).drop (if bs.length = i' then 0 else 0 + i')).take (i' + n - i')) = some ((bs.drop i').take n) := by
    have e : i' + n - i' = n := by omega
    have e2 : ((bs.map bR).drop (if bs.length = i' then 0 else 0 + i')).take (i' + n - i') = ((bs.drop i').take n).map bR := by
      rw [e]
      split
      · have : n = 0 := by omega
        simp [this]
      · rw [Nat.zero_add, List.map_take, List.map_drop]
    rw [e2, bytes_bR]
  have hle : (if bs.length = i' then 0 else 0 + i') + (i' + n - i') ≤ bs.length := by split <;> omega
  have hsz : (ByteArray.mk ((bs.drop i').take n).toArray).size = n := by
    show ((bs.drop i').take n).toArray.size = n
    rw [List.size_toArray, List.length_take, List.length_drop]; omega
  replace h := h ⟨((bs.drop i').take n).toArray⟩ (i' + n) (by rw [hsz]; omega) (by omega) (fun hg' => by
    obtain ⟨h1, h2⟩ := hG hg'
    rw [← List.drop_drop, h2, h1]
    have e : v.size = v.data.toList.length := by simp
    rw [e, List.take_left, List.drop_left]
    exact ⟨rfl, rfl⟩)
  have h' : K (.ret (.str ⟨((bs.drop i').take n).toArray⟩)) { ro := M.ro, gl := M.gl, hp := M.hp.set j ⟨[[.sl (.hp jj) 0 bs.length bs.length, .int .i64 ((i' + n : Nat) : Int)]], 2⟩ } := by
    rw [← hM]; rw [← Mem.rd_rd m j _ i'] at h; exact h
  clear h
  refine draw_ [(0, .pure), (1, .pure), (2, .pure), (3, .read), (4, .pure), (5, .pure), (6, .pure), (7, .read), (8, .pure), (9, .pure), (10, .pure), (11, .pure), (12, .pure), (13, .read), (14, .pure), (15, .read), (16, .pure)] (by kernel_rfl) ?_
  refine goh_ ?_
  refine sliceR_ hb rfl (by omega) ?_
  simp only [Int.toNat_natCast]
  generalize (if bs.length = i' then 0 else 0 + i') = st at *
  have hrows : rows? noL { ro := M.ro, gl := M.gl, hp := M.hp.set j ⟨[[.sl (.hp jj) 0 bs.length bs.length, .int .i64 ((i' + n : Nat) : Int)]], 2⟩ } (.hp jj) st (i' + n - i') = some (((bs.map bR).drop st).take (i' + n - i')) := by
    have : blk? noL { ro := M.ro, gl := M.gl, hp := M.hp.set j ⟨[[.sl (.hp jj) 0 bs.length bs.length, .int .i64 ((i' + n : Nat) : Int)]], 2⟩ } (.hp jj) = some ⟨bs.map bR, 1⟩ := hb
    simp only [rows?, this, Option.bind_some]
    rw [if_pos (by simpa using hle)]
  exact gox_
end Go.Proofs.YtdonkjepjobhnaaDoor.IM
namespace Go.Proofs.IM
open Go Go.Proofs.Flt
theorem zero_word {f : Nat} (h : f < 18446744073709551616) (h1 : feq f 0 = true) (h2 : neg f = false) : f = 0 := by
  have := feq_zero h1
  simp [neg] at h2
  simp [rung] at this
  omega
theorem size0 {s : ByteArray} (h : s.size = 0) : s = ByteArray.empty := by
  cases s with | mk a =>
  have : a = #[] := by
    apply Array.eq_empty_of_size_eq_zero; exact h
  subst this; rfl
theorem toL0 {s : ByteArray} (h : s.toList = []) : s = ByteArray.empty := by
  apply size0
  rw [ByteArray.toList_eq] at h
  have := congrArg List.length h
  simpa using this
theorem cok_norm {v : V} (h : cok v = true) (hf : v.f < 18446744073709551616) :
    v = ⟨0, 0, 0, ByteArray.empty, 0⟩ ∨ ((v.k = 1 ∨ v.k = 2 ∨ v.k = 8) ∧ v = ⟨v.k, v.n, 0, ByteArray.empty, 0⟩) ∨ v = ⟨4, 0, 0, v.s, 0⟩ ∨ v = ⟨3, 0, v.f, ByteArray.empty, 0⟩ := by
  obtain ⟨k, n, f, s, r⟩ := v
  have hk := (cok_facts h).1
  simp only at hk hf ⊢
  simp only [cok, vok, zok] at h
  rcases hk with rfl | rfl | rfl | rfl | rfl | rfl <;> simp at h
  · obtain ⟨⟨⟨⟨rfl, h1⟩, h2⟩, rfl⟩, _, h3⟩ := h
    cases zero_word hf h1 h3; cases toL0 h2; exact .inl rfl
  · obtain ⟨⟨⟨⟨h1, h2⟩, rfl⟩, _⟩, _, h3⟩ := h
    cases zero_word hf h1 h3; cases toL0 h2; exact .inr (.inl ⟨.inl rfl, rfl⟩)
  · obtain ⟨⟨⟨h1, h2⟩, rfl⟩, _, h3⟩ := h
    cases zero_word hf h1 h3; cases toL0 h2; exact .inr (.inl ⟨.inr (.inl rfl), rfl⟩)
  · obtain ⟨⟨⟨rfl, h2⟩, rfl⟩, _⟩ := h
    cases toL0 h2; exact .inr (.inr (.inr rfl))
  · obtain ⟨⟨⟨⟨rfl, h1⟩, rfl⟩, _⟩, _, h3⟩ := h
    cases zero_word hf h1 h3; exact .inr (.inr (.inl rfl))
  · obtain ⟨⟨⟨⟨⟨h1, h2⟩, rfl⟩, _⟩, _⟩, _, h3⟩ := h
    cases zero_word hf h1 h3; cases toL0 h2; exact .inr (.inl ⟨.inr (.inr rfl), rfl⟩)
theorem be_drop {f k : Nat} (hk : k < 8) : (beB f).drop k = UInt8.ofNat (f / 2 ^ (56 - 8 * k)) :: (beB f).drop (k + 1) := by
  have h : k < (beB f).length := by rw [beB_len]; exact hk
  rw [List.drop_eq_getElem_cons h]
  simp [beB]
theorem shl8 {x k : Nat} (hk : k < 8) (hx : x < 256 ^ k) : IntKind.u64.wrap ((x : Int) * 2 ^ min 8 IntKind.u64.bits) = ((x * 256 : Nat) : Int) := by
  have hb : min 8 IntKind.u64.bits = 8 := by decide
  have h1 : 256 ^ k ≤ 256 ^ 7 := Nat.pow_le_pow_right (by decide) (by omega)
  have h2 : (256 : Nat) ^ 7 = 72057594037927936 := by decide
  rw [hb, u64_wrap, show ((2 : Int) ^ 8) = 256 by decide]
  omega
theorem or8 {x b k : Nat} (hk : k < 8) (hx : x < 256 ^ k) (hb : b < 256) : IntKind.u64.wrap ((BitVec.ofInt IntKind.u64.bits ((x * 256 : Nat) : Int) ||| BitVec.ofInt IntKind.u64.bits (b : Int)).toNat : Int) = ((x * 256 + b : Nat) : Int) := by
  have h1 : 256 ^ k ≤ 256 ^ 7 := Nat.pow_le_pow_right (by decide) (by omega)
  have h2 : (256 : Nat) ^ 7 = 72057594037927936 := by decide
  have h3 : (2 : Nat) ^ 64 = 18446744073709551616 := by decide
  rw [u64_or _ _ (by omega) (by omega)]
  have := Nat.shiftLeft_add_eq_or_of_lt (i := 8) (show b < 2 ^ 8 by omega) x
  rw [Nat.shiftLeft_eq, show (2 : Nat) ^ 8 = 256 by decide] at this
  rw [this]
theorem be_step {f k : Nat} (hk : k < 8) : f / 2 ^ (64 - 8 * k) * 256 + f / 2 ^ (56 - 8 * k) % 256 = f / 2 ^ (64 - 8 * (k + 1)) := by
  have e1 : 64 - 8 * k = (56 - 8 * k) + 8 := by omega
  have e2 : 64 - 8 * (k + 1) = 56 - 8 * k := by omega
  rw [e1, e2, Nat.pow_add, ← Nat.div_div_eq_div_mul, show (2 : Nat) ^ 8 = 256 by decide]
  generalize f / 2 ^ (56 - 8 * k) = z
  omega
theorem V.good0 : (⟨0, 0, 0, ByteArray.empty, 0⟩ : V).good := ⟨by decide, by decide, by decide, by decide, by decide⟩
end Go.Proofs.IM
namespace Go.Proofs.YtdonkjepjobhnaaDoor.IM
open Go Go.Proofs.IM Go.Proofs.Flt
set_option maxHeartbeats 8000000
set_option maxRecDepth 100000
theorem s_rkonst {m0 m : Mem} {j : Nat} {s : AV} {bs : List UInt8} {i : Nat} {K : AR → Mem → Prop} (v : V) (tl : List UInt8) (g : Prop) (hr : RdO m0 m j s bs i) (hg : g → cok v = true ∧ v.good ∧ bs.drop i = encV v ++ tl)
    (h : ∀ (q : V) (i' : Nat), q.good → i + 1 + q.wt ≤ i' → i' ≤ bs.length → (g → q = v ∧ bs.drop i' = tl) → K (.ret (.agg q.av)) (m.rd j s i'))
    (hp : ¬ g → ∀ i', i ≤ i' → i' ≤ bs.length → K (.pan shortV) (m.rd j s i')) :
    Sim Tryd.prog 103 [.ptr (.hp j) 0 0] m K := by
  refine entry (cxok []) Tryd.func103 rfl rfl (by decide) (by decide) ?_
  have hlen := hr.len
  refine goh_ ?_
  refine s_rbyte hr (fun hi => ?_) (fun hge => ?_)
  rotate_left
  · have := hp (fun hg' => by obtain ⟨h1, _⟩ := drop_head (bs := bs) (i := i) (by rw [(hg hg').2.2, encV]; rfl); omega) i (Nat.le_refl _) hr.pos
    rwa [hr.same] at this
  have hr1 := hr.set (i' := i + 1) hi
  have hpan : ¬ g → K (.pan shortV) (m.rd j s (i + 1)) := fun hg' => hp hg' (i + 1) (by omega) hi
  have hG : g → bs[i] = UInt8.ofNat v.k.toNat ∧ bs.drop (i + 1) = (if v.k = 1 ∨ v.k = 2 ∨ v.k = 8 then encN v.n else if v.k = 4 then encT v.s else if v.k = 3 then beB v.f else []) ++ tl := fun hg' => by
    obtain ⟨_, h1, h2⟩ := drop_head (bs := bs) (i := i) (by rw [(hg hg').2.2, encV]; rfl); exact ⟨h1, h2⟩
  have hkk : g → (v.k = 0 ∨ v.k = 1 ∨ v.k = 2 ∨ v.k = 3 ∨ v.k = 4 ∨ v.k = 8) := fun hg' => (cok_facts (hg hg').1).1
  have hbk : g → (bs[i].toNat : Int) = v.k := fun hg' => by
    rw [(hG hg').1]; rcases hkk hg' with e | e | e | e | e | e <;> rw [e] <;> rfl
  have hn : g → _ := fun hg' => cok_norm (hg hg').1 (hg hg').2.1.f
  have hB := bs[i].toNat_lt
  have ew : IntKind.i64.wrap (bs[i].toNat : Int) = bs[i].toNat := w64_id (by omega)
  generalize hbe : bs[i].toNat = b at *
  have hcase : b = 0 ∨ (b = 1 ∨ b = 2 ∨ b = 8) ∨ b = 4 ∨ b = 3 ∨ (b ≠ 0 ∧ b ≠ 1 ∧ b ≠ 2 ∧ b ≠ 8 ∧ b ≠ 4 ∧ b ≠ 3) := by omega
  rcases hcase with hb | hb | hb | hb | hb
  · subst hb
    replace h := h ⟨0, 0, 0, ByteArray.empty, 0⟩ (i + 1) V.good0 (Nat.le_refl _) hi (fun hg' => by
      have e := hbk hg'
      have e0 : v.k = 0 := by omega
      refine ⟨?_, by rw [(hG hg').2, e0]; simp⟩
      rcases hn hg' with h1 | ⟨h1, h2⟩ | h1 | h1
      · exact h1.symm
      · omega
      · rw [h1] at e0; cases e0
      · rw [h1] at e0; cases e0)
    have e0 : IntKind.i64.wrap 0 = 0 := by decide
    simp only [V.av] at h
    exact gox_
  · have e0 : IntKind.i64.wrap 1 = 1 := by decide
    have e1 : IntKind.i64.wrap 2 = 2 := by decide
    have e2 : IntKind.i64.wrap 8 = 8 := by decide
    have hk3 : g → (v.k = 1 ∨ v.k = 2 ∨ v.k = 8) ∧ v = ⟨v.k, v.n, 0, ByteArray.empty, 0⟩ := fun hg' => by
      have e := hbk hg'
      rcases hn hg' with h1 | h1 | h1 | h1
      · rw [h1] at e; simp at e; omega
      · exact h1
      · rw [h1] at e; simp at e; omega
      · rw [h1] at e; simp at e; omega
    have hfin : ∀ (kk n : Int) (i' : Nat), (b : Int) = kk → i64 n → i + 1 < i' → i' ≤ bs.length → (g → n = v.n ∧ bs.drop i' = tl) → K (.ret (.agg [.int .i64 kk, .int .i64 n, .flt 0, .str ByteArray.empty, .int .i64 0])) (m.rd j s i') := by
      intro kk n i' hkk' hn' hi1 hi2 hG2
      refine h ⟨kk, n, 0, ByteArray.empty, 0⟩ i' ⟨by show i64 kk; constructor <;> omega, hn', (by decide : 0 < 18446744073709551616), (by decide : ByteArray.empty.size ≤ 9223372036854775807), (by decide : i64 0)⟩ (by show i + 1 + 0 ≤ i'; omega) hi2 (fun hg' => ⟨?_, (hG2 hg').2⟩)
      rw [(hk3 hg').2, (hG2 hg').1, ← hkk', hbk hg']
    have hd : g → i64 v.n ∧ bs.drop (i + 1) = encN v.n ++ tl := fun hg' => ⟨(hg hg').2.1.n, by rw [(hG hg').2, if_pos (hk3 hg').1]⟩
    rcases hb with rfl | rfl | rfl
    · refine goh_ ?_
      refine s_rnum v.n tl g hr1 hd (fun n i' hn' hi1 hi2 hG2 => ?_) (fun hng i' h1 h2 => ?_)
      · rw [Mem.rd_rd]
        replace h := hfin 1 n i' rfl hn' hi1 hi2 hG2
        exact gox_
      · rw [Mem.rd_rd]
        exact hp hng i' (by omega) h2
    · refine goh_ ?_
      refine s_rnum v.n tl g hr1 hd (fun n i' hn' hi1 hi2 hG2 => ?_) (fun hng i' h1 h2 => ?_)
      · rw [Mem.rd_rd]
        replace h := hfin 2 n i' rfl hn' hi1 hi2 hG2
        exact gox_
      · rw [Mem.rd_rd]
        exact hp hng i' (by omega) h2
    · refine goh_ ?_
      refine s_rnum v.n tl g hr1 hd (fun n i' hn' hi1 hi2 hG2 => ?_) (fun hng i' h1 h2 => ?_)
      · rw [Mem.rd_rd]
        replace h := hfin 8 n i' rfl hn' hi1 hi2 hG2
        exact gox_
      · rw [Mem.rd_rd]
        exact hp hng i' (by omega) h2
  · subst hb
    have e0 : IntKind.i64.wrap 4 = 4 := by decide
    have hk4 : g → v = ⟨4, 0, 0, v.s, 0⟩ := fun hg' => by
      have e := hbk hg'
      rcases hn hg' with h1 | ⟨h1, _⟩ | h1 | h1
      · rw [h1] at e; simp at e
      · omega
      · exact h1
      · rw [h1] at e; simp at e
    refine goh_ ?_
    refine s_rtext v.s tl g hr1 (fun hg' => by rw [(hG hg').2, hk4 hg']; simp) (fun q i' hi1 hi2 hG2 => ?_) (fun hng i' h1 h2 => ?_)
    · rw [Mem.rd_rd]
      replace h := h ⟨4, 0, 0, q, 0⟩ i' ⟨(by decide : i64 4), (by decide : i64 0), (by decide : 0 < 18446744073709551616), by show q.size ≤ _; omega, (by decide : i64 0)⟩ (by show i + 1 + q.size ≤ i'; omega) hi2 (fun hg' => ⟨by rw [hk4 hg', (hG2 hg').1], (hG2 hg').2⟩)
      simp only [V.av] at h
      refine goh_ ?_
      refine s_vStr ?_
      exact gox_
    · rw [Mem.rd_rd]
      exact hp hng i' (by omega) h2
  · subst hb
    have e0 : IntKind.i64.wrap 3 = 3 := by decide
    have hk5 : g → v = ⟨3, 0, v.f, ByteArray.empty, 0⟩ := fun hg' => by
      have e := hbk hg'
      rcases hn hg' with h1 | ⟨h1, _⟩ | h1 | h1
      · rw [h1] at e; simp at e
      · omega
      · rw [h1] at e; simp at e
      · exact h1
    have hd : g → bs.drop (i + 1) = beB v.f ++ tl := fun hg' => by rw [(hG hg').2, hk5 hg']; simp
    have hvf : g → v.f < 18446744073709551616 := fun hg' => (hg hg').2.1.f
    refine goh_ ?_
    refine loop_ (fun d t l c m' => ∃ (k x p : Nat), m' = m.rd j s p ∧ i + 1 + k = p ∧ (t 2 = .ptr (.lc 0) 0 0 ∧ l 0 = some ⟨[V.av ⟨0, 0, 0, ByteArray.empty, 0⟩], 5⟩) ∧ t 0 = .ptr (.hp j) 0 0 ∧ t 4 = .int .u64 x ∧ t 5 = .int .i64 k ∧ p ≤ bs.length ∧ x < 256 ^ k ∧ k ≤ 8 ∧ (g → x = v.f / 2 ^ (64 - 8 * k) ∧ bs.drop p = (beB v.f).drop k ++ tl) ∧ d = 8 - k) 8 ?_ ?_
    · refine ⟨0, 0, i + 1, rfl, rfl, ⟨rfl, rfl⟩, rfl, rfl, rfl, by omega, by decide, by omega, fun hg' => ⟨?_, hd hg'⟩, rfl⟩
      have h64 : (2 : Nat) ^ (64 - 8 * 0) = 18446744073709551616 := by decide
      have := hvf hg'
      rw [h64]; omega
    intro d t l c m' KN ⟨k, x, p, hm, hpe, ⟨h2, hl2⟩, h0, h4, h5, hi', hx, hk, hGk, hdd⟩ next
    subst hm
    simp only [V.av] at hl2
    have hr2 := hr.set hi'
    have hx8 : 256 ^ k ≤ 256 ^ 8 := Nat.pow_le_pow_right (by decide) hk
    have h88 : (256 : Nat) ^ 8 = 18446744073709551616 := by decide
    refine goh_ ?_
    refine ⟨fun hc => ?_, fun hc => ?_⟩
    · have hk8 : k < 8 := by omega
      refine s_rbyte hr2 (fun hlt => ?_) (fun hge => hp (fun hg' => ?_) p (by omega) hi')
      · rw [Mem.rd_rd]
        have hB2 := bs[p].toNat_lt
        have e1 := shl8 hk8 hx
        have e2 : IntKind.u64.wrap (bs[p].toNat : Int) = (bs[p].toNat : Int) := by rw [u64_wrap]; omega
        have e3 := or8 hk8 hx hB2
        have e4 : IntKind.i64.wrap ((k : Int) + 1) = ((k + 1 : Nat) : Int) := w64_id (by omega)
        refine goh_ ?_
        refine next _ _ _ _ _ ?_ ⟨k + 1, x * 256 + bs[p].toNat, p + 1, rfl, by omega, ⟨h2, hl2⟩, h0, rfl, rfl, hlt, ?_, hk8, fun hg' => ?_, rfl⟩
        · omega
        · rw [Nat.pow_succ]; omega
        · obtain ⟨h1, h2⟩ := hGk hg'
          rw [be_drop hk8, List.cons_append] at h2
          obtain ⟨_, h3, h4⟩ := drop_head h2
          refine ⟨?_, h4⟩
          rw [← be_step hk8, h1, h3, UInt8.toNat_ofNat']
      · obtain ⟨h1, h2⟩ := hGk hg'
        rw [be_drop hk8, List.cons_append] at h2
        obtain ⟨h3, _⟩ := drop_head h2
        omega
    · have hk8 : k = 8 := by omega
      subst hk8
      replace h := h ⟨3, 0, x, ByteArray.empty, 0⟩ p ⟨(by decide : i64 3), (by decide : i64 0), by show x < _; omega, (by decide : ByteArray.empty.size ≤ 9223372036854775807), (by decide : i64 0)⟩ (by show i + 1 + 0 ≤ p; omega) hi' (fun hg' => by
        obtain ⟨h1, h2⟩ := hGk hg'
        refine ⟨?_, ?_⟩
        · rw [hk5 hg', h1]; simp
        · rw [h2, List.drop_eq_nil_of_le (by rw [beB_len]; omega)]; rfl)
      simp only [V.av] at h
      refine s_frombits ?_
      refine goh_ ?_
      refine s_vFlt ?_
      exact gox_
  · have hng : ¬ g := fun hg' => by have := hbk hg'; have := hkk hg'; omega
    replace hpan := hpan hng
    have e0 : ((b : Int) == 0) = false := by simp; omega
    have e1 : ((b : Int) == 1) = false := by simp; omega
    have e2 : ((b : Int) == 2) = false := by simp; omega
    have e3 : ((b : Int) == 8) = false := by simp; omega
    have e4 : ((b : Int) == 4) = false := by simp; omega
    have e5 : ((b : Int) == 3) = false := by simp; omega
    exact gox_
end Go.Proofs.YtdonkjepjobhnaaDoor.IM
namespace Go.Proofs.IM
open Go Go.Proofs.Flt
/-- What is known of the rows below: all but j stand. -/
structure Fra (m m' : Mem) (j : Nat) : Prop where
  len : m.hp.length ≤ m'.hp.length
  hp : ∀ k, k < m.hp.length → k ≠ j → m'.hp[k]? = m.hp[k]?
theorem Fra.refl (m : Mem) (j : Nat) : Fra m m j := ⟨Nat.le_refl _, fun _ _ _ => rfl⟩
theorem Fra.trans {m m' m'' : Mem} {j : Nat} (a : Fra m m' j) (b : Fra m' m'' j) : Fra m m'' j := ⟨Nat.le_trans a.len b.len, fun k h1 h2 => (b.hp k (Nat.lt_of_lt_of_le h1 a.len) h2).trans (a.hp k h1 h2)⟩
theorem Fra.rd (m : Mem) (j : Nat) (s : AV) (i : Nat) : Fra m (m.rd j s i) j := ⟨by simp [Mem.rd], fun k _ h => by simp only [Mem.rd]; rw [List.getElem?_set, if_neg (fun e => h e.symm)]⟩
/-- A slice that grows: none, or a row of one's own from its start to its end. -/
def SlG (m : Mem) (z : Nat) (s : AV) (rs : List (List AV)) (own : List Nat) : Prop :=
  (s = .nils ∧ rs = [] ∧ own = []) ∨ ∃ (j : Nat) (B : Blk), s = .sl (.hp j) 0 rs.length B.rows.length ∧ m.hp[j]? = some B ∧ B.sz = z ∧ rs.length ≤ B.rows.length ∧ B.rows.take rs.length = rs ∧ own = [j]
theorem SlG.o {m : Mem} {z : Nat} {s : AV} {rs : List (List AV)} {own : List Nat} (h : SlG m z s rs own) : SlO m z s rs own := by
  rcases h with h | ⟨j, B, rfl, h1, h2, h3, h4, rfl⟩
  · exact .inl h
  · exact .inr ⟨j, _, _, B, rfl, h1, h2, h3, h4, rfl⟩
theorem SlG.lt {m : Mem} {z : Nat} {s : AV} {rs : List (List AV)} {own : List Nat} (h : SlG m z s rs own) : (∀ j ∈ own, j < m.hp.length) ∧ own.Nodup := by
  rcases h with ⟨rfl, rfl, rfl⟩ | ⟨j, B, rfl, h1, h2, h3, h4, rfl⟩
  · simp
  · simpa using (List.getElem?_eq_some_iff.1 h1).1
theorem SlG.ext {m m' : Mem} {z : Nat} {s : AV} {rs : List (List AV)} {own : List Nat} (h : SlG m z s rs own) (he : ∀ j ∈ own, m'.hp[j]? = m.hp[j]?) : SlG m' z s rs own := by
  rcases h with h | ⟨j, B, rfl, h1, h2, h3, h4, rfl⟩
  · exact .inl h
  · exact .inr ⟨j, B, rfl, (he j (by simp)).trans h1, h2, h3, h4, rfl⟩
theorem SlG.facts {m : Mem} {z : Nat} {s : AV} {rs : List (List AV)} {own : List Nat} (h : SlG m z s rs own) : s.pub1 = true ∧ s.pub2 = true ∧ AV.pub s = true ∧ s.cells = [s] := h.o.r.facts
theorem SlG.nil (m : Mem) (z : Nat) : SlG m z .nils [] [] := .inl ⟨rfl, rfl, rfl⟩
/-- One more row. -/
theorem aAppend_one {m : Mem} {z : Nat} {s : AV} {rs : List (List AV)} {own : List Nat} (hs : SlG m z s rs own) {Te : TI} (hT : Te.size = z) (hb : Te.bytes ≤ 65536) {x : List AV} (hlen : rs.length + 1 ≤ 2 ^ 22) {l : Loc} {K : KS}
    (h : ∀ s' m' own', m'.ro = m.ro → m'.gl = m.gl → SlG m' z s' (rs ++ [x]) own' → m.hp.length ≤ m'.hp.length → (∀ k, k < m.hp.length → k ∉ own → m'.hp[k]? = m.hp[k]?) → (∀ k ∈ own', k ∈ own ∨ m.hp.length ≤ k) → K s' l m') : aAppend Te s [x] l m K := by
  have hi : i64max = 9223372036854775807 := rfl
  have hmul : ∀ n, n ≤ 2 ^ 22 → n * Te.bytes ≤ 140737488355328 := fun n hn => by
    have := Nat.mul_le_mul hn hb
    omega
  rcases hs with ⟨rfl, rfl, rfl⟩ | ⟨j, B, rfl, h1, h2, h3, h4, rfl⟩
  · simp only [aAppend]
    rw [if_neg (by simp)]
    refine ⟨hmul _ (by simpa using hlen), by simp at hlen ⊢; omega, fun c hc1 hc2 => ?_⟩
    refine h _ _ [m.hp.length] rfl rfl (.inr ⟨m.hp.length, _, ?_, push_at, hT, ?_, ?_, rfl⟩) (by rw [push_len]; omega) (fun k hk _ => ?_) (by simp)
    · have : c = ([x] ++ List.replicate (c - [x].length) Te.zero).length := by simp at hc1 ⊢; omega
      rw [List.nil_append, ← this]
    · simp
    · rw [List.nil_append, List.take_left' rfl]
    · show (m.hp ++ _)[k]? = _
      rw [List.getElem?_append_left hk]
  · have hlt : j < m.hp.length := (List.getElem?_eq_some_iff.1 h1).1
    simp only [aAppend, blk?, h1]
    refine ⟨by rw [h2, hT], by omega, ?_⟩
    have l1 : [x].length = 1 := rfl
    split
    · rename_i hc
      rw [if_neg (by simp)]
      refine ⟨by omega, ?_⟩
      simp only [setBlk]
      have hl : (splice B.rows (0 + rs.length) [x]).length = B.rows.length := by simp [splice]; omega
      refine h _ _ [j] rfl rfl (.inr ⟨j, ⟨splice B.rows (0 + rs.length) [x], B.sz⟩, by rw [hl, List.length_append], by simp [hlt], h2, by rw [hl, List.length_append]; omega, ?_, rfl⟩) (by simp) (fun k hk hn => ?_) (by simp)
      · simp only [splice, Nat.zero_add, List.length_append]
        rw [h4, List.take_left' (by simp)]
      · show (m.hp.set j _)[k]? = _
        rw [List.getElem?_set, if_neg]
        rintro rfl
        exact hn (by simp)
    · rename_i hc
      refine ⟨by simp, hmul _ hlen, by omega, fun c' hc1 hc2 => ?_⟩
      refine h _ _ [m.hp.length] rfl rfl (.inr ⟨m.hp.length, _, ?_, push_at, hT, ?_, ?_, rfl⟩) (by rw [push_len]; omega) (fun k hk _ => ?_) (by simp)
      · have : c' = ((B.rows.drop 0).take rs.length ++ [x] ++ List.replicate (c' - (rs.length + [x].length)) Te.zero).length := by simp; omega
        rw [← this, List.length_append]
      · simp; omega
      · have e2 : ((B.rows.drop 0).take rs.length ++ [x]).length = rs.length + 1 := by simp; omega
        rw [List.length_append, l1, ← e2, List.take_left, List.drop_zero, h4]
      · show (m.hp ++ _)[k]? = _
        rw [List.getElem?_append_left hk]
/-- The same, of the call 'append' of a slice of one row, that is in a variable of the frame. -/
theorem aApp_one {C : Cx} {ty : TypeId} {Te : TI} (he : elm C ty = some Te) {m : Mem} {z : Nat} {s x : AV} {rs : List (List AV)} {own : List Nat} (hs : SlG m z s rs own) (hT : Te.size = z) (hz : 0 < z) (hb : Te.bytes ≤ 65536) {l : Loc} {r : List AV}
    (hx : sliceRows l m x = some [r]) (hr : (r.length == z && r.all AV.pub1) = true) (hlen : rs.length + 1 ≤ 2 ^ 22) {K : KS}
    (h : ∀ s' m' own', m'.ro = m.ro → m'.gl = m.gl → SlG m' z s' (rs ++ [r]) own' → m.hp.length ≤ m'.hp.length → (∀ k, k < m.hp.length → k ∉ own → m'.hp[k]? = m.hp[k]?) → (∀ k ∈ own', k ∈ own ∨ m.hp.length ≤ k) → K s' l m') : aApp C ty ty s x l m K := by
  simp only [aApp, he]
  refine ⟨by omega, ?_⟩
  rw [if_pos trivial, hx]
  refine ⟨by simpa [hT] using hr, aAppend_one hs hT hb hlen h⟩
/-- Reading goes on, and a slice that was begun behind mb grows. -/
structure Grow (m0 mb m : Mem) (j : Nat) (s : AV) (bs : List UInt8) (i : Nat) (z : Nat) (q : AV) (rs : List (List AV)) (own : List Nat) : Prop where
  rd : RdO m0 m j s bs i
  fr : Fra mb m j
  sl : SlG m z q rs own
  new : ∀ k ∈ own, mb.hp.length ≤ k
  jl : j < mb.hp.length
theorem Grow.start {m0 m : Mem} {j : Nat} {s : AV} {bs : List UInt8} {i : Nat} (h : RdO m0 m j s bs i) (z : Nat) : Grow m0 m m j s bs i z .nils [] [] :=
  ⟨h, Fra.refl m j, SlG.nil m z, by simp, (List.getElem?_eq_some_iff.1 h.row).1⟩
theorem Grow.read {m0 mb m : Mem} {j : Nat} {s : AV} {bs : List UInt8} {i i' z : Nat} {q : AV} {rs : List (List AV)} {own : List Nat} (h : Grow m0 mb m j s bs i z q rs own) (hi : i' ≤ bs.length) : Grow m0 mb (m.rd j s i') j s bs i' z q rs own :=
  ⟨h.rd.set hi, h.fr.trans (Fra.rd m j s i'), h.sl.ext fun k hk => by
    have := h.new k hk; have := h.jl
    exact (Fra.rd m j s i').hp k (h.sl.lt.1 k hk) (by omega), h.new, h.jl⟩
theorem Grow.app {m0 mb m m' : Mem} {j : Nat} {s : AV} {bs : List UInt8} {i z : Nat} {q q' : AV} {rs rs' : List (List AV)} {own own' : List Nat} (h : Grow m0 mb m j s bs i z q rs own) (h1 : m'.ro = m.ro) (h2 : m'.gl = m.gl) (h3 : SlG m' z q' rs' own')
    (h4 : m.hp.length ≤ m'.hp.length) (h5 : ∀ k, k < m.hp.length → k ∉ own → m'.hp[k]? = m.hp[k]?) (h6 : ∀ k ∈ own', k ∈ own ∨ m.hp.length ≤ k) : Grow m0 mb m' j s bs i z q' rs' own' := by
  have hb := h.fr.len
  have hj := h.jl
  have hout := h.rd.out
  refine ⟨⟨⟨h1.trans h.rd.le.ro, h2.trans h.rd.le.gl, fun k B hk => ?_⟩, h.rd.out, h.rd.form, h.rd.pos, h.rd.len, ?_⟩, ⟨by omega, fun k hk hkj => ?_⟩, h3, fun k hk => ?_, h.jl⟩
  · have hk0 := (List.getElem?_eq_some_iff.1 hk).1
    have := h.rd.le.hp k B hk
    rw [h5 k (by omega) (fun hm => by have := h.new k hm; omega)]; exact this
  · rw [h5 j (by omega) (fun hm => by have := h.new j hm; omega)]; exact h.rd.row
  · rw [h5 k (by omega) (fun hm => by have := h.new k hm; omega)]; exact h.fr.hp k hk hkj
  · rcases h6 k hk with h | h'
    · exact ‹Grow _ _ _ _ _ _ _ _ _ _ _›.new k h
    · omega
theorem Grow.push {m0 mb m : Mem} {j : Nat} {s : AV} {bs : List UInt8} {i z : Nat} {q : AV} {rs : List (List AV)} {own : List Nat} (h : Grow m0 mb m j s bs i z q rs own) (B : Blk) : Grow m0 mb (m.push B) j s bs i z q rs own := by
  have hb := h.fr.len
  have hx : ∀ k, k < m.hp.length → (m.push B).hp[k]? = m.hp[k]? := fun k hk => by
    show (m.hp ++ _)[k]? = _
    rw [List.getElem?_append_left hk]
  refine ⟨⟨h.rd.le.push' B, h.rd.out, h.rd.form, h.rd.pos, h.rd.len, by rw [hx _ (by have := h.jl; omega)]; exact h.rd.row⟩, h.fr.trans ⟨by rw [push_len]; omega, fun k hk _ => hx k hk⟩, h.sl.ext fun k hk => hx k (h.sl.lt.1 k hk), h.new, h.jl⟩
theorem push_row {l : Loc} {m : Mem} {r : List AV} {z : Nat} : sliceRows l (m.push ⟨[r], z⟩) (.sl (.hp m.hp.length) 0 1 1) = some [r] := by
  simp [sliceRows, rows?, blk?, Mem.push]
theorem fm_ge {α : Type} {f : α → List UInt8} (hf : ∀ x, 1 ≤ (f x).length) (xs : List α) : xs.length ≤ (fm f xs).length := by
  induction xs with
  | nil => simp
  | cons x xs ih => have := hf x; simp only [fm, List.length_append, List.length_cons]; omega
theorem step_g {α : Type} {f : α → List UInt8} {vs us : List α} {d : Nat} (z : α) (h1 : vs.take us.length = us) (h2 : vs.length = us.length + d) (hd : 0 < d) :
    fm f (vs.drop us.length) = f (vs[us.length]?.getD z) ++ fm f (vs.drop (us.length + 1)) ∧ vs.take (us.length + 1) = us ++ [vs[us.length]?.getD z] ∧ vs[us.length]?.getD z ∈ vs := by
  have h : us.length < vs.length := by omega
  have e : vs[us.length]?.getD z = vs[us.length] := by simp [h]
  rw [e]
  exact ⟨fm_at h, by rw [List.take_add_one, h1]; simp [h], List.getElem_mem h⟩
theorem end_g {α : Type} {f : α → List UInt8} {vs us : List α} (h1 : vs.take us.length = us) (h2 : vs.length = us.length + 0) : us = vs ∧ fm f (vs.drop us.length) = [] := by
  rw [List.take_of_length_le (by omega)] at h1
  subst h1
  simp [fm]
theorem vb_pos (n : Nat) : 1 ≤ (vb n).length := by rw [vb]; split <;> simp
theorem encN_pos (n : Int) : 1 ≤ (encN n).length := vb_pos _
theorem encT_pos (s : ByteArray) : 1 ≤ (encT s).length := by have := encN_pos s.size; simp only [encT, List.length_append]; omega
theorem encU_pos (u : U) : 1 ≤ (encU u).length := by simp [encU]
theorem encV_pos (v : V) : 1 ≤ (encV v).length := by simp [encV]
theorem encI_pos (x : I) : 1 ≤ (encI x).length := by have := encN_pos x.op; simp only [encI, List.length_append]; omega
theorem encNm_pos (x : Nm) : 1 ≤ (encNm x).length := by have := encT_pos x.s; simp only [encNm, List.length_append]; omega
theorem sumBy_app {α : Type} (f : α → Nat) (xs ys : List α) : sumBy f (xs ++ ys) = sumBy f xs + sumBy f ys := by
  induction xs with
  | nil => simp [sumBy]
  | cons x xs ih => simp only [List.cons_append, sumBy, ih]; omega
theorem SlG.fra {m m' : Mem} {j z : Nat} {s : AV} {rs : List (List AV)} {own : List Nat} (h : SlG m z s rs own) (hf : Fra m m' j) (hj : ∀ k ∈ own, k ≠ j) : SlG m' z s rs own := h.ext fun k hk => hf.hp k (h.lt.1 k hk) (hj k hk)
theorem nodup4 {o1 o2 o3 o4 : List Nat} {a b c : Nat} (h1 : o1.Nodup) (h2 : o2.Nodup) (h3 : o3.Nodup) (h4 : o4.Nodup) (b1 : ∀ k ∈ o1, k < a) (b2 : ∀ k ∈ o2, a ≤ k ∧ k < b) (b3 : ∀ k ∈ o3, b ≤ k ∧ k < c) (b4 : ∀ k ∈ o4, c ≤ k) (hab : a ≤ b) (hbc : b ≤ c) : (o1 ++ o2 ++ o3 ++ o4).Nodup := by
  simp only [List.nodup_append]
  refine ⟨⟨⟨h1, h2, fun x hx y hy => ?_⟩, h3, fun x hx y hy => ?_⟩, h4, fun x hx y hy => ?_⟩
  · have := b1 x hx; have := b2 y hy; omega
  · have := b3 y hy
    rcases List.mem_append.1 hx with h | h
    · have := b1 x h; omega
    · have := b2 x h; omega
  · have := b4 y hy
    rcases List.mem_append.1 hx with h | h
    · rcases List.mem_append.1 h with h | h
      · have := b1 x h; omega
      · have := b2 x h; omega
    · have := b3 x h; omega
end Go.Proofs.IM
