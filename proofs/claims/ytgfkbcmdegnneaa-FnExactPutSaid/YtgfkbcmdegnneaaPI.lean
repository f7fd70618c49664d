/- Tables: marks, and how they are found again. -/
import Derived.Test.YtgfkbcmdegnneaaPH
namespace Go.Proofs.IM
open Go Go.Proofs.Flt
theorem u8_wrap (x : Int) : IntKind.wrap .u8 x = x % 256 := by
  have h1 : (IntKind.u8).bits = 8 := rfl
  simp [IntKind.wrap, h1, IntKind.signed]
theorem i64_wrap (x : Int) : IntKind.wrap .i64 x = (x + 9223372036854775808) % 18446744073709551616 - 9223372036854775808 := by
  have h1 : (IntKind.i64).bits = 64 := rfl
  simp [IntKind.wrap, h1, IntKind.signed]
  split <;> omega
theorem loop_n {C : Cx} {b : Code} {KN0 KR : St → Mem → Prop} {KX : Nat → St → Mem → Prop} {KP : Value → Mem → Prop} (n : Nat) {st : St} {m : Mem} (h : aRounds (fun KN => aCode C b KN KX KR KP) n st m) : aCode C (.loop b) KN0 KX KR KP st m := ⟨n, h⟩
theorem rounds_s {B : (St → Mem → Prop) → St → Mem → Prop} {n : Nat} {st : St} {m : Mem} : aRounds B (n + 1) st m = B (aRounds B n) st m := rfl
/-- Only these rows of one's own have changed. -/
structure Ch (own : List Nat) (m m' : Mem) : Prop where
  ro : m'.ro = m.ro
  gl : m'.gl = m.gl
  len : m'.hp.length = m.hp.length
  far : ∀ j, j ∉ own → m'.hp[j]? = m.hp[j]?
theorem Ch.refl (own : List Nat) (m : Mem) : Ch own m m := ⟨rfl, rfl, rfl, fun _ _ => rfl⟩
theorem Ch.trans {own : List Nat} {m m' m'' : Mem} (a : Ch own m m') (b : Ch own m' m'') : Ch own m m'' := ⟨b.ro.trans a.ro, b.gl.trans a.gl, b.len.trans a.len, fun j h => (b.far j h).trans (a.far j h)⟩
theorem Ch.sub {own own' : List Nat} {m m' : Mem} (a : Ch own m m') (h : ∀ j ∈ own, j ∈ own') : Ch own' m m' := ⟨a.ro, a.gl, a.len, fun j hj => a.far j fun hj' => hj (h j hj')⟩
theorem Ch.set {own : List Nat} {m m' : Mem} (a : Ch own m m') {j : Nat} (hj : j ∈ own) (B : Blk) : Ch own m { m' with hp := m'.hp.set j B } := ⟨a.ro, a.gl, by simp [a.len], fun i hi => by
  show (m'.hp.set j B)[i]? = _
  rw [List.getElem?_set, if_neg (by rintro rfl; exact hi hj)]
  exact a.far i hi⟩
theorem Ch.le {own : List Nat} {m0 m m' : Mem} (a : Ch own m m') (h : m0.le m) (ho : ∀ j ∈ own, m0.hp.length ≤ j) : m0.le m' := ⟨a.ro.trans h.ro, a.gl.trans h.gl, fun j B hj => by
  have hlt := (List.getElem?_eq_some_iff.1 hj).1
  rw [a.far j fun hj' => by have := ho j hj'; omega]
  exact h.hp j B hj⟩
/-- Rows of which the first i have been marked. -/
def mkRows (mk : Nat → List AV) (st k : Nat) (rows : List (List AV)) (i : Nat) : List (List AV) := ((List.range i).map fun a => mk (k + st * a)) ++ rows.drop i
theorem mkRows_0 {mk : Nat → List AV} {st k : Nat} {rows : List (List AV)} : mkRows mk st k rows 0 = rows := rfl
theorem mkRows_len {mk : Nat → List AV} {st k i : Nat} {rows : List (List AV)} (h : i ≤ rows.length) : (mkRows mk st k rows i).length = rows.length := by simp [mkRows]; omega
theorem mkRows_get {mk : Nat → List AV} {st k i : Nat} {rows : List (List AV)} : (mkRows mk st k rows i)[i]? = rows[i]? := by
  simp [mkRows, List.getElem?_append_right]
theorem mkRows_set {mk : Nat → List AV} {st k i : Nat} {rows : List (List AV)} (h : i < rows.length) : (mkRows mk st k rows i).set i (mk (k + st * i)) = mkRows mk st k rows (i + 1) := by
  unfold mkRows
  rw [List.set_append, if_neg (by simp), List.range_succ, List.map_append]
  simp only [List.length_map, List.length_range, Nat.sub_self]
  rw [List.drop_eq_getElem_cons h, List.set_cons_zero, List.append_assoc]; rfl
theorem mkRows_take {mk : Nat → List AV} {st k n : Nat} {rows : List (List AV)} (h : n ≤ rows.length) : (mkRows mk st k rows n).take n = (List.range n).map fun a => mk (k + st * a) := by
  unfold mkRows
  rw [List.take_append_of_le_length (by simp)]
  exact List.take_of_length_le (by simp)
def mkL {α : Type} (f : Nat → α) (st k n : Nat) : List α := (List.range n).map fun a => f (k + st * a)
theorem mkL_len {α : Type} {f : Nat → α} {st k n : Nat} : (mkL f st k n).length = n := by simp [mkL]
theorem mkL_map {α β : Type} {f : Nat → α} {g : α → β} {st k n : Nat} : (mkL f st k n).map g = mkL (fun a => g (f a)) st k n := by simp [mkL]
theorem mkL_get {α : Type} {f : Nat → α} {st k n i : Nat} (h : i < n) : (mkL f st k n)[i]'(by rw [mkL_len]; exact h) = f (k + st * i) := by simp [mkL]
/-- The text of a mark. -/
def dg (n : Nat) : List UInt8 := if h : n = 0 then [] else dg (n / 10) ++ [UInt8.ofNat (48 + n % 10)]
theorem dg_pos {n : Nat} (h : n ≠ 0) : dg n = dg (n / 10) ++ [UInt8.ofNat (48 + n % 10)] := by rw [dg, dif_neg h]
theorem dg_0 : dg 0 = [] := by rw [dg, dif_pos rfl]
def mT (k : Nat) : ByteArray := ⟨(109 :: dg k).toArray⟩
theorem dg_len : ∀ n, (dg n).length ≤ n := by
  intro n
  induction n using Nat.strongRecOn with
  | _ n ih =>
    by_cases h : n = 0
    · subst h; rw [dg_0]; simp
    · rw [dg_pos h]
      have := ih (n / 10) (by omega)
      simp; omega
theorem str_app (a b : List UInt8) : (⟨a.toArray⟩ : ByteArray) ++ ⟨b.toArray⟩ = ⟨(a ++ b).toArray⟩ := by
  apply ByteArray.ext
  simp
theorem bR_lc {l : Loc} {m : Mem} {d : Nat} {v : Int} {b : UInt8} (h : v = (b.toNat : Int)) : (rows? (upd l d (some ⟨[[.int .u8 v]], 1⟩)) m (.lc d) 0 1).bind bytes? = some [b] := by
  subst h; simp [rows?, blk?, upd, bytes?]
theorem nan_nearest (s : Bool) (mag : Nat) (place : Int) : nan (Ieee.double.nearest s mag place) = false := by
  unfold Ieee.Format.nearest
  simp only [dbl_word, dbl_inf]
  split
  · exact nan_word _ _ (by decide)
  · exact nan_word _ _ (Nat.min_le_right _ _)
theorem nan_i2f (n : Int) : nan (i2f n) = false := by
  unfold i2f FloatKind.nearest FloatKind.encode
  exact nan_nearest _ _ _
theorem SlO.cases {m : Mem} {z : Nat} {s : AV} {rs : List (List AV)} {own : List Nat} (h : SlO m z s rs own) : (s = .nils ∧ rs = [] ∧ own = []) ∨ ∃ (j c : Nat) (rows : List (List AV)), s = .sl (.hp j) 0 rs.length c ∧ m.hp[j]? = some ⟨rows, z⟩ ∧ rs.length ≤ rows.length ∧ rows.take rs.length = rs ∧ own = [j] := by
  rcases h with h | ⟨j, n, c, B, rfl, h1, h2, h3, h4, h5⟩
  · exact .inl h
  · obtain ⟨rows, sz⟩ := B
    simp only at h2 h3 h4
    subst h2
    have e : rs.length = n := by rw [← h4]; simp; omega
    exact .inr ⟨j, c, rows, by rw [e], h1, by omega, by rw [e]; exact h4, h5⟩
theorem take_get {rows rs : List (List AV)} {i : Nat} (h : rows.take rs.length = rs) (hi : i < rs.length) : rows[i]? = some rs[i] := by
  have : (rows.take rs.length)[i]? = rs[i]? := by rw [h]
  rw [List.getElem?_take_of_lt hi] at this
  rw [this]; simp [hi]
def mkPa (k : Nat) : Pa := ⟨⟨(k : Int), ((k + 1 : Nat) : Int), i2f ((k + 2 : Nat) : Int), mT (k + 3), ((k + 4 : Nat) : Int)⟩, ⟨((k + 5 : Nat) : Int), ((k + 6 : Nat) : Int), i2f ((k + 7 : Nat) : Int), mT (k + 8), ((k + 9 : Nat) : Int)⟩, ((k + 10 : Nat) : Int)⟩
theorem fne_i2f (n : Int) : fne (i2f n) (i2f n) = false := by rw [fne_iff, feq_self, nan_i2f]; rfl
end Go.Proofs.IM
namespace Go.Proofs.Ytgfkbcmdegnneaa.IM
open Go Go.Proofs.IM Go.Proofs.Flt
set_option maxHeartbeats 8000000
set_option maxRecDepth 100000
theorem s_markText {k : Nat} {m : Mem} {K : AR → Mem → Prop} (h1 : 1 ≤ k) (h2 : k ≤ 2 ^ 40) (h : K (.ret (.str (mT k))) m) : Sim Try.prog 43 [.int .i64 k] m K := by
  refine entry (cxok [12]) Try.func43 rfl rfl (by decide) (by decide) ?_
  have c0 : ((k : Int) ≤ 0) = False := by rw [eq_iff_iff, iff_false]; omega
  refine goh_ ?_
  clear c0
  refine loop_ (fun k' t l c m' => m' = m ∧ ∃ (x : Nat) (b : List UInt8), t 0 = .int .i64 x ∧ t 3 = .str ⟨b.toArray⟩ ∧ dg x ++ b = dg k ∧ x ≤ 2 ^ 40 ∧ k' = x) k ?_ ?_
  · exact ⟨rfl, k, [], rfl, rfl, by simp, h2, rfl⟩
  intro k' t l c m1 KN ⟨hm, x, b, g0, g3, hS, hx, hk⟩ next
  subst m1
  have hbl : b.length ≤ k := by
    have := congrArg List.length hS
    have h3 := dg_len k
    simp only [List.length_append] at this; omega
  refine goh_ ?_
  refine ⟨fun hd => ?_, fun hd => ?_⟩
  · have hx0 : x ≠ 0 := by omega
    have e1 : IntKind.u8.wrap (IntKind.i64.wrap (48 + (x : Int).tmod 10)) = ((UInt8.ofNat (48 + x % 10)).toNat : Int) := by
      rw [Int.tmod_eq_emod_of_nonneg (by omega), i64_wrap, u8_wrap]; simp only [UInt8.toNat_ofNat']; omega
    have e2 := @bR_lc l m (c + 6) _ (UInt8.ofNat (48 + x % 10)) rfl
    have e3 : w64 ((x : Int).tdiv 10) = ((x / 10 : Nat) : Int) := by
      rw [Int.tdiv_eq_ediv_of_nonneg (by omega), w64_id (by omega)]; omega
    have e4 : ((ByteArray.mk [UInt8.ofNat (48 + x % 10)].toArray).size + (ByteArray.mk b.toArray).size ≤ 9223372036854775807) = True := by
      rw [eq_iff_iff, iff_true]
      show 1 + b.toArray.size ≤ 9223372036854775807
      rw [List.size_toArray]; omega
    have e5 := str_app
    refine goh_ ?_
    refine next _ _ _ _ _ ?_ ⟨rfl, x / 10, [UInt8.ofNat (48 + x % 10)] ++ b, rfl, rfl, ?_, by omega, rfl⟩
    · omega
    · rw [← List.append_assoc, ← dg_pos hx0]; exact hS
  · have hx0 : x = 0 := by omega
    rw [hx0, dg_0, List.nil_append] at hS
    subst hS
    have e4 : ((ByteArray.mk #[109]).size + (ByteArray.mk (dg k).toArray).size ≤ 9223372036854775807) = True := by
      rw [eq_iff_iff, iff_true]
      show 1 + (dg k).toArray.size ≤ 9223372036854775807
      rw [List.size_toArray]; omega
    have e5 : (ByteArray.mk #[109]) ++ (ByteArray.mk (dg k).toArray) = mT k := str_app [109] (dg k)
    exact gox_
theorem s_markPairS {s : AV} {xs : List Pa} {own : List Nat} {k : Nat} {m : Mem} {K : AR → Mem → Prop} (hs : SlO m 11 s (xs.map Pa.av) own) (hl : xs.length ≤ 2 ^ 30) (hk1 : 1 ≤ k) (hk : k ≤ 2 ^ 38)
    (h : ∀ m', Ch own m m' → SlO m' 11 s ((mkL mkPa 11 k xs.length).map Pa.av) own → K (.ret (.int .i64 ((k + 11 * xs.length : Nat) : Int))) m') : Sim Try.prog 24 [s, .int .i64 k] m K := by
  refine entry (cxok []) Try.func24 rfl rfl (by decide) (by decide) ?_
  rcases hs.cases with ⟨rfl, hx, rfl⟩ | ⟨j, c0, rows, rfl, b1, b2, b3, rfl⟩
  · have : xs = [] := by simpa using hx
    subst this
    have h := h m (Ch.refl _ _) (.inl ⟨rfl, rfl, rfl⟩)
    simp only [List.length_nil, Nat.mul_zero, Nat.add_zero] at h
    refine goh_ ?_
    refine loop_n (KN0 := fun _ _ => True) 1 ?_
    rw [rounds_s]
    exact gox_
  clear hs
  rw [List.length_map] at b2
  have hjl : j < m.hp.length := (List.getElem?_eq_some_iff.1 b1).1
  refine goh_ ?_
  refine loop_ (fun k' t l c m' => ∃ (i : Nat), t 0 = .sl (.hp j) 0 xs.length c0 ∧ t 1 = .int .i64 ((k + 11 * i : Nat) : Int) ∧ t 5 = .int .i64 i ∧ Ch [j] m m' ∧ m'.hp[j]? = some ⟨mkRows (fun a => (mkPa a).av) 11 k rows i, 11⟩ ∧ i ≤ xs.length ∧ k' = xs.length - i) xs.length ?_ ?_
  · exact ⟨0, by rw [← List.length_map (f := Pa.av)]; rfl, rfl, rfl, Ch.refl _ _, by rw [mkRows_0, b1], by omega, by omega⟩
  intro k' t l c m1 KN ⟨i, g0, g1, g5, hch, hb, hi, hk'⟩ next
  have hjl' : j < m1.hp.length := by rw [hch.len]; exact hjl
  rcases Nat.lt_or_ge i xs.length with hj | hj
  · have e8 : ((i : Int) < xs.length) = True := by rw [eq_iff_iff, iff_true]; omega
    have e0 : (0 ≤ (i : Int) ∧ (i : Int) < xs.length) = True := by rw [eq_iff_iff, iff_true]; omega
    have e1 : (mkRows (fun a => (mkPa a).av) 11 k rows i)[i]? = some xs[i].av := by
      rw [mkRows_get, take_get b3 (by rw [List.length_map]; exact hj)]; simp
    have hxv : xs[i].av = [.int .i64 xs[i].k.k, .int .i64 xs[i].k.n, .flt xs[i].k.f, .str xs[i].k.s, .int .i64 xs[i].k.r, .int .i64 xs[i].v.k, .int .i64 xs[i].v.n, .flt xs[i].v.f, .str xs[i].v.s, .int .i64 xs[i].v.r, .int .i64 xs[i].turn] := rfl
    rw [hxv] at e1
    clear hxv
    have hs1 : ∀ B, (m1.hp.set j B)[j]? = some B := fun B => by simp [hjl']
    have hs2 : ∀ A B, (m1.hp.set j A).set j B = m1.hp.set j B := fun A B => by simp
    have hrl : i < (mkRows (fun a => (mkPa a).av) 11 k rows i).length := by rw [mkRows_len (by omega)]; omega
    have hs3 : ∀ r, ((mkRows (fun a => (mkPa a).av) 11 k rows i).set i r)[i]? = some r := fun r => by simp [hrl]
    have hs4 : ∀ a b, ((mkRows (fun a => (mkPa a).av) 11 k rows i).set i a).set i b = (mkRows (fun a => (mkPa a).av) 11 k rows i).set i b := fun a b => by simp
    have e3 : (mkRows (fun a => (mkPa a).av) 11 k rows i).set i (mkPa (k + 11 * i)).av = mkRows (fun a => (mkPa a).av) 11 k rows (i + 1) := mkRows_set (by omega)
    have e9 : k + 11 * (i + 1) = k + 11 * i + 11 := by omega
    have hq : k + 11 * i ≤ 2 ^ 39 := by omega
    have hw := w64_succ hj (by omega)
    generalize hqd : k + 11 * i = q at e3 hq g1 e9
    have i0 : w64 (((q : Nat) : Int) + 1) = ((q + 1 : Nat) : Int) := by rw [w64_id (by omega)]; omega
    have i1 : w64 (((q + 1 : Nat) : Int) + 1) = ((q + 2 : Nat) : Int) := by rw [w64_id (by omega)]; omega
    have i2 : w64 (((q + 2 : Nat) : Int) + 1) = ((q + 3 : Nat) : Int) := by rw [w64_id (by omega)]; omega
    have i3 : w64 (((q + 3 : Nat) : Int) + 1) = ((q + 4 : Nat) : Int) := by rw [w64_id (by omega)]; omega
    have i4 : w64 (((q + 4 : Nat) : Int) + 1) = ((q + 5 : Nat) : Int) := by rw [w64_id (by omega)]; omega
    have i5 : w64 (((q + 5 : Nat) : Int) + 1) = ((q + 6 : Nat) : Int) := by rw [w64_id (by omega)]; omega
    have i6 : w64 (((q + 6 : Nat) : Int) + 1) = ((q + 7 : Nat) : Int) := by rw [w64_id (by omega)]; omega
    have i7 : w64 (((q + 7 : Nat) : Int) + 1) = ((q + 8 : Nat) : Int) := by rw [w64_id (by omega)]; omega
    have i8 : w64 (((q + 8 : Nat) : Int) + 1) = ((q + 9 : Nat) : Int) := by rw [w64_id (by omega)]; omega
    have i9 : w64 (((q + 9 : Nat) : Int) + 1) = ((q + 10 : Nat) : Int) := by rw [w64_id (by omega)]; omega
    have i10 : w64 (((q + 10 : Nat) : Int) + 1) = ((q + 11 : Nat) : Int) := by rw [w64_id (by omega)]; omega
    have hav : (mkPa q).av = [.int .i64 (q : Int), .int .i64 ((q + 1 : Nat) : Int), .flt (i2f ((q + 2 : Nat) : Int)), .str (mT (q + 3)), .int .i64 ((q + 4 : Nat) : Int), .int .i64 ((q + 5 : Nat) : Int), .int .i64 ((q + 6 : Nat) : Int), .flt (i2f ((q + 7 : Nat) : Int)), .str (mT (q + 8)), .int .i64 ((q + 9 : Nat) : Int), .int .i64 ((q + 10 : Nat) : Int)] := rfl
    rw [hav] at e3
    generalize hR : mkRows (fun a => (mkPa a).av) 11 k rows i = R at e1 hs3 hs4 e3 hb
    clear hrl hR hqd
    refine goh_ ?_
    refine s_markText (by clear e8 e0; omega) (by clear e8 e0; omega) ?_
    refine goh_ ?_
    refine s_markText (by clear e8 e0; omega) (by clear e8 e0; omega) ?_
    refine goh_ ?_
    exact next _ _ _ _ _ (by omega) ⟨i + 1, g0, by rw [e9]; rfl, rfl, hch.set (by simp) _, by simp only [hs1] <;> rfl, by omega, rfl⟩
  · have hj : i = xs.length := by omega
    subst hj
    have e8 : ((xs.length : Int) < xs.length) = False := by rw [eq_iff_iff, iff_false]; omega
    have h := h m1 hch (.inr ⟨j, xs.length, c0, _, by rw [List.length_map], hb, rfl, by rw [mkRows_len (by omega)]; omega, by rw [mkRows_take (by omega), mkL_map]; rfl, rfl⟩)
    exact gox_
theorem s_markTable {s : AV} {xs : List Pa} {own : List Nat} {k : Nat} {n : Int} {m : Mem} {K : AR → Mem → Prop} (hs : SlO m 11 s (xs.map Pa.av) own) (hl : xs.length ≤ 2 ^ 30) (hk1 : 1 ≤ k) (hk : k ≤ 2 ^ 38)
    (h : ∀ m', Ch own m m' → SlO m' 11 s ((mkL mkPa 11 k xs.length).map Pa.av) own → K (.ret (.int .i64 ((k + 11 * xs.length : Nat) : Int))) m') : Sim Try.prog 11 [.agg [s, .int .i64 n], .int .i64 k] m K := by
  refine entry (cxok []) Try.func11 rfl rfl (by decide) (by decide) ?_
  obtain ⟨a1, a2, a3, a4⟩ := hs.r.facts
  refine goh_ ?_
  refine s_markPairS hs hl hk1 hk fun m' hch hps => ?_
  have h := h m' hch hps
  exact gox_
theorem s_heldPairS {s : AV} {n k : Nat} {m : Mem} {K : AR → Mem → Prop} (hs : SlR m 11 s ((mkL mkPa 11 k n).map Pa.av)) (hl : n ≤ 2 ^ 30) (hk1 : 1 ≤ k) (hk : k ≤ 2 ^ 38) (h : K (.ret (.int .i64 ((k + 11 * n : Nat) : Int))) m) : Sim Try.prog 25 [s, .int .i64 k] m K := by
  refine entry (cxok []) Try.func25 rfl rfl (by decide) (by decide) ?_
  have l1 := hs.len'
  rw [List.length_map, mkL_len] at l1
  refine goh_ ?_
  refine loop_ (fun k' t l c m' => m' = m ∧ ∃ (i : Nat), t 0 = s ∧ t 1 = .int .i64 ((k + 11 * i : Nat) : Int) ∧ t 5 = .int .i64 i ∧ i ≤ n ∧ k' = n - i) n ?_ ?_
  · exact ⟨rfl, 0, rfl, rfl, rfl, by omega, by omega⟩
  intro k' t l c m1 KN ⟨hm, i, g0, g1, g5, hi, hk'⟩ next
  subst m1
  rcases Nat.lt_or_ge i n with hj | hj
  · have e8 : ((i : Int) < n) = True := by rw [eq_iff_iff, iff_true]; omega
    obtain ⟨a, i0, cap, B, rfl, hb, hz, hr⟩ := hs.some_ (j := i) (by rw [List.length_map, mkL_len]; exact hj)
    replace hr := fun l => hr l i (by rw [List.length_map, mkL_len]; exact hj)
    simp only [List.getElem_map, mkL_get hj] at hr
    have hml : (mkL mkPa 11 k n).length = n := mkL_len
    have hw := w64_succ hj (by omega)
    have hq : k + 11 * i ≤ 2 ^ 39 := by omega
    have e9 : k + 11 * (i + 1) = k + 11 * i + 11 := by omega
    generalize hqd : k + 11 * i = q at hr hq g1 e9
    have hav : (mkPa q).av = [.int .i64 (q : Int), .int .i64 ((q + 1 : Nat) : Int), .flt (i2f ((q + 2 : Nat) : Int)), .str (mT (q + 3)), .int .i64 ((q + 4 : Nat) : Int), .int .i64 ((q + 5 : Nat) : Int), .int .i64 ((q + 6 : Nat) : Int), .flt (i2f ((q + 7 : Nat) : Int)), .str (mT (q + 8)), .int .i64 ((q + 9 : Nat) : Int), .int .i64 ((q + 10 : Nat) : Int)] := rfl
    rw [hav] at hr
    have hq1 : 1 ≤ q := by omega
    have ef := fne_i2f
    have i0 : w64 (((q : Nat) : Int) + 1) = ((q + 1 : Nat) : Int) := by rw [w64_id (by omega)]; omega
    have i1 : w64 (((q + 1 : Nat) : Int) + 1) = ((q + 2 : Nat) : Int) := by rw [w64_id (by omega)]; omega
    have i2 : w64 (((q + 2 : Nat) : Int) + 1) = ((q + 3 : Nat) : Int) := by rw [w64_id (by omega)]; omega
    have i3 : w64 (((q + 3 : Nat) : Int) + 1) = ((q + 4 : Nat) : Int) := by rw [w64_id (by omega)]; omega
    have i4 : w64 (((q + 4 : Nat) : Int) + 1) = ((q + 5 : Nat) : Int) := by rw [w64_id (by omega)]; omega
    have i5 : w64 (((q + 5 : Nat) : Int) + 1) = ((q + 6 : Nat) : Int) := by rw [w64_id (by omega)]; omega
    have i6 : w64 (((q + 6 : Nat) : Int) + 1) = ((q + 7 : Nat) : Int) := by rw [w64_id (by omega)]; omega
    have i7 : w64 (((q + 7 : Nat) : Int) + 1) = ((q + 8 : Nat) : Int) := by rw [w64_id (by omega)]; omega
    have i8 : w64 (((q + 8 : Nat) : Int) + 1) = ((q + 9 : Nat) : Int) := by rw [w64_id (by omega)]; omega
    have i9 : w64 (((q + 9 : Nat) : Int) + 1) = ((q + 10 : Nat) : Int) := by rw [w64_id (by omega)]; omega
    have i10 : w64 (((q + 10 : Nat) : Int) + 1) = ((q + 11 : Nat) : Int) := by rw [w64_id (by omega)]; omega
    clear hqd hav
    refine goh_ ?_
    refine draw_ [(0, .pure), (1, .pure), (2, .pure), (3, .pure), (4, .pure), (5, .read), (6, .pure), (7, .step [5]), (8, .pure)] (by kernel_rfl) ?_
    refine goh_ ?_
    refine s_markText (by clear e8; omega) (by clear e8; omega) ?_
    refine goh_ ?_
    refine draw_ [(0, .pure), (1, .pure), (2, .pure), (3, .pure), (4, .pure), (5, .read), (6, .pure), (7, .step [5]), (8, .pure)] (by kernel_rfl) ?_
    refine goh_ ?_
    refine s_markText (by clear e8; omega) (by clear e8; omega) ?_
    refine goh_ ?_
    exact next _ _ _ _ _ (by clear e8; omega) ⟨rfl, i + 1, g0, by rw [e9]; rfl, rfl, by clear e8; omega, rfl⟩
  · have hj : i = n := by omega
    subst hj
    have e8 : ((i : Int) < i) = False := by rw [eq_iff_iff, iff_false]; omega
    exact gox_
theorem s_heldTable {s : AV} {n k : Nat} {tn : Int} {m : Mem} {K : AR → Mem → Prop} (hs : SlR m 11 s ((mkL mkPa 11 k n).map Pa.av)) (hl : n ≤ 2 ^ 30) (hk1 : 1 ≤ k) (hk : k ≤ 2 ^ 38) (h : K (.ret (.int .i64 ((k + 11 * n : Nat) : Int))) m) : Sim Try.prog 12 [.agg [s, .int .i64 tn], .int .i64 k] m K := by
  refine entry (cxok []) Try.func12 rfl rfl (by decide) (by decide) ?_
  obtain ⟨a1, a2, a3, a4⟩ := hs.facts
  have e0 : (((k + 11 * n : Nat) : Int) < 0) = False := by rw [eq_iff_iff, iff_false]; omega
  refine goh_ ?_
  refine s_heldPairS hs hl hk1 hk ?_
  exact gox_
end Go.Proofs.Ytgfkbcmdegnneaa.IM
