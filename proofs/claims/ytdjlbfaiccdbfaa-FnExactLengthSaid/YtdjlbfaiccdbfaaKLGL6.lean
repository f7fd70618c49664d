/- Cut down from the texts of the same job by wip/shake.py to what this claim reaches. -/
import Derived.Test.YtdjlbfaiccdbfaaKLGx22
import Derived.Test.YtdjlbfaiccdbfaaKLGL5
namespace Go.Proofs.Ytdjlbfaiccdbfaa.PAll
open Go Go.RowKit Go.Proofs.YtdjlbfaiccdbfaaW.PrintWords Go.Proofs.YtdjlbfaiccdbfaaW.PrintLast Go.Proofs.YtdjlbfaiccdbfaaW.PrintMore Go.Proofs.Flt Ieee
set_option linter.unusedVariables false
set_option linter.unusedSimpArgs false
theorem w64 {n : Int} (h : -9223372036854775808 ≤ n ∧ n ≤ 9223372036854775807) : wrap64 n = n := by unfold wrap64; omega
theorem rd96 {xs : List S96} {i : Nat} (h : i < xs.length) : rd_T96 xs (i : Int) = xs[i] := by unfold rd_T96; simp [h]
theorem rd61 {xs : List S61} {i : Nat} (h : i < xs.length) : rd_T61 xs (i : Int) = xs[i] := by unfold rd_T61; simp [h]
def conv (x : S96) : S61 := ⟨⟨x.f0.f0, x.f0.f1, x.f0.f2, x.f0.f3, x.f0.f4⟩, ⟨x.f1.f0, x.f1.f1, x.f1.f2, x.f1.f3, x.f1.f4⟩, x.f2⟩
def GV (v : S28) : Prop := (-9223372036854775808 ≤ v.f1 ∧ v.f1 ≤ 9223372036854775807) ∧ v.f2 < 18446744073709551616 ∧ v.f3.size ≤ 1048576
def GP (p : S61) : Prop := GV p.f0 ∧ GV p.f1
theorem sz_l0 (xs : List S96) (hx : ∀ x ∈ xs, x.f0.f3.size ≤ 9223372036854775807 ∧ x.f1.f3.size ≤ 9223372036854775807) (hl : xs.length ≤ 9223372036854775806) : ∀ (n i : Nat) (v : Int) (k : Nat), i + n = xs.length → 0 ≤ v → v ≤ 1048576 →
    ∃ t, laws_szPairS.l0 (n + 1 + k) xs v i = some t ∧ t ≤ v ∧ (t < 0 ∨ (0 ≤ t ∧ ∀ j (hj : j < xs.length), i ≤ j → (xs[j]).f0.f3.size ≤ 1048576 ∧ (xs[j]).f1.f3.size ≤ 1048576))
  | 0, i, v, k, h, h0, h1 => by
    refine ⟨v, ?_, by omega, .inr ⟨h0, fun j hj hij => by omega⟩⟩
    rw [show 0 + 1 + k = k + 1 by omega, laws_szPairS.l0, if_neg (by omega)]
  | n + 1, i, v, k, h, h0, h1 => by
    have hi : i < xs.length := by omega
    obtain ⟨g1, g2⟩ := hx xs[i] (List.getElem_mem hi)
    rw [show n + 1 + 1 + k = (n + 1 + k) + 1 by omega, laws_szPairS.l0, if_pos (by omega), if_pos (by omega), rd96 hi]
    unfold laws_szPair.f
    obtain ⟨t, e, c⟩ := sz_value xs[i].f0.f0 xs[i].f0.f1 xs[i].f0.f2 xs[i].f0.f3 xs[i].f0.f4 v h0 h1 g1
    rw [e]
    simp only [Option.bind_some]
    rcases c with c | ⟨c, d, d'⟩
    · rw [if_pos c]
      simp only [Option.bind_some]
      exact ⟨-1, rfl, by omega, .inl (by decide)⟩
    · rw [if_neg (by omega)]
      obtain ⟨t', e', c'⟩ := sz_value xs[i].f1.f0 xs[i].f1.f1 xs[i].f1.f2 xs[i].f1.f3 xs[i].f1.f4 t c (by omega) g2
      rw [e']
      simp only [Option.bind_some]
      rcases c' with c' | ⟨c', d2, d2'⟩
      · rw [if_pos c']
        simp only [Option.bind_some]
        exact ⟨-1, rfl, by omega, .inl (by decide)⟩
      · rw [if_neg (by omega)]
        simp only [Option.bind_some]
        rw [if_neg (by omega), w64 (by omega)]
        obtain ⟨u, a, b, c3⟩ := sz_l0 xs hx hl n (i + 1) t' k (by omega) c' (by omega)
        refine ⟨u, by exact_mod_cast a, by omega, ?_⟩
        rcases c3 with c3 | ⟨c3, c4⟩
        · exact .inl c3
        · refine .inr ⟨c3, fun j hj hij => ?_⟩
          by_cases hji : j = i
          · subst hji; omega
          · exact c4 j hj (by omega)
theorem sz_table (xs : List S96) (tn : Int) (hx : ∀ x ∈ xs, x.f0.f3.size ≤ 9223372036854775807 ∧ x.f1.f3.size ≤ 9223372036854775807) (hl : xs.length ≤ 9223372036854775807) (k : Nat) :
    ∃ t, laws_szTable.f (xs.length + 1 + k) xs tn 1048576 = some t ∧ t ≤ 1048576 ∧ (t < 0 ∨ (0 ≤ t ∧ xs.length ≤ 1048576 ∧ ∀ x ∈ xs, x.f0.f3.size ≤ 1048576 ∧ x.f1.f3.size ≤ 1048576)) := by
  unfold laws_szTable.f laws_szPairS.f
  rw [w64 (n := 1048576 - (xs.length : Int)) (by omega)]
  by_cases hv : 1048576 - (xs.length : Int) < 0
  · rw [if_pos hv]; exact ⟨-1, by simp, by omega, .inl (by decide)⟩
  · rw [if_neg hv]
    obtain ⟨t, a, b, c⟩ := sz_l0 xs hx (by omega) xs.length 0 (1048576 - (xs.length : Int)) k (by omega) (by omega) (by omega)
    simp only [Int.cast_ofNat_Int] at a
    rw [a]
    simp only [Option.bind_some]
    rcases c with c | ⟨c, d⟩
    · rw [if_pos c]; exact ⟨-1, rfl, by omega, .inl (by decide)⟩
    · rw [if_neg (by omega)]
      refine ⟨t, rfl, by omega, .inr ⟨c, by omega, fun x hx => ?_⟩⟩
      obtain ⟨j, hj, rfl⟩ := List.getElem_of_mem hx
      exact d j hj (by omega)
theorem to_l0 (xs : List S96) (hl : xs.length ≤ 9223372036854775806) : ∀ (n i : Nat) (ys : List S61) (k : Nat), i + n = xs.length → ys.length = xs.length → ys.take i = (xs.map conv).take i →
    laws_toPairS.l0 (n + 1 + k) xs ys i = some (xs.map conv)
  | 0, i, ys, k, h, h0, h1 => by
    rw [show 0 + 1 + k = k + 1 by omega, laws_toPairS.l0, if_neg (by omega)]
    rw [List.take_of_length_le (by omega), List.take_of_length_le (by simp; omega)] at h1
    rw [h1]
  | n + 1, i, ys, k, h, h0, h1 => by
    have hi : i < xs.length := by omega
    rw [show n + 1 + 1 + k = (n + 1 + k) + 1 by omega, laws_toPairS.l0, if_pos (by omega), if_pos (by omega), rd96 hi]
    simp only [laws_toPair.f, laws_toValue.f, Option.bind_some]
    rw [if_pos (by omega), w64 (by omega)]
    have := to_l0 xs hl n (i + 1) (ys.set i (conv xs[i])) k (by omega) (by simp [h0]) (by
      apply List.ext_getElem
      · simp [h0]
      intro j g1 g2
      simp only [List.length_take, List.length_set] at g1 g2
      simp only [List.getElem_take, List.getElem_set, List.getElem_map]
      by_cases hj : i = j
      · subst hj; simp
      · rw [if_neg hj]
        have q1 : (ys.take i)[j]'(by simp; omega) = ((xs.map conv).take i)[j]'(by simp at g2 ⊢; omega) := by simp only [h1]
        simpa using q1)
    exact_mod_cast this
theorem to_pairs (xs : List S96) (hl : xs.length ≤ 1048576) (k : Nat) : laws_toPairS.f (xs.length + 1 + k) xs = some (xs.map conv) := by
  unfold laws_toPairS.f
  rw [if_pos (by omega), if_pos (by rw [Int.toNat_natCast]; omega)]
  have q := fun ys : List S61 => to_l0 xs (by omega) xs.length 0 ys k (by omega)
  simp only [Int.cast_ofNat_Int] at q
  have r : (List.replicate ((xs.length : Int) : Int).toNat z61).length = xs.length := by rw [List.length_replicate, Int.toNat_natCast]
  generalize List.replicate ((xs.length : Int) : Int).toNat z61 = ys at r ⊢
  exact q ys r rfl
theorem to_table (xs : List S96) (tn : Int) (hl : xs.length ≤ 1048576) (k : Nat) : laws_toTable.f (xs.length + 1 + k) xs tn = some (xs.map conv, tn) := by
  unfold laws_toTable.f
  rw [to_pairs xs hl k, Option.bind_some]
theorem eq_pair (k : Nat) (p : S61) (h0 : p.f0.f2 < 18446744073709551616) (h1 : p.f1.f2 < 18446744073709551616) : laws_eqPair.f (k + 1) p.f0.f0 p.f0.f1 p.f0.f2 p.f0.f3 p.f0.f4 p.f1.f0 p.f1.f1 p.f1.f2 p.f1.f3 p.f1.f4 p.f2 p.f0.f0 p.f0.f1 p.f0.f2 p.f0.f3 p.f0.f4 p.f1.f0 p.f1.f1 p.f1.f2 p.f1.f3 p.f1.f4 p.f2 = some true := by
  unfold laws_eqPair.f
  rw [eq_value k _ _ _ _ _ h0, eq_value k _ _ _ _ _ h1]
  simp
theorem eq_l0 (ps : List S61) (hp : ∀ p ∈ ps, GP p) (hl : ps.length ≤ 9223372036854775806) : ∀ (n i : Nat) (k : Nat), i + n = ps.length → laws_eqPairS.l0 (n + 2 + k) ps ps i = some true
  | 0, i, k, h => by
    rw [show 0 + 2 + k = k + 1 + 1 by omega, laws_eqPairS.l0, if_neg (by omega)]
  | n + 1, i, k, h => by
    have hi : i < ps.length := by omega
    have g1 := (hp ps[i] (List.getElem_mem hi)).1.2.1
    have g2 := (hp ps[i] (List.getElem_mem hi)).2.2.1
    rw [show n + 1 + 2 + k = (n + 2 + k) + 1 by omega, laws_eqPairS.l0, if_pos (by omega), if_pos (by omega), if_pos (by omega), rd61 hi, show n + 2 + k = (n + 1 + k) + 1 by omega, eq_pair _ _ g1 g2, Option.bind_some, if_pos rfl, w64 (by omega), show n + 1 + k + 1 = n + 2 + k by omega]
    have q := eq_l0 ps hp hl n (i + 1) k (by omega)
    rw [Int.natCast_add] at q
    exact q
theorem eq_table (ps : List S61) (tn : Int) (hp : ∀ p ∈ ps, GP p) (hl : ps.length ≤ 1048576) (k : Nat) : laws_eqTable.f (ps.length + 2 + k) ps tn ps tn = some true := by
  unfold laws_eqTable.f laws_eqPairS.f
  rw [if_pos rfl]
  have := eq_l0 ps hp (by omega) ps.length 0 k (by omega)
  simp only [Int.cast_ofNat_Int] at this
  rw [this]; simp
def same (p q : S28) : Bool := sameOf p.f0 p.f1 p.f2 p.f3 p.f4 q.f0 q.f1 q.f2 q.f3 q.f4
theorem spec_same_ge {k : Nat} (hk : 2100000 ≤ k) {p q : S28} (hp : GV p) (hq : GV q) : spec_Same.f k p.f0 p.f1 p.f2 p.f3 p.f4 q.f0 q.f1 q.f2 q.f3 q.f4 = some (same p q) := by
  obtain ⟨a, b, c⟩ := hp
  obtain ⟨a', b', c'⟩ := hq
  obtain ⟨j, rfl⟩ : ∃ j, k = 2 * p.f3.size + j + 13 := ⟨k - (2 * p.f3.size + 13), by omega⟩
  exact spec_same j _ _ _ _ _ _ _ _ _ _ (by omega) a a'
theorem impl_same_ge {k : Nat} (hk : 2100000 ≤ k) {p q : S28} (hp : GV p) (hq : GV q) : impl_Same.f k p.f0 p.f1 p.f2 p.f3 p.f4 q.f0 q.f1 q.f2 q.f3 q.f4 = some (same p q) := by
  obtain ⟨a, b, c⟩ := hp
  obtain ⟨a', b', c'⟩ := hq
  obtain ⟨j, rfl⟩ : ∃ j, k = j + 13 := ⟨k - 13, by omega⟩
  exact impl_same j _ _ _ _ _ _ _ _ _ _ a a'
noncomputable def keyV (v : S28) : Int × Int × Int × Nat × ByteArray × Int := keyOf v.f0 v.f1 v.f2 v.f3 v.f4
theorem spec_key_ge {k : Nat} (hk : 2100000 ≤ k) (v : S28) : spec_Key.f k v.f0 v.f1 v.f2 v.f3 v.f4 = some (keyV v) := by
  obtain ⟨j, rfl⟩ : ∃ j, k = j + 2 := ⟨k - 2, by omega⟩
  exact spec_key j _ _ _ _ _
theorem impl_key_ge {k : Nat} (hk : 2100000 ≤ k) (v : S28) : impl_Key.f k v.f0 v.f1 v.f2 v.f3 v.f4 = some (keyV v) := by
  obtain ⟨j, rfl⟩ : ∃ j, k = j + 2 := ⟨k - 2, by omega⟩
  exact impl_key j _ _ _ _ _
def vokV (v : S28) : Bool := vok v.f0 v.f1 v.f2 v.f3 v.f4
theorem spec_vok_ge {k : Nat} (hk : 2100000 ≤ k) (v : S28) : spec_ValueOk.f k v.f0 v.f1 v.f2 v.f3 v.f4 = some (vokV v) := by
  obtain ⟨j, rfl⟩ : ∃ j, k = j + 1 := ⟨k - 1, by omega⟩
  exact spec_valueOk j _ _ _ _ _
theorem impl_vok_ge {k : Nat} (hk : 2100000 ≤ k) (v : S28) : impl_ValueOk.f k v.f0 v.f1 v.f2 v.f3 v.f4 = some (vokV v) := by
  obtain ⟨j, rfl⟩ : ∃ j, k = j + 1 := ⟨k - 1, by omega⟩
  exact impl_valueOk j _ _ _ _ _
noncomputable def kok (v : S28) : Bool := if (keyV v).1 = 0 then (keyV v).2.1 == v.f0 else false
def clash (ps : List S61) (v : S28) : Nat → Nat → Bool
  | 0, _ => false
  | n + 1, j => if same (rd_T61 ps j).f0 v = true then true else clash ps v n (j + 1)
theorem spec_l1_eq (ps : List S61) (hp : ∀ p ∈ ps, GP p) (hl : ps.length ≤ 9223372036854775806) (t : Int) (i : Nat) (xs : List S61) (len i' tn : Int) (v : S28) (hv : GV v) (w0 w1 : Int) (w2 : Nat) (w3 : ByteArray) (w4 w5 : Int) (hi : i ≤ ps.length) : ∀ (n j : Nat) (k : Nat), j + n = i →
    spec_TableOk.l1 (n + 1 + (2100000 + k)) t i j xs len i' ps tn v.f0 v.f1 v.f2 v.f3 v.f4 w0 w1 w2 w3 w4 w5 = if clash ps v n j = true then some false else spec_TableOk.l0 (2100000 + k) t xs len (wrap64 (i' + 1)) ps tn
  | 0, j, k, h => by
    rw [show 0 + 1 + (2100000 + k) = (2100000 + k) + 1 by omega, spec_TableOk.l1, if_neg (by omega)]
    simp [clash]
  | n + 1, j, k, h => by
    have hj : j < ps.length := by omega
    rw [show n + 1 + 1 + (2100000 + k) = (n + 1 + (2100000 + k)) + 1 by omega, spec_TableOk.l1, if_pos (by omega), if_pos (by omega), if_pos (by omega)]
    have g : GV (rd_T61 ps (j : Int)).f0 := by rw [rd61 hj]; exact (hp _ (List.getElem_mem hj)).1
    rw [spec_same_ge (by omega) g hv]
    simp only [Option.bind_some]
    by_cases c : same (rd_T61 ps (j : Int)).f0 v = true
    · have q : clash ps v (n + 1) j = true := by unfold clash; rw [if_pos c]
      rw [if_pos c, if_pos q]
    · have q : clash ps v (n + 1) j = clash ps v n (j + 1) := by rw [clash, if_neg c]
      rw [if_neg c, q, w64 (by omega)]
      exact_mod_cast spec_l1_eq ps hp hl t i xs len i' tn v hv w0 w1 w2 w3 w4 w5 hi n (j + 1) k (by omega)
theorem impl_l1_eq (ps : List S61) (hp : ∀ p ∈ ps, GP p) (hl : ps.length ≤ 9223372036854775806) (t : Int) (i : Nat) (xs : List S61) (len i' tn : Int) (v : S28) (hv : GV v) (w0 w1 : Int) (w2 : Nat) (w3 : ByteArray) (w4 w5 : Int) (hi : i ≤ ps.length) : ∀ (n j : Nat) (k : Nat), j + n = i →
    impl_TableOk.l1 (n + 1 + (2100000 + k)) t i j xs len i' ps tn v.f0 v.f1 v.f2 v.f3 v.f4 w0 w1 w2 w3 w4 w5 = if clash ps v n j = true then some false else impl_TableOk.l0 (2100000 + k) t xs len (wrap64 (i' + 1)) ps tn
  | 0, j, k, h => by
    rw [show 0 + 1 + (2100000 + k) = (2100000 + k) + 1 by omega, impl_TableOk.l1, if_neg (by omega)]
    simp [clash]
  | n + 1, j, k, h => by
    have hj : j < ps.length := by omega
    rw [show n + 1 + 1 + (2100000 + k) = (n + 1 + (2100000 + k)) + 1 by omega, impl_TableOk.l1, if_pos (by omega), if_pos (by omega), if_pos (by omega)]
    have g : GV (rd_T61 ps (j : Int)).f0 := by rw [rd61 hj]; exact (hp _ (List.getElem_mem hj)).1
    rw [impl_same_ge (by omega) g hv]
    simp only [Option.bind_some]
    by_cases c : same (rd_T61 ps (j : Int)).f0 v = true
    · have q : clash ps v (n + 1) j = true := by unfold clash; rw [if_pos c]
      rw [if_pos c, if_pos q]
    · have q : clash ps v (n + 1) j = clash ps v n (j + 1) := by rw [clash, if_neg c]
      rw [if_neg c, q, w64 (by omega)]
      exact_mod_cast impl_l1_eq ps hp hl t i xs len i' tn v hv w0 w1 w2 w3 w4 w5 hi n (j + 1) k (by omega)
noncomputable def tokFrom (ps : List S61) (tn : Int) : Nat → Nat → Int → Bool
  | 0, _, _ => true
  | n + 1, i, last =>
    if kok (rd_T61 ps i).f0 = true then
      if vokV (rd_T61 ps i).f1 = true then
        if (rd_T61 ps i).f1.f0 = 0 then false
        else if (rd_T61 ps i).f2 ≤ last then false
        else if (rd_T61 ps i).f2 > tn then false
        else if clash ps (rd_T61 ps i).f0 i 0 = true then false
        else tokFrom ps tn n (i + 1) (rd_T61 ps i).f2
      else false
    else false
theorem spec_l0_eq (ps : List S61) (hp : ∀ p ∈ ps, GP p) (hl : ps.length ≤ 9223372036854775806) (tn : Int) : ∀ (n i : Nat) (last : Int) (k : Nat), i + n = ps.length →
    spec_TableOk.l0 (2100000 + (n * (ps.length + 5) + 1 + k)) last ps ps.length i ps tn = some (tokFrom ps tn n i last)
  | 0, i, last, k, h => by
    rw [show 2100000 + (0 * (ps.length + 5) + 1 + k) = (2100000 + k) + 1 by omega, spec_TableOk.l0, if_neg (by omega)]; rfl
  | n + 1, i, last, k, h => by
    have hi : i < ps.length := by omega
    have e1 : 2100000 + ((n + 1) * (ps.length + 5) + 1 + k) = ((i + 1 + (2100000 + (n * (ps.length + 5) + 1 + (k + (ps.length + 2 - i))))) + 1) + 1 := by
      rw [Nat.succ_mul]; omega
    rw [e1, spec_TableOk.l0, if_pos (by omega), if_pos (by omega), if_pos (by omega)]
    have g : GP (rd_T61 ps (i : Int)) := by rw [rd61 hi]; exact hp _ (List.getElem_mem hi)
    unfold spec_l2keyOk.f
    rw [spec_key_ge (by omega), spec_vok_ge (by omega)]
    simp only [Option.bind_some, tokFrom, kok]
    generalize rd_T61 ps (i : Int) = p at g ⊢
    by_cases c1 : (keyV p.f0).1 = 0
    · simp only [c1, if_true, Option.bind_some]
      by_cases c2 : ((keyV p.f0).2.1 == p.f0.f0) = true
      · simp only [c2, if_true]
        by_cases c3 : vokV p.f1 = true
        · simp only [c3, if_true]
          by_cases c4 : p.f1.f0 = 0
          · simp only [c4, if_true, spec_TableOk.j2]
          · simp only [c4, if_false]
            by_cases c5 : p.f2 ≤ last
            · simp only [c5, if_true, spec_TableOk.j2]
            · simp only [c5, if_false, spec_TableOk.j2]
              by_cases c6 : p.f2 > tn
              · simp only [c6, decide_true, if_true]
              · simp only [c6, decide_false, Bool.false_eq_true, if_false]
                have q := spec_l1_eq ps hp hl p.f2 i ps ps.length i tn p.f0 g.1 p.f1.f0 p.f1.f1 p.f1.f2 p.f1.f3 p.f1.f4 p.f2 (by omega) i 0 (n * (ps.length + 5) + 1 + (k + (ps.length + 2 - i))) (by omega)
                simp only [Int.cast_ofNat_Int] at q
                rw [q]
                by_cases c7 : clash ps p.f0 i 0 = true
                · rw [if_pos c7, if_pos c7]
                · rw [if_neg c7, if_neg c7, w64 (by omega)]
                  exact_mod_cast spec_l0_eq ps hp hl tn n (i + 1) p.f2 _ (by omega)
        · simp only [c3, if_false, spec_TableOk.j2, if_true, Bool.false_eq_true]
      · simp only [c2, if_false, spec_TableOk.j2, if_true, Bool.false_eq_true]
    · simp only [c1, if_false, Option.bind_some, spec_TableOk.j2, if_true, Bool.false_eq_true]
theorem impl_l0_eq (ps : List S61) (hp : ∀ p ∈ ps, GP p) (hl : ps.length ≤ 9223372036854775806) (tn : Int) : ∀ (n i : Nat) (last : Int) (k : Nat), i + n = ps.length →
    impl_TableOk.l0 (2100000 + (n * (ps.length + 5) + 1 + k)) last ps ps.length i ps tn = some (tokFrom ps tn n i last)
  | 0, i, last, k, h => by
    rw [show 2100000 + (0 * (ps.length + 5) + 1 + k) = (2100000 + k) + 1 by omega, impl_TableOk.l0, if_neg (by omega)]; rfl
  | n + 1, i, last, k, h => by
    have hi : i < ps.length := by omega
    have e1 : 2100000 + ((n + 1) * (ps.length + 5) + 1 + k) = (((i + 1 + (2100000 + (n * (ps.length + 5) + 1 + (k + (ps.length + 1 - i))))) + 1) + 1) + 1 := by
      rw [Nat.succ_mul]; omega
    rw [e1, impl_TableOk.l0, if_pos (by omega), if_pos (by omega), if_pos (by omega)]
    have g : GP (rd_T61 ps (i : Int)) := by rw [rd61 hi]; exact hp _ (List.getElem_mem hi)
    rw [impl_key_ge (by omega), impl_vok_ge (by omega)]
    simp only [Option.bind_some, tokFrom, kok]
    generalize rd_T61 ps (i : Int) = p at g ⊢
    by_cases c1 : (keyV p.f0).1 = 0
    · simp only [c1, if_true, Option.bind_some]
      by_cases c2 : (keyV p.f0).2.1 = p.f0.f0
      · simp only [c2, if_true, beq_self_eq_true]
        by_cases c3 : vokV p.f1 = true
        · simp only [c3, if_true]
          by_cases c4 : p.f1.f0 = 0
          · simp only [c4, if_true, impl_TableOk.j2, beq_self_eq_true]
          · have c4' : (p.f1.f0 == 0) = false := by simp [c4]
            simp only [c4, c4', if_false, impl_TableOk.j2, Bool.false_eq_true]
            by_cases c5 : p.f2 ≤ last
            · simp only [c5, if_true, impl_TableOk.j3]
            · simp only [c5, if_false, impl_TableOk.j3]
              by_cases c6 : p.f2 > tn
              · simp only [c6, decide_true, if_true]
              · simp only [c6, decide_false, Bool.false_eq_true, if_false]
                have q := impl_l1_eq ps hp hl p.f2 i ps ps.length i tn p.f0 g.1 p.f1.f0 p.f1.f1 p.f1.f2 p.f1.f3 p.f1.f4 p.f2 (by omega) i 0 (n * (ps.length + 5) + 1 + (k + (ps.length + 1 - i))) (by omega)
                simp only [Int.cast_ofNat_Int] at q
                rw [q]
                by_cases c7 : clash ps p.f0 i 0 = true
                · rw [if_pos c7, if_pos c7]
                · rw [if_neg c7, if_neg c7, w64 (by omega)]
                  exact_mod_cast impl_l0_eq ps hp hl tn n (i + 1) p.f2 _ (by omega)
        · simp only [c3, if_false, impl_TableOk.j2, if_true, Bool.false_eq_true]
      · have c2' : ((keyV p.f0).2.1 == p.f0.f0) = false := by simp [c2]
        simp only [c2, c2', if_false, impl_TableOk.j2, if_true, Bool.false_eq_true]
    · simp only [c1, if_false, Option.bind_some, impl_TableOk.j2, if_true, Bool.false_eq_true]
noncomputable def tok (ps : List S61) (tn : Int) : Bool := if (ps.length : Int) > 500 then false else if tn < 0 then false else if tn > 1000000000000 then false else tokFrom ps tn ps.length 0 0
def big : Nat := 3000000
theorem spec_tok {k : Nat} (hk : big ≤ k) (ps : List S61) (hp : ∀ p ∈ ps, GP p) (tn : Int) : spec_TableOk.f k ps tn = some (tok ps tn) := by
  unfold big at hk
  obtain ⟨k, rfl⟩ : ∃ j, k = j + 1 := ⟨k - 1, by omega⟩
  unfold spec_TableOk.f tok
  by_cases c1 : (ps.length : Int) > 500
  · rw [if_pos c1, if_pos c1]; simp [spec_TableOk.j0]
  rw [if_neg c1, if_neg c1]
  by_cases c2 : tn < 0
  · rw [if_pos c2, if_pos c2]; simp [spec_TableOk.j0]
  rw [if_neg c2, if_neg c2]
  by_cases c3 : tn > 1000000000000
  · rw [if_pos c3, spec_TableOk.j0, if_pos (by simpa using c3)]
  rw [if_neg c3, spec_TableOk.j0, if_neg (by simpa using c3)]
  have hb : ps.length * (ps.length + 5) ≤ 500 * 505 := Nat.mul_le_mul (by omega) (by omega)
  obtain ⟨j, e⟩ : ∃ j, k = 2100000 + (ps.length * (ps.length + 5) + 1 + j) := ⟨k - (2100000 + (ps.length * (ps.length + 5) + 1)), by omega⟩
  rw [e]
  exact_mod_cast spec_l0_eq ps hp (by omega) tn ps.length 0 0 j (by omega)
theorem impl_tok {k : Nat} (hk : big ≤ k) (ps : List S61) (hp : ∀ p ∈ ps, GP p) (tn : Int) : impl_TableOk.f k ps tn = some (tok ps tn) := by
  unfold big at hk
  obtain ⟨k, rfl⟩ : ∃ j, k = j + 1 := ⟨k - 1, by omega⟩
  unfold impl_TableOk.f tok
  by_cases c1 : (ps.length : Int) > 500
  · rw [if_pos c1, if_pos c1]; simp [impl_TableOk.j0]
  rw [if_neg c1, if_neg c1]
  by_cases c2 : tn < 0
  · rw [if_pos c2, if_pos c2]; simp [impl_TableOk.j0]
  rw [if_neg c2, if_neg c2]
  by_cases c3 : tn > 1000000000000
  · rw [if_pos c3, impl_TableOk.j0, if_pos (by simpa using c3)]
  rw [if_neg c3, impl_TableOk.j0, if_neg (by simpa using c3)]
  have hb : ps.length * (ps.length + 5) ≤ 500 * 505 := Nat.mul_le_mul (by omega) (by omega)
  obtain ⟨j, e⟩ : ∃ j, k = 2100000 + (ps.length * (ps.length + 5) + 1 + j) := ⟨k - (2100000 + (ps.length * (ps.length + 5) + 1)), by omega⟩
  rw [e]
  exact_mod_cast impl_l0_eq ps hp (by omega) tn ps.length 0 0 j (by omega)
theorem sz_table_ge {k : Nat} (xs : List S96) (hk : xs.length + 2 ≤ k) (tn : Int) (hx : ∀ x ∈ xs, x.f0.f3.size ≤ 9223372036854775807 ∧ x.f1.f3.size ≤ 9223372036854775807) (hl : xs.length ≤ 9223372036854775807) :
    ∃ t, laws_szTable.f k xs tn 1048576 = some t ∧ t ≤ 1048576 ∧ (t < 0 ∨ (0 ≤ t ∧ xs.length ≤ 1048576 ∧ ∀ x ∈ xs, x.f0.f3.size ≤ 1048576 ∧ x.f1.f3.size ≤ 1048576)) := by
  obtain ⟨j, rfl⟩ : ∃ j, k = xs.length + 1 + j := ⟨k - (xs.length + 1), by omega⟩
  exact sz_table xs tn hx hl j
theorem to_table_ge {k : Nat} (xs : List S96) (hk : xs.length + 2 ≤ k) (tn : Int) (hl : xs.length ≤ 1048576) : laws_toTable.f k xs tn = some (xs.map conv, tn) := by
  obtain ⟨j, rfl⟩ : ∃ j, k = xs.length + 1 + j := ⟨k - (xs.length + 1), by omega⟩
  exact to_table xs tn hl j
theorem eq_table_ge {k : Nat} (xs : List S96) (hk : xs.length + 2 ≤ k) (tn : Int) (hp : ∀ p ∈ xs.map conv, GP p) (hl : xs.length ≤ 1048576) : laws_eqTable.f k (xs.map conv) tn (xs.map conv) tn = some true := by
  obtain ⟨j, e⟩ : ∃ j, k = (xs.map conv).length + 2 + j := ⟨k - (xs.length + 2), by rw [List.length_map]; omega⟩
  rw [e]
  exact eq_table _ tn hp (by rw [List.length_map]; exact hl) j
theorem gp_conv (xs : List S96) (h1 : ∀ x ∈ xs, x.f0.f3.size ≤ 1048576 ∧ x.f1.f3.size ≤ 1048576)
    (h2 : ∀ x ∈ xs, ((-9223372036854775808 ≤ x.f0.f1 ∧ x.f0.f1 ≤ 9223372036854775807) ∧ x.f0.f2 < 18446744073709551616) ∧ ((-9223372036854775808 ≤ x.f1.f1 ∧ x.f1.f1 ≤ 9223372036854775807) ∧ x.f1.f2 < 18446744073709551616)) : ∀ p ∈ xs.map conv, GP p := by
  intro p hp
  obtain ⟨x, hx, rfl⟩ := List.mem_map.mp hp
  have a := h1 x hx
  have b := h2 x hx
  exact ⟨⟨b.1.1, b.1.2, a.1⟩, ⟨b.2.1, b.2.2, a.2⟩⟩
end Go.Proofs.Ytdjlbfaiccdbfaa.PAll
