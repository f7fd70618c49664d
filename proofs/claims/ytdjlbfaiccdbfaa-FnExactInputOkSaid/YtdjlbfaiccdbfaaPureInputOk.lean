/- The plain law of FnExactInputOk: the program's InputOk and the reference's are one function, and the input is left as it was. No condition. -/
import Derived.Test.YtdjlbfaiccdbfaaStaInputOk
namespace Go.Proofs.Ytdjlbfaiccdbfaa.PureInputOk
open Go.RowKit Go.Proofs.YtdjlbfaiccdbfaaW.PrintWords Go.Proofs.YtdjlbfaiccdbfaaW.PrintLast Go.Proofs.YtdjlbfaiccdbfaaW.PrintMore Go.Proofs.Ytdjlbfaiccdbfaa.PAll
set_option linter.unusedVariables false
set_option linter.unusedSimpArgs false
theorem w64 {n : Int} (h : -9223372036854775808 ≤ n ∧ n ≤ 9223372036854775807) : wrap64 n = n := by unfold wrap64; omega
theorem rdn {xs : List ByteArray} {i : Nat} (h : i < xs.length) : rdOf ByteArray.empty xs (i : Int) = xs[i] := by
  unfold rdOf; simp [h]
theorem drop_at {xs : List ByteArray} {i : Nat} (h : i < xs.length) : xs.drop i = xs[i] :: xs.drop (i + 1) := List.drop_eq_getElem_cons h

theorem sz_l0 (xs : List ByteArray) (hx : ∀ x ∈ xs, x.size ≤ 9223372036854775807) (hl : xs.length ≤ 9223372036854775807) : ∀ (n i : Nat) (v : Int) (k : Nat), i + n = xs.length → 0 ≤ v → v ≤ 1048576 →
    ∃ t, laws_szStringS.l0 (n + 1 + k) xs v i = some t ∧ t ≤ v ∧ (t < 0 ∨ 0 ≤ t)
  | 0, i, v, k, h, h0, h1 => by
    refine ⟨v, ?_, by omega, by omega⟩
    rw [show 0 + 1 + k = k + 1 by omega, laws_szStringS.l0, if_neg (by omega)]
  | n + 1, i, v, k, h, h0, h1 => by
    have hi : i < xs.length := by omega
    have hs := hx xs[i] (List.getElem_mem hi)
    rw [show n + 1 + 1 + k = (n + 1 + k) + 1 by omega, laws_szStringS.l0, if_pos (by omega), if_pos (by omega), rdn hi, w64 (n := v - (xs[i].size : Int)) (by omega)]
    by_cases hv : v - (xs[i].size : Int) < 0
    · exact ⟨-1, by rw [if_pos hv], by omega, by omega⟩
    · rw [if_neg hv, w64 (by omega)]
      obtain ⟨t, a, b, c⟩ := sz_l0 xs hx hl n (i + 1) (v - (xs[i].size : Int)) k (by omega) (by omega) (by omega)
      exact ⟨t, by exact_mod_cast a, by omega, c⟩
theorem sz_strings (xs : List ByteArray) (hx : ∀ x ∈ xs, x.size ≤ 9223372036854775807) (hl : xs.length ≤ 9223372036854775807) (v : Int) (h0 : 0 ≤ v) (h1 : v ≤ 1048576) (k : Nat) :
    ∃ t, laws_szStringS.f (xs.length + 1 + k) xs v = some t ∧ t ≤ v ∧ (t < 0 ∨ (0 ≤ t ∧ xs.length ≤ 1048576)) := by
  unfold laws_szStringS.f
  rw [w64 (n := v - (xs.length : Int)) (by omega)]
  by_cases hv : v - (xs.length : Int) < 0
  · exact ⟨-1, by rw [if_pos hv], by omega, by omega⟩
  · rw [if_neg hv]
    obtain ⟨t, a, b, c⟩ := sz_l0 xs hx hl xs.length 0 (v - (xs.length : Int)) k (by omega) (by omega) (by omega)
    exact ⟨t, by exact_mod_cast a, by omega, by omega⟩

theorem to_l0 (xs : List ByteArray) (hl : xs.length ≤ 9223372036854775806) : ∀ (n i : Nat) (ys : List ByteArray) (k : Nat), i + n = xs.length → ys.length = xs.length → ys.take i = xs.take i →
    laws_toStringS.l0 (n + 1 + k) xs ys i = some xs
  | 0, i, ys, k, h, h0, h1 => by
    rw [show 0 + 1 + k = k + 1 by omega, laws_toStringS.l0, if_neg (by omega)]
    rw [List.take_of_length_le (by omega), List.take_of_length_le (by omega)] at h1
    rw [h1]
  | n + 1, i, ys, k, h, h0, h1 => by
    have hi : i < xs.length := by omega
    rw [show n + 1 + 1 + k = (n + 1 + k) + 1 by omega, laws_toStringS.l0, if_pos (by omega), if_pos (by omega), if_pos (by omega), rdn hi, w64 (by omega)]
    have := to_l0 xs hl n (i + 1) (ys.set i xs[i]) k (by omega) (by simp [h0]) (by
      apply List.ext_getElem
      · simp [h0]
      intro j g1 g2
      simp only [List.length_take, List.length_set] at g1 g2
      simp only [List.getElem_take, List.getElem_set]
      by_cases hj : i = j
      · subst hj; simp
      · rw [if_neg hj]
        have q1 : (ys.take i)[j]'(by simp; omega) = (xs.take i)[j]'(by simp; omega) := by simp only [h1]
        simpa using q1)
    exact_mod_cast this
theorem to_strings (xs : List ByteArray) (hl : xs.length ≤ 1048576) (k : Nat) : laws_toStringS.f (xs.length + 1 + k) xs = some xs := by
  unfold laws_toStringS.f
  rw [if_pos (by omega), if_pos (by simp; omega)]
  have := to_l0 xs (by omega) xs.length 0 (List.replicate ((xs.length : Int) : Int).toNat (⟨#[]⟩ : ByteArray)) k (by omega) (by simp) (by simp)
  exact_mod_cast this

theorem eq_l0 (xs : List ByteArray) (hl : xs.length ≤ 9223372036854775806) : ∀ (n i : Nat) (k : Nat), i + n = xs.length → laws_eqStringS.l0 (n + 1 + k) xs xs i = some true
  | 0, i, k, h => by
    rw [show 0 + 1 + k = k + 1 by omega, laws_eqStringS.l0, if_neg (by omega)]
  | n + 1, i, k, h => by
    have hi : i < xs.length := by omega
    rw [show n + 1 + 1 + k = (n + 1 + k) + 1 by omega, laws_eqStringS.l0, if_pos (by omega), if_pos (by omega), if_pos (by omega), if_pos rfl, w64 (by omega)]
    exact_mod_cast eq_l0 xs hl n (i + 1) k (by omega)
theorem eq_strings (xs : List ByteArray) (hl : xs.length ≤ 1048576) (k : Nat) : laws_eqStringS.f (xs.length + 1 + k) xs xs = some true := by
  unfold laws_eqStringS.f
  rw [if_pos rfl]
  exact_mod_cast eq_l0 xs (by omega) xs.length 0 k (by omega)

def small (xs : List ByteArray) : Bool := xs.all fun b => decide ((b.size : Int) ≤ 4000)
theorem small_cons (x : ByteArray) (xs : List ByteArray) : small (x :: xs) = (decide ((x.size : Int) ≤ 4000) && small xs) := rfl
theorem within_eq (x lo hi : Int) : impl_within.f x lo hi = some (decide (lo ≤ x) && decide (x ≤ hi)) := by
  unfold impl_within.f
  by_cases h : lo ≤ x <;> simp [h]
def fin (a b c : Int) : Bool := if a ≥ 0 then (if a ≤ 5000 then (if b ≥ 1 then (if b ≤ 60 then (if c ≥ 0 then decide (c ≤ 20000) else false) else false) else false) else false) else false
theorem spec_l1 (xs a b : List ByteArray) (p q r : Int) (hl : xs.length ≤ 9223372036854775806) : ∀ (n i : Nat) (k : Nat), i + n = xs.length → spec_InputOk.l1 (n + 1 + k) xs xs.length i a b p q r = some (small (xs.drop i) && fin p q r)
  | 0, i, k, h => by
    rw [show 0 + 1 + k = k + 1 by omega, spec_InputOk.l1, if_neg (by omega), List.drop_of_length_le (by omega)]
    simp only [small, List.all_nil, Bool.true_and, fin]
    repeat' split
    all_goals first | rfl | simp_all
  | n + 1, i, k, h => by
    have hi : i < xs.length := by omega
    rw [show n + 1 + 1 + k = (n + 1 + k) + 1 by omega, spec_InputOk.l1, if_pos (by omega), if_pos (by omega), if_pos (by omega), rdn hi, w64 (by omega), drop_at hi]
    have ih := spec_l1 xs a b p q r hl n (i + 1) k (by omega)
    simp only [Int.natCast_add, Int.cast_ofNat_Int] at ih
    by_cases hs : (xs[i].size : Int) > 4000
    · rw [if_pos hs]; simp only [small, List.all_cons]; rw [decide_eq_false (by omega)]; simp
    · rw [if_neg hs, ih]; simp only [small, List.all_cons]; rw [decide_eq_true (by omega : (xs[i].size : Int) ≤ 4000)]; simp
theorem spec_l0 (xs a b : List ByteArray) (p q r : Int) (hl : xs.length ≤ 9223372036854775806) (hb : b.length ≤ 9223372036854775806) : ∀ (n i : Nat) (k : Nat), i + n = xs.length → spec_InputOk.l0 (n + 1 + (b.length + 1 + k)) xs xs.length i a b p q r = some (small (xs.drop i) && (small b && fin p q r))
  | 0, i, k, h => by
    rw [show 0 + 1 + (b.length + 1 + k) = (b.length + 1 + k) + 1 by omega, spec_InputOk.l0, if_neg (by omega), List.drop_of_length_le (by omega)]
    have := spec_l1 b a b p q r hb b.length 0 k (by omega)
    simp only [Int.cast_ofNat_Int, List.drop_zero] at this
    rw [this]; simp [small]
  | n + 1, i, k, h => by
    have hi : i < xs.length := by omega
    rw [show n + 1 + 1 + (b.length + 1 + k) = (n + 1 + (b.length + 1 + k)) + 1 by omega, spec_InputOk.l0, if_pos (by omega), if_pos (by omega), if_pos (by omega), rdn hi, w64 (by omega), drop_at hi]
    have ih := spec_l0 xs a b p q r hl hb n (i + 1) k (by omega)
    simp only [Int.natCast_add, Int.cast_ofNat_Int] at ih
    by_cases hs : (xs[i].size : Int) > 4000
    · rw [if_pos hs]; simp only [small, List.all_cons]; rw [decide_eq_false (by omega)]; simp
    · rw [if_neg hs, ih]; simp only [small, List.all_cons]; rw [decide_eq_true (by omega : (xs[i].size : Int) ≤ 4000)]; simp
/-- What both give. -/
def inOk (a b : List ByteArray) (p q r : Int) : Bool := if (a.length : Int) > 200 then false else if (b.length : Int) > 200 then false else small a && (small b && fin p q r)
theorem spec_ok (a b : List ByteArray) (p q r : Int) (k : Nat) : spec_InputOk.f (a.length + b.length + 3 + k) a b p q r = some (inOk a b p q r) := by
  unfold spec_InputOk.f inOk
  rw [show a.length + b.length + 3 + k = (a.length + 1 + (b.length + 1 + k)) + 1 by omega]
  by_cases h1 : (a.length : Int) > 200
  · rw [if_pos h1, if_pos h1, spec_InputOk.j0, if_pos rfl]
  rw [if_neg h1, if_neg h1, spec_InputOk.j0]
  by_cases h2 : (b.length : Int) > 200
  · rw [if_pos h2, if_pos (decide_eq_true h2)]
  rw [if_neg h2, if_neg (by simp; omega)]
  have := spec_l0 a a b p q r (by omega) (by omega) a.length 0 k (by omega)
  simpa using this

theorem impl_l1 (xs : List ByteArray) (L : List (List ByteArray)) (m c : Int) (a b : List ByteArray) (p q r : Int) (hl : xs.length ≤ 9223372036854775806) : ∀ (n i : Nat) (k : Nat), i + n = xs.length →
    impl_InputOk.l1 (n + 1 + k) L m c xs xs.length i a b p q r = if small (xs.drop i) = true then impl_InputOk.l0 k L m (wrap64 (c + 1)) a b p q r else some false
  | 0, i, k, h => by
    rw [show 0 + 1 + k = k + 1 by omega, impl_InputOk.l1, if_neg (by omega), List.drop_of_length_le (by omega)]
    rw [if_pos (by simp [small])]
  | n + 1, i, k, h => by
    have hi : i < xs.length := by omega
    rw [show n + 1 + 1 + k = (n + 1 + k) + 1 by omega, impl_InputOk.l1, if_pos (by omega), if_pos (by omega), if_pos (by omega), rdn hi, w64 (n := ((i : Nat) : Int) + 1) (by omega), drop_at hi]
    have ih := impl_l1 xs L m c a b p q r hl n (i + 1) k (by omega)
    simp only [Int.natCast_add, Int.cast_ofNat_Int] at ih
    by_cases hs : (xs[i].size : Int) > 4000
    · have hq : decide ((xs[i].size : Int) ≤ 4000) = false := decide_eq_false (by omega)
      rw [if_pos hs, if_neg (by rw [small_cons, hq]; simp)]
    · have hq : decide ((xs[i].size : Int) ≤ 4000) = true := decide_eq_true (by omega)
      rw [if_neg hs, ih]; simp only [small_cons, hq, Bool.true_and]
theorem impl_ok (a b : List ByteArray) (p q r : Int) (k : Nat) : impl_InputOk.f (a.length + b.length + 8 + k) a b p q r = some (inOk a b p q r) := by
  unfold impl_InputOk.f inOk
  rw [show a.length + b.length + 8 + k = (((a.length + 1 + ((b.length + 1 + (k + 3)) + 1)) + 1) + 1) by omega]
  by_cases h1 : (a.length : Int) > 200
  · rw [if_pos h1, if_pos h1, impl_InputOk.j0, if_pos rfl]
  rw [if_neg h1, if_neg h1, impl_InputOk.j0]
  by_cases h2 : (b.length : Int) > 200
  · rw [if_pos h2, if_pos (decide_eq_true h2)]
  rw [if_neg h2, if_neg (by simp; omega)]
  simp only [Option.bind_some]
  rw [impl_InputOk.l0, if_pos (by simp), if_pos (by decide), if_pos (by simp)]
  have e0 : rd_L1 [a, b] 0 = a := rfl
  have e1 : rd_L1 [a, b] 1 = b := rfl
  rw [e0]
  have i0 := impl_l1 a [a, b] ([a, b].length : Int) 0 a b p q r (by omega) a.length 0 ((b.length + 1 + (k + 3)) + 1) (by omega)
  simp only [Int.cast_ofNat_Int, List.drop_zero] at i0
  rw [i0]
  by_cases g1 : small a = true
  · rw [if_pos g1, g1, w64 (by omega), impl_InputOk.l0, if_pos (by simp), if_pos (by decide), if_pos (by simp)]
    simp only [Int.zero_add]
    rw [e1]
    have i1 := impl_l1 b [a, b] ([a, b].length : Int) 1 a b p q r (by omega) b.length 0 (k + 3) (by omega)
    simp only [Int.cast_ofNat_Int, List.drop_zero] at i1
    rw [i1]
    by_cases g2 : small b = true
    · rw [if_pos g2, g2, w64 (by omega), impl_InputOk.l0, if_neg (by simp)]
      simp only [within_eq, fin, Bool.true_and, Option.bind_some]
      by_cases q1 : 0 ≤ p
      · by_cases q2 : p ≤ 5000
        · by_cases q3 : 1 ≤ q
          · by_cases q4 : q ≤ 60
            · by_cases q5 : 0 ≤ r
              · simp [q1, q2, q3, q4, q5]
              · simp [q1, q2, q3, q4, q5]
            · simp [q1, q2, q3, q4]
          · simp [q1, q2, q3]
        · simp [q1, q2]
      · simp [q1]
    · rw [if_neg g2]; simp [g2]
  · rw [if_neg g1]; simp [g1]

theorem pure : Statement := by
  rintro ⟨a, b, p, q, r⟩ ⟨⟨ha, hal⟩, ⟨hb, hbl⟩, _⟩
  simp only at ha hal hb hbl ⊢
  refine ⟨a.length + b.length + 8, ?_⟩
  unfold laws_FnExactInputOk.f laws_szInput.f
  obtain ⟨t, e, h1, h2⟩ := sz_strings a ha hal 1048576 (by decide) (by decide) (b.length + 7)
  rw [show a.length + 1 + (b.length + 7) = a.length + b.length + 8 by omega] at e
  rw [e]
  simp only [Option.bind_some]
  rcases h2 with h2 | ⟨h2, la⟩
  · rw [if_pos h2]; simp
  rw [if_neg (by omega)]
  obtain ⟨t', e', h3, h4⟩ := sz_strings b hb hbl t h2 h1 (a.length + 7)
  rw [show b.length + 1 + (a.length + 7) = a.length + b.length + 8 by omega] at e'
  rw [e']
  simp only [Option.bind_some]
  rcases h4 with h4 | ⟨h4, lb⟩
  · rw [if_pos h4]; simp
  rw [if_neg (by omega)]
  simp only [Option.bind_some]
  rw [if_neg (by omega)]
  have ta := to_strings a la (b.length + 7)
  have tb := to_strings b lb (a.length + 7)
  have ea := eq_strings a la (b.length + 7)
  have eb := eq_strings b lb (a.length + 7)
  rw [show a.length + 1 + (b.length + 7) = a.length + b.length + 8 by omega] at ta ea
  rw [show b.length + 1 + (a.length + 7) = a.length + b.length + 8 by omega] at tb eb
  have so := spec_ok a b p q r 5
  rw [show a.length + b.length + 3 + 5 = a.length + b.length + 8 by omega] at so
  have io := impl_ok a b p q r 0
  rw [Nat.add_zero] at io
  simp only [laws_toInput.f, laws_eqInput.f, ta, tb, ea, eb, so, io, Option.bind_some]
  simp
end Go.Proofs.Ytdjlbfaiccdbfaa.PureInputOk
