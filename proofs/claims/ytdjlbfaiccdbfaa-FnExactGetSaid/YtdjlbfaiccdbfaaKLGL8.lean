/- Cut down from the texts of the same job by wip/shake.py to what this claim reaches. -/
import Derived.Test.YtdjlbfaiccdbfaaKLGx25
import Derived.Test.YtdjlbfaiccdbfaaKLGL6
namespace Go.Proofs.Ytdjlbfaiccdbfaa.PAll
open Go Go.RowKit Go.Proofs.YtdjlbfaiccdbfaaW.PrintWords Go.Proofs.YtdjlbfaiccdbfaaW.PrintLast Go.Proofs.YtdjlbfaiccdbfaaW.PrintMore Go.Proofs.Flt Ieee
set_option linter.unusedVariables false
set_option linter.unusedSimpArgs false
def placeFrom (ps : List S61) (v : S28) : Nat → Nat → Int
  | 0, _ => -1
  | n + 1, i => if same (rd_T61 ps (i : Int)).f0 v = true then (i : Int) else placeFrom ps v n (i + 1)
theorem place_range (ps : List S61) (v : S28) : ∀ (n i : Nat), i + n = ps.length → placeFrom ps v n i = -1 ∨ (0 ≤ placeFrom ps v n i ∧ placeFrom ps v n i < ps.length ∧ ∃ p ∈ ps, same p.f0 v = true)
  | 0, i, h => .inl rfl
  | n + 1, i, h => by
    have hi : i < ps.length := by omega
    by_cases c : same (rd_T61 ps (i : Int)).f0 v = true
    · have e : placeFrom ps v (n + 1) i = (i : Int) := by rw [placeFrom, if_pos c]
      rw [rd61 hi] at c
      exact .inr ⟨by omega, by omega, ps[i], List.getElem_mem hi, c⟩
    · have e : placeFrom ps v (n + 1) i = placeFrom ps v n (i + 1) := by rw [placeFrom, if_neg c]
      rw [e]
      exact place_range ps v n (i + 1) (by omega)
theorem spec_at_l0 (ps : List S61) (hp : ∀ p ∈ ps, GP p) (hl : ps.length ≤ 9223372036854775806) (tn : Int) (v : S28) (hv : GV v) : ∀ (n i : Nat) (k : Nat), i + n = ps.length →
    spec_l2at.l0 (n + 1 + (2100000 + k)) ps.length i ps tn v.f0 v.f1 v.f2 v.f3 v.f4 = some (placeFrom ps v n i)
  | 0, i, k, h => by
    rw [show 0 + 1 + (2100000 + k) = (2100000 + k) + 1 by omega, spec_l2at.l0, if_neg (by omega)]; rfl
  | n + 1, i, k, h => by
    have hi : i < ps.length := by omega
    have g : GV (rd_T61 ps (i : Int)).f0 := by rw [rd61 hi]; exact (hp _ (List.getElem_mem hi)).1
    rw [show n + 1 + 1 + (2100000 + k) = (n + 1 + (2100000 + k)) + 1 by omega, spec_l2at.l0, if_pos (by omega), if_pos (by omega), if_pos (by omega), spec_same_ge (by omega) g hv, Option.bind_some]
    by_cases c : same (rd_T61 ps (i : Int)).f0 v = true
    · have e : placeFrom ps v (n + 1) i = (i : Int) := by rw [placeFrom, if_pos c]
      rw [if_pos c, e]
    · have e : placeFrom ps v (n + 1) i = placeFrom ps v n (i + 1) := by rw [placeFrom, if_neg c]
      rw [if_neg c, e, w64 (by omega)]
      have q := spec_at_l0 ps hp hl tn v hv n (i + 1) k (by omega)
      rw [Int.natCast_add] at q
      exact q
theorem impl_place_l0 (ps : List S61) (hp : ∀ p ∈ ps, GP p) (hl : ps.length ≤ 9223372036854775806) (v : S28) (hv : GV v) : ∀ (n i : Nat) (k : Nat), i + n = ps.length →
    impl_place.l0 (n + 1 + (2100000 + k)) ps ps.length i v.f0 v.f1 v.f2 v.f3 v.f4 = some (placeFrom ps v n i)
  | 0, i, k, h => by
    rw [show 0 + 1 + (2100000 + k) = (2100000 + k) + 1 by omega, impl_place.l0, if_neg (by omega)]; rfl
  | n + 1, i, k, h => by
    have hi : i < ps.length := by omega
    have g : GV (rd_T61 ps (i : Int)).f0 := by rw [rd61 hi]; exact (hp _ (List.getElem_mem hi)).1
    rw [show n + 1 + 1 + (2100000 + k) = (n + 1 + (2100000 + k)) + 1 by omega, impl_place.l0, if_pos (by omega), if_pos (by omega), if_pos (by omega), impl_same_ge (by omega) g hv, Option.bind_some]
    by_cases c : same (rd_T61 ps (i : Int)).f0 v = true
    · have e : placeFrom ps v (n + 1) i = (i : Int) := by rw [placeFrom, if_pos c]
      rw [if_pos c, e]
    · have e : placeFrom ps v (n + 1) i = placeFrom ps v n (i + 1) := by rw [placeFrom, if_neg c]
      rw [if_neg c, e, w64 (by omega)]
      have q := impl_place_l0 ps hp hl v hv n (i + 1) k (by omega)
      rw [Int.natCast_add] at q
      exact q
def place (ps : List S61) (v : S28) : Int := placeFrom ps v ps.length 0
theorem spec_at_ge {k : Nat} (ps : List S61) (hk : ps.length + 1 + 2100000 ≤ k) (hp : ∀ p ∈ ps, GP p) (hl : ps.length ≤ 9223372036854775806) (tn : Int) (v : S28) (hv : GV v) : spec_l2at.f k ps tn v.f0 v.f1 v.f2 v.f3 v.f4 = some (place ps v) := by
  obtain ⟨j, rfl⟩ : ∃ j, k = ps.length + 1 + (2100000 + j) := ⟨k - (ps.length + 1 + 2100000), by omega⟩
  exact spec_at_l0 ps hp hl tn v hv ps.length 0 j (by omega)
theorem impl_place_ge {k : Nat} (ps : List S61) (hk : ps.length + 1 + 2100000 ≤ k) (hp : ∀ p ∈ ps, GP p) (hl : ps.length ≤ 9223372036854775806) (tn : Int) (v : S28) (hv : GV v) : impl_place.f k ps tn v.f0 v.f1 v.f2 v.f3 v.f4 = some (place ps v) := by
  obtain ⟨j, rfl⟩ : ∃ j, k = ps.length + 1 + (2100000 + j) := ⟨k - (ps.length + 1 + 2100000), by omega⟩
  exact impl_place_l0 ps hp hl v hv ps.length 0 j (by omega)
def iv (n : Int) : S28 := ⟨2, n, 0, ⟨#[]⟩, 0⟩
theorem gv_iv {n : Int} (h : -9223372036854775808 ≤ n ∧ n ≤ 9223372036854775807) : GV (iv n) := ⟨h, Nat.zero_lt_succ _, Nat.zero_le _⟩
def kval (p : S28) : Int := if p.f0 = 2 then p.f1 * U else val p.f2
theorem sgn_zero {a b : Int} (h : sgn a b = 0) : a = b := by
  unfold sgn at h
  by_cases c : a < b
  · rw [if_pos c] at h; omega
  · rw [if_neg c] at h
    by_cases c' : a > b
    · rw [if_pos c'] at h; omega
    · omega
theorem same_iv {p : S28} {n : Int} (h : same p (iv n) = true) : kval p = n * U := by
  obtain ⟨a, m, f, s, r⟩ := p
  unfold same sameOf at h
  by_cases c : vok a m f s r = true ∧ vok (iv n).f0 (iv n).f1 (iv n).f2 (iv n).f3 (iv n).f4 = true
  · simp only [c, not_true_eq_false, and_self, if_false] at h
    by_cases c2 : (a = 2 ∨ a = 3) ∧ ((iv n).f0 = 2 ∨ (iv n).f0 = 3)
    · rw [if_pos c2] at h
      have h := beq_iff_eq.mp h
      unfold cmpOf at h
      simp only [c, not_true_eq_false, and_self, if_false] at h
      unfold kval
      simp only [iv] at h ⊢
      rcases c2.1 with rfl | rfl
      · simp at h
        rw [if_pos rfl, sgn_zero h]
      · simp at h
        rw [if_neg (by decide)]
        split at h
        · omega
        · have : iff_ n f = 0 := by omega
          exact (sgn_zero this).symm
    · rw [if_neg c2] at h
      by_cases c3 : a = (iv n).f0
      · exfalso; exact c2 ⟨.inl c3, .inl rfl⟩
      · rw [if_neg c3] at h; cases h
  · rw [if_pos c] at h; cases h
theorem countP_lt {α : Type} {p q : α → Bool} : ∀ (l : List α), (∀ a ∈ l, q a = true → p a = true) → ∀ a, a ∈ l → p a = true → q a = false → l.countP q < l.countP p
  | [], _, a, ha, _, _ => by cases ha
  | b :: l, h, a, ha, h1, h2 => by
    rw [List.countP_cons, List.countP_cons]
    have hl : l.countP q ≤ l.countP p := List.countP_mono_left fun x hx => h x (List.mem_cons_of_mem _ hx)
    rcases List.mem_cons.mp ha with rfl | ha
    · rw [h1, h2]; simp; omega
    · have := countP_lt l (fun x hx => h x (List.mem_cons_of_mem _ hx)) a ha h1 h2
      have hb := h b (List.mem_cons_self ..)
      cases c : q b with
      | false => simp; omega
      | true => rw [hb c]; simp; omega
def cnt (ps : List S61) (x : Nat) : Nat := ps.countP fun p => decide ((x : Int) * U < kval p.f0)
theorem cnt_lt {ps : List S61} {x : Nat} (h : 0 ≤ place ps (iv ((x : Int) + 1))) : cnt ps (x + 1) < cnt ps x := by
  rcases place_range ps (iv ((x : Int) + 1)) ps.length 0 (by omega) with e | ⟨_, _, p, hp, e⟩
  · unfold place at h; omega
  · have e := same_iv e
    unfold cnt
    refine countP_lt ps (fun a _ ha => ?_) p hp ?_ ?_
    · rw [decide_eq_true_eq] at ha ⊢
      have := lt_mul (show (x : Int) < ((x + 1 : Nat) : Int) by omega)
      omega
    · rw [decide_eq_true_eq, e]; exact lt_mul (by omega)
    · rw [decide_eq_false_iff_not, e]
      push_cast; omega
theorem spec_len_step {k : Nat} {ps : List S61} (hk : ps.length + 1 + 2100000 ≤ k) (hp : ∀ p ∈ ps, GP p) (hl : ps.length ≤ 9223372036854775806) (tn : Int) (x : Nat) (hx : x ≤ 1048576) :
    spec_l2length.l0 (k + 1) x ps tn = if place ps (iv ((x : Int) + 1)) ≥ 0 then spec_l2length.l0 k ((x : Int) + 1) ps tn else some (x : Int) := by
  have a := spec_at_ge (k := k) ps hk hp hl tn _ (gv_iv (n := (x : Int) + 1) (by omega))
  have e : spec_l1int.f ((x : Int) + 1) = some ((iv ((x : Int) + 1)).f0, (iv ((x : Int) + 1)).f1, (iv ((x : Int) + 1)).f2, (iv ((x : Int) + 1)).f3, (iv ((x : Int) + 1)).f4) := rfl
  rw [spec_l2length.l0, w64 (by omega), e, Option.bind_some]
  generalize iv ((x : Int) + 1) = v at a ⊢
  rw [a, Option.bind_some]
theorem impl_len_step {k : Nat} {ps : List S61} (hk : ps.length + 1 + 2100000 ≤ k) (hp : ∀ p ∈ ps, GP p) (hl : ps.length ≤ 9223372036854775806) (tn : Int) (x : Nat) (hx : x ≤ 1048576) :
    impl_rawLength.l0 (k + 1) x ps tn = if place ps (iv ((x : Int) + 1)) ≥ 0 then impl_rawLength.l0 k ((x : Int) + 1) ps tn else some (x : Int) := by
  have a := impl_place_ge (k := k) ps hk hp hl tn _ (gv_iv (n := (x : Int) + 1) (by omega))
  have e : impl_vInt.f ((x : Int) + 1) = some ((iv ((x : Int) + 1)).f0, (iv ((x : Int) + 1)).f1, (iv ((x : Int) + 1)).f2, (iv ((x : Int) + 1)).f3, (iv ((x : Int) + 1)).f4) := rfl
  rw [impl_rawLength.l0, w64 (by omega), e, Option.bind_some]
  generalize iv ((x : Int) + 1) = v at a ⊢
  rw [a, Option.bind_some]
theorem length_both (ps : List S61) (hp : ∀ p ∈ ps, GP p) (hl : ps.length ≤ 9223372036854775806) (tn : Int) : ∀ (m x k : Nat), cnt ps x ≤ m → x + m ≤ 1048576 → ps.length + 1 + 2100000 ≤ k →
    ∃ r, spec_l2length.l0 (m + (k + 1)) x ps tn = some r ∧ impl_rawLength.l0 (m + (k + 1)) x ps tn = some r := by
  intro m
  induction m with
  | zero =>
    intro x k hc hx hk
    rw [Nat.zero_add, spec_len_step hk hp hl tn x (by omega), impl_len_step hk hp hl tn x (by omega)]
    have c : ¬ place ps (iv ((x : Int) + 1)) ≥ 0 := fun c => by
      have := cnt_lt (ps := ps) (x := x) c
      omega
    rw [if_neg c, if_neg c]
    exact ⟨_, rfl, rfl⟩
  | succ m ih =>
    intro x k hc hx hk
    rw [show m + 1 + (k + 1) = (m + (k + 1)) + 1 by omega, spec_len_step (by omega) hp hl tn x (by omega), impl_len_step (by omega) hp hl tn x (by omega)]
    by_cases c : place ps (iv ((x : Int) + 1)) ≥ 0
    · rw [if_pos c, if_pos c]
      have := cnt_lt (ps := ps) (x := x) c
      have q := ih (x + 1) k (by omega) (by omega) hk
      rw [Int.natCast_add] at q
      exact q
    · rw [if_neg c, if_neg c]
      exact ⟨_, rfl, rfl⟩
theorem tok_len {ps : List S61} {tn : Int} (h : tok ps tn = true) : ps.length ≤ 500 := by
  unfold tok at h
  by_cases c : (ps.length : Int) > 500
  · rw [if_pos c] at h; cases h
  · omega
theorem length_fn {k : Nat} (hk : big ≤ k) (ps : List S61) (hp : ∀ p ∈ ps, GP p) (tn : Int) :
    ∃ r, spec_Length.f k ps tn = some r ∧ impl_Length.f k ps tn = some r := by
  unfold spec_Length.f impl_Length.f
  rw [spec_tok hk ps hp, impl_tok hk ps hp]
  simp only [Option.bind_some]
  by_cases c : tok ps tn = true
  · rw [if_pos c, if_pos c]
    have l := tok_len c
    unfold big at hk
    have hc : cnt ps 0 ≤ ps.length := List.countP_le_length
    obtain ⟨r, a, b⟩ := length_both ps hp (by omega) tn ps.length 0 (k - (ps.length + 1)) hc (by omega) (by omega)
    rw [show ps.length + (k - (ps.length + 1) + 1) = k by omega] at a b
    simp only [Int.cast_ofNat_Int] at a b
    unfold spec_l2length.f impl_rawLength.f
    rw [a, b]
    exact ⟨r, rfl, rfl⟩
  · rw [if_neg c, if_neg c]
    exact ⟨0, rfl, rfl⟩
end Go.Proofs.Ytdjlbfaiccdbfaa.PAll
