/- Walks and laws, joined into one text. -/
import Derived.Test.YtdonkjepjobhnaaDoorQB
import Derived.Test.YtdonkjepjobhnaaDoorQA
import Derived.Laws.Externs
import Derived.Test.YtdonkjepjobhnaaDoorQJ
import Derived.Tactics
import Derived.Tactics2
import Derived.Defers
import Derived.Recover
set_option linter.unusedSimpArgs false
set_option linter.unusedVariables false
set_option linter.unnecessarySimpa false
namespace Go.Proofs.IM
open Go Go.Proofs.Flt
/-- The digits of a number. -/
def decL (n : Nat) : List UInt8 := if h : n < 10 then [UInt8.ofNat (48 + n)] else decL (n / 10) ++ [UInt8.ofNat (48 + n % 10)]
theorem decL_lt {n : Nat} (h : n < 10) : decL n = [UInt8.ofNat (48 + n)] := by rw [decL, dif_pos h]
theorem decL_ge {n : Nat} (h : ¬ n < 10) : decL n = decL (n / 10) ++ [UInt8.ofNat (48 + n % 10)] := by rw [decL, dif_neg h]
theorem decL_len : ∀ n, (decL n).length ≤ n + 1 := by
  intro n
  induction n using Nat.strongRecOn with
  | _ n ih =>
    by_cases h : n < 10
    · rw [decL_lt h]; simp
    · rw [decL_ge h]
      have := ih (n / 10) (by omega)
      simp; omega
def decT (n : Int) : ByteArray := if n < 0 then ⟨(45 :: decL n.natAbs).toArray⟩ else ⟨(decL n.natAbs).toArray⟩
theorem decL_le {k : Nat} : ∀ {n : Nat}, n < 10 ^ (k + 1) → (decL n).length ≤ k + 1 := by
  induction k with
  | zero => intro n h; rw [decL_lt (by simpa using h)]; simp
  | succ k ih =>
    intro n h
    by_cases c : n < 10
    · rw [decL_lt c]; simp
    · rw [decL_ge c]
      have := ih (n := n / 10) (by rw [Nat.pow_succ] at h; omega)
      simp; omega
theorem decT_min : decT (-9223372036854775808) = ⟨#[45, 57, 50, 50, 51, 51, 55, 50, 48, 51, 54, 56, 53, 52, 55, 55, 53, 56, 48, 56]⟩ := by
  unfold decT; simp [decL]
end Go.Proofs.IM
namespace Go.Proofs.YtdonkjepjobhnaaDoor.IM
open Go Go.Proofs.IM Go.Proofs.Flt
set_option maxHeartbeats 8000000
set_option maxRecDepth 100000
theorem s_l1decimalP {n : Nat} {m : Mem} {K : AR → Mem → Prop} (hn : n ≤ 9223372036854775807) (h : K (.ret (.str ⟨(decL n).toArray⟩)) m) : Sim Tryd.prog 45 [.int .i64 n] m K := by
  refine entry (cxok [16]) Tryd.func45 rfl rfl (by decide) (by decide) ?_
  have c0 : ((n : Int) == -9223372036854775808) = false := by
    rw [beq_eq_false_iff_ne]; omega
  have c1 : ((n : Int) < 0) = False := by rw [eq_iff_iff, iff_false]; omega
  have hd := decL_le (k := 18) (n := n) (by omega)
  refine goh_ ?_
  clear c0 c1
  refine loop_ (fun k' t l c m' => m' = m ∧ ∃ (x : Nat) (b : List UInt8), t 0 = .int .i64 x ∧ t 3 = .str ⟨b.toArray⟩ ∧ decL x ++ b = decL n ∧ x ≤ n ∧ k' = x) n ?_ ?_
  · exact ⟨rfl, n, [], rfl, rfl, by simp, by omega, rfl⟩
  intro k' t l c m1 KN ⟨hm, x, b, g0, g3, hS, hx, hk⟩ next
  subst m1
  have hbl : b.length ≤ 19 := by
    have := congrArg List.length hS
    simp only [List.length_append] at this; omega
  have e1 : IntKind.u8.wrap (IntKind.i64.wrap (48 + (x : Int).tmod 10)) = ((UInt8.ofNat (48 + x % 10)).toNat : Int) := by
    rw [Int.tmod_eq_emod_of_nonneg (by omega), i64_wrap, u8_wrap]; simp only [UInt8.toNat_ofNat']; omega
  have e2 := @bR_lc l m (c + 4) _ (UInt8.ofNat (48 + x % 10)) rfl
  have e3 : w64 ((x : Int).tdiv 10) = ((x / 10 : Nat) : Int) := by
    rw [Int.tdiv_eq_ediv_of_nonneg (by omega), w64_id (by omega)]; omega
  have e4 : ((ByteArray.mk [UInt8.ofNat (48 + x % 10)].toArray).size + (ByteArray.mk b.toArray).size ≤ 9223372036854775807) = True := by
    rw [eq_iff_iff, iff_true]
    show 1 + b.toArray.size ≤ 9223372036854775807
    rw [List.size_toArray]; omega
  have e5 := str_app
  by_cases hx0 : x < 10
  · have e6 : (((x / 10 : Nat) : Int) == 0) = true := by
      rw [beq_iff_eq]; omega
    rw [decL_lt hx0] at hS
    have e7 : x % 10 = x := Nat.mod_eq_of_lt hx0
    rw [e7] at e1 e2 e4
    have e8 : [UInt8.ofNat (48 + x)] ++ b = decL n := hS
    clear hS hd hbl e7 hx hx0
    exact gox_
  · have e6 : (((x / 10 : Nat) : Int) == 0) = false := by
      rw [beq_eq_false_iff_ne]; omega
    rw [decL_ge hx0] at hS
    refine goh_ ?_
    refine next _ _ _ _ _ ?_ ⟨rfl, x / 10, [UInt8.ofNat (48 + x % 10)] ++ b, rfl, rfl, ?_, by omega, rfl⟩
    · omega
    · rw [← List.append_assoc]; exact hS
theorem s_l1decimal {n : Int} {m : Mem} {K : AR → Mem → Prop} (hn : -9223372036854775808 ≤ n ∧ n ≤ 9223372036854775807) (h : K (.ret (.str (decT n))) m) : Sim Tryd.prog 45 [.int .i64 n] m K := by
  by_cases h0 : 0 ≤ n
  · obtain ⟨k, rfl⟩ : ∃ k : Nat, n = k := ⟨n.toNat, by omega⟩
    refine s_l1decimalP (by omega) ?_
    have e : decT (k : Int) = ⟨(decL k).toArray⟩ := by unfold decT; rw [if_neg (by omega), Int.natAbs_natCast]
    rw [← e]; exact h
  refine entry (cxok [16]) Tryd.func45 rfl rfl (by decide) (by decide) ?_
  by_cases h1 : n = -9223372036854775808
  · subst h1
    rw [decT_min] at h
    clear hn h0
    exact gox_
  have c0 : (n == -9223372036854775808) = false := by rw [beq_eq_false_iff_ne]; exact h1
  have c1 : (n < 0) = True := by rw [eq_iff_iff, iff_true]; omega
  have c2 : w64 (0 - n) = ((n.natAbs : Nat) : Int) := by rw [w64_id (by omega)]; omega
  have hd := decL_le (k := 18) (n := n.natAbs) (by omega)
  have e4 : ((ByteArray.mk #[45]).size + (ByteArray.mk (decL n.natAbs).toArray).size ≤ 9223372036854775807) = True := by
    rw [eq_iff_iff, iff_true]
    show 1 + (decL n.natAbs).toArray.size ≤ 9223372036854775807
    rw [List.size_toArray]; omega
  have e5 : (ByteArray.mk #[45]) ++ (ByteArray.mk (decL n.natAbs).toArray) = decT n := by
    unfold decT; rw [if_pos (by omega)]; exact str_app [45] _
  have hb : n.natAbs ≤ 9223372036854775807 := by omega
  clear hn h0 h1 hd
  refine goh_ ?_
  refine s_l1decimalP hb ?_
  exact gox_
end Go.Proofs.YtdonkjepjobhnaaDoor.IM
namespace Go.Proofs.Flt
open Ieee Go Go.Proofs.IM
/-- The odd part, and the power of two. -/
def odd2 (n : Nat) : Nat × Nat := if h : n ≠ 0 ∧ n % 2 = 0 then ((odd2 (n / 2)).1, (odd2 (n / 2)).2 + 1) else (n, 0)
termination_by n
decreasing_by all_goals omega
theorem odd2_odd {o : Nat} (h : o % 2 = 1) : ∀ t, odd2 (o * 2 ^ t) = (o, t) := by
  intro t
  induction t with
  | zero => rw [Nat.pow_zero, Nat.mul_one, odd2, dif_neg (by omega)]
  | succ t ih =>
    have hp : 0 < o * 2 ^ t := Nat.mul_pos (by omega) (Nat.two_pow_pos t)
    have e : o * 2 ^ (t + 1) = 2 * (o * 2 ^ t) := by rw [Nat.pow_succ]; ac_rfl
    rw [e, odd2, dif_pos (by omega), show 2 * (o * 2 ^ t) / 2 = o * 2 ^ t by omega, ih]
def decI (n : Int) : List UInt8 := if n < 0 then 45 :: decL n.natAbs else decL n.natAbs
theorem decT_I (n : Int) : decT n = ⟨(decI n).toArray⟩ := by
  unfold decT decI; split <;> rfl
/-- The text of what is neither a NaN nor has a sign. -/
def fTxt (r : Nat) : List UInt8 := if r = 0 then [48, 112, 48] else if r = infR then [105, 110, 102] else decI (odd2 (M r)).1 ++ 112 :: decI ((odd2 (M r)).2 - 1074)
def sgnL (s : Bool) : List UInt8 := if s then [45] else []
def fText (b : Nat) : ByteArray := if nan b then ⟨#[110, 97, 110]⟩ else ⟨(sgnL (neg b) ++ fTxt (rung b)).toArray⟩
theorem fTxt_odd {r o t : Nat} (h0 : r ≠ 0) (hi : r < infR) (ho : o % 2 = 1) (hM : M r = o * 2 ^ t) : fTxt r = decI o ++ 112 :: decI (t - 1074) := by
  unfold fTxt
  rw [if_neg h0, if_neg (by omega), hM, odd2_odd ho]
theorem U_pow : U = 2 ^ k0 := pow_k0.symm
/-- What is no whole number is small. -/
theorem small_of {r : Nat} (h : ¬ U ∣ M r) : r < 4841369599423283200 := by
  rcases Nat.lt_or_ge r 4841369599423283200 with c | c
  · exact c
  · exfalso
    apply h
    rw [M_big (by omega), U_pow]
    exact Nat.dvd_mul_left_of_dvd (Nat.pow_dvd_pow 2 (by rw [k0_eq]; omega)) _
theorem one_le {r : Nat} (h0 : r ≠ 0) (hd : U ∣ M r) : 4607182418800017408 ≤ r := by
  have h1 := val_one
  have h2 : val 4607182418800017408 = M 4607182418800017408 := val_w (by decide)
  have h3 : M 4607182418800017408 = U := by rw [h2] at h1; exact_mod_cast h1
  rcases Nat.lt_or_ge r 4607182418800017408 with c | c
  · have := M_lt c
    have := Nat.le_of_dvd (M_pos (by omega)) hd
    omega
  · exact c
/-- Compared with its floor. -/
theorem floor_w {r t : Nat} (hr : r < infR) (h1 : inr (word false r) → nan t = false ∧ val t = val (word false r) / U * U) (h2 : ¬ inr (word false r) → t = word false r) : feq (word false r) t = decide (U ∣ M r) := by
  have hv := val_w (r := r) (by omega)
  have hn := nan_w (s := false) (r := r) (by omega)
  by_cases hi : inr (word false r)
  · obtain ⟨n1, v1⟩ := h1 hi
    rw [feq_iff, hn, n1, v1, hv, Bool.eq_iff_iff]
    simp only [Bool.not_false, Bool.true_and, decide_eq_true_eq]
    constructor
    · intro h
      refine ⟨M r / U, ?_⟩
      have : M r = M r / U * U := by exact_mod_cast h
      rw [Nat.mul_comm]; exact this
    · intro h
      have := Nat.div_mul_cancel h
      exact_mod_cast this.symm
  · rw [h2 hi, feq_self, hn]
    have : U ∣ M r := by
      apply Classical.byContradiction
      intro c
      apply hi
      refine ⟨hn, ?_, ?_⟩
      · rw [hv]; omega
      · rw [hv]
        have h3 := M_lt (small_of c)
        have h4 := M_52 (r := 4841369599423283200) (Nat.le_refl _) (by omega)
        rw [h4] at h3
        have : M r < K63 * U := Nat.lt_of_lt_of_le h3 (Nat.mul_le_mul_right _ (by decide))
        exact_mod_cast this
    simp [this]
/-- An odd whole number is a small one. -/
theorem odd_small {r q : Nat} (hM : M r = q * U) (ho : q % 2 = 1) : q < 9007199254740992 := by
  rcases Nat.lt_or_ge r 4845873199050653696 with c | c
  · have h1 := M_lt c
    rw [hM] at h1
    have h4 : M 4845873199050653696 = 9007199254740992 * U := by
      rw [M_big (by decide), show 4845873199050653696 / 4503599627370496 - 1 = 1 + k0 by decide, Nat.pow_add, pow_k0, ← Nat.mul_assoc]
    rw [h4] at h1
    exact Nat.lt_of_mul_lt_mul_right h1
  · exfalso
    rw [M_big (by omega), show r / 4503599627370496 - 1 = (r / 4503599627370496 - 1 - k0 - 1) + 1 + k0 by rw [k0_eq]; omega, Nat.pow_add, pow_k0, ← Nat.mul_assoc] at hM
    have := Nat.eq_of_mul_eq_mul_right U_pos hM
    rw [Nat.pow_succ, ← Nat.mul_assoc] at this
    omega
/-- The mantissa and the exponent that the bits tell. -/
theorem M_bits (r : Nat) : M r = (if r / 4503599627370496 = 0 then r % 4503599627370496 else 4503599627370496 + r % 4503599627370496) * 2 ^ ((if r / 4503599627370496 = 0 then 1 else r / 4503599627370496) - 1) := by
  by_cases h : r / 4503599627370496 = 0
  · rw [if_pos h, if_pos h, M_low (by omega), Nat.sub_self, Nat.pow_zero, Nat.mul_one]; omega
  · rw [if_neg h, if_neg h, M_big (by omega)]
end Go.Proofs.Flt
namespace Go.Proofs.IM
open Go Go.RowKit Go.Proofs.Flt Ieee
section
variable {P : Program} {f : FuncId} {fn : Func}
theorem run_integral (s : String) (way : Ieee.Toward) (b : Nat) (w : World) (h : fnan b = false) :
    (Extern.MathFloor.toIntegral s way #[.float .f64 b]).run P w = .ok (.float .f64 (Ieee.double.write ((Ieee.double.read b).integral way))) w := by
  unfold fnan at h
  have key : ∀ d : Ieee.Datum, Ieee.double.read b = d → d.isNaN = false → Extern.MathFloor.toIntegral s way #[.float .f64 b] = pure (.float .f64 (Ieee.double.write (d.integral way))) := by
    intro d hd hn
    have e : Extern.MathFloor.toIntegral s way #[.float .f64 b] = (match Ieee.double.read b with
      | .nan s t => if FloatKind.f64.format.quiet t = t then pure (.float .f64 b) else do
        let kept ← choose (.extern "math.Floor,Ceil,Trunc,RoundToEven.signallingNaN kept" 2)
        pure (.float .f64 (if kept == 1 then b else FloatKind.f64.encode (.nan s (FloatKind.f64.format.quiet t))))
      | d => pure (.float .f64 (Ieee.double.write (d.integral way)))) := rfl
    rw [e, hd]
    cases d with
    | nan s t => cases hn
    | infinity s => rfl
    | number s m i => rfl
  rw [key _ rfl h]
  rfl
theorem run_trunc (hf : P.funcs[f]? = some fn) (hname : (fn.name == "runtime.NumGoroutine") = false) (hb : fn.body.isNone = true) (hn : Extern.findNext fn = none) (he : Extern.find fn = some (Extern.MathFloor.toIntegral "math.archTrunc" .zero)) (b : Nat) (w : World) (h : fnan b = false) :
    (callFunc f #[.float .f64 b]).run P w = .ok (.value (.float .f64 (ftrunc b))) w := by
  rw [run_callFunc_extern hf hname hb hn he, run_integral _ _ _ _ h]; rfl
end
theorem c_condT {C : Cx} {KN : St → Mem → Prop} {KX : Nat → St → Mem → Prop} {KR : St → Mem → Prop} {KP : Value → Mem → Prop} {x y : Code} {st : St} {m : Mem} : aCode C (.cond (.const (.bool true)) x y) KN KX KR KP st m = aCode C x KN KX KR KP st m := by
  have e : eA m st.t (.const (.bool true)) = .bool true := rfl
  simp [aCode, e, setc]
/-- The reference's floor, within int64's range. -/
theorem floor_sub {b : Nat} (hi : inr b) (h3 : fgtr (i2f (tr b)) b = true) : ∃ t, double.sub (i2f (tr b)) 4607182418800017408 = some t ∧ nan t = false ∧ val t = val b / Flt.U * Flt.U := by
    have hU := Ui_pos
    have hn' := hi.1
    have hf := inr_fin hi
    obtain ⟨v1, n1⟩ := val_i2f_tr hf
    rw [fgtr_iff, v1, n1, hn'] at h3
    simp only [Bool.not_false, Bool.true_and, decide_eq_true_eq] at h3
    have h4 : val b ≤ 0 ∧ (tr b - 1) * Flt.U < val b := by
      rcases tr_cases b with ⟨_, h5, _⟩ | ⟨h5, _, h6, _⟩
      · omega
      · exact ⟨h5, h6⟩
    -- below nought and no whole number: the whole part is small
    obtain ⟨r', r1, r2, r3, r4⟩ := i2f_tr hf
    have hlt : M (rung b) / Flt.U < 9007199254740992 := by
      rcases r4 with r4 | r4
      · exfalso
        rw [r4] at r2
        have e1 := natAbs_val b
        have e2 : tr b = -((M (rung b) / Flt.U : Nat) : Int) ∨ tr b = ((M (rung b) / Flt.U : Nat) : Int) := by unfold tr; split <;> simp
        have e3 : (M (rung b) : Int) = ((M (rung b) / Flt.U : Nat) : Int) * Flt.U := by exact_mod_cast r2
        generalize M (rung b) / Flt.U = q at e2 e3
        generalize hz : tr b * (Flt.U : Int) = z at h3 h4 ⊢
        have e4 : z = -(M (rung b) : Int) ∨ z = (M (rung b) : Int) := by
          rcases e2 with e2 | e2
          · left; rw [← hz, e2, Int.neg_mul, ← e3]
          · right; rw [← hz, e2, ← e3]
        rcases tr_cases b with ⟨q1, q2, _⟩ | ⟨q1, q2, q3, q4⟩
        · omega
        · have : z ≤ 0 := by rw [← hz]; exact Int.mul_nonpos_of_nonpos_of_nonneg (by omega) (Int.natCast_nonneg _)
          omega
      · exact r4
    have htr : tr b = -((M (rung b) / Flt.U : Nat) : Int) := by
      have e2 : tr b = -((M (rung b) / Flt.U : Nat) : Int) ∨ tr b = ((M (rung b) / Flt.U : Nat) : Int) := by unfold tr; split <;> simp
      generalize M (rung b) / Flt.U = q at e2 ⊢
      rcases tr_cases b with ⟨_, h5, _⟩ | ⟨_, _, _, h6⟩
      · omega
      · omega
    obtain ⟨r2', s1, s2⟩ := whole_rung (M (rung b) / Flt.U + 1) (by omega)
    have hfin : rung (i2f (tr b)) < infR := by
      rw [r3, rung_word _ _ (by unfold infR at r1; omega)]; exact r1
    have h1fin : rung 4607182418800017408 < infR := by decide
    have hd : val (i2f (tr b)) - val 4607182418800017408 = -(((M (rung b) / Flt.U + 1 : Nat) : Int) * Flt.U) := by
      rw [v1, val_one, htr]
      generalize M (rung b) / Flt.U = q
      push_cast
      rw [Int.add_mul, Int.neg_mul]; omega
    have hsub := sub_exact hfin h1fin (r := r2') (by omega) (by rw [hd, s2, Int.natAbs_neg, Int.natAbs_mul, Int.natAbs_natCast, Int.natAbs_natCast]) (by
      rw [hd]
      have : 0 < ((M (rung b) / Flt.U + 1 : Nat) : Int) * Flt.U := Int.mul_pos (by exact_mod_cast Nat.succ_pos _) hU
      generalize ((M (rung b) / Flt.U + 1 : Nat) : Int) * Flt.U = z at *
      omega)
    have hlt2 : r2' < 9223372036854775808 := by unfold infR at s1; omega
    refine ⟨_, hsub, ?_⟩
    refine ⟨nan_word _ _ (by omega), ?_⟩
    rw [val_word _ _ hlt2, hd, if_pos (by
      have : 0 < ((M (rung b) / Flt.U + 1 : Nat) : Int) * Flt.U := Int.mul_pos (by exact_mod_cast Nat.succ_pos _) hU
      simp only [decide_eq_true_eq]
      generalize ((M (rung b) / Flt.U + 1 : Nat) : Int) * Flt.U = z at *
      omega), s2]
    rw [floor_unique (q := tr b - 1) hU (by omega) (by rw [Int.sub_add_cancel]; exact h3)]
    rw [htr]
    generalize M (rung b) / Flt.U = q
    push_cast
    rw [Int.sub_mul, Int.add_mul, Int.neg_mul]; omega
theorem floor_keep {b : Nat} (hi : inr b) (h3 : ¬ fgtr (i2f (tr b)) b = true) : nan (i2f (tr b)) = false ∧ val (i2f (tr b)) = val b / Flt.U * Flt.U := by
    have hn' := hi.1
    have hf := inr_fin hi
    have hU := Ui_pos
    obtain ⟨v1, n1⟩ := val_i2f_tr hf
    refine ⟨n1, ?_⟩
    rw [fgtr_iff, v1, n1, hn'] at h3
    simp only [Bool.not_false, Bool.true_and, decide_eq_true_eq] at h3
    rw [v1, floor_unique (q := tr b) hU (by omega) ?_]
    rcases tr_cases b with ⟨_, _, h5, _⟩ | ⟨_, h5, _, _⟩
    · exact h5
    · rw [Int.add_mul]; omega

end Go.Proofs.IM
namespace Go.Proofs.YtdonkjepjobhnaaDoor.IM
open Go Go.Proofs.IM Go.Proofs.Flt
set_option maxHeartbeats 8000000
set_option maxRecDepth 100000
theorem s_Trunc {b : Nat} {m : Mem} {K : AR → Mem → Prop} (hb : nan b = false) (h : K (.ret (.flt (ftrunc b))) m) : Sim Tryd.prog 173 [.flt b] m K := by
  refine entry (cxok []) Tryd.func173 rfl rfl (by decide) (by decide) ?_
  refine goh_ ?_
  rw [c_condT]
  refine goh_ ?_
  refine sim_one (a := .flt b) (r := .flt (ftrunc b)) ?_ fun E w x hx => by
    cases hx
    exact ⟨_, run_trunc Tryd.func190 (by decide) rfl (by kernel_rfl) (by kernel_rfl) b w (by rw [← hb]; exact fnan_eq b), .flt _⟩
  exact gox_
theorem s_l1nan {b : Nat} {m : Mem} {K : AR → Mem → Prop} (h : K (.ret (.bool (nan b))) m) : Sim Tryd.prog 115 [.flt b] m K := by
  refine entry (cxok []) Tryd.func115 rfl rfl (by decide) (by decide) ?_
  have e : fne b b = nan b := by rw [fne_iff, feq_self, Bool.not_not]
  exact gox_
theorem s_l1floor {b : Nat} {m : Mem} {K : AR → Mem → Prop} (h : ∀ t, (inr b → nan t = false ∧ val t = val b / Flt.U * Flt.U) → (¬ inr b → t = b) → K (.ret (.flt t)) m) : Sim Tryd.prog 116 [.flt b] m K := by
  refine entry (cxok []) Tryd.func116 rfl rfl (by decide) (by decide) ?_
  refine goh_ ?_
  refine s_l1nan ?_
  cases hn : nan b with
  | true => have h := h b (fun q => by rw [q.1] at hn; cases hn) (fun _ => rfl); exact gox_
  | false =>
    cases h0 : feq b 0 with
    | true =>
      have h := h b (fun q => ⟨hn, by rw [feq_iff, val_zero] at h0; simp [hn, nan_consts] at h0; rw [h0]; simp⟩) (fun _ => rfl)
      exact gox_
    | false =>
      cases h1 : fgeq b 4890909195324358656 with
      | true =>
        have h := h b (fun q => by
          rw [fgeq_iff, val_two63] at h1
          simp only [hn, nan_consts, Bool.not_false, Bool.true_and, decide_eq_true_eq] at h1
          exact absurd q.2.2 (by omega)) (fun _ => rfl)
        exact gox_
      | false =>
        have h1' : val b < ((K63 * Flt.U : Nat) : Int) := by
          rw [fgeq_iff, val_two63] at h1
          simp only [hn, nan_consts, Bool.not_false, Bool.true_and, decide_eq_false_iff_not] at h1
          omega
        cases h2 : fleq b 14114281232179134464 with
        | true =>
          have h := h b (fun q => by
            rw [fleq_iff, val_m63] at h2
            simp only [hn, nan_consts, Bool.not_false, Bool.true_and, decide_eq_true_eq] at h2
            refine ⟨hn, ?_⟩
            have e : val b = (-(K63 : Int)) * Flt.U := by have := q.2.1; rw [Int.neg_mul]; push_cast at *; omega
            rw [e, Int.mul_ediv_cancel _ (Int.ne_of_gt Ui_pos)]) (fun _ => rfl)
          exact gox_
        | false =>
          have hi : inr b := by
            rw [fleq_iff, val_m63] at h2
            simp only [hn, nan_consts, Bool.not_false, Bool.true_and, decide_eq_false_iff_not] at h2
            exact ⟨hn, by omega, h1'⟩
          obtain ⟨ok, ei⟩ := inr_f2i hi
          clear h1'
          cases h3 : fgtr (i2f (tr b)) b with
          | true =>
            obtain ⟨t, e1, e2⟩ := floor_sub hi h3
            have h := h t (fun _ => e2) (fun q => absurd hi q)
            clear hi e2
            exact gox_
          | false =>
            have h := h _ (fun _ => floor_keep hi (by rw [h3]; decide)) (fun q => absurd hi q)
            clear hi
            exact gox_
end Go.Proofs.YtdonkjepjobhnaaDoor.IM
namespace Go.Proofs.IM
open Go Go.Proofs.Flt
theorem fText_w {s : Bool} {r : Nat} (hr : r ≤ infR) : fText (word s r) = ⟨(sgnL s ++ fTxt r).toArray⟩ := by
  have h1 := infR_lt
  unfold fText
  rw [nan_w hr, neg_word s r (by omega), rung_word s r (by omega)]; rfl
theorem decI_len {n : Int} (h : -9223372036854775808 ≤ n ∧ n ≤ 9223372036854775807) : (decI n).length ≤ 20 := by
  have := decL_le (k := 18) (n := n.natAbs) (by omega)
  unfold decI; split
  · simp only [List.length_cons]; omega
  · omega
theorem str_sz {l : List UInt8} : (ByteArray.mk l.toArray).size = l.length := by
  show l.toArray.size = _; rw [List.size_toArray]
theorem len2 {a b : List UInt8} (h : a.length + b.length ≤ 1000) : (a.length + b.length ≤ 9223372036854775807) = True := by
  rw [eq_iff_iff, iff_true]; omega
end Go.Proofs.IM
namespace Go.Proofs.YtdonkjepjobhnaaDoor.IM
open Go Go.Proofs.IM Go.Proofs.Flt
set_option maxHeartbeats 8000000
set_option maxRecDepth 100000
theorem s_l1floattext {b : Nat} {m : Mem} {K : AR → Mem → Prop} (hb : b < 18446744073709551616) (h : K (.ret (.str (fText b))) m) : Sim Tryd.prog 46 [.flt b] m K := by
  refine entry (cxok []) Tryd.func46 rfl rfl (by decide) (by decide) ?_
  refine goh_ ?_
  refine s_l1nan ?_
  cases hn : nan b with
  | true =>
    replace h : K (.ret (.str ⟨#[110, 97, 110]⟩)) m := by unfold fText at h; rw [hn] at h; exact h
    clear hb
    exact gox_
  | false =>
  obtain ⟨s, r, rfl, hr⟩ := word_of hb hn
  have hi := infR_lt
  rw [fText_w hr] at h
  have e1 := flss_w0 (s := s) hr
  have e2 := feq_w0 (s := s) hr
  have e3 := feq_w0 (s := false) hr
  have e4 := negF true r (by omega)
  have sa := @str_app
  have sz := @str_sz
  by_cases h0 : r = 0
  · subst h0
    have e5 := one_over (a := word s 0) (rung_word s 0 (by decide))
    rw [neg_word s 0 (by decide)] at e5
    have e6 := flss_inf s
    clear hb hn hr
    cases s with
    | true =>
      replace h : K (.ret (.str ⟨#[45, 48, 112, 48]⟩)) m := h
      exact gox_
    | false =>
      replace h : K (.ret (.str ⟨#[48, 112, 48]⟩)) m := h
      exact gox_
  have hM0 : feq (word s r) 0 = false := by rw [e2]; simp [h0]
  have hM1 : feq (word false r) 0 = false := by rw [e3]; simp [h0]
  have hM2 : flss (word s r) 0 = s := by rw [e1]; simp [h0]
  clear e1 e2 e3 hn hb
  by_cases hinf : r = infR
  · have k1 := half_inf (a := word false r) (by rw [hinf]; exact rung_word false infR (by decide))
    rw [neg_word false r (by omega)] at k1
    have k2 : feq (word false infR) (word false r) = true := by rw [feq_w (s := false) (a := infR) (b := r) (Nat.le_refl _) hr, hinf]; simp
    have hf : fTxt r = [105, 110, 102] := by unfold fTxt; rw [if_neg h0, if_pos hinf]
    rw [hf] at h
    clear hr hf hinf
    cases s with
    | true =>
      replace h : K (.ret (.str ⟨#[45, 105, 110, 102]⟩)) m := h
      exact gox_
    | false =>
      replace h : K (.ret (.str ⟨#[105, 110, 102]⟩)) m := h
      exact gox_
  have hr' : r < infR := by omega
  have hsI : infR = 9218868437227405312 := rfl
  obtain ⟨rh, q1, q2, q3⟩ := half_ne (a := word false r) (by rw [rung_word false r (by omega)]; exact hr') (by rw [rung_word false r (by omega)]; exact h0)
  rw [neg_word false r (by omega)] at q3
  rw [rung_word false r (by omega)] at q2
  have q4 := feq_w (s := false) (a := rh) (b := r) (by omega) hr
  rw [decide_eq_false q2] at q4
  obtain ⟨sg, hsg⟩ : ∃ sg, sg = sgnL s := ⟨_, rfl⟩
  have hsl : sg.length ≤ 1 := by rw [hsg]; cases s <;> decide
  rw [← hsg] at h
  cases s
  all_goals
    refine goh_ ?_
    clear hM0 hM1 hM2 e4 q1 q2 q3 q4 hinf hr
    refine loop_ (fun k t l c m' => m' = m ∧ ∃ (i rr : Nat), t 0 = .flt (word false rr) ∧ t 3 = .str ⟨sg.toArray⟩ ∧ t 4 = .int .i64 i ∧ M rr = M r * 2 ^ i ∧ rr < infR ∧ i ≤ 1074 ∧ k = 1074 - i) 1074 ?_ ?_
    · exact ⟨rfl, 0, r, rfl, by rw [hsg]; rfl, rfl, by simp, hr', by omega, rfl⟩
    clear hsg
    intro k t l c m1 KN ⟨hm, i, rr, g0, g3, g4, hM, hrr, hi1, hk⟩ next
    subst m1
    refine goh_ ?_
    refine s_l1floor fun u hu1 hu2 => ?_
    have c1 := floor_w hrr hu1 hu2
    have c2 := fne_iff (word false rr) u
    rw [c1] at c2
    clear hu1 hu2 c1
    have hr0 : rr ≠ 0 := by
      intro e
      subst e
      rw [M_zero] at hM
      have := Nat.mul_pos (M_pos (r := r) (by omega)) (Nat.two_pow_pos i)
      omega
    by_cases hd : Flt.U ∣ M rr
    · rw [decide_eq_true hd] at c2
      have p3 : w64 (0 - (i : Int)) = -(i : Int) := by rw [w64_id (by omega)]; omega
      clear next
      refine goh_ ?_
      clear c2 p3
      refine loop_ (fun k t l c m' => m' = m ∧ ∃ (j r2 : Nat), t 0 = .flt (word false r2) ∧ t 3 = .str ⟨sg.toArray⟩ ∧ t 4 = .int .i64 ((j : Int) - i) ∧ M r2 * 2 ^ j = M rr ∧ r2 + j * 4503599627370496 = rr ∧ Flt.U ∣ M r2 ∧ k = r2) rr ?_ ?_
      · exact ⟨rfl, 0, rr, g0, g3, (by show AV.int IntKind.i64 (-(i : Int)) = AV.int IntKind.i64 (((0 : Nat) : Int) - i); congr 1; omega), by simp, by omega, hd, rfl⟩
      clear g0 g3 g4 hk
      intro k t l c m1 KN ⟨hm, j, r2, g0, g3, g4, hM2, hj, hd2, hk⟩ next
      subst m1
      have h20 : r2 ≠ 0 := by
        intro e
        subst e
        rw [M_zero, Nat.zero_mul] at hM2
        have := M_pos (r := rr) (by omega)
        omega
      have h21 := one_le h20 hd2
      have p1 := M_half (r := r2) (by omega)
      have p2 := mul_half (a := word false r2) (r := r2 - 4503599627370496) (by rw [rung_word false r2 (by omega)]; omega) (by omega) (by rw [rung_word false r2 (by omega)]; exact p1)
      rw [neg_word false r2 (by omega)] at p2
      refine goh_ ?_
      refine s_l1floor fun u hu1 hu2 => ?_
      have c1 := floor_w (r := r2 - 4503599627370496) (by omega) hu1 hu2
      clear hu1 hu2
      by_cases hd3 : Flt.U ∣ M (r2 - 4503599627370496)
      · rw [decide_eq_true hd3] at c1
        have p3 : w64 ((j : Int) - i + 1) = ((j + 1 : Nat) : Int) - i := by rw [w64_id (by omega)]; omega
        refine goh_ ?_
        exact next _ _ _ _ _ (by omega) ⟨rfl, j + 1, r2 - 4503599627370496, rfl, g3, rfl, by rw [← hM2, ← p1, Nat.pow_succ]; generalize M (r2 - 4503599627370496) = z; generalize 2 ^ j = y; rw [Nat.mul_comm 2 z, Nat.mul_assoc, Nat.mul_comm 2 y], by omega, hd3, rfl⟩
      · rw [decide_eq_false hd3] at c1
        obtain ⟨q, hq⟩ := hd2
        have hq' : M r2 = q * Flt.U := by rw [hq, Nat.mul_comm]
        have ho : q % 2 = 1 := by
          rcases Nat.mod_two_eq_zero_or_one q with e | e
          · exfalso
            apply hd3
            refine ⟨q / 2, ?_⟩
            apply Nat.eq_of_mul_eq_mul_left (show 0 < 2 by decide)
            rw [p1, hq, ← Nat.mul_assoc, Nat.mul_comm 2 Flt.U, Nat.mul_assoc, show 2 * (q / 2) = q by omega]
          · exact e
        have hqs := odd_small hq' ho
        have hMr : M r = q * 2 ^ (k0 + j - i) := by
          apply Nat.eq_of_mul_eq_mul_right (Nat.two_pow_pos i)
          rw [← hM, ← hM2, hq', U_pow, Nat.mul_assoc, Nat.mul_assoc, ← Nat.pow_add, ← Nat.pow_add, show k0 + j - i + i = k0 + j by rw [k0_eq]; omega]
        rw [fTxt_odd h0 hr' ho hMr, show ((k0 + j - i : Nat) : Int) - 1074 = (j : Int) - i by rw [k0_eq]; omega] at h
        have hfi := f2i_w (r := r2) (by omega)
        have hfo := f2iOk_w (r := r2) (by omega) .i64
        rw [hq', Nat.mul_div_cancel _ U_pos] at hfi hfo
        have hfo' : f2iOk .i64 (word false r2) = true := by
          rw [hfo, decide_eq_true_eq, show IntKind.i64.min = -9223372036854775808 by decide, show IntKind.i64.max = 9223372036854775807 by decide]; omega
        clear next hfo hMr p1 p2 hq hq' hd3 hM2 hM hd
        refine goh_ ?_
        refine s_l1decimal (by omega) ?_
        rw [decT_I]
        have l1 := decI_len (n := (q : Int)) (by omega)
        have l2 := decI_len (n := (j : Int) - i) (by omega)
        have y1 := len2 (a := sg) (b := decI q) (by omega)
        have y2 : ((sg ++ decI q).length + 1 ≤ 9223372036854775807) = True := by rw [eq_iff_iff, iff_true, List.length_append]; omega
        have y3 := len2 (a := sg ++ decI q ++ [112]) (b := decI ((j : Int) - i)) (by simp; omega)
        refine goh_ ?_
        refine s_l1decimal (by omega) ?_
        rw [decT_I]
        have h' : K (.ret (.str ⟨(sg ++ decI q ++ [112] ++ decI ((j : Int) - i)).toArray⟩)) m := by
          rw [List.append_assoc, List.append_assoc]; exact h
        clear h
        exact gox_
    · rw [decide_eq_false hd] at c2
      have hrs := small_of hd
      have hi2 : i < 1074 := by
        rcases Nat.lt_or_ge i 1074 with c | c
        · exact c
        · exfalso
          apply hd
          rw [hM, U_pow, show i = k0 by rw [k0_eq]; omega]
          exact Nat.dvd_mul_left _ _
      obtain ⟨r3, x1, x2⟩ := M_dbl hrs
      have p2 := mul_two (a := word false rr) (r := r3) (by rw [rung_word false rr (by omega)]; omega) (by omega) (by rw [rung_word false rr (by omega)]; exact x2)
      rw [neg_word false rr (by omega)] at p2
      have p3 : w64 ((i : Int) + 1) = ((i + 1 : Nat) : Int) := w64_succ (n := i + 1) (by omega) (by omega)
      refine goh_ ?_
      exact next _ _ _ _ _ (by omega) ⟨rfl, i + 1, r3, rfl, g3, rfl, by rw [x2, hM, Nat.pow_succ]; ac_rfl, by omega, by omega, rfl⟩
end Go.Proofs.YtdonkjepjobhnaaDoor.IM
namespace Go.Proofs.IM
open Go Go.Proofs.Flt
theorem bvand64 {x y : Nat} (hx : x < 18446744073709551616) (hy : y < 18446744073709551616) : IntKind.u64.wrap ((BitVec.ofInt IntKind.u64.bits (x : Int) &&& BitVec.ofInt IntKind.u64.bits (y : Int)).toNat : Int) = ((x &&& y : Nat) : Int) := by
  have hb : IntKind.u64.bits = 64 := rfl
  rw [hb, u64_wrap, show BitVec.ofInt 64 (x : Int) = BitVec.ofNat 64 x from BitVec.ofInt_natCast 64 x, show BitVec.ofInt 64 (y : Int) = BitVec.ofNat 64 y from BitVec.ofInt_natCast 64 y, BitVec.toNat_and, BitVec.toNat_ofNat, BitVec.toNat_ofNat,
    Nat.mod_eq_of_lt (by omega : x < 2 ^ 64), Nat.mod_eq_of_lt (by omega : y < 2 ^ 64)]
  have : x &&& y ≤ x := Nat.and_le_left
  omega
theorem and52 {x : Nat} (hx : x < 18446744073709551616) : IntKind.u64.wrap ((BitVec.ofInt IntKind.u64.bits (x : Int) &&& BitVec.ofInt IntKind.u64.bits 4503599627370495).toNat : Int) = ((x % 4503599627370496 : Nat) : Int) := by
  have := bvand64 (y := 4503599627370495) hx (by decide)
  rw [show ((4503599627370495 : Nat) : Int) = 4503599627370495 from rfl] at this
  rw [this, show (4503599627370495 : Nat) = 2 ^ 52 - 1 from rfl, Nat.and_two_pow_sub_one_eq_mod]
theorem and1 {x : Nat} (hx : x < 18446744073709551616) : IntKind.u64.wrap ((BitVec.ofInt IntKind.u64.bits (x : Int) &&& BitVec.ofInt IntKind.u64.bits 1).toNat : Int) = ((x % 2 : Nat) : Int) := by
  have := bvand64 (y := 1) hx (by decide)
  rw [show ((1 : Nat) : Int) = 1 from rfl] at this
  rw [this, show (1 : Nat) = 2 ^ 1 - 1 from rfl, Nat.and_two_pow_sub_one_eq_mod]
theorem or52 {x : Nat} (hx : x < 4503599627370496) : IntKind.u64.wrap ((BitVec.ofInt IntKind.u64.bits (x : Int) ||| BitVec.ofInt IntKind.u64.bits 4503599627370496).toNat : Int) = ((4503599627370496 + x : Nat) : Int) := by
  have := bvor64 (x := x) (y := 4503599627370496) (by omega) (by decide)
  rw [show ((4503599627370496 : Nat) : Int) = 4503599627370496 from rfl] at this
  rw [this, Nat.or_comm]
  have := or_add (A := 1) (i := 52) (b := x) (by omega)
  rw [Nat.one_mul, show (2 : Nat) ^ 52 = 4503599627370496 by decide] at this
  rw [this]
theorem and2047 {x : Nat} (hx : x < 4096) : IntKind.i64.wrap ((BitVec.ofInt IntKind.i64.bits (IntKind.i64.wrap (x : Int)) &&& BitVec.ofInt IntKind.i64.bits 2047).toNat : Int) = ((x % 2048 : Nat) : Int) := by
  have hb : IntKind.i64.bits = 64 := rfl
  rw [hb, i64_wrap, i64_wrap, show ((x : Int) + 9223372036854775808) % 18446744073709551616 - 9223372036854775808 = (x : Int) by omega, show BitVec.ofInt 64 (x : Int) = BitVec.ofNat 64 x from BitVec.ofInt_natCast 64 x, show BitVec.ofInt 64 2047 = BitVec.ofNat 64 2047 from BitVec.ofInt_natCast 64 2047, BitVec.toNat_and, BitVec.toNat_ofNat, BitVec.toNat_ofNat,
    Nat.mod_eq_of_lt (by omega : x < 2 ^ 64), Nat.mod_eq_of_lt (by omega : 2047 < 2 ^ 64), show (2047 : Nat) = 2 ^ 11 - 1 from rfl, Nat.and_two_pow_sub_one_eq_mod, show (2 : Nat) ^ 11 = 2048 from rfl]
  omega
theorem shr52 (x : Nat) : ((x : Int).fdiv (2 ^ min 52 IntKind.u64.bits)) = ((x / 4503599627370496 : Nat) : Int) := by
  have hb : min 52 IntKind.u64.bits = 52 := by decide
  rw [hb, show ((2 : Int) ^ 52) = ((4503599627370496 : Nat) : Int) by decide, ← Int.ofNat_fdiv]
theorem shr1 (x : Nat) : ((x : Int).fdiv (2 ^ min 1 IntKind.u64.bits)) = ((x / 2 : Nat) : Int) := by
  have hb : min 1 IntKind.u64.bits = 1 := by decide
  rw [hb, show ((2 : Int) ^ 1) = ((2 : Nat) : Int) by decide, ← Int.ofNat_fdiv]
theorem abs_bits {s : Bool} {r : Nat} (hr : r < 9223372036854775808) : IntKind.u64.wrap ((BitVec.ofInt IntKind.u64.bits ((word s r : Nat) : Int) &&& ~~~ BitVec.ofInt IntKind.u64.bits 9223372036854775808).toNat : Int) = ((r : Nat) : Int) := by
  have hb : IntKind.u64.bits = 64 := rfl
  have hw : word s r < 18446744073709551616 := by unfold word; split <;> omega
  have hm : (word s r) % 9223372036854775808 = r := by unfold word; split <;> omega
  rw [hb, u64_wrap, show BitVec.ofInt 64 ((word s r : Nat) : Int) = BitVec.ofNat 64 (word s r) from BitVec.ofInt_natCast 64 _, show (~~~ BitVec.ofInt 64 9223372036854775808) = BitVec.ofNat 64 9223372036854775807 by decide, BitVec.toNat_and, BitVec.toNat_ofNat, BitVec.toNat_ofNat,
    Nat.mod_eq_of_lt (by omega : word s r < 2 ^ 64), Nat.mod_eq_of_lt (by omega : 9223372036854775807 < 2 ^ 64), show (9223372036854775807 : Nat) = 2 ^ 63 - 1 from rfl, Nat.and_two_pow_sub_one_eq_mod, show (2 : Nat) ^ 63 = 9223372036854775808 from rfl, hm]
  omega
theorem fgtr_w {a c : Nat} (ha : a ≤ infR) (hc : c ≤ infR) : fgtr (word false a) c = decide (c < a) := by
  rw [fgtr_iff, nan_w ha, show nan c = false from nan_w (s := false) hc, show val c = M c from val_w hc, val_w ha, Bool.eq_iff_iff]
  simp only [Bool.not_false, Bool.true_and, decide_eq_true_eq]
  constructor
  · intro h
    exact M_lt_iff.1 (by omega)
  · intro h; have := M_lt h; omega
end Go.Proofs.IM
namespace Go.Proofs.YtdonkjepjobhnaaDoor.IM
open Go Go.Proofs.IM Go.Proofs.Flt
set_option maxHeartbeats 8000000
set_option maxRecDepth 100000
theorem s_IsInf {s : Bool} {r : Nat} {m : Mem} {K : AR → Mem → Prop} (hr : r ≤ infR) (h : K (.ret (.bool (decide (r = infR)))) m) : Sim Tryd.prog 119 [.flt (word s r), .int .i64 0] m K := by
  refine entry (cxok []) Tryd.func119 rfl rfl (by decide) (by decide) ?_
  have hi := infR_lt
  refine goh_ ?_
  refine entry (cxok []) Tryd.func161 rfl rfl (by decide) (by decide) ?_
  refine goh_ ?_
  refine s_bits ?_
  have e1 := abs_bits (s := s) (r := r) (by omega)
  refine goh_ ?_
  refine s_frombits ?_
  have e2 := fgtr_w (a := r) (c := 9218868437227405311) hr (by decide)
  have e3 : fgtr r 9218868437227405311 = decide (r = infR) := by
    rw [show fgtr r 9218868437227405311 = fgtr (word false r) 9218868437227405311 from rfl, e2, Bool.eq_iff_iff]
    simp only [decide_eq_true_eq]
    have : infR = 9218868437227405312 := rfl
    omega
  clear e1 e2 hi
  exact gox_
end Go.Proofs.YtdonkjepjobhnaaDoor.IM
namespace Go.Proofs.IM
open Go Go.Proofs.Flt Ieee
theorem rep : ∀ (x n : Nat), n < 9007199254740992 → x ≤ 2045 → ∃ r, r < infR ∧ M r = n * 2 ^ x := by
  have hi : infR = 9218868437227405312 := rfl
  intro x
  induction x with
  | zero =>
    intro n hn _
    exact ⟨n, by omega, by rw [M_low hn]; simp⟩
  | succ x ih =>
    intro n hn hx
    by_cases h : n < 4503599627370496
    · obtain ⟨r, h1, h2⟩ := ih (2 * n) (by omega) (by omega)
      exact ⟨r, h1, by rw [h2, Nat.pow_succ, Nat.mul_comm (2 ^ x), ← Nat.mul_assoc, Nat.mul_comm n 2]⟩
    · refine ⟨(x + 2) * 4503599627370496 + (n - 4503599627370496), by omega, ?_⟩
      rw [M_big (by omega), show ((x + 2) * 4503599627370496 + (n - 4503599627370496)) % 4503599627370496 = n - 4503599627370496 by omega,
        show ((x + 2) * 4503599627370496 + (n - 4503599627370496)) / 4503599627370496 - 1 = x + 1 by omega, show 4503599627370496 + (n - 4503599627370496) = n by omega]
theorem i2f_nat {n : Nat} (hn : n < 9007199254740992) : ∃ r, r < infR ∧ M r = n * 2 ^ k0 ∧ i2f (n : Int) = word false r := by
  obtain ⟨r, h1, h2⟩ := rep k0 n hn (by decide)
  rw [pow_k0] at h2 ⊢
  have hi := infR_lt
  have hw := rung_word false r (by omega)
  have ht := tr_w h1
  rw [h2, Nat.mul_div_cancel _ U_pos] at ht
  obtain ⟨r', g1, g2, g3, -⟩ := i2f_tr (b := word false r) (by rw [hw]; exact h1)
  rw [hw, h2, Nat.mul_div_cancel _ U_pos] at g2
  rw [ht] at g3
  exact ⟨r', g1, g2, by rw [g3]; congr 1⟩
theorem neg_lt {q : Nat} (h : q < 18446744073709551616) : Op.negFloat .f64 q < 18446744073709551616 := by
  unfold Op.negFloat
  have e : (FloatKind.f64.format.exponentBits + FloatKind.f64.format.fractionBits) = 63 := by decide
  have e2 : (2 : Nat) ^ 64 = 18446744073709551616 := by decide
  rw [e, ← e2] at *
  exact Nat.xor_lt_two_pow (by omega) (by decide)
theorem div00 : double.div 0 0 = none := by decide +kernel
end Go.Proofs.IM
namespace Go.Proofs.YtdonkjepjobhnaaDoor.IM
open Go Go.Proofs.IM Go.Proofs.Flt Ieee
set_option maxHeartbeats 8000000
set_option maxRecDepth 100000
theorem s_l4float {b : Nat} {m : Mem} {K : AR → Mem → Prop} (hb : b < 18446744073709551616) (h : ∀ f, f < 18446744073709551616 → (nan b = false → f = b) → K (.ret (.flt f)) m) : Sim Tryd.prog 151 [.int .u64 b] m K := by
  refine entry (cxok []) Tryd.func151 rfl rfl (by decide) (by decide) ?_
  have e1 := shr52 b
  have e2 := bvand64 (x := b / 4503599627370496) (y := 2047) (by omega) (by decide)
  rw [show ((2047 : Nat) : Int) = 2047 from rfl, show (2047 : Nat) = 2 ^ 11 - 1 from rfl, Nat.and_two_pow_sub_one_eq_mod, show (2 : Nat) ^ 11 = 2048 from rfl] at e2
  have e3 : IntKind.i64.wrap ((b / 4503599627370496 % 2048 : Nat) : Int) = ((b / 4503599627370496 % 2048 : Nat) : Int) := w64_id (by omega)
  have e4 := and52 hb
  have e5 : ((b : Int).fdiv (2 ^ min 63 IntKind.u64.bits)) = ((b / 9223372036854775808 : Nat) : Int) := by
    have hb : min 63 IntKind.u64.bits = 63 := by decide
    rw [hb, show ((2 : Int) ^ 63) = ((9223372036854775808 : Nat) : Int) by decide, ← Int.ofNat_fdiv]
  have hrung : rung b = b / 4503599627370496 % 2048 * 4503599627370496 + b % 4503599627370496 := by unfold rung; omega
  have hneg : neg b = (((b / 9223372036854775808 : Nat) : Int) == 1) := by
    unfold neg; rw [Bool.eq_iff_iff]; simp; omega
  have hself := word_self b hb
  have hmm : b % 4503599627370496 < 4503599627370496 := Nat.mod_lt _ (by decide)
  have hee : b / 4503599627370496 % 2048 < 2048 := Nat.mod_lt _ (by decide)
  have or5 := or52 hmm
  generalize hE : b / 4503599627370496 % 2048 = e at *
  generalize hm : b % 4503599627370496 = mm at *
  generalize hS : b / 9223372036854775808 = ss at *
  have hir : infR = 9218868437227405312 := rfl
  have hil := infR_lt
  -- the end: a word of the same rung
  have hfin : ∀ r, r < 9223372036854775808 → (nan b = false → r = rung b) → ((((ss : Nat) : Int) == 1) = true → K (.ret (.flt (Op.negFloat .f64 (word false r)))) m) ∧ ((((ss : Nat) : Int) == 1) = false → K (.ret (.flt (word false r))) m) := by
    intro r hr hrr
    have hw : ∀ s, word s r < 18446744073709551616 := fun s => by unfold word; split <;> omega
    refine ⟨fun hs => ?_, fun hs => ?_⟩
    · rw [negF false r hr]
      refine h _ (hw _) fun hn => ?_
      rw [hrr hn]
      have : word (neg b) (rung b) = b := hself
      rw [hneg, hs] at this; exact this
    · refine h _ (hw _) fun hn => ?_
      rw [hrr hn]
      have : word (neg b) (rung b) = b := hself
      rw [hneg, hs] at this; exact this
  by_cases he : e = 2047
  · subst he
    have one := one_over (a := 0) (by decide)
    rw [show neg 0 = false by decide] at one
    by_cases h0 : mm = 0
    · have hfin := hfin infR (by omega) (fun _ => by rw [hrung]; omega)
      subst h0
      have ew : IntKind.i64.wrap 2047 = 2047 := by decide
      rw [hir] at hfin one
      obtain ⟨hf1, hf2⟩ := hfin
      by_cases hs : (((ss : Nat) : Int) == 1) = true
      · have hf1 := hf1 hs
        exact gox_
      · have hs : (((ss : Nat) : Int) == 1) = false := by simpa using hs
        have hf2 := hf2 hs
        exact gox_
    · have hnn : ((mm : Int) != 0) = true := by simp; omega
      have hd := div00
      have hnan : nan b = true := by unfold nan; rw [hrung, decide_eq_true_eq]; omega
      have hq : ∀ q, isNaN64 q → K (.ret (.flt (Op.negFloat .f64 q))) m ∧ K (.ret (.flt q)) m := fun q hq => ⟨h _ (neg_lt hq.2) (fun hn => by rw [hnan] at hn; cases hn), h _ hq.2 (fun hn => by rw [hnan] at hn; cases hn)⟩
      clear hfin h
      have ew : IntKind.i64.wrap 2047 = 2047 := by decide
      by_cases hs : (((ss : Nat) : Int) == 1) = true
      · refine goh_ ?_
        intro q hqq
        have hq := (hq q hqq).1
        exact gox_
      · have hs : (((ss : Nat) : Int) == 1) = false := by simpa using hs
        refine goh_ ?_
        intro q hqq
        have hq := (hq q hqq).2
        exact gox_
  have hene : ((e : Int) == 2047) = false := by simp; omega
  obtain ⟨n, E, hn, hEle, hEM, hcase⟩ : ∃ n E, n < 9007199254740992 ∧ E ≤ 2045 ∧ M (rung b) = n * 2 ^ E ∧ ((0 < e ∧ n = 4503599627370496 + mm ∧ E = e - 1) ∨ (e = 0 ∧ n = mm ∧ E = 0)) := by
    by_cases h0 : 0 < e
    · refine ⟨4503599627370496 + mm, e - 1, by omega, by omega, ?_, .inl ⟨h0, rfl, rfl⟩⟩
      rw [hrung, M_big (by omega), show (e * 4503599627370496 + mm) % 4503599627370496 = mm by omega, show (e * 4503599627370496 + mm) / 4503599627370496 - 1 = e - 1 by omega]
    · have h0 : e = 0 := by omega
      exact ⟨mm, 0, by omega, by omega, by rw [hrung, h0, M_low (by omega)]; simp, .inr ⟨h0, rfl, rfl⟩⟩
  obtain ⟨r0, hr0, hM0, hi0⟩ := i2f_nat hn
  have hEnd : ∀ r, M r = n * 2 ^ E → r = rung b := fun r hr => M_inj (by rw [hr, hEM])
  have hwe : 0 < e → IntKind.i64.wrap ((e : Int) - 1) = ((e - 1 : Nat) : Int) := fun h => by
    have : IntKind.i64.wrap ((e : Int) - 1) = (e : Int) - 1 := w64_id (by omega)
    rw [this]; omega
  obtain ⟨dU, dD, hUD⟩ : ∃ dU dD : Nat, dU + 1074 = E + dD ∧ (dU = 0 ∨ dD = 0) := ⟨E - 1074, 1074 - E, by omega, by omega⟩
  have hstart : (E : Int) - 1074 = (dU : Int) - dD := by omega
  have hwE : IntKind.i64.wrap ((E : Int) - 1074) = (dU : Int) - dD := by
    have : IntKind.i64.wrap ((E : Int) - 1074) = (E : Int) - 1074 := w64_id (by omega)
    rw [this]; exact hstart
  clear hstart
  have hneg2 : ∀ r, r < infR → neg (word false r) = false := fun r hr => neg_word false r (by omega)
  have hrung2 : ∀ r, r < infR → rung (word false r) = r := fun r hr => rung_word false r (by omega)
  clear hE hm
  rcases hcase with ⟨h0, hn1, hE1⟩ | ⟨h0, hn1, hE1⟩
  · replace hwe := hwe h0
    rw [← hE1] at hwe
    rw [← hn1] at or5
    clear hn1 hE1
    have h0' : (0 : Int) < e := by omega
    refine goh_ ?_
    refine loop_ (fun kk t l c m' => ∃ (d r : Nat), m' = m ∧ t 0 = .int .u64 b ∧ t 3 = .int .i64 E ∧ t 6 = .flt (word false r) ∧ t 7 = .int .i64 ((d : Int) - dD) ∧ d ≤ dU ∧ r < infR ∧ M r = n * 2 ^ (k0 + (dU - d)) ∧ kk = d) dU ?_ ?_
    · exact ⟨dU, r0, rfl, rfl, rfl, rfl, rfl, Nat.le_refl _, hr0, by rw [Nat.sub_self, Nat.add_zero]; exact hM0, rfl⟩
    intro kk t l c m1 KN ⟨d, r, hm1, g0, g3, g6, g7, hd, hr, hM, hkk⟩ next
    subst hm1
    have hwd : IntKind.i64.wrap ((d : Int) - dD - 1) = ((d : Int) - dD - 1) := w64_id (by omega)
    by_cases hd0 : d = 0
    · subst hd0
      have hz : ¬ (0 : Int) < (0 : Int) - dD := by omega
      refine goh_ ?_
      refine loop_ (fun kk t l c m' => ∃ (d r : Nat), m' = m1 ∧ t 0 = .int .u64 b ∧ t 6 = .flt (word false r) ∧ t 8 = .int .i64 ((dU : Int) - d) ∧ d ≤ dD ∧ r < infR ∧ M r = n * 2 ^ (k0 + dU - (dD - d)) ∧ kk = d) dD ?_ ?_
      · exact ⟨dD, r, rfl, g0, g6, rfl, Nat.le_refl _, hr, by rw [hM]; congr 2; have := k0_eq; omega, rfl⟩
      intro kk t l c m2 KN ⟨d, r, hm2, g0, g6, g8, hd, hr, hM, hkk⟩ next
      subst hm2
      by_cases hd1 : d ≤ dU
      · have hz2 : ¬ ((dU : Int) - d) < 0 := by omega
        have hd2 : d = 0 ∨ dU = 0 := by omega
        obtain ⟨hf1, hf2⟩ := hfin r (by omega) (fun _ => hEnd r (by rw [hM]; congr 2; have := k0_eq; omega))
        by_cases hs : (((ss : Nat) : Int) == 1) = true
        · have hf1 := hf1 hs
          exact gox_
        · have hs : (((ss : Nat) : Int) == 1) = false := by simpa using hs
          have hf2 := hf2 hs
          exact gox_
      · have hz2 : ((dU : Int) - d) < 0 := by omega
        have hwd2 : IntKind.i64.wrap ((dU : Int) - d + 1) = ((dU : Int) - ((d - 1 : Nat) : Int)) := by
          have : IntKind.i64.wrap ((dU : Int) - d + 1) = (dU : Int) - d + 1 := w64_id (by omega)
          rw [this]; omega
        obtain ⟨r', hr', hM'⟩ := rep (k0 + dU - (dD - d) - 1) n hn (by have := k0_eq; omega)
        have hmul := mul_half (a := word false r) (r := r') (by rw [hrung2 r hr]; exact hr) (by omega) (by
          rw [hrung2 r hr, hM', hM, Nat.mul_comm 2, Nat.mul_assoc, ← Nat.pow_succ]; congr 2; have := k0_eq; omega)
        rw [hneg2 r hr] at hmul
        refine goh_ ?_
        exact next _ _ _ _ _ (by omega) ⟨d - 1, r', rfl, g0, rfl, rfl, by omega, hr', by rw [hM']; congr 2; have := k0_eq; omega, rfl⟩
    · have hz : (0 : Int) < (d : Int) - dD := by omega
      have hwd2 : IntKind.i64.wrap ((d : Int) - dD - 1) = (((d - 1 : Nat) : Int) - dD) := by rw [hwd]; omega
      clear hwd
      obtain ⟨r', hr', hM'⟩ := rep (k0 + (dU - d) + 1) n hn (by have := k0_eq; omega)
      have hmul := mul_two (a := word false r) (r := r') (by rw [hrung2 r hr]; exact hr) (by omega) (by
        rw [hrung2 r hr, hM', hM, Nat.mul_comm 2, Nat.mul_assoc, ← Nat.pow_succ])
      rw [hneg2 r hr] at hmul
      refine goh_ ?_
      exact next _ _ _ _ _ (by omega) ⟨d - 1, r', rfl, g0, g3, rfl, rfl, by omega, hr', by rw [hM']; congr 2; have := k0_eq; omega, rfl⟩
  · subst h0 hn1 hE1
    have hw0 : IntKind.i64.wrap (-1074) = (dU : Int) - dD := hwE
    clear hwE
    have ew0 : IntKind.i64.wrap 0 = 0 := by decide
    have ee0 : ((0 : Int) == 2047) = false := by decide
    have h0' : ¬ (0 : Int) < ((0 : Nat) : Int) := by decide
    refine goh_ ?_
    refine loop_ (fun kk t l c m' => ∃ (d r : Nat), m' = m ∧ t 0 = .int .u64 b ∧ t 3 = .int .i64 ((0 : Nat) : Int) ∧ t 6 = .flt (word false r) ∧ t 7 = .int .i64 ((d : Int) - dD) ∧ d ≤ dU ∧ r < infR ∧ M r = n * 2 ^ (k0 + (dU - d)) ∧ kk = d) dU ?_ ?_
    · exact ⟨dU, r0, rfl, rfl, rfl, rfl, rfl, Nat.le_refl _, hr0, by rw [Nat.sub_self, Nat.add_zero]; exact hM0, rfl⟩
    intro kk t l c m1 KN ⟨d, r, hm1, g0, g3, g6, g7, hd, hr, hM, hkk⟩ next
    subst hm1
    have hwd : IntKind.i64.wrap ((d : Int) - dD - 1) = ((d : Int) - dD - 1) := w64_id (by omega)
    by_cases hd0 : d = 0
    · subst hd0
      have hz : ¬ (0 : Int) < (0 : Int) - dD := by omega
      refine goh_ ?_
      refine loop_ (fun kk t l c m' => ∃ (d r : Nat), m' = m1 ∧ t 0 = .int .u64 b ∧ t 6 = .flt (word false r) ∧ t 8 = .int .i64 ((dU : Int) - d) ∧ d ≤ dD ∧ r < infR ∧ M r = n * 2 ^ (k0 + dU - (dD - d)) ∧ kk = d) dD ?_ ?_
      · exact ⟨dD, r, rfl, g0, g6, rfl, Nat.le_refl _, hr, by rw [hM]; congr 2; have := k0_eq; omega, rfl⟩
      intro kk t l c m2 KN ⟨d, r, hm2, g0, g6, g8, hd, hr, hM, hkk⟩ next
      subst hm2
      by_cases hd1 : d ≤ dU
      · have hz2 : ¬ ((dU : Int) - d) < 0 := by omega
        have hd2 : d = 0 ∨ dU = 0 := by omega
        obtain ⟨hf1, hf2⟩ := hfin r (by omega) (fun _ => hEnd r (by rw [hM]; congr 2; have := k0_eq; omega))
        by_cases hs : (((ss : Nat) : Int) == 1) = true
        · have hf1 := hf1 hs
          exact gox_
        · have hs : (((ss : Nat) : Int) == 1) = false := by simpa using hs
          have hf2 := hf2 hs
          exact gox_
      · have hz2 : ((dU : Int) - d) < 0 := by omega
        have hwd2 : IntKind.i64.wrap ((dU : Int) - d + 1) = ((dU : Int) - ((d - 1 : Nat) : Int)) := by
          have : IntKind.i64.wrap ((dU : Int) - d + 1) = (dU : Int) - d + 1 := w64_id (by omega)
          rw [this]; omega
        obtain ⟨r', hr', hM'⟩ := rep (k0 + dU - (dD - d) - 1) n hn (by have := k0_eq; omega)
        have hmul := mul_half (a := word false r) (r := r') (by rw [hrung2 r hr]; exact hr) (by omega) (by
          rw [hrung2 r hr, hM', hM, Nat.mul_comm 2, Nat.mul_assoc, ← Nat.pow_succ]; congr 2; have := k0_eq; omega)
        rw [hneg2 r hr] at hmul
        refine goh_ ?_
        exact next _ _ _ _ _ (by omega) ⟨d - 1, r', rfl, g0, rfl, rfl, by omega, hr', by rw [hM']; congr 2; have := k0_eq; omega, rfl⟩
    · have hz : (0 : Int) < (d : Int) - dD := by omega
      have hwd2 : IntKind.i64.wrap ((d : Int) - dD - 1) = (((d - 1 : Nat) : Int) - dD) := by rw [hwd]; omega
      clear hwd
      obtain ⟨r', hr', hM'⟩ := rep (k0 + (dU - d) + 1) n hn (by have := k0_eq; omega)
      have hmul := mul_two (a := word false r) (r := r') (by rw [hrung2 r hr]; exact hr) (by omega) (by
        rw [hrung2 r hr, hM', hM, Nat.mul_comm 2, Nat.mul_assoc, ← Nat.pow_succ])
      rw [hneg2 r hr] at hmul
      refine goh_ ?_
      exact next _ _ _ _ _ (by omega) ⟨d - 1, r', rfl, g0, g3, rfl, rfl, by omega, hr', by rw [hM']; congr 2; have := k0_eq; omega, rfl⟩
end Go.Proofs.YtdonkjepjobhnaaDoor.IM
namespace Go.Proofs.YtdonkjepjobhnaaDoor.IM
open Go Go.Proofs.IM Go.Proofs.Flt
set_option maxHeartbeats 8000000
set_option maxRecDepth 100000
theorem s_sconst {m0 m : Mem} {j : Nat} {s : AV} {bs : List UInt8} {i : Nat} {bad : Bool} {K : AR → Mem → Prop} (v : V) (tl : List UInt8) (g : Prop) (hr : RsO m0 m j s bs i bad) (hg : g → bad = false ∧ cok v = true ∧ v.good ∧ bs.drop i = encV v ++ tl)
    (h : ∀ (q : V) (i' : Nat) (bad' : Bool), q.good → i ≤ i' → i' ≤ bs.length → (bad' = false → bad = false ∧ i + 1 + q.wt ≤ i') → (g → q = v ∧ bs.drop i' = tl ∧ bad' = false) → K (.ret (.agg q.av)) (m.rs j s i' bad')) :
    Sim Tryd.prog 99 [.ptr (.hp j) 0 0] m K := by
  refine entry (cxok []) Tryd.func99 rfl rfl (by decide) (by decide) ?_
  have hlen := hr.len
  refine goh_ ?_
  refine s_sbyte2 hr (fun b p bad1 hB hp1 hp2 hcs => ?_)
  have hr1 := hr.set hp2 bad1
  have hbad1 : bad1 = false → bad = false ∧ i + 1 ≤ p := by
    rcases hcs with ⟨rfl, rfl, _⟩ | ⟨_, rfl, rfl, rfl⟩
    · exact fun h => ⟨h, Nat.le_refl _⟩
    · exact fun h => (by cases h)
  have hG : g → bad1 = false ∧ b = v.k.toNat % 256 ∧ bs.drop p = (if v.k = 1 ∨ v.k = 2 ∨ v.k = 8 then encN v.n else if v.k = 4 then encT v.s else if v.k = 3 then beB v.f else []) ++ tl := fun hg' => by
    obtain ⟨h1, h2, h3, h4⟩ := hg hg'
    obtain ⟨hlt, h5, h6⟩ := drop_head (bs := bs) (i := i) (by rw [h4, encV]; rfl)
    rcases hcs with ⟨rfl, rfl, _, rfl⟩ | ⟨h, _⟩
    · exact ⟨h1, by rw [h5, UInt8.toNat_ofNat'], h6⟩
    · omega
  clear hcs
  have hkk : g → (v.k = 0 ∨ v.k = 1 ∨ v.k = 2 ∨ v.k = 3 ∨ v.k = 4 ∨ v.k = 8) := fun hg' => (cok_facts (hg hg').2.1).1
  have hbk : g → (b : Int) = v.k := fun hg' => by
    rw [(hG hg').2.1]; rcases hkk hg' with e | e | e | e | e | e <;> rw [e] <;> rfl
  have hn : g → _ := fun hg' => cok_norm (hg hg').2.1 (hg hg').2.2.1.f
  have hcase : (b = 1 ∨ b = 2 ∨ b = 8) ∨ b = 4 ∨ b = 3 ∨ (b ≠ 1 ∧ b ≠ 2 ∧ b ≠ 8 ∧ b ≠ 4 ∧ b ≠ 3) := by omega
  rcases hcase with hb | hb | hb | hb
  · have hk3 : g → (v.k = 1 ∨ v.k = 2 ∨ v.k = 8) ∧ v = ⟨v.k, v.n, 0, ByteArray.empty, 0⟩ := fun hg' => by
      have e := hbk hg'
      rcases hn hg' with h1 | h1 | h1 | h1
      · rw [h1] at e; simp at e; omega
      · exact h1
      · rw [h1] at e; simp at e; omega
      · rw [h1] at e; simp at e; omega
    have hfin : ∀ (kk n : Int) (i' : Nat) (bad' : Bool), (b : Int) = kk → i64 n → p ≤ i' → i' ≤ bs.length → (bad' = false → bad1 = false ∧ p < i') → (g → n = v.n ∧ bs.drop i' = tl ∧ bad' = false) → K (.ret (.agg [.int .i64 kk, .int .i64 n, .flt 0, .str ByteArray.empty, .int .i64 0])) (m.rs j s i' bad') := by
      intro kk n i' bad' hkk' hn' hi1 hi2 hb2 hG2
      refine h ⟨kk, n, 0, ByteArray.empty, 0⟩ i' bad' ⟨by show i64 kk; constructor <;> omega, hn', (by decide : 0 < 18446744073709551616), (by decide : ByteArray.empty.size ≤ 9223372036854775807), (by decide : i64 0)⟩ (by omega) hi2 (fun e => ⟨(hbad1 (hb2 e).1).1, by have := (hb2 e).2; have := (hbad1 (hb2 e).1).2; show i + 1 + 0 ≤ i'; omega⟩) (fun hg' => ⟨?_, (hG2 hg').2⟩)
      rw [(hk3 hg').2, (hG2 hg').1, ← hkk', hbk hg']
    have hd : g → bad1 = false ∧ i64 v.n ∧ bs.drop p = encN v.n ++ tl := fun hg' => ⟨(hG hg').1, (hg hg').2.2.1.n, by rw [(hG hg').2.2, if_pos (hk3 hg').1]⟩
    rcases hb with rfl | rfl | rfl
    · refine goh_ ?_
      refine s_snum v.n tl g hr1 hd (fun n i' bad' hn' hi1 hi2 hb2 hG2 => ?_)
      rw [Mem.rs_rs]
      replace h := hfin 1 n i' bad' rfl hn' hi1 hi2 hb2 hG2
      exact gox_
    · refine goh_ ?_
      refine s_snum v.n tl g hr1 hd (fun n i' bad' hn' hi1 hi2 hb2 hG2 => ?_)
      rw [Mem.rs_rs]
      replace h := hfin 2 n i' bad' rfl hn' hi1 hi2 hb2 hG2
      exact gox_
    · refine goh_ ?_
      refine s_snum v.n tl g hr1 hd (fun n i' bad' hn' hi1 hi2 hb2 hG2 => ?_)
      rw [Mem.rs_rs]
      replace h := hfin 8 n i' bad' rfl hn' hi1 hi2 hb2 hG2
      exact gox_
  · subst hb
    have hk4 : g → v = ⟨4, 0, 0, v.s, 0⟩ := fun hg' => by
      have e := hbk hg'
      rcases hn hg' with h1 | ⟨h1, _⟩ | h1 | h1
      · rw [h1] at e; simp at e
      · omega
      · exact h1
      · rw [h1] at e; simp at e
    refine goh_ ?_
    refine s_stext v.s tl g hr1 (fun hg' => ⟨(hG hg').1, by rw [(hG hg').2.2, hk4 hg']; simp⟩) (fun q i' bad' hq hi1 hi2 hb2 hG2 => ?_)
    rw [Mem.rs_rs]
    replace h := h ⟨4, 0, 0, q, 0⟩ i' bad' ⟨(by decide : i64 4), (by decide : i64 0), (by decide : 0 < 18446744073709551616), by show q.size ≤ _; omega, (by decide : i64 0)⟩ (by omega) hi2 (fun e => ⟨(hbad1 (hb2 e).1).1, by have := (hb2 e).2; have := (hbad1 (hb2 e).1).2; show i + 1 + q.size ≤ i'; omega⟩) (fun hg' => ⟨by rw [hk4 hg', (hG2 hg').1], (hG2 hg').2⟩)
    simp only [V.av] at h
    exact gox_
  · subst hb
    have hk5 : g → v = ⟨3, 0, v.f, ByteArray.empty, 0⟩ ∧ nan v.f = false := fun hg' => by
      have e := hbk hg'
      refine ⟨?_, (cok_facts (hg hg').2.1).2.2 (by omega)⟩
      rcases hn hg' with h1 | ⟨h1, _⟩ | h1 | h1
      · rw [h1] at e; simp at e
      · omega
      · rw [h1] at e; simp at e
      · exact h1
    have hd : g → bs.drop p = beB v.f ++ tl := fun hg' => by rw [(hG hg').2.2, (hk5 hg').1]; simp
    have hvf : g → v.f < 18446744073709551616 := fun hg' => (hg hg').2.2.1.f
    refine goh_ ?_
    refine loop_ (fun d t l c m' => ∃ (k x p' : Nat) (bad' : Bool), m' = m.rs j s p' bad' ∧ (t 2 = .ptr (.lc 0) 0 0 ∧ t 3 = .ptr (.lc 4) 0 0 ∧ l 0 = some ⟨[V.av ⟨0, 0, 0, ByteArray.empty, 0⟩], 5⟩ ∧ l 4 = some ⟨[V.av ⟨3, 0, 0, ByteArray.empty, 0⟩], 5⟩) ∧ t 0 = .ptr (.hp j) 0 0 ∧ t 4 = .int .u64 x ∧ t 5 = .int .i64 k ∧ p ≤ p' ∧ p' ≤ bs.length ∧ (bad' = false → bad1 = false) ∧ x < 256 ^ k ∧ k ≤ 8 ∧ (g → bad' = false ∧ x = v.f / 2 ^ (64 - 8 * k) ∧ bs.drop p' = (beB v.f).drop k ++ tl) ∧ d = 8 - k) 8 ?_ ?_
    · refine ⟨0, 0, p, bad1, rfl, ⟨rfl, rfl, rfl, rfl⟩, rfl, rfl, rfl, Nat.le_refl _, hp2, id, by decide, by omega, fun hg' => ⟨(hG hg').1, ?_, hd hg'⟩, rfl⟩
      have h64 : (2 : Nat) ^ (64 - 8 * 0) = 18446744073709551616 := by decide
      have := hvf hg'
      rw [h64]; omega
    intro d t l c m' KN ⟨k, x, p', bad', hm, ⟨h2, h3, hl0, hl4⟩, h0, h4, h5, hpp, hi', hbb, hx, hk, hGk, hdd⟩ next
    subst hm
    simp only [V.av] at hl0 hl4
    have hr2 := hr.set hi' bad'
    have hx8 : 256 ^ k ≤ 256 ^ 8 := Nat.pow_le_pow_right (by decide) hk
    have h88 : (256 : Nat) ^ 8 = 18446744073709551616 := by decide
    refine goh_ ?_
    refine ⟨fun hc => ?_, fun hc => ?_⟩
    · have hk8 : k < 8 := by omega
      refine s_sbyte2 hr2 (fun b2 p2 bad2 hB2 hq1 hq2 hcs => ?_)
      rw [Mem.rs_rs]
      have e1 := shl8 hk8 hx
      have e2 : IntKind.u64.wrap (b2 : Int) = (b2 : Int) := by rw [u64_wrap]; omega
      have e3 := or8 hk8 hx hB2
      have e4 : IntKind.i64.wrap ((k : Int) + 1) = ((k + 1 : Nat) : Int) := w64_id (by omega)
      have hcs2 : (bad2 = false → bad' = false) ∧ (g → bad2 = false ∧ ∃ hi : p' < bs.length, b2 = (bs[p']'hi).toNat ∧ p2 = p' + 1) := by
        rcases hcs with ⟨rfl, rfl, hi, rfl⟩ | ⟨h1, rfl, rfl, rfl⟩
        · exact ⟨id, fun hg' => ⟨(hGk hg').1, hi, rfl, rfl⟩⟩
        · refine ⟨fun e => (by cases e), fun hg' => ?_⟩
          have h2 := (hGk hg').2.2
          rw [be_drop hk8, List.cons_append] at h2
          obtain ⟨h3, _⟩ := drop_head h2
          omega
      clear hcs
      refine goh_ ?_
      refine next _ _ _ _ _ ?_ ⟨k + 1, x * 256 + b2, p2, bad2, rfl, ⟨h2, h3, hl0, hl4⟩, h0, rfl, rfl, by omega, hq2, fun e => hbb (hcs2.1 e), ?_, hk8, fun hg' => ?_, rfl⟩
      · omega
      · rw [Nat.pow_succ]; omega
      · obtain ⟨_, h1, h2⟩ := hGk hg'
        obtain ⟨hb2, hi, rfl, rfl⟩ := hcs2.2 hg'
        rw [be_drop hk8, List.cons_append] at h2
        obtain ⟨_, h3, h4⟩ := drop_head h2
        refine ⟨hb2, ?_, h4⟩
        rw [← be_step hk8, h1, h3, UInt8.toNat_ofNat']
    · have hk8 : k = 8 := by omega
      subst hk8
      refine s_l4float (by omega) (fun f hf hfx => ?_)
      replace h := h ⟨3, 0, f, ByteArray.empty, 0⟩ p' bad' ⟨(by decide : i64 3), (by decide : i64 0), hf, (by decide : ByteArray.empty.size ≤ 9223372036854775807), (by decide : i64 0)⟩ (by omega) hi' (fun e => ⟨(hbad1 (hbb e)).1, by have := (hbad1 (hbb e)).2; show i + 1 + 0 ≤ p'; omega⟩) (fun hg' => by
        obtain ⟨h0, h1, h2⟩ := hGk hg'
        have hxf : x = v.f := by rw [h1]; simp
        refine ⟨?_, ?_, h0⟩
        · rw [(hk5 hg').1, hfx (by rw [hxf]; exact (hk5 hg').2), hxf]
        · rw [h2, List.drop_eq_nil_of_le (by rw [beB_len]; omega)]; rfl)
      simp only [V.av] at h
      exact gox_
  · have hb1 : ((b : Int) == 1) = false := by simp; omega
    have hb2 : ((b : Int) == 2) = false := by simp; omega
    have hb3 : ((b : Int) == 8) = false := by simp; omega
    have hb4 : ((b : Int) == 4) = false := by simp; omega
    have hb5 : ((b : Int) == 3) = false := by simp; omega
    replace h := h ⟨b, 0, 0, ByteArray.empty, 0⟩ p bad1 ⟨by show i64 b; constructor <;> omega, (by decide : i64 0), (by decide : 0 < 18446744073709551616), (by decide : ByteArray.empty.size ≤ 9223372036854775807), (by decide : i64 0)⟩ hp1 hp2 (fun e => ⟨(hbad1 e).1, (hbad1 e).2⟩) (fun hg' => by
      have e := hbk hg'
      have e0 : v.k = 0 := by have := hkk hg'; omega
      refine ⟨?_, by rw [(hG hg').2.2, e0]; simp, (hG hg').1⟩
      rw [e]
      rcases hn hg' with h1 | ⟨h1, h2⟩ | h1 | h1
      · exact (by rw [h1])
      · omega
      · rw [h1] at e0; cases e0
      · rw [h1] at e0; cases e0)
    simp only [V.av] at h
    exact gox_
end Go.Proofs.YtdonkjepjobhnaaDoor.IM
namespace Go.Proofs.IM
open Go Go.Proofs.Flt
theorem Fra.rs (m : Mem) (j : Nat) (s : AV) (i : Nat) (bad : Bool) : Fra m (m.rs j s i bad) j := ⟨by simp [Mem.rs], fun k _ h => by simp only [Mem.rs]; rw [List.getElem?_set, if_neg (fun e => h e.symm)]⟩
/-- Reading goes on, and a slice that was begun behind mb grows. -/
structure GrowS (m0 mb m : Mem) (j : Nat) (s : AV) (bs : List UInt8) (i : Nat) (bad : Bool) (z : Nat) (q : AV) (rs : List (List AV)) (own : List Nat) : Prop where
  rd : RsO m0 m j s bs i bad
  fr : Fra mb m j
  sl : SlG m z q rs own
  new : ∀ k ∈ own, mb.hp.length ≤ k
  jl : j < mb.hp.length
theorem GrowS.start {m0 m : Mem} {j : Nat} {s : AV} {bs : List UInt8} {i : Nat} {bad : Bool} (h : RsO m0 m j s bs i bad) (z : Nat) : GrowS m0 m m j s bs i bad z .nils [] [] :=
  ⟨h, Fra.refl m j, SlG.nil m z, by simp, (List.getElem?_eq_some_iff.1 h.row).1⟩
theorem GrowS.read {m0 mb m : Mem} {j : Nat} {s : AV} {bs : List UInt8} {i i' z : Nat} {bad : Bool} {q : AV} {rs : List (List AV)} {own : List Nat} (h : GrowS m0 mb m j s bs i bad z q rs own) (hi : i' ≤ bs.length) (bad' : Bool) : GrowS m0 mb (m.rs j s i' bad') j s bs i' bad' z q rs own :=
  ⟨h.rd.set hi bad', h.fr.trans (Fra.rs m j s i' bad'), h.sl.ext fun k hk => by
    have := h.new k hk; have := h.jl
    exact (Fra.rs m j s i' bad').hp k (h.sl.lt.1 k hk) (by omega), h.new, h.jl⟩
theorem GrowS.app {m0 mb m m' : Mem} {j : Nat} {s : AV} {bs : List UInt8} {i z : Nat} {bad : Bool} {q q' : AV} {rs rs' : List (List AV)} {own own' : List Nat} (h : GrowS m0 mb m j s bs i bad z q rs own) (h1 : m'.ro = m.ro) (h2 : m'.gl = m.gl) (h3 : SlG m' z q' rs' own')
    (h4 : m.hp.length ≤ m'.hp.length) (h5 : ∀ k, k < m.hp.length → k ∉ own → m'.hp[k]? = m.hp[k]?) (h6 : ∀ k ∈ own', k ∈ own ∨ m.hp.length ≤ k) : GrowS m0 mb m' j s bs i bad z q' rs' own' := by
  have hb := h.fr.len
  have hj := h.jl
  have hout := h.rd.out
  refine ⟨⟨⟨h1.trans h.rd.le.ro, h2.trans h.rd.le.gl, fun k B hk => ?_⟩, h.rd.out, h.rd.form, h.rd.pos, h.rd.len, ?_⟩, ⟨by omega, fun k hk hkj => ?_⟩, h3, fun k hk => ?_, h.jl⟩
  · have hk0 := (List.getElem?_eq_some_iff.1 hk).1
    have := h.rd.le.hp k B hk
    rw [h5 k (by omega) (fun hm => by have := h.new k hm; omega)]; exact this
  · rw [h5 j (by omega) (fun hm => by have := h.new j hm; omega)]; exact h.rd.row
  · rw [h5 k (by omega) (fun hm => by have := h.new k hm; omega)]; exact h.fr.hp k hk hkj
  · rcases h6 k hk with h | h'
    · exact ‹GrowS _ _ _ _ _ _ _ _ _ _ _ _›.new k h
    · omega
theorem GrowS.push {m0 mb m : Mem} {j : Nat} {s : AV} {bs : List UInt8} {i z : Nat} {bad : Bool} {q : AV} {rs : List (List AV)} {own : List Nat} (h : GrowS m0 mb m j s bs i bad z q rs own) (B : Blk) : GrowS m0 mb (m.push B) j s bs i bad z q rs own := by
  have hb := h.fr.len
  have hx : ∀ k, k < m.hp.length → (m.push B).hp[k]? = m.hp[k]? := fun k hk => by
    show (m.hp ++ _)[k]? = _
    rw [List.getElem?_append_left hk]
  refine ⟨⟨h.rd.le.push' B, h.rd.out, h.rd.form, h.rd.pos, h.rd.len, by rw [hx _ (by have := h.jl; omega)]; exact h.rd.row⟩, h.fr.trans ⟨by rw [push_len]; omega, fun k hk _ => hx k hk⟩, h.sl.ext fun k hk => hx k (h.sl.lt.1 k hk), h.new, h.jl⟩
/-- What comes behind a loop, told once. -/
theorem exit_cut {C : Cx} {b : Code} {KN KE : St → Mem → Prop} {KX : Nat → St → Mem → Prop} {KR : St → Mem → Prop} {KP : Value → Mem → Prop} {st : St} {m : Mem} {id : Nat} (I : (Nat → AV) → Loc → Nat → Mem → Prop)
    (hc : ∀ t l c m, I t l c m → KE ⟨t, l, c⟩ m) (h : ∀ KE0 : St → Mem → Prop, (∀ t l c m, I t l c m → KE0 ⟨t, l, c⟩ m) → aCode C b KN (aExit id KE0 KX) KR KP st m) : aCode C b KN (aExit id KE KX) KR KP st m := h KE hc
end Go.Proofs.IM
namespace Go.Proofs.YtdonkjepjobhnaaDoor.IM
open Go Go.Proofs.IM Go.Proofs.Flt
theorem s_sflag {m0 m : Mem} {j : Nat} {s : AV} {bs : List UInt8} {i : Nat} {bad : Bool} {K : AR → Mem → Prop} (v : Bool) (tl : List UInt8) (g : Prop) (hr : RsO m0 m j s bs i bad) (hg : g → bad = false ∧ bs.drop i = (if v then 1 else 0) :: tl)
    (h : ∀ (b p : Nat) (bad' : Bool), b < 256 → i ≤ p → p ≤ bs.length → (bad' = false → bad = false ∧ i < p) → (g → ((b : Int) != 0) = v ∧ bs.drop p = tl ∧ bad' = false) → K (.ret (.int .i64 b)) (m.rs j s p bad')) :
    Sim Tryd.prog 98 [.ptr (.hp j) 0 0] m K := by
  refine s_sbyte2 hr fun b p bad' hB hp1 hp2 hcs => h b p bad' hB hp1 hp2 (fun e => ?_) (fun hg' => ?_)
  · rcases hcs with ⟨rfl, rfl, _⟩ | ⟨_, _, rfl, _⟩
    · exact ⟨e, Nat.lt_succ_self _⟩
    · cases e
  · obtain ⟨h1, h2⟩ := hg hg'
    obtain ⟨hlt, h3, h4⟩ := drop_head h2
    rcases hcs with ⟨rfl, rfl, _, rfl⟩ | ⟨h, _⟩
    · refine ⟨?_, h4, h1⟩
      rw [h3]; cases v <;> decide
    · omega
end Go.Proofs.YtdonkjepjobhnaaDoor.IM
namespace Go.Proofs.YtdonkjepjobhnaaDoor.IM
open Go Go.Proofs.IM Go.Proofs.Flt
set_option maxHeartbeats 8000000
set_option maxRecDepth 100000
theorem s_sproto {m0 m : Mem} {j : Nat} {s : AV} {bs : List UInt8} {i : Nat} {bad : Bool} {K : AR → Mem → Prop} (v : Pr) (tl : List UInt8) (g : Prop) (hr : RsO m0 m j s bs i bad) (hg : g → bad = false ∧ v.good ∧ (∀ c ∈ v.consts, cok c = true) ∧ bs.drop i = encP v ++ tl)
    (h : ∀ (q : Pr) (i' : Nat) (bad' : Bool) (m' : Mem) (r : List AV) (own : List Nat), RsO m0 m' j s bs i' bad' → Fra m m' j → PrO m' r q own → own.Nodup → (∀ k ∈ own, m.hp.length ≤ k) → q.good → (bad' = false → bad = false ∧ i + 1 + q.wt ≤ i') → (g → q = v ∧ bs.drop i' = tl ∧ bad' = false) → K (.ret (.agg r)) m') :
    Sim Tryd.prog 35 [.ptr (.hp j) 0 0] m K := by
  refine entry (cxok []) Tryd.func35 rfl rfl (by decide) (by decide) ?_
  have hlen := hr.len
  have hj0 := (List.getElem?_eq_some_iff.1 hr.row).1
  have hG0 : g → _ := fun hg' => (hg hg').2.2.2
  simp only [encP, List.append_assoc] at hG0
  refine goh_ ?_
  refine s_stext v.s _ g hr (fun hg' => ⟨(hg hg').1, hG0 hg'⟩) (fun q i1 b1 hq1 ha1 hl1 hb1 hG1 => ?_)
  refine goh_ ?_
  refine s_snum v.line _ g (hr.set hl1 b1) (fun hg' => ⟨(hG1 hg').2.2, (hg hg').2.1.line, (hG1 hg').2.1⟩) (fun n1 i2 b2 hi2 ha2 hl2 hb2 hG2 => ?_)
  rw [Mem.rs_rs]
  refine goh_ ?_
  refine s_snum v.params _ g (hr.set hl2 b2) (fun hg' => ⟨(hG2 hg').2.2, (hg hg').2.1.params, (hG2 hg').2.1⟩) (fun n2 i3 b3 hi3 ha3 hl3 hb3 hG3 => ?_)
  rw [Mem.rs_rs]
  refine goh_ ?_
  refine s_sflag v.rest _ g (hr.set hl3 b3) (fun hg' => ⟨(hG3 hg').2.2, (hG3 hg').2.1⟩) (fun n3 i4 b4 hB4 ha4 hl4 hb4 hG4 => ?_)
  rw [Mem.rs_rs]
  refine goh_ ?_
  refine s_snum v.regs _ g (hr.set hl4 b4) (fun hg' => ⟨(hG4 hg').2.2, (hg hg').2.1.regs, (hG4 hg').2.1⟩) (fun n4 i5 b5 hi5 ha5 hl5 hb5 hG5 => ?_)
  rw [Mem.rs_rs]
  generalize hn3 : (((n3 : Nat) : Int) != 0) = f3 at *
  have fx0 := Fra.rs m j s i5 b5
  have rx0 := hr.set hl5 b5
  have ux0 : g → _ := fun hg' => And.intro (hG5 hg').2.2 (hG5 hg').2.1
  generalize m.rs j s i5 b5 = mx0 at *
  refine goh_ ?_
  refine s_scount v.ups.length _ g rx0 (fun hg' => ⟨(ux0 hg').1, (ux0 hg').2, ?_⟩) (fun k1 j1 c1 hk1 hc1 hb1x hE1 => ?_)
  · have := fm_ge encU_pos v.ups
    simp only [List.length_append]; omega
  have fy1 := Fra.rs mx0 j s j1 c1
  have fz1 := fx0.trans fy1
  have gr1 := GrowS.start (rx0.set (i' := j1) (by omega) c1) 2
  have hfl1 := fz1.len
  generalize mx0.rs j s j1 c1 = mb1 at *
  refine goh_ ?_
  refine loop_ (fun kk t l c m' => ∃ (d i' : Nat) (bd : Bool) (us : List U) (sc : AV) (own : List Nat), (t 0 = .ptr (.hp j) 0 0 ∧ t 2 = .ptr (.lc 0) 0 0 ∧ t 3 = .ptr (.lc 1) 0 0 ∧ t 4 = .int .i64 d) ∧
      (l 0 = some ⟨[[.str ByteArray.empty, .int .i64 0, .int .i64 0, .bool false, .int .i64 0, .nils, .nils, .nils, .nils]], 9⟩ ∧ l 1 = some ⟨[[.str q, .int .i64 n1, .int .i64 n2, .bool f3, .int .i64 n4, sc, .nils, .nils, .nils]], 9⟩) ∧
      GrowS m0 mb1 m' j s bs i' bd 2 sc (us.map U.av) own ∧ (∀ x ∈ us, i64 (x : U).ix) ∧ (bd = false → c1 = false ∧ j1 + us.length ≤ i') ∧ j1 ≤ i' ∧ us.length + d = k1 ∧ (g → bd = false ∧ v.ups.take us.length = us ∧ v.ups.length = us.length + d ∧ bs.drop i' = fm encU (v.ups.drop us.length) ++ (encN v.consts.length ++ (fm encV v.consts ++ (encN v.ins.length ++ (fm encI v.ins ++ (encN v.named.length ++ (fm encNm v.named ++ tl))))))) ∧ kk = d) k1 ?_ ?_
  · exact ⟨k1, j1, c1, [], .nils, [], ⟨rfl, rfl, rfl, rfl⟩, ⟨rfl, rfl⟩, gr1, by simp, fun e => ⟨e, by simp⟩, Nat.le_refl _, by simp, fun hg' => ⟨(hE1 hg').2.2, by simp, by rw [(hE1 hg').1]; simp, (hE1 hg').2.1⟩, rfl⟩
  intro kk t l c mx1 KN ⟨dd1, w1_, g1_, us1, s1, o1, ⟨t0, t2, t3, t4⟩, ⟨l0, l1⟩, gr, hus, hiu, hji, hud, hG, hkk⟩ next
  have hi' := gr.rd.pos
  have hrow := gr.rd.row
  refine exit_cut (fun t l c m' => m' = mx1 ∧ (t 0 = .ptr (.hp j) 0 0 ∧ t 2 = .ptr (.lc 0) 0 0 ∧ t 3 = .ptr (.lc 1) 0 0 ∧ (g1_ = true ∨ dd1 = 0)) ∧
      (l 0 = some ⟨[[.str ByteArray.empty, .int .i64 0, .int .i64 0, .bool false, .int .i64 0, .nils, .nils, .nils, .nils]], 9⟩ ∧ l 1 = some ⟨[[.str q, .int .i64 n1, .int .i64 n2, .bool f3, .int .i64 n4, s1, .nils, .nils, .nils]], 9⟩)) ?_ ?_
  rotate_left
  · intro KE hKE
    by_cases hd0 : dd1 = 0
    · subst hd0
      have hz : ¬ (0 : Int) < 0 := by omega
      refine goh_ ?_
      exact hKE _ _ _ _ ⟨rfl, ⟨t0, t2, t3, .inr rfl⟩, l0, l1⟩
    have hz : (0 : Int) < (dd1 : Int) := by omega
    cases g1_ with
    | true =>
      refine goh_ ?_
      exact hKE _ _ _ _ ⟨rfl, ⟨t0, t2, t3, .inl rfl⟩, l0, l1⟩
    | false =>
    have hw : IntKind.i64.wrap ((dd1 : Int) - 1) = ((dd1 - 1 : Nat) : Int) := by
      have : IntKind.i64.wrap ((dd1 : Int) - 1) = (dd1 : Int) - 1 := w64_id (by omega)
      rw [this]; omega
    have hst : g → _ := fun hg' => step_g (f := encU) ⟨false, 0⟩ (hG hg').2.1 (hG hg').2.2.1 (by omega)
    generalize hy : (v.ups[us1.length]?.getD ⟨false, 0⟩) = y at hst
    obtain ⟨p1, p2, p3, p4⟩ := gr.sl.facts
    clear hKE
    refine goh_ ?_
    refine s_sflag y.loc _ g gr.rd (fun hg' => ⟨rfl, by rw [(hG hg').2.2.2, (hst hg').1]; simp only [encU, List.append_assoc]; rfl⟩) (fun nb q0_ f0_ hB0 ho0 hl0 hb0_ hF0 => ?_)
    refine goh_ ?_
    refine s_snum y.ix _ g (gr.rd.set hl0 f0_) (fun hg' => ⟨(hF0 hg').2.2, (hg hg').2.1.up _ (hst hg').2.2, (hF0 hg').2.1⟩) (fun nx q1_ f1_ hv1 ho1 hl1 hb1_ hF1 => ?_)
    rw [Mem.rs_rs]
    generalize hnf : (((nb : Nat) : Int) != 0) = nf at *
    have gr8 := gr.read hl1 f1_
    generalize mx1.rs j s q1_ f1_ = m2 at *
    refine goh_ ?_
    have gr8' := gr8.push ⟨[U.av ⟨nf, nx⟩], 2⟩
    refine aApp_one (r := U.av ⟨nf, nx⟩) rfl gr8'.sl rfl (by decide) ?_ push_row rfl ?_ ?_
    · decide
    · rw [List.length_map]; omega
    intro s' m3 own' e1 e2 e3 e4 e5 e6
    have gr9 := gr8'.app e1 e2 e3 e4 e5 e6
    obtain ⟨p1, p2, p3, p4⟩ := gr9.sl.facts
    refine goh_ ?_
    refine next _ _ _ _ _ ?_ ⟨dd1 - 1, q1_, f1_, us1 ++ [⟨nf, nx⟩], s', own', ⟨t0, t2, t3, rfl⟩, ⟨l0, rfl⟩, by rw [List.map_append]; exact gr9, ?_, ?_, by omega, ?_, fun hg' => ?_, rfl⟩
    · omega
    · intro x hx
      rcases List.mem_append.1 hx with hx | hx
      · exact hus x hx
      · cases List.mem_singleton.1 hx; exact hv1
    · intro eb1
      obtain ⟨eb0, hh1⟩ := hb1_ eb1
      obtain ⟨_, hh0⟩ := hb0_ eb0
      obtain ⟨hc0, hc1⟩ := hiu rfl
      refine ⟨hc0, ?_⟩
      simp only [List.length_append, List.length_singleton]; omega
    · rw [List.length_append, List.length_singleton]; omega
    · obtain ⟨a0, a1, a2, a3⟩ := hG hg'
      obtain ⟨b1, b2, b3⟩ := hst hg'
      have ey : (⟨nf, nx⟩ : U) = y := by
        rw [(hF0 hg').1, (hF1 hg').1]
      refine ⟨(hF1 hg').2.2, ?_, ?_, ?_⟩
      · rw [List.length_append, List.length_singleton, b2, ey]
      · rw [List.length_append, List.length_singleton]; omega
      · rw [List.length_append, List.length_singleton]; exact (hF1 hg').2.1
  intro t l c m' ⟨hmm, ⟨t0, t2, t3, hex⟩, l0, l1⟩
  subst m'
  have en1 : g → us1 = v.ups ∧ bs.drop w1_ = (encN v.consts.length ++ (fm encV v.consts ++ (encN v.ins.length ++ (fm encI v.ins ++ (encN v.named.length ++ (fm encNm v.named ++ tl)))))) ∧ g1_ = false := fun hg' => by
    obtain ⟨a0, a1, a2, a3⟩ := hG hg'
    rcases hex with hex | hex
    · rw [a0] at hex; cases hex
    subst hex
    obtain ⟨b1, b2⟩ := end_g (f := encU) a1 a2
    exact ⟨b1, by rw [a3, b2]; rfl, a0⟩
  have fx1 := fz1.trans gr.fr
  have rx1 := gr.rd
  have ux1 : g → _ := fun hg' => And.intro (en1 hg').2.2 (en1 hg').2.1
  have sl1 := gr.sl
  have ne1 := gr.new
  have hi1_ := hiu
  have go1 := hus
  have lt1 := gr.sl.lt
  have fw1 := gr.fr
  have ud1 := hud
  clear hG hus hiu gr next hkk hex hud
  obtain ⟨p1, p2, p3, p4⟩ := sl1.facts
  refine goh_ ?_
  refine s_scount v.consts.length _ g rx1 (fun hg' => ⟨(ux1 hg').1, (ux1 hg').2, ?_⟩) (fun k2 j2 c2 hk2 hc2 hb2x hE2 => ?_)
  · have := fm_ge encV_pos v.consts
    simp only [List.length_append]; omega
  have fy2 := Fra.rs mx1 j s j2 c2
  have fz2 := fx1.trans fy2
  have gr2 := GrowS.start (rx1.set (i' := j2) (by omega) c2) 5
  have hfl2 := fz2.len
  generalize mx1.rs j s j2 c2 = mb2 at *
  refine goh_ ?_
  refine loop_ (fun kk t l c m' => ∃ (d i' : Nat) (bd : Bool) (us : List V) (sc : AV) (own : List Nat), (t 0 = .ptr (.hp j) 0 0 ∧ t 2 = .ptr (.lc 0) 0 0 ∧ t 3 = .ptr (.lc 1) 0 0 ∧ t 6 = .int .i64 d) ∧
      (l 0 = some ⟨[[.str ByteArray.empty, .int .i64 0, .int .i64 0, .bool false, .int .i64 0, .nils, .nils, .nils, .nils]], 9⟩ ∧ l 1 = some ⟨[[.str q, .int .i64 n1, .int .i64 n2, .bool f3, .int .i64 n4, s1, sc, .nils, .nils]], 9⟩) ∧
      GrowS m0 mb2 m' j s bs i' bd 5 sc (us.map V.av) own ∧ (∀ x ∈ us, (x : V).good) ∧ (bd = false → c2 = false ∧ j2 + us.length + sumBy V.wt us ≤ i') ∧ j2 ≤ i' ∧ us.length + d = k2 ∧ (g → bd = false ∧ v.consts.take us.length = us ∧ v.consts.length = us.length + d ∧ bs.drop i' = fm encV (v.consts.drop us.length) ++ (encN v.ins.length ++ (fm encI v.ins ++ (encN v.named.length ++ (fm encNm v.named ++ tl))))) ∧ kk = d) k2 ?_ ?_
  · exact ⟨k2, j2, c2, [], .nils, [], ⟨t0, t2, t3, rfl⟩, ⟨l0, l1⟩, gr2, by simp, fun e => ⟨e, by simp [sumBy]⟩, Nat.le_refl _, by simp, fun hg' => ⟨(hE2 hg').2.2, by simp, by rw [(hE2 hg').1]; simp, (hE2 hg').2.1⟩, rfl⟩
  intro kk t l c mx2 KN ⟨dd2, w2_, g2_, us2, s2, o2, ⟨t0, t2, t3, t4⟩, ⟨l0, l1⟩, gr, hus, hiu, hji, hud, hG, hkk⟩ next
  have hi' := gr.rd.pos
  have hrow := gr.rd.row
  refine exit_cut (fun t l c m' => m' = mx2 ∧ (t 0 = .ptr (.hp j) 0 0 ∧ t 2 = .ptr (.lc 0) 0 0 ∧ t 3 = .ptr (.lc 1) 0 0 ∧ (g2_ = true ∨ dd2 = 0)) ∧
      (l 0 = some ⟨[[.str ByteArray.empty, .int .i64 0, .int .i64 0, .bool false, .int .i64 0, .nils, .nils, .nils, .nils]], 9⟩ ∧ l 1 = some ⟨[[.str q, .int .i64 n1, .int .i64 n2, .bool f3, .int .i64 n4, s1, s2, .nils, .nils]], 9⟩)) ?_ ?_
  rotate_left
  · intro KE hKE
    by_cases hd0 : dd2 = 0
    · subst hd0
      have hz : ¬ (0 : Int) < 0 := by omega
      refine goh_ ?_
      exact hKE _ _ _ _ ⟨rfl, ⟨t0, t2, t3, .inr rfl⟩, l0, l1⟩
    have hz : (0 : Int) < (dd2 : Int) := by omega
    cases g2_ with
    | true =>
      refine goh_ ?_
      exact hKE _ _ _ _ ⟨rfl, ⟨t0, t2, t3, .inl rfl⟩, l0, l1⟩
    | false =>
    have hw : IntKind.i64.wrap ((dd2 : Int) - 1) = ((dd2 - 1 : Nat) : Int) := by
      have : IntKind.i64.wrap ((dd2 : Int) - 1) = (dd2 : Int) - 1 := w64_id (by omega)
      rw [this]; omega
    have hst : g → _ := fun hg' => step_g (f := encV) ⟨0, 0, 0, ByteArray.empty, 0⟩ (hG hg').2.1 (hG hg').2.2.1 (by omega)
    generalize hy : (v.consts[us2.length]?.getD ⟨0, 0, 0, ByteArray.empty, 0⟩) = y at hst
    obtain ⟨p1, p2, p3, p4⟩ := gr.sl.facts
    clear hKE
    refine goh_ ?_
    refine s_sconst y _ g gr.rd (fun hg' => ⟨rfl, (hg hg').2.2.1 _ (hst hg').2.2, (hg hg').2.1.const _ (hst hg').2.2, by rw [(hG hg').2.2.2, (hst hg').1, List.append_assoc]⟩) (fun cv q0_ f0_ hv0 ho0 hl0 hb0_ hF0 => ?_)
    obtain ⟨vk, vn, vf, vs, vr⟩ := cv
    simp only [V.av]
    have gr8 := gr.read hl0 f0_
    generalize mx2.rs j s q0_ f0_ = m2 at *
    refine goh_ ?_
    have gr8' := gr8.push ⟨[V.av ⟨vk, vn, vf, vs, vr⟩], 5⟩
    refine aApp_one (r := V.av ⟨vk, vn, vf, vs, vr⟩) rfl gr8'.sl rfl (by decide) ?_ push_row rfl ?_ ?_
    · decide
    · rw [List.length_map]; omega
    intro s' m3 own' e1 e2 e3 e4 e5 e6
    have gr9 := gr8'.app e1 e2 e3 e4 e5 e6
    obtain ⟨p1, p2, p3, p4⟩ := gr9.sl.facts
    refine goh_ ?_
    refine next _ _ _ _ _ ?_ ⟨dd2 - 1, q0_, f0_, us2 ++ [⟨vk, vn, vf, vs, vr⟩], s', own', ⟨t0, t2, t3, rfl⟩, ⟨l0, rfl⟩, by rw [List.map_append]; exact gr9, ?_, ?_, by omega, ?_, fun hg' => ?_, rfl⟩
    · omega
    · intro x hx
      rcases List.mem_append.1 hx with hx | hx
      · exact hus x hx
      · cases List.mem_singleton.1 hx; exact hv0
    · intro eb0
      obtain ⟨_, hh0⟩ := hb0_ eb0
      obtain ⟨hc0, hc1⟩ := hiu rfl
      refine ⟨hc0, ?_⟩
      simp only [List.length_append, List.length_singleton, sumBy_app, sumBy]; omega
    · rw [List.length_append, List.length_singleton]; omega
    · obtain ⟨a0, a1, a2, a3⟩ := hG hg'
      obtain ⟨b1, b2, b3⟩ := hst hg'
      have ey : (⟨vk, vn, vf, vs, vr⟩ : V) = y := by
        exact (hF0 hg').1
      refine ⟨(hF0 hg').2.2, ?_, ?_, ?_⟩
      · rw [List.length_append, List.length_singleton, b2, ey]
      · rw [List.length_append, List.length_singleton]; omega
      · rw [List.length_append, List.length_singleton]; exact (hF0 hg').2.1
  intro t l c m' ⟨hmm, ⟨t0, t2, t3, hex⟩, l0, l1⟩
  subst m'
  have en2 : g → us2 = v.consts ∧ bs.drop w2_ = (encN v.ins.length ++ (fm encI v.ins ++ (encN v.named.length ++ (fm encNm v.named ++ tl)))) ∧ g2_ = false := fun hg' => by
    obtain ⟨a0, a1, a2, a3⟩ := hG hg'
    rcases hex with hex | hex
    · rw [a0] at hex; cases hex
    subst hex
    obtain ⟨b1, b2⟩ := end_g (f := encV) a1 a2
    exact ⟨b1, by rw [a3, b2]; rfl, a0⟩
  have fx2 := fz2.trans gr.fr
  have rx2 := gr.rd
  have ux2 : g → _ := fun hg' => And.intro (en2 hg').2.2 (en2 hg').2.1
  have sl2 := gr.sl
  have ne2 := gr.new
  have hi2_ := hiu
  have go2 := hus
  have lt2 := gr.sl.lt
  have fw2 := gr.fr
  have ud2 := hud
  have sl1 := (sl1.fra fy2 (fun a ha => by have := ne1 a ha; omega)).fra fw2 (fun a ha => by have := ne1 a ha; omega)
  clear hG hus hiu gr next hkk hex hud
  obtain ⟨p1, p2, p3, p4⟩ := sl2.facts
  refine goh_ ?_
  refine s_scount v.ins.length _ g rx2 (fun hg' => ⟨(ux2 hg').1, (ux2 hg').2, ?_⟩) (fun k3 j3 c3 hk3 hc3 hb3x hE3 => ?_)
  · have := fm_ge encI_pos v.ins
    simp only [List.length_append]; omega
  have fy3 := Fra.rs mx2 j s j3 c3
  have fz3 := fx2.trans fy3
  have gr3 := GrowS.start (rx2.set (i' := j3) (by omega) c3) 5
  have hfl3 := fz3.len
  generalize mx2.rs j s j3 c3 = mb3 at *
  refine goh_ ?_
  refine loop_ (fun kk t l c m' => ∃ (d i' : Nat) (bd : Bool) (us : List I) (sc : AV) (own : List Nat), (t 0 = .ptr (.hp j) 0 0 ∧ t 2 = .ptr (.lc 0) 0 0 ∧ t 3 = .ptr (.lc 1) 0 0 ∧ t 8 = .int .i64 d) ∧
      (l 0 = some ⟨[[.str ByteArray.empty, .int .i64 0, .int .i64 0, .bool false, .int .i64 0, .nils, .nils, .nils, .nils]], 9⟩ ∧ l 1 = some ⟨[[.str q, .int .i64 n1, .int .i64 n2, .bool f3, .int .i64 n4, s1, s2, sc, .nils]], 9⟩) ∧
      GrowS m0 mb3 m' j s bs i' bd 5 sc (us.map I.av) own ∧ (∀ x ∈ us, (x : I).good) ∧ (bd = false → c3 = false ∧ j3 + us.length ≤ i') ∧ j3 ≤ i' ∧ us.length + d = k3 ∧ (g → bd = false ∧ v.ins.take us.length = us ∧ v.ins.length = us.length + d ∧ bs.drop i' = fm encI (v.ins.drop us.length) ++ (encN v.named.length ++ (fm encNm v.named ++ tl))) ∧ kk = d) k3 ?_ ?_
  · exact ⟨k3, j3, c3, [], .nils, [], ⟨t0, t2, t3, rfl⟩, ⟨l0, l1⟩, gr3, by simp, fun e => ⟨e, by simp⟩, Nat.le_refl _, by simp, fun hg' => ⟨(hE3 hg').2.2, by simp, by rw [(hE3 hg').1]; simp, (hE3 hg').2.1⟩, rfl⟩
  intro kk t l c mx3 KN ⟨dd3, w3_, g3_, us3, s3, o3, ⟨t0, t2, t3, t4⟩, ⟨l0, l1⟩, gr, hus, hiu, hji, hud, hG, hkk⟩ next
  have hi' := gr.rd.pos
  have hrow := gr.rd.row
  refine exit_cut (fun t l c m' => m' = mx3 ∧ (t 0 = .ptr (.hp j) 0 0 ∧ t 2 = .ptr (.lc 0) 0 0 ∧ t 3 = .ptr (.lc 1) 0 0 ∧ (g3_ = true ∨ dd3 = 0)) ∧
      (l 0 = some ⟨[[.str ByteArray.empty, .int .i64 0, .int .i64 0, .bool false, .int .i64 0, .nils, .nils, .nils, .nils]], 9⟩ ∧ l 1 = some ⟨[[.str q, .int .i64 n1, .int .i64 n2, .bool f3, .int .i64 n4, s1, s2, s3, .nils]], 9⟩)) ?_ ?_
  rotate_left
  · intro KE hKE
    by_cases hd0 : dd3 = 0
    · subst hd0
      have hz : ¬ (0 : Int) < 0 := by omega
      refine goh_ ?_
      exact hKE _ _ _ _ ⟨rfl, ⟨t0, t2, t3, .inr rfl⟩, l0, l1⟩
    have hz : (0 : Int) < (dd3 : Int) := by omega
    cases g3_ with
    | true =>
      refine goh_ ?_
      exact hKE _ _ _ _ ⟨rfl, ⟨t0, t2, t3, .inl rfl⟩, l0, l1⟩
    | false =>
    have hw : IntKind.i64.wrap ((dd3 : Int) - 1) = ((dd3 - 1 : Nat) : Int) := by
      have : IntKind.i64.wrap ((dd3 : Int) - 1) = (dd3 : Int) - 1 := w64_id (by omega)
      rw [this]; omega
    have hst : g → _ := fun hg' => step_g (f := encI) ⟨0, 0, 0, 0, 0⟩ (hG hg').2.1 (hG hg').2.2.1 (by omega)
    generalize hy : (v.ins[us3.length]?.getD ⟨0, 0, 0, 0, 0⟩) = y at hst
    obtain ⟨p1, p2, p3, p4⟩ := gr.sl.facts
    clear hKE
    refine goh_ ?_
    refine s_snum y.op _ g gr.rd (fun hg' => ⟨rfl, ((hg hg').2.1.insn _ (hst hg').2.2).op, by rw [(hG hg').2.2.2, (hst hg').1]; simp only [encI, List.append_assoc]; rfl⟩) (fun na q0_ f0_ hv0 ho0 hl0 hb0_ hF0 => ?_)
    refine goh_ ?_
    refine s_snum y.a _ g (gr.rd.set hl0 f0_) (fun hg' => ⟨(hF0 hg').2.2, ((hg hg').2.1.insn _ (hst hg').2.2).a, (hF0 hg').2.1⟩) (fun nb q1_ f1_ hv1 ho1 hl1 hb1_ hF1 => ?_)
    rw [Mem.rs_rs]
    refine goh_ ?_
    refine s_snum y.b _ g (gr.rd.set hl1 f1_) (fun hg' => ⟨(hF1 hg').2.2, ((hg hg').2.1.insn _ (hst hg').2.2).b, (hF1 hg').2.1⟩) (fun nc q2_ f2_ hv2 ho2 hl2 hb2_ hF2 => ?_)
    rw [Mem.rs_rs]
    refine goh_ ?_
    refine s_snum y.c _ g (gr.rd.set hl2 f2_) (fun hg' => ⟨(hF2 hg').2.2, ((hg hg').2.1.insn _ (hst hg').2.2).c, (hF2 hg').2.1⟩) (fun nd q3_ f3_ hv3 ho3 hl3 hb3_ hF3 => ?_)
    rw [Mem.rs_rs]
    refine goh_ ?_
    refine s_snum y.d _ g (gr.rd.set hl3 f3_) (fun hg' => ⟨(hF3 hg').2.2, ((hg hg').2.1.insn _ (hst hg').2.2).d, (hF3 hg').2.1⟩) (fun ne q4_ f4_ hv4 ho4 hl4 hb4_ hF4 => ?_)
    rw [Mem.rs_rs]
    have gr8 := gr.read hl4 f4_
    generalize mx3.rs j s q4_ f4_ = m2 at *
    refine goh_ ?_
    have gr8' := gr8.push ⟨[I.av ⟨na, nb, nc, nd, ne⟩], 5⟩
    refine aApp_one (r := I.av ⟨na, nb, nc, nd, ne⟩) rfl gr8'.sl rfl (by decide) ?_ push_row rfl ?_ ?_
    · decide
    · rw [List.length_map]; omega
    intro s' m3 own' e1 e2 e3 e4 e5 e6
    have gr9 := gr8'.app e1 e2 e3 e4 e5 e6
    obtain ⟨p1, p2, p3, p4⟩ := gr9.sl.facts
    refine goh_ ?_
    refine next _ _ _ _ _ ?_ ⟨dd3 - 1, q4_, f4_, us3 ++ [⟨na, nb, nc, nd, ne⟩], s', own', ⟨t0, t2, t3, rfl⟩, ⟨l0, rfl⟩, by rw [List.map_append]; exact gr9, ?_, ?_, by omega, ?_, fun hg' => ?_, rfl⟩
    · omega
    · intro x hx
      rcases List.mem_append.1 hx with hx | hx
      · exact hus x hx
      · cases List.mem_singleton.1 hx; exact ⟨hv0, hv1, hv2, hv3, hv4⟩
    · intro eb4
      obtain ⟨eb3, hh4⟩ := hb4_ eb4
      obtain ⟨eb2, hh3⟩ := hb3_ eb3
      obtain ⟨eb1, hh2⟩ := hb2_ eb2
      obtain ⟨eb0, hh1⟩ := hb1_ eb1
      obtain ⟨_, hh0⟩ := hb0_ eb0
      obtain ⟨hc0, hc1⟩ := hiu rfl
      refine ⟨hc0, ?_⟩
      simp only [List.length_append, List.length_singleton]; omega
    · rw [List.length_append, List.length_singleton]; omega
    · obtain ⟨a0, a1, a2, a3⟩ := hG hg'
      obtain ⟨b1, b2, b3⟩ := hst hg'
      have ey : (⟨na, nb, nc, nd, ne⟩ : I) = y := by
        rw [(hF0 hg').1, (hF1 hg').1, (hF2 hg').1, (hF3 hg').1, (hF4 hg').1]
      refine ⟨(hF4 hg').2.2, ?_, ?_, ?_⟩
      · rw [List.length_append, List.length_singleton, b2, ey]
      · rw [List.length_append, List.length_singleton]; omega
      · rw [List.length_append, List.length_singleton]; exact (hF4 hg').2.1
  intro t l c m' ⟨hmm, ⟨t0, t2, t3, hex⟩, l0, l1⟩
  subst m'
  have en3 : g → us3 = v.ins ∧ bs.drop w3_ = (encN v.named.length ++ (fm encNm v.named ++ tl)) ∧ g3_ = false := fun hg' => by
    obtain ⟨a0, a1, a2, a3⟩ := hG hg'
    rcases hex with hex | hex
    · rw [a0] at hex; cases hex
    subst hex
    obtain ⟨b1, b2⟩ := end_g (f := encI) a1 a2
    exact ⟨b1, by rw [a3, b2]; rfl, a0⟩
  have fx3 := fz3.trans gr.fr
  have rx3 := gr.rd
  have ux3 : g → _ := fun hg' => And.intro (en3 hg').2.2 (en3 hg').2.1
  have sl3 := gr.sl
  have ne3 := gr.new
  have hi3_ := hiu
  have go3 := hus
  have lt3 := gr.sl.lt
  have fw3 := gr.fr
  have ud3 := hud
  have sl1 := (sl1.fra fy3 (fun a ha => by have := ne1 a ha; omega)).fra fw3 (fun a ha => by have := ne1 a ha; omega)
  have sl2 := (sl2.fra fy3 (fun a ha => by have := ne2 a ha; omega)).fra fw3 (fun a ha => by have := ne2 a ha; omega)
  clear hG hus hiu gr next hkk hex hud
  obtain ⟨p1, p2, p3, p4⟩ := sl3.facts
  refine goh_ ?_
  refine s_scount v.named.length _ g rx3 (fun hg' => ⟨(ux3 hg').1, (ux3 hg').2, ?_⟩) (fun k4 j4 c4 hk4 hc4 hb4x hE4 => ?_)
  · have := fm_ge encNm_pos v.named
    simp only [List.length_append]; omega
  have fy4 := Fra.rs mx3 j s j4 c4
  have fz4 := fx3.trans fy4
  have gr4 := GrowS.start (rx3.set (i' := j4) (by omega) c4) 4
  have hfl4 := fz4.len
  generalize mx3.rs j s j4 c4 = mb4 at *
  refine goh_ ?_
  refine loop_ (fun kk t l c m' => ∃ (d i' : Nat) (bd : Bool) (us : List Nm) (sc : AV) (own : List Nat), (t 0 = .ptr (.hp j) 0 0 ∧ t 2 = .ptr (.lc 0) 0 0 ∧ t 3 = .ptr (.lc 1) 0 0 ∧ t 10 = .int .i64 d) ∧
      (l 0 = some ⟨[[.str ByteArray.empty, .int .i64 0, .int .i64 0, .bool false, .int .i64 0, .nils, .nils, .nils, .nils]], 9⟩ ∧ l 1 = some ⟨[[.str q, .int .i64 n1, .int .i64 n2, .bool f3, .int .i64 n4, s1, s2, s3, sc]], 9⟩) ∧
      GrowS m0 mb4 m' j s bs i' bd 4 sc (us.map Nm.av) own ∧ (∀ x ∈ us, (x : Nm).good) ∧ (bd = false → c4 = false ∧ j4 + us.length + sumBy Nm.wt us ≤ i') ∧ j4 ≤ i' ∧ us.length + d = k4 ∧ (g → bd = false ∧ v.named.take us.length = us ∧ v.named.length = us.length + d ∧ bs.drop i' = fm encNm (v.named.drop us.length) ++ tl) ∧ kk = d) k4 ?_ ?_
  · exact ⟨k4, j4, c4, [], .nils, [], ⟨t0, t2, t3, rfl⟩, ⟨l0, l1⟩, gr4, by simp, fun e => ⟨e, by simp [sumBy]⟩, Nat.le_refl _, by simp, fun hg' => ⟨(hE4 hg').2.2, by simp, by rw [(hE4 hg').1]; simp, (hE4 hg').2.1⟩, rfl⟩
  intro kk t l c mx4 KN ⟨dd4, w4_, g4_, us4, s4, o4, ⟨t0, t2, t3, t4⟩, ⟨l0, l1⟩, gr, hus, hiu, hji, hud, hG, hkk⟩ next
  have hi' := gr.rd.pos
  have hrow := gr.rd.row
  refine exit_cut (fun t l c m' => m' = mx4 ∧ (t 0 = .ptr (.hp j) 0 0 ∧ t 2 = .ptr (.lc 0) 0 0 ∧ t 3 = .ptr (.lc 1) 0 0 ∧ (g4_ = true ∨ dd4 = 0)) ∧
      (l 0 = some ⟨[[.str ByteArray.empty, .int .i64 0, .int .i64 0, .bool false, .int .i64 0, .nils, .nils, .nils, .nils]], 9⟩ ∧ l 1 = some ⟨[[.str q, .int .i64 n1, .int .i64 n2, .bool f3, .int .i64 n4, s1, s2, s3, s4]], 9⟩)) ?_ ?_
  rotate_left
  · intro KE hKE
    by_cases hd0 : dd4 = 0
    · subst hd0
      have hz : ¬ (0 : Int) < 0 := by omega
      refine goh_ ?_
      exact hKE _ _ _ _ ⟨rfl, ⟨t0, t2, t3, .inr rfl⟩, l0, l1⟩
    have hz : (0 : Int) < (dd4 : Int) := by omega
    cases g4_ with
    | true =>
      refine goh_ ?_
      exact hKE _ _ _ _ ⟨rfl, ⟨t0, t2, t3, .inl rfl⟩, l0, l1⟩
    | false =>
    have hw : IntKind.i64.wrap ((dd4 : Int) - 1) = ((dd4 - 1 : Nat) : Int) := by
      have : IntKind.i64.wrap ((dd4 : Int) - 1) = (dd4 : Int) - 1 := w64_id (by omega)
      rw [this]; omega
    have hst : g → _ := fun hg' => step_g (f := encNm) ⟨ByteArray.empty, 0, 0, 0⟩ (hG hg').2.1 (hG hg').2.2.1 (by omega)
    generalize hy : (v.named[us4.length]?.getD ⟨ByteArray.empty, 0, 0, 0⟩) = y at hst
    obtain ⟨p1, p2, p3, p4⟩ := gr.sl.facts
    clear hKE
    refine goh_ ?_
    refine s_stext y.s _ g gr.rd (fun hg' => ⟨rfl, by rw [(hG hg').2.2.2, (hst hg').1]; simp only [encNm, List.append_assoc]; rfl⟩) (fun sv q0_ f0_ hv0 ho0 hl0 hb0_ hF0 => ?_)
    refine goh_ ?_
    refine s_snum y.reg _ g (gr.rd.set hl0 f0_) (fun hg' => ⟨(hF0 hg').2.2, ((hg hg').2.1.name _ (hst hg').2.2).reg, (hF0 hg').2.1⟩) (fun na q1_ f1_ hv1 ho1 hl1 hb1_ hF1 => ?_)
    rw [Mem.rs_rs]
    refine goh_ ?_
    refine s_snum y.lo _ g (gr.rd.set hl1 f1_) (fun hg' => ⟨(hF1 hg').2.2, ((hg hg').2.1.name _ (hst hg').2.2).lo, (hF1 hg').2.1⟩) (fun nb q2_ f2_ hv2 ho2 hl2 hb2_ hF2 => ?_)
    rw [Mem.rs_rs]
    refine goh_ ?_
    refine s_snum y.hi _ g (gr.rd.set hl2 f2_) (fun hg' => ⟨(hF2 hg').2.2, ((hg hg').2.1.name _ (hst hg').2.2).hi, (hF2 hg').2.1⟩) (fun nc q3_ f3_ hv3 ho3 hl3 hb3_ hF3 => ?_)
    rw [Mem.rs_rs]
    have gr8 := gr.read hl3 f3_
    generalize mx4.rs j s q3_ f3_ = m2 at *
    refine goh_ ?_
    have gr8' := gr8.push ⟨[Nm.av ⟨sv, na, nb, nc⟩], 4⟩
    refine aApp_one (r := Nm.av ⟨sv, na, nb, nc⟩) rfl gr8'.sl rfl (by decide) ?_ push_row rfl ?_ ?_
    · decide
    · rw [List.length_map]; omega
    intro s' m3 own' e1 e2 e3 e4 e5 e6
    have gr9 := gr8'.app e1 e2 e3 e4 e5 e6
    obtain ⟨p1, p2, p3, p4⟩ := gr9.sl.facts
    refine goh_ ?_
    refine next _ _ _ _ _ ?_ ⟨dd4 - 1, q3_, f3_, us4 ++ [⟨sv, na, nb, nc⟩], s', own', ⟨t0, t2, t3, rfl⟩, ⟨l0, rfl⟩, by rw [List.map_append]; exact gr9, ?_, ?_, by omega, ?_, fun hg' => ?_, rfl⟩
    · omega
    · intro x hx
      rcases List.mem_append.1 hx with hx | hx
      · exact hus x hx
      · cases List.mem_singleton.1 hx; exact ⟨by show sv.size ≤ _; omega, hv1, hv2, hv3⟩
    · intro eb3
      obtain ⟨eb2, hh3⟩ := hb3_ eb3
      obtain ⟨eb1, hh2⟩ := hb2_ eb2
      obtain ⟨eb0, hh1⟩ := hb1_ eb1
      obtain ⟨_, hh0⟩ := hb0_ eb0
      obtain ⟨hc0, hc1⟩ := hiu rfl
      refine ⟨hc0, ?_⟩
      have : Nm.wt ⟨sv, na, nb, nc⟩ = sv.size := rfl
      simp only [List.length_append, List.length_singleton, sumBy_app, sumBy]; omega
    · rw [List.length_append, List.length_singleton]; omega
    · obtain ⟨a0, a1, a2, a3⟩ := hG hg'
      obtain ⟨b1, b2, b3⟩ := hst hg'
      have ey : (⟨sv, na, nb, nc⟩ : Nm) = y := by
        rw [(hF0 hg').1, (hF1 hg').1, (hF2 hg').1, (hF3 hg').1]
      refine ⟨(hF3 hg').2.2, ?_, ?_, ?_⟩
      · rw [List.length_append, List.length_singleton, b2, ey]
      · rw [List.length_append, List.length_singleton]; omega
      · rw [List.length_append, List.length_singleton]; exact (hF3 hg').2.1
  intro t l c m' ⟨hmm, ⟨t0, t2, t3, hex⟩, l0, l1⟩
  subst m'
  have en4 : g → us4 = v.named ∧ bs.drop w4_ = tl ∧ g4_ = false := fun hg' => by
    obtain ⟨a0, a1, a2, a3⟩ := hG hg'
    rcases hex with hex | hex
    · rw [a0] at hex; cases hex
    subst hex
    obtain ⟨b1, b2⟩ := end_g (f := encNm) a1 a2
    exact ⟨b1, by rw [a3, b2]; rfl, a0⟩
  have fx4 := fz4.trans gr.fr
  have rx4 := gr.rd
  have ux4 : g → _ := fun hg' => And.intro (en4 hg').2.2 (en4 hg').2.1
  have sl4 := gr.sl
  have ne4 := gr.new
  have hi4_ := hiu
  have go4 := hus
  have lt4 := gr.sl.lt
  have fw4 := gr.fr
  have ud4 := hud
  have sl1 := (sl1.fra fy4 (fun a ha => by have := ne1 a ha; omega)).fra fw4 (fun a ha => by have := ne1 a ha; omega)
  have sl2 := (sl2.fra fy4 (fun a ha => by have := ne2 a ha; omega)).fra fw4 (fun a ha => by have := ne2 a ha; omega)
  have sl3 := (sl3.fra fy4 (fun a ha => by have := ne3 a ha; omega)).fra fw4 (fun a ha => by have := ne3 a ha; omega)
  clear hG hus hiu gr next hkk hex hud
  obtain ⟨p1, p2, p3, p4⟩ := sl4.facts
  refine goh_ ?_
  have hgood : (⟨q, n1, n2, f3, n4, us1, us2, us3, us4⟩ : Pr).good := by
    refine ⟨by show q.size ≤ _; omega, hi2, hi3, hi5, ?_, ?_, ?_, ?_, go1, go2, go3, go4⟩ <;> (simp only; omega)
  refine h ⟨q, n1, n2, f3, n4, us1, us2, us3, us4⟩ w4_ g4_ mx4 _ (o1 ++ o2 ++ o3 ++ o4) rx4 fx4 ⟨s1, s2, s3, s4, o1, o2, o3, o4, rfl, sl1.o, sl2.o, sl3.o, sl4.o, rfl⟩ ?_ ?_ hgood ?_ (fun hg' => ⟨?_, (en4 hg').2⟩)
  · exact nodup4 lt1.2 lt2.2 lt3.2 lt4.2 (a := mb2.hp.length) (b := mb3.hp.length) (c := mb4.hp.length) (fun k hk => Nat.lt_of_lt_of_le (lt1.1 k hk) fy2.len) (fun k hk => ⟨ne2 k hk, Nat.lt_of_lt_of_le (lt2.1 k hk) fy3.len⟩) (fun k hk => ⟨ne3 k hk, Nat.lt_of_lt_of_le (lt3.1 k hk) fy4.len⟩) ne4 (Nat.le_trans fw2.len fy3.len) (Nat.le_trans fw3.len fy4.len)
  · intro k hk
    simp only [List.mem_append] at hk
    rcases hk with ((hk | hk) | hk) | hk
    · exact Nat.le_trans hfl1 (ne1 k hk)
    · exact Nat.le_trans hfl2 (ne2 k hk)
    · exact Nat.le_trans hfl3 (ne3 k hk)
    · exact Nat.le_trans hfl4 (ne4 k hk)
  · intro e
    obtain ⟨e, x1⟩ := hi4_ e
    obtain ⟨e, y1⟩ := hb4x e
    obtain ⟨e, x2⟩ := hi3_ e
    obtain ⟨e, y2⟩ := hb3x e
    obtain ⟨e, x3⟩ := hi2_ e
    obtain ⟨e, y3⟩ := hb2x e
    obtain ⟨e, x4⟩ := hi1_ e
    obtain ⟨e, y4⟩ := hb1x e
    obtain ⟨e, z5⟩ := hb5 e
    obtain ⟨e, z4⟩ := hb4 e
    obtain ⟨e, z3⟩ := hb3 e
    obtain ⟨e, z2⟩ := hb2 e
    obtain ⟨e, z1⟩ := hb1 e
    refine ⟨e, ?_⟩
    simp only [Pr.wt]; omega
  · rw [(hG1 hg').1, (hG2 hg').1, (hG3 hg').1, (hG4 hg').1, (hG5 hg').1, (en1 hg').1, (en2 hg').1, (en3 hg').1, (en4 hg').1]
end Go.Proofs.YtdonkjepjobhnaaDoor.IM
namespace Go.Proofs.IM
open Go Go.Proofs.Flt
theorem PrO.lt {m : Mem} {r : List AV} {p : Pr} {own : List Nat} (h : PrO m r p own) : ∀ k ∈ own, k < m.hp.length := by
  obtain ⟨s1, s2, s3, s4, o1, o2, o3, o4, h0, h1, h2, h3, h4, rfl⟩ := h
  have hl : ∀ {z : Nat} {s : AV} {rs : List (List AV)} {o : List Nat}, SlO m z s rs o → ∀ k ∈ o, k < m.hp.length := by
    intro z s rs o h k hk
    rcases h with ⟨rfl, rfl, rfl⟩ | ⟨j, n, c, B, rfl, h1, h2, h3, h4, rfl⟩
    · cases hk
    · cases List.mem_singleton.1 hk
      exact (List.getElem?_eq_some_iff.1 h1).1
  intro k hk
  simp only [List.mem_append] at hk
  rcases hk with ((hk | hk) | hk) | hk
  · exact hl h1 k hk
  · exact hl h2 k hk
  · exact hl h3 k hk
  · exact hl h4 k hk
structure RestP (m : Mem) (b : Nat) (rs : List (List AV)) (ps : List Pr) (os : List (List Nat)) (o : List Nat) : Prop where
  l1 : rs.length = ps.length
  l2 : os.length = ps.length
  pr : ∀ (i : Nat) (r : List AV) (p : Pr) (w : List Nat), rs[i]? = some r → ps[i]? = some p → os[i]? = some w → PrO m r p w
  nd : os.flatten.Nodup
  dj : ∀ k ∈ o, k ∉ os.flatten
  lo : ∀ k ∈ os.flatten, b ≤ k
  hi : ∀ k ∈ os.flatten, k < m.hp.length
theorem RestP.nil (m : Mem) (b : Nat) : RestP m b [] [] [] [] := ⟨rfl, rfl, by simp, by simp, by simp, by simp, by simp⟩
theorem RestP.ext {m m' : Mem} {b : Nat} {rs : List (List AV)} {ps : List Pr} {os : List (List Nat)} {o : List Nat} (h : RestP m b rs ps os o) (hl : m.hp.length ≤ m'.hp.length) (he : ∀ k ∈ os.flatten, m'.hp[k]? = m.hp[k]?) : RestP m' b rs ps os o :=
  ⟨h.l1, h.l2, fun i r p w hr hp hw => (h.pr i r p w hr hp hw).ext fun k hk => he k (List.mem_flatten.2 ⟨w, List.mem_of_getElem? hw, hk⟩), h.nd, h.dj, h.lo, fun k hk => Nat.lt_of_lt_of_le (h.hi k hk) hl⟩
theorem snoc_get {α : Type} {xs : List α} {x y : α} {i : Nat} (h : (xs ++ [x])[i]? = some y) : (i < xs.length ∧ xs[i]? = some y) ∨ (i = xs.length ∧ y = x) := by
  rcases Nat.lt_trichotomy i xs.length with h1 | h1 | h1
  · rw [List.getElem?_append_left h1] at h; exact .inl ⟨h1, h⟩
  · subst h1; simp at h; exact .inr ⟨rfl, h.symm⟩
  · rw [List.getElem?_eq_none (by simp; omega)] at h; cases h
theorem RestP.add {m : Mem} {b c : Nat} {rs : List (List AV)} {ps : List Pr} {os : List (List Nat)} {o : List Nat} {r : List AV} {p : Pr} {w : List Nat} (h : RestP m b rs ps os o) (hp : PrO m r p w) (hn : w.Nodup) (hc : ∀ k ∈ w, c ≤ k) (hbc : b ≤ c) (ho : ∀ k ∈ o, k < c) (hos : ∀ k ∈ os.flatten, k < c) :
    RestP m b (rs ++ [r]) (ps ++ [p]) (os ++ [w]) o := by
  have hfl : (os ++ [w]).flatten = os.flatten ++ w := by simp
  refine ⟨by simp [h.l1], by simp [h.l2], fun i r' p' w' h1 h2 h3 => ?_, ?_, ?_, ?_, ?_⟩
  · have e1 := h.l1
    have e2 := h.l2
    rcases snoc_get h1 with ⟨g1, h1⟩ | ⟨g1, rfl⟩
    · rcases snoc_get h2 with ⟨g2, h2⟩ | ⟨g2, -⟩
      · rcases snoc_get h3 with ⟨g3, h3⟩ | ⟨g3, -⟩
        · exact h.pr i r' p' w' h1 h2 h3
        · omega
      · omega
    · rcases snoc_get h2 with ⟨g2, -⟩ | ⟨-, rfl⟩
      · omega
      · rcases snoc_get h3 with ⟨g3, -⟩ | ⟨-, rfl⟩
        · omega
        · exact hp
  · rw [hfl, List.nodup_append]
    exact ⟨h.nd, hn, fun x hx y hy => by have := hos x hx; have := hc y hy; omega⟩
  · intro k hk; rw [hfl, List.mem_append]
    rintro (h1 | h1)
    · exact h.dj k hk h1
    · have := ho k hk; have := hc k h1; omega
  · intro k hk; rw [hfl, List.mem_append] at hk
    rcases hk with hk | hk
    · exact h.lo k hk
    · have := hc k hk; omega
  · intro k hk; rw [hfl, List.mem_append] at hk
    rcases hk with hk | hk
    · exact h.hi k hk
    · exact hp.lt k hk
/-- The slice itself has grown. -/
theorem RestP.grow {m m' : Mem} {b : Nat} {rs : List (List AV)} {ps : List Pr} {os : List (List Nat)} {o o' : List Nat} (h : RestP m b rs ps os o) (hl : m.hp.length ≤ m'.hp.length) (h5 : ∀ k, k < m.hp.length → k ∉ o → m'.hp[k]? = m.hp[k]?) (h6 : ∀ k ∈ o', k ∈ o ∨ m.hp.length ≤ k) : RestP m' b rs ps os o' := by
  have h1 := h.ext hl (fun k hk => h5 k (h.hi k hk) (fun ho => h.dj k ho hk))
  refine ⟨h1.l1, h1.l2, h1.pr, h1.nd, fun k hk hf => ?_, h1.lo, h1.hi⟩
  rcases h6 k hk with h7 | h7
  · exact h.dj k h7 hf
  · have := h.hi k hf; omega
theorem RestP.done {m : Mem} {b : Nat} {q : AV} {rs : List (List AV)} {ps : List Pr} {os : List (List Nat)} {o : List Nat} (h : RestP m b rs ps os o) (hs : SlG m 9 q rs o) : PsO m q ps (o ++ os.flatten) :=
  ⟨rs, o, os, hs.o, h.l1, h.l2, h.pr, rfl, by rw [List.nodup_append]; exact ⟨hs.lt.2, h.nd, fun x hx y hy e => h.dj x hx (by rw [e]; exact hy)⟩⟩
theorem GrowS.call {m0 mb m m' : Mem} {j : Nat} {s : AV} {bs : List UInt8} {i i' : Nat} {bad bad' : Bool} {z : Nat} {q : AV} {rs : List (List AV)} {own : List Nat} (h : GrowS m0 mb m j s bs i bad z q rs own) (hr : RsO m0 m' j s bs i' bad') (hf : Fra m m' j) : GrowS m0 mb m' j s bs i' bad' z q rs own :=
  ⟨hr, h.fr.trans hf, h.sl.fra hf (fun k hk => by have := h.new k hk; have := h.jl; omega), h.new, h.jl⟩
theorem Grow.call {m0 mb m m' : Mem} {j : Nat} {s : AV} {bs : List UInt8} {i i' : Nat} {z : Nat} {q : AV} {rs : List (List AV)} {own : List Nat} (h : Grow m0 mb m j s bs i z q rs own) (hr : RdO m0 m' j s bs i') (hf : Fra m m' j) : Grow m0 mb m' j s bs i' z q rs own :=
  ⟨hr, h.fr.trans hf, h.sl.fra hf (fun k hk => by have := h.new k hk; have := h.jl; omega), h.new, h.jl⟩
end Go.Proofs.IM
namespace Go.Proofs.IM
open Go Go.Proofs.Flt
def goodPs (ps : List Pr) : Prop := ∀ p ∈ ps, p.good
def isImg (bs : List UInt8) : Prop := ∃ xs, goodPs xs ∧ encode xs = some bs
open Classical in
/-- The code that the bytes are the image of; none, if there is none. -/
noncomputable def decF (bs : List UInt8) : List Pr := if h : isImg bs then Classical.choose h else []
theorem decF_some {bs : List UInt8} (h : isImg bs) : goodPs (decF bs) ∧ encode (decF bs) = some bs := by
  unfold decF; rw [dif_pos h]; exact Classical.choose_spec h
theorem decF_none {bs : List UInt8} (h : ¬ isImg bs) : decF bs = [] := by
  unfold decF; rw [dif_neg h]
theorem encLoop_bytes : ∀ {xs : List Pr} {b c : List UInt8}, encLoop xs b = some c → c = b ++ fm encP xs ∧ (xs ≠ [] → c.length ≤ 1000000) := by
  intro xs
  induction xs with
  | nil => intro b c h; simp only [encLoop, Option.some.injEq] at h; subst h; simp [fm]
  | cons x xs ih =>
    intro b c h
    simp only [encLoop] at h
    split at h
    · cases h
    · rename_i hl
      obtain ⟨h1, h2⟩ := ih h
      refine ⟨by rw [h1]; simp [fm], fun _ => ?_⟩
      by_cases hx : xs = []
      · subst hx
        simp only [encLoop, Option.some.injEq] at h
        rw [← h]; omega
      · exact h2 hx
theorem encode_bytes {ps : List Pr} {bs : List UInt8} (h : encode ps = some bs) : Parts ps ∧ bs = [72, 67, 1] ++ (encN ps.length ++ fm encP ps) ∧ bs.length ≤ 1000000 := by
  unfold encode at h
  split at h
  · cases h
  · rename_i h0
    have hP := (shape_zero (by simpa using h0)).1
    obtain ⟨h1, h2⟩ := encLoop_bytes h
    exact ⟨hP, by rw [h1, List.append_assoc], h2 (fun e => hP.n0 (by rw [e]; rfl))⟩
theorem img_facts {bs : List UInt8} (h : isImg bs) : goodPs (decF bs) ∧ (∀ p ∈ decF bs, ∀ c ∈ p.consts, cok c = true) ∧ bs = [72, 67, 1] ++ (encN (decF bs).length ++ fm encP (decF bs)) ∧ 3 ≤ bs.length ∧ bs.length ≤ 1000000 ∧ encode (decF bs) = some bs := by
  obtain ⟨h1, h2⟩ := decF_some h
  obtain ⟨h3, h4, h5⟩ := encode_bytes h2
  refine ⟨h1, fun p hp c hc => ?_, h4, ?_, h5, h2⟩
  · obtain ⟨i, hi, rfl⟩ := List.getElem_of_mem hp
    obtain ⟨j, hj, rfl⟩ := List.getElem_of_mem hc
    exact h3.cst i hi j hj
  · rw [h4]; simp
theorem dec_yes {bs : List UInt8} {ps : List Pr} (hp : goodPs ps) (hg : isImg bs → ps = decF bs) (h : encode ps = some bs) : ps = decF bs := hg ⟨ps, hp, h⟩
theorem dec_no {bs : List UInt8} {ps : List Pr} (hg : isImg bs → ps = decF bs) (h : encode ps ≠ some bs) : decF bs = [] := decF_none fun hi => h (by rw [hg hi]; exact (decF_some hi).2)
theorem encP_pos (p : Pr) : 1 ≤ (encP p).length := by have := encT_pos p.s; simp only [encP, List.length_append]; omega
end Go.Proofs.IM
namespace Go.Proofs.YtdonkjepjobhnaaDoor.IM
open Go Go.Proofs.IM Go.Proofs.Flt
set_option maxHeartbeats 8000000
set_option maxRecDepth 100000
theorem s_specDecode {m : Mem} {jj : Nat} {bs : List UInt8} {K : AR → Mem → Prop} (hb : m.hp[jj]? = some ⟨bs.map bR, 1⟩) (hl : bs.length ≤ 1048576)
    (h : ∀ (q : AV) (own : List Nat) (m' : Mem), m.le m' → PsO m' q (decF bs) own → (∀ k ∈ own, m.hp.length ≤ k) → K (.ret (.agg [q])) m') : Sim Tryd.prog 9 [.sl (.hp jj) 0 bs.length bs.length] m K := by
  refine entry (cxok [18]) Tryd.func9 rfl rfl (by decide) (by decide) ?_
  have hnil : decF bs = [] → ∀ m', m.le m' → K (.ret (.agg [.nils])) m' := fun e m' hm => by
    refine h .nils [] m' hm ?_ (by simp)
    rw [e]
    exact (RestP.nil m' 0).done (SlG.nil m' 9)
  by_cases hlen : bs.length < 3 ∨ 1000000 < bs.length
  · have hz := hnil (decF_none fun hi => by have := img_facts hi; omega) m (Mem.le.refl m)
    by_cases h3 : (bs.length : Int) < 3
    · exact gox_
    · have h4 : (1000000 : Int) < bs.length := by omega
      exact gox_
  have h3 : ¬ (bs.length : Int) < 3 := by omega
  have h4 : ¬ (1000000 : Int) < bs.length := by omega
  refine goh_ ?_
  have hr0 : RsO m (m.push ⟨[[.sl (.hp jj) 0 bs.length bs.length, .int .i64 3, .bool false]], 3⟩) m.hp.length (.sl (.hp jj) 0 bs.length bs.length) bs 3 false :=
    ⟨Mem.le.push m _, Nat.le_refl _, ⟨jj, rfl, hb⟩, by omega, hl, by simp [Mem.push]⟩
  have hgi : isImg bs → _ := fun hi => img_facts hi
  refine s_scount (decF bs).length (fm encP (decF bs)) (isImg bs) hr0 (fun hg' => ⟨rfl, ?_, fm_ge encP_pos _⟩) (fun k1 j1 c1 hk1 hc1 hb1 hE1 => ?_)
  · have e := (hgi hg').2.2.1
    have e2 := congrArg (List.drop 3) e
    rw [e2]; rfl
  have gr1 := GrowS.start (hr0.set (i' := j1) (by omega) c1) 9
  have hle1 := (hr0.set (i' := j1) (by omega) c1).le
  have hlen1 : m.hp.length ≤ ((m.push ⟨[[.sl (.hp jj) 0 bs.length bs.length, .int .i64 3, .bool false]], 3⟩).rs m.hp.length (.sl (.hp jj) 0 bs.length bs.length) j1 c1).hp.length := hle1.len
  generalize (m.push ⟨[[.sl (.hp jj) 0 bs.length bs.length, .int .i64 3, .bool false]], 3⟩).rs m.hp.length (.sl (.hp jj) 0 bs.length bs.length) j1 c1 = mb at *
  refine goh_ ?_
  refine loop_ (fun kk t l c m' => ∃ (d i' : Nat) (bd : Bool) (us : List Pr) (sc : AV) (own : List Nat) (rs : List (List AV)) (os : List (List Nat)), (t 0 = .sl (.hp jj) 0 bs.length bs.length ∧ t 2 = .ptr (.lc 0) 0 0 ∧ t 3 = .ptr (.hp m.hp.length) 0 0 ∧ t 4 = .ptr (.lc 13) 0 0 ∧ t 5 = .int .i64 d ∧ 14 ≤ c) ∧
      (l 0 = some ⟨[[.nils]], 1⟩ ∧ l 13 = some ⟨[[sc]], 1⟩) ∧
      GrowS m mb m' m.hp.length (.sl (.hp jj) 0 bs.length bs.length) bs i' bd 9 sc rs own ∧ RestP m' mb.hp.length rs us os own ∧ goodPs us ∧ (bd = false → c1 = false ∧ j1 + us.length + sumBy Pr.wt us ≤ i') ∧ us.length + d = k1 ∧ (isImg bs → bd = false ∧ (decF bs).take us.length = us ∧ (decF bs).length = us.length + d ∧ bs.drop i' = fm encP ((decF bs).drop us.length) ++ []) ∧ kk = d) k1 ?_ ?_
  · refine ⟨k1, j1, c1, [], .nils, [], [], [], ⟨rfl, rfl, rfl, rfl, rfl, by omega⟩, ⟨rfl, rfl⟩, gr1, RestP.nil _ _, by simp [goodPs], fun e => ⟨e, by simp [sumBy]⟩, by simp, fun hg' => ⟨(hE1 hg').2.2, by simp, by rw [(hE1 hg').1]; simp, ?_⟩, rfl⟩
    rw [(hE1 hg').2.1]; simp
  intro kk t l c m1 KN ⟨d, i', bd, us, sc, own, rs, os, ⟨t0, t2, t3, t4, t5, hc14⟩, ⟨l0, l1⟩, gr, hR, hus, hiu, hud, hG, hkk⟩ next
  have hi' := gr.rd.pos
  have hrow := gr.rd.row
  refine exit_cut (fun t l c m' => m' = m1 ∧ (t 0 = .sl (.hp jj) 0 bs.length bs.length ∧ t 2 = .ptr (.lc 0) 0 0 ∧ t 3 = .ptr (.hp m.hp.length) 0 0 ∧ t 4 = .ptr (.lc 13) 0 0 ∧ (bd = true ∨ d = 0)) ∧
      (l 0 = some ⟨[[.nils]], 1⟩ ∧ l 13 = some ⟨[[sc]], 1⟩)) ?_ ?_
  rotate_left
  · intro KE hKE
    by_cases hd0 : d = 0
    · subst hd0
      have hz : ¬ (0 : Int) < 0 := by omega
      refine goh_ ?_
      exact hKE _ _ _ _ ⟨rfl, ⟨t0, t2, t3, t4, .inr rfl⟩, l0, l1⟩
    have hz : (0 : Int) < (d : Int) := by omega
    cases bd with
    | true =>
      refine goh_ ?_
      exact hKE _ _ _ _ ⟨rfl, ⟨t0, t2, t3, t4, .inl rfl⟩, l0, l1⟩
    | false =>
    have hw : IntKind.i64.wrap ((d : Int) - 1) = ((d - 1 : Nat) : Int) := by
      have : IntKind.i64.wrap ((d : Int) - 1) = (d : Int) - 1 := w64_id (by omega)
      rw [this]; omega
    have hst : isImg bs → _ := fun hg' => step_g (f := encP) ⟨ByteArray.empty, 0, 0, false, 0, [], [], [], []⟩ (hG hg').2.1 (hG hg').2.2.1 (by omega)
    generalize hy : ((decF bs)[us.length]?.getD ⟨ByteArray.empty, 0, 0, false, 0, [], [], [], []⟩) = y at hst
    obtain ⟨p1, p2, p3, p4⟩ := gr.sl.facts
    clear hKE
    have hup : ∀ (f : Nat → Option Blk) (X : Option Blk) (k : Nat), upd f (c + k) X 13 = f 13 := by
      intro f X k; unfold upd; rw [if_neg (by omega)]
    refine goh_ ?_
    refine s_sproto y _ (isImg bs) gr.rd (fun hg' => ⟨rfl, (hgi hg').1 _ (hst hg').2.2, (hgi hg').2.1 _ (hst hg').2.2, by rw [(hG hg').2.2.2, (hst hg').1, List.append_assoc]⟩) (fun q i2 b2 m2 r w hr2 hf2 hP2 hn2 hw2 hq2 hb2 hE2 => ?_)
    have gr2 := gr.call hr2 hf2
    have hmb := gr.fr.len
    have hR2 := hR.ext hf2.len (fun k hk => hf2.hp k (hR.hi k hk) (by have := hR.lo k hk; have := gr.jl; omega))
    have hR3 := hR2.add hP2 hn2 hw2 hmb gr.sl.lt.1 hR.hi
    obtain ⟨s1, s2, s3, s4, o1, o2, o3, o4, rfl, g1, g2, g3, g4, -⟩ := hP2
    obtain ⟨x1, x2, x3, x4⟩ := g1.r.facts
    obtain ⟨y1, y2, y3, y4⟩ := g2.r.facts
    obtain ⟨z1, z2, z3, z4⟩ := g3.r.facts
    obtain ⟨u1, u2, u3, u4⟩ := g4.r.facts
    clear g1 g2 g3 g4
    refine goh_ ?_
    have gr3 := gr2.push ⟨[[.str q.s, .int .i64 q.line, .int .i64 q.params, .bool q.rest, .int .i64 q.regs, s1, s2, s3, s4]], 9⟩
    have hR4 := hR3.ext (m' := m2.push ⟨[[.str q.s, .int .i64 q.line, .int .i64 q.params, .bool q.rest, .int .i64 q.regs, s1, s2, s3, s4]], 9⟩) (by rw [push_len]; omega) (fun k hk => by
      show (m2.hp ++ _)[k]? = _
      rw [List.getElem?_append_left (hR3.hi k hk)])
    refine aApp_one (r := [.str q.s, .int .i64 q.line, .int .i64 q.params, .bool q.rest, .int .i64 q.regs, s1, s2, s3, s4]) rfl gr3.sl rfl (by decide) ?_ push_row ?_ ?_ ?_
    · decide
    · simp only [List.length_cons, List.length_nil, List.all_cons, List.all_nil, x1, y1, z1, u1]; rfl
    · have := hR.l1; omega
    intro s' m3 own' e1 e2 e3 e4 e5 e6
    have gr4 := gr3.app e1 e2 e3 e4 e5 e6
    have hR5 := hR4.grow e4 e5 e6
    obtain ⟨p1, p2, p3, p4⟩ := gr4.sl.facts
    refine goh_ ?_
    refine next _ _ _ _ _ ?_ ⟨d - 1, i2, b2, us ++ [q], s', own', _, os ++ [w], ⟨t0, t2, t3, t4, rfl, by omega⟩, ⟨l0, rfl⟩, gr4, hR5, ?_, ?_, ?_, fun hg' => ?_, rfl⟩
    · omega
    · intro x hx
      rcases List.mem_append.1 hx with hx | hx
      · exact hus x hx
      · cases List.mem_singleton.1 hx; exact hq2
    · intro e
      obtain ⟨_, hh⟩ := hb2 e
      obtain ⟨hc0, hc1⟩ := hiu rfl
      refine ⟨hc0, ?_⟩
      simp only [List.length_append, List.length_singleton, sumBy_app, sumBy]; omega
    · rw [List.length_append, List.length_singleton]; omega
    · obtain ⟨a0, a1, a2, a3⟩ := hG hg'
      obtain ⟨b1, b2, b3⟩ := hst hg'
      obtain ⟨ey, hdr, hbb⟩ := hE2 hg'
      refine ⟨hbb, ?_, ?_, ?_⟩
      · rw [List.length_append, List.length_singleton, b2, ey]
      · rw [List.length_append, List.length_singleton]; omega
      · rw [List.length_append, List.length_singleton]; exact hdr
  intro t l c m' ⟨hmm, ⟨t0, t2, t3, t4, hex⟩, l0, l1⟩
  subst m'
  have hus_ : isImg bs → us = decF bs ∧ bd = false := fun hg' => by
    obtain ⟨a0, a1, a2, a3⟩ := hG hg'
    rcases hex with hex | hex
    · rw [a0] at hex; cases hex
    subst hex
    exact ⟨(end_g (f := encP) a1 a2).1, a0⟩
  obtain ⟨p1, p2, p3, p4⟩ := gr.sl.facts
  have hle := gr.rd.le
  have hps := hR.done gr.sl
  have hnew : ∀ k ∈ own ++ os.flatten, m.hp.length ≤ k := fun k hk => by
    rcases List.mem_append.1 hk with hk | hk
    · exact Nat.le_trans hlen1 (gr.new k hk)
    · exact Nat.le_trans hlen1 (hR.lo k hk)
  cases bd with
  | true =>
    have hz := hnil (decF_none fun hi => by have := (hus_ hi).2; cases this) m1 hle
    refine goh_ ?_
    refine draw_ [(0, .pure), (1, .pure), (2, .pure), (3, .read), (4, .pure), (5, .read), (8, .pure), (9, .read), (6, .step [9]), (7, .read), (10, .pure), (11, .pure)] (by kernel_rfl) ?_
    exact gox_
  | false =>
    have hwt : wtC us ≤ 1048576 := by
      obtain ⟨_, h1⟩ := hiu rfl
      have := gr.rd.pos
      unfold wtC; omega
    have hb1 : m1.hp[jj]? = some ⟨bs.map bR, 1⟩ := hle.hp _ _ hb
    have hrows : ∀ (l : Go.Proofs.IM.Loc) (mm : Mem), m1.le mm → rows? l mm (.hp jj) 0 bs.length = some (bs.map bR) := fun l mm hmm => by
      have h1 : mm.hp[jj]? = some ⟨bs.map bR, 1⟩ := hmm.hp _ _ hb1
      simp only [rows?, blk?, h1, Option.bind_some]
      rw [if_pos (by simp), List.drop_zero]
      have := List.take_length (l := bs.map bR)
      rw [List.length_map] at this; rw [this]
    have hr1 := fun l => hrows l m1 (Mem.le.refl m1)
    have hbb := bytes_bR bs
    have hlen2 : us.length ≤ 9223372036854775807 := by have := gr.rd.pos; omega
    have hyes := dec_yes hus (fun hi => (hus_ hi).1)
    have hno := dec_no (fun hi => (hus_ hi).1)
    cases hE : encode us with
    | none =>
      refine goh_ ?_
      refine draw_ [(0, .pure), (1, .pure), (2, .pure), (3, .read), (4, .pure), (5, .read), (8, .pure), (9, .read), (6, .step [9]), (7, .step [9]), (10, .pure), (11, .pure)] (by kernel_rfl) ?_
      refine goh_ ?_
      refine s_specEncode hps.r hlen2 hus hwt ?_
      rw [hE]
      intro m2 hm2
      have hz := hnil (hno (by rw [hE]; simp)) m2 (hle.trans hm2)
      have hb2 : m2.hp[jj]? = some ⟨bs.map bR, 1⟩ := hm2.hp _ _ hb1
      have hne : (([] : List UInt8) == (ByteArray.mk bs.toArray).toList) = false := by
        rw [beq_eq_false_iff_ne, ByteArray.toList_eq]
        intro e
        have := congrArg List.length e
        simp at this; omega
      exact gox_
    | some b =>
      refine goh_ ?_
      refine draw_ [(0, .pure), (1, .pure), (2, .pure), (3, .read), (4, .pure), (5, .read), (8, .pure), (9, .read), (6, .step [9]), (7, .read), (10, .pure), (11, .pure)] (by kernel_rfl) ?_
      refine goh_ ?_
      refine s_specEncode hps.r hlen2 hus hwt ?_
      rw [hE]
      intro s2 m2 hs2
      have hb2 : m2.hp[jj]? = some ⟨bs.map bR, 1⟩ := hs2.le.hp _ _ hb1
      obtain ⟨f1, f2, f3, f4⟩ := hs2.facts
      have hm2 := hs2.le
      have hm2_ext : ∀ k ∈ own ++ os.flatten, m2.hp[k]? = m1.hp[k]? := fun k hk => by
        have hk1 : k < m1.hp.length := by
          rcases List.mem_append.1 hk with hk | hk
          · exact gr.sl.lt.1 k hk
          · exact hR.hi k hk
        rw [hm2.hp k _ (List.getElem?_eq_getElem hk1)]; simp [hk1]
      obtain ⟨-, j', hj', cc, B, rfl, q1, q2, q3, q4, q5⟩ := hs2
      have hr2 : ∀ l : Go.Proofs.IM.Loc, rows? l m2 (.hp j') 0 b.length = some (b.map bR) := fun l => by
        simp only [rows?, blk?, q1, Option.bind_some]
        rw [if_pos (by omega), List.drop_zero, q5]
      have hb3 := bytes_bR b
      refine goh_ ?_
      have hbeq : ((ByteArray.mk b.toArray).toList == (ByteArray.mk bs.toArray).toList) = decide (b = bs) := by
        rw [ByteArray.toList_eq, ByteArray.toList_eq, Bool.eq_iff_iff]; simp
      rw [hbeq]
      by_cases hbb' : b = bs
      · subst hbb'
        have hx := hyes hE
        rw [hx] at hps
        simp only [decide_true, Bool.not_true, Bool.false_eq_true, false_implies, true_implies, true_and]
        exact h sc _ m2 (hle.trans hm2) (hps.ext fun k hk => hm2_ext k hk) hnew
      · have hz := hnil (hno (by rw [hE]; simpa using hbb')) m2 (hle.trans hm2)
        simp only [hbb', decide_false, Bool.not_false, true_implies, Bool.true_eq_false, false_implies, and_true]
        exact hz
end Go.Proofs.YtdonkjepjobhnaaDoor.IM
namespace Go.Proofs.YtdonkjepjobhnaaDoor.IM
open Go Go.RowKit Go.Proofs.IM
set_option maxHeartbeats 8000000
set_option linter.unusedSimpArgs false
set_option maxRecDepth 100000
theorem catch_idle (p : Addr) (w : World) :
    CallsD Tryd.prog 36 #[.pointer (some p)] .returning w fun e u' w' => e = .returned (.tuple #[]) ∧ u' = .returning ∧ w' = w := by
  refine callsD_of_wpS Tryd.func36 rfl fun c₀ cs hu => ?_
  apply wpS_seq
  apply wpS_region
  simp [wpOpsS, go_sem, recoverD, hu, Tryd.ntmps36, Exit.thenS]
  apply wpS_seq
  apply wpS_region
  simp [wpOpsS, go_sem, recoverD, hu, Tryd.ntmps36, Exit.thenS]
  refine wpS_cond (t := false) (by simp [Act.eval, Array.replicate]) ?_
  simp only [Bool.false_eq_true, if_false]
  refine wpS_of_wp (wp_skip ?_)
  cases c₀
  simp_all [bodyPostS, results, Tryd.results36]
@[go_sem] theorem as_short (v : Value) (w : World) : (Instr.typeAssert (.iface 70 v) 20 70 true).run Tryd.prog w = .ok (.tuple #[v, .bool true]) w := by kernel_rfl
theorem catch_short (p : Addr) (x : Value) (w : World) (hc : w.cell? p = some x) (hz : w.frozen? p = false) :
    CallsD Tryd.prog 36 #[.pointer (some p)] (.panicking [{ v := shortV, recovered := false }]) w fun e u' w' =>
      e = .returned (.tuple #[]) ∧ u' = .panicking [{ v := shortV, recovered := true }] ∧ ∃ o, w' = (w.alloc o).setCell p (.slice none 0 0) := by
  refine callsD_of_wpS Tryd.func36 rfl fun c₀ cs hu => ?_
  apply wpS_seq
  apply wpS_region
  simp [wpOpsS, go_sem, recoverD, hu, Tryd.ntmps36, Exit.thenS, shortV]
  apply wpS_seq
  apply wpS_region
  simp [wpOpsS, go_sem, recoverD, hu, Tryd.ntmps36, Exit.thenS]
  refine wpS_cond (t := true) (by simp [Act.eval, Array.replicate]) ?_
  simp only [if_true]
  apply wpS_seq
  apply wpS_seq
  apply wpS_region
  simp [wpOpsS, go_sem, recoverD, hu, Tryd.ntmps36, Exit.thenS]
  apply wpS_seq
  apply wpS_region
  simp [wpOpsS, go_sem, recoverD, hu, Tryd.ntmps36, Exit.thenS]
  refine wpS_cond (t := false) (by simp [Act.eval, Array.replicate]) ?_
  simp only [Bool.false_eq_true, if_false]
  refine wpS_of_wp (wp_skip ?_)
  simp only [Exit.thenS]
  have hlt : p.block < w.heap.size := by
    rcases Nat.lt_or_ge p.block w.heap.size with h | h
    · exact h
    · simp [World.cell?, Array.getElem?_eq_none h] at hc
  have hc2 : ∀ o, (w.alloc o).cell? p = some x := fun o => by rw [← hc]; unfold World.cell?; rw [heap_push_lt w o hlt]
  have hz2 : ∀ o, (w.alloc o).frozen? p = false := fun o => by rw [← hz]; unfold World.frozen?; rw [heap_push_lt w o hlt]
  apply wpS_region
  simp [wpOpsS, go_sem, hc2, hz2, bodyPostS, results, Tryd.results36]
  exact ⟨_, rfl⟩
end Go.Proofs.YtdonkjepjobhnaaDoor.IM
namespace Go.Proofs.IM
open Go Go.RowKit
theorem Rel.forget {Ei E : Env} {wi w : World} {L : Pl} {l : Loc} {m : Mem} (h : Rel Ei wi E L l m w) : Rel Ei wi E noPl (fun _ => none) m w :=
  ⟨h.m, ⟨fun j B hj => (by cases hj), fun _ _ => rfl, fun j b s hj => (by cases hj), fun j j' b s s' hj => (by cases hj), fun j k b s s' hj => (by cases hj)⟩, ⟨h.e.le, h.e.sz, h.e.fr, h.e.ownh, fun j b s hj => by cases hj⟩⟩
theorem MR.pushed {E : Env} {m : Mem} {w : World} (h : MR E m w) (o : Obj) : MR E m (w.alloc o) :=
  have hbw : E.base ≤ w.heap.size := Nat.le_trans h.bsz h.bel.size
  ⟨h.bel.trans ⟨rfl, rfl, rfl, by simp, fun k hk => heap_push_lt w _ (Nat.lt_of_lt_of_le hk hbw)⟩, h.bsz, fun j B hj => let ⟨b, e, a⟩ := h.hp j B hj; ⟨b, e, a.same (heap_push_lt w _ a.lt)⟩, h.hpd, h.hpb, h.inj, h.ro, h.gl, h.fc⟩
theorem Rel.pushed {Ei E : Env} {wi w : World} {m : Mem} (h : Rel Ei wi E noPl (fun _ => none) m w) (o : Obj) : Rel Ei wi E noPl (fun _ => none) m (w.alloc o) :=
  ⟨h.m.pushed o, ⟨fun j B hj => (by cases hj), fun _ _ => rfl, fun j b s hj => (by cases hj), fun j j' b s s' hj => (by cases hj), fun j k b s s' hj => (by cases hj)⟩,
    ⟨h.e.le, by have := h.e.sz; simp; omega, fun b hb hn => by rw [heap_push_lt w o (Nat.lt_of_lt_of_le hb h.e.sz)]; exact h.e.fr b hb hn, h.e.ownh, h.e.ownl⟩⟩
theorem leaves_congr {P : Program} {fn : Func} {t t' : Array Value} {R : Ending → World → Prop} (h : results fn t = results fn t') : ∀ (ds : List Deferred) (u : FrameMode) (w : World), Leaves P fn t R ds u w → Leaves P fn t' R ds u w := by
  intro ds
  induction ds with
  | nil =>
    intro u w hl
    cases u with
    | run => exact hl
    | returning => simp only [Leaves] at hl ⊢; rw [← h]; exact hl
    | panicking c => exact hl
  | cons d ds ih =>
    intro u w hl
    simp only [Leaves] at hl ⊢
    obtain ⟨h1, fv, cap, f, args, h2, h3, h4⟩ := hl
    refine ⟨h1, fv, cap, f, args, h2, h3, h4.mono fun e u' w' hr => ?_⟩
    cases e with
    | returned v => exact ih _ _ hr
    | panicked c => exact ih _ _ hr
    | outgrown => exact hr
/-- The cell of the result is set to nil. -/
theorem Rel.cellNil {Ei E : Env} {wi w : World} {m : Mem} (h : Rel Ei wi E noPl (fun _ => none) m w) {j b : Nat} {q : AV} (hj : m.hp[j]? = some ⟨[[q]], 1⟩) (hb : E.h j = some (b, 1)) (o : Obj) :
    Rel Ei wi E noPl (fun _ => none) { m with hp := m.hp.set j ⟨[[.nils]], 1⟩ } ((w.alloc o).setCell ⟨b, 0, none⟩ (.slice none 0 0)) ∧ (∃ x, w.cell? ⟨b, 0, none⟩ = some x) ∧ w.frozen? ⟨b, 0, none⟩ = false := by
  have h' := h.pushed o
  obtain ⟨b', hb', hat⟩ := h'.m.hp j _ hj
  obtain ⟨b2, hb2, hat2⟩ := h.m.hp j _ hj
  rw [hb] at hb' hb2
  cases hb'; cases hb2
  obtain ⟨cs, ty, e1, e2⟩ := hat.2 (by simp)
  obtain ⟨cs2, ty2, e3, e4⟩ := hat2.2 (by simp)
  obtain ⟨-, e5⟩ := e2 0 [q] rfl
  obtain ⟨x, e6, -⟩ := e5 0 q rfl
  obtain ⟨-, e7⟩ := e4 0 [q] rfl
  obtain ⟨x2, e8, -⟩ := e7 0 q rfl
  simp at e6 e8
  refine ⟨?_, ⟨x2, ?_⟩, ?_⟩
  · refine h'.wroteHp (B' := ⟨[[.nils]], 1⟩) hj hb rfl (cs := cs.setIfInBounds 0 (.slice none 0 0)) ?_ ?_
    · intro i row hi
      cases i with
      | zero =>
        cases hi
        refine ⟨rfl, fun o v ho => ?_⟩
        cases o with
        | zero =>
          cases ho
          have : 0 < cs.size := (Array.getElem?_eq_some_iff.1 e6).1
          exact ⟨.slice none 0 0, by simp [this], .nils, rfl⟩
        | succ o => cases ho
      | succ i => cases hi
    · generalize w.alloc o = w2 at *
      have hb3 := (Array.getElem?_eq_some_iff.1 e1)
      obtain ⟨hb3, hb4⟩ := hb3
      refine ⟨⟨ty, ?_⟩, ?_, fun k hk => ?_, rfl, rfl, rfl⟩
      · simp [World.setCell, Array.getElem?_modify, e1]
      · simp [World.setCell]
      · simp [World.setCell, Array.getElem?_modify, Ne.symm hk]
  · simp only [World.cell?, e3]; exact e8
  · simp [World.frozen?, e3]
end Go.Proofs.IM
namespace Go.Proofs.YtdonkjepjobhnaaDoor.IM
open Go Go.RowKit Go.Proofs.IM
set_option maxHeartbeats 8000000
set_option maxRecDepth 100000
theorem wp_imp {P : Program} {c : Code} {Q Q' : Exit → Act → World → Prop} {a : Act} {w : World} (h : c.wp P Q a w) (hi : ∀ e a w, Q e a w → Q' e a w) : c.wp P Q' a w :=
  fun b k cs => let ⟨e, a', w', q, r⟩ := h b k cs; ⟨e, a', w', hi _ _ _ q, r⟩
/-- What is asked at a panic behind the defer. -/
def KPD (j2 : Nat) (K : AR → Mem → Prop) (v : Value) (m : Mem) : Prop := v = shortV ∧ (∃ q, m.hp[j2]? = some ⟨[[q]], 1⟩) ∧ K (.ret (.agg [.nils])) { m with hp := m.hp.set j2 ⟨[[.nils]], 1⟩ }
abbrev defD (p : Addr) : Deferred := { target := .fn (.func 36) #[.pointer (some p)], args := #[] }
theorem r3_ok {Q : Exit → Act → World → Prop} {a : Act} {w : World} {p : Addr} {ops : Array Oper} {t1 t2 : TypeId} {s1 s2 : String} {a1 a2 : Array Edge} (h2 : a.tmps.getD 2 undef = .pointer (some p)) (hd : a.defers = []) (hs : 56 ≤ a.tmps.size)
    (ho : ops = #[{ dst := some 9, op := .makeFunc (.func 36) #[] #[.tmp 2], type := t1, pos := s1, after := a1, guard := none }, { dst := none, op := .defer { callee := .value (.tmp 9), args := #[], argTypes := #[] }, type := t2, pos := s2, after := a2, guard := none }])
    (h : ∀ x, Q .normal { tmps := a.tmps.setIfInBounds 9 x, defers := [defD p] } w) : (Code.region 3 ops false).wp Tryd.prog Q a w := by
  subst ho
  have hmf : ∀ (fn : Fn) (first cap : Array Value) (w : World), (Instr.makeFunc fn first cap).run Tryd.prog w = .ok (.func fn first cap) w := fun _ _ _ _ => rfl
  obtain ⟨tm, df⟩ := a
  simp only at h2 hd hs
  subst hd
  have h9 : 9 < tm.size := by omega
  apply wp_region
  simp [wpOps, go_sem, hmf, Act.eval, h2, h9]
  exact .inl (.inl (h _))
theorem put_get {tm : Array Value} {i d : Nat} {x : Value} (h : i ≠ d) : (tm.setIfInBounds d x).getD i undef = tm.getD i undef := by
  simp only [Array.getD_eq_getD_getElem?, Array.getElem?_setIfInBounds]
  rw [if_neg (fun e => h e.symm)]
theorem res11 (tm tm' : Array Value) (h : tm.getD 2 undef = tm'.getD 2 undef) : results Tryd.f11 tm = results Tryd.f11 tm' := by
  rw [results_eq, results_eq]
  have : (Tryd.f11).results = #[.cell 2 25] := rfl
  rw [this]
  simp only [List.mapM_toArray, List.mapM_cons, List.mapM_nil, resOne, h]
theorem entryD {r0 rc rest : Code} {ops : Array Oper} {t1 t2 : TypeId} {s1 s2 : String} {a1 a2 : Array Edge} (hb : (Tryd.f11).body = some (r0.seq (rc.seq ((Code.region 3 ops false).seq rest))))
    (ho : ops = #[{ dst := some 9, op := .makeFunc (.func 36) #[] #[.tmp 2], type := t1, pos := s1, after := a1, guard := none }, { dst := none, op := .defer { callee := .value (.tmp 9), args := #[], argTypes := #[] }, type := t2, pos := s2, after := a2, guard := none }])
    (hk0 : codeOk ⟨56, [], []⟩ r0 = true) (hkc : codeOk ⟨56, [], []⟩ rc = true) (hkr : ∀ D p, codeOk ⟨56, D, [(2, p)]⟩ rest = true) {args : List AV} {m : Mem} {K : AR → Mem → Prop}
    (h : aCode (cx [2, 12]) r0 (fun st m1 => aCode (cx [2, 12]) rc (fun st m2 => ∃ j2, st.t 2 = .ptr (.hp j2) 0 0 ∧ aCode (cx [2, 12]) rest (fun _ _ => False) noX (aRet (cx [2, 12]) (Tryd.f11).results K) (KPD j2 K) ⟨upd st.t 9 .undef, st.l, st.c + 2⟩ m2)
      noX (aRet (cx [2, 12]) (Tryd.f11).results K) (aPan K) st m1) noX (aRet (cx [2, 12]) (Tryd.f11).results K) (aPan K) (st0 args) m) : Sim Tryd.prog 11 args m K := by
  have hC : CxOk (cx [2, 12]) := cxok [2, 12]
  intro E w xs hm hx
  refine .inl ⟨by kernel_rfl, calls_of_wp_defers Tryd.func11 hb ?_⟩
  have hrel : Rel E w E noPl (fun _ => none) m w := ⟨hm, ⟨fun j B hj => by simp at hj, fun j _ => rfl, fun j b s hj => by simp [noPl] at hj, fun j j' b s s' hj => by simp [noPl] at hj, fun j k b s s' hj => by simp [noPl] at hj⟩,
    ⟨Env.le.refl E, Nat.le_refl _, fun b _ _ => rfl, fun j b s hj => .inr hj, fun j b s hj => by simp [noPl] at hj⟩⟩
  have hS : SR E w ⟨56, [], []⟩ E noPl (st0 args) m { tmps := xs ++ Array.replicate ((Tryd.f11).ntmps - xs.size) undef, defers := [] } w := by
    refine ⟨hrel, fun n => ?_, ⟨rfl, fun p hp => by cases hp⟩, by have : (Tryd.f11).ntmps = 56 := rfl
                                                                  simp [this]; omega⟩
    simp only [st0, Array.getD_eq_getD_getElem?, Array.getElem?_append, Array.getElem?_replicate, List.getD_eq_getElem?_getD]
    by_cases hn : n < xs.size
    · rw [if_pos hn]
      have h1 : args[n]? = some (args[n]'(by rw [hx.1]; exact hn)) := by simp [hx.1, hn]
      have h2 : xs[n]? = some xs[n] := by simp [hn]
      rw [h1, h2]
      exact hx.2 n _ _ h1 h2
    · rw [if_neg hn, List.getElem?_eq_none (by rw [hx.1]; omega)]
      have : ((if n - xs.size < (Tryd.f11).ntmps - xs.size then some undef else none).getD undef) = undef := by split <;> rfl
      rw [this]
      exact .tup [] #[] rfl (fun i c v hc => by simp at hc)
  -- ahead of the defer nothing is deferred
  let Q1 (Y : Act → World → Prop) : Exit → Act → World → Prop := fun e a w' => match e with
    | .normal => Y a w'
    | .ret => a.defers = [] ∧ ∃ v, (results Tryd.f11 a.tmps).run Tryd.prog w' = .ok v w' ∧ SimEnd E w K (.returned v) w'
    | .panic c => a.defers = [] ∧ SimEnd E w K (.panicked c) w'
    | _ => False
  have hQ1 : ∀ Y e a w', Q1 Y e a w' → (Exit.then Y (bodyPostD Tryd.prog Tryd.f11 (SimEnd E w K))) e a w' := by
    intro Y e a w' hq
    cases e with
    | normal => exact hq
    | ret => show Leaves _ _ _ _ a.defers _ _; obtain ⟨h1, h2⟩ := hq; rw [h1]; exact h2
    | panic c => show Leaves _ _ _ _ a.defers _ _; obtain ⟨h1, h2⟩ := hq; rw [h1]; exact h2
    | exit id => exact hq.elim
    | goto l => exact hq.elim
    | outgrown => exact hq.elim
  have pre : ∀ (c : Code) (KN : St → Mem → Prop) (Y : Act → World → Prop), codeOk ⟨56, [], []⟩ c = true →
      (∀ E' L st m a w', SR E w ⟨56, [], []⟩ E' L st m a w' → Fr L st.c → KN st m → Y a w') →
      ∀ E' L st m a w', SR E w ⟨56, [], []⟩ E' L st m a w' → Fr L st.c → aCode (cx [2, 12]) c KN noX (aRet (cx [2, 12]) (Tryd.f11).results K) (aPan K) st m → c.wp Tryd.prog (Exit.then Y (bodyPostD Tryd.prog Tryd.f11 (SimEnd E w K))) a w' := by
    intro c KN Y hk hY E' L st m a w' hS hF hc
    refine wp_imp (Q := Q1 Y) ?_ (hQ1 Y)
    refine aCode_ok (N := ⟨56, [], []⟩) (KN := KN) (KX := noX) (KR := aRet (cx [2, 12]) (Tryd.f11).results K) (KP := aPan K) hC c (fun c a o v w _ h => ?_) (fun E' L v l m a w' hr hd hk => ?_) hY (fun id E' L st m a w' _ _ h => h.elim) (fun E' L st m a w' hS _ h => ?_) E' L st m a w' hk hS hF hc
    · obtain ⟨h1, h2⟩ := h
      refine ⟨?_, h2⟩
      cases hd : o.dst <;> rw [hd] at h1 <;> exact h1
    · exact ⟨hd.1, E', m, hr.e.le, hr.m, hr.e.sz, hr.e.fr, fun j b s hj => hr.e.ownh j b s hj, .inr ⟨v, rfl, hk⟩⟩
    · obtain ⟨h1, h2⟩ := aRet_ok hC hS h
      exact ⟨h1.1, h2⟩
  refine wp_seq ?_
  refine pre r0 _ _ hk0 ?_ E noPl (st0 args) m _ w hS (fun _ _ => rfl) h
  intro E1 L1 st1 m1 a1' w1 hS1 hF1 hc1
  refine wp_seq ?_
  refine pre rc _ _ hkc ?_ E1 L1 st1 m1 a1' w1 hS1 hF1 hc1
  intro E2 L2 st2 m2 a2' w2 hS2 hF2 ⟨j2, ht2, hc2⟩
  refine wp_seq ?_
  have ht := hS2.t 2
  rw [ht2] at ht
  obtain ⟨b, sz, hp2, hEb⟩ : ∃ b sz, a2'.tmps.getD 2 undef = .pointer (some ⟨b, 0, none⟩) ∧ E2.h j2 = some (b, sz) := by
    generalize a2'.tmps.getD 2 undef = y at ht
    cases ht with
    | ptr _ _ _ q hq =>
      simp only [pos, Option.map_eq_some_iff] at hq
      obtain ⟨⟨b, sz⟩, h1, rfl⟩ := hq
      exact ⟨b, sz, by simp [adr], h1⟩
  refine r3_ok hp2 hS2.d.1 hS2.n ho fun x => ?_
  -- behind the defer
  have hrel2 : Rel E2 w E2 L2 st2.l m2 w2 := ⟨hS2.r.m, hS2.r.l, ⟨Env.le.refl E2, hS2.r.e.sz, fun b hb hn => hS2.r.e.fr b hb fun j s hj => hn j s (hS2.r.e.le.h _ _ hj), fun j b s hj => .inr hj, hS2.r.e.ownl⟩⟩
  have hconv : ∀ e w', SimEnd E2 w K e w' → SimEnd E w K e w' := by
    rintro e w' ⟨E', m', g1, g2, g3, g4, g5, g6⟩
    refine ⟨E', m', hS2.r.e.le.trans g1, g2, g3, fun b hb hn => g4 b hb fun j s hj => ?_, fun j b s hj => ?_, g6⟩
    · rcases hS2.r.e.ownh j b s hj with h1 | h1
      · omega
      · exact hn j s h1
    · rcases g5 j b s hj with h1 | h1
      · exact .inl h1
      · exact hS2.r.e.ownh j b s h1
  have hS3 : SR E2 w ⟨56, [defD ⟨b, 0, none⟩], [(2, .pointer (some ⟨b, 0, none⟩))]⟩ E2 L2 ⟨upd st2.t 9 .undef, st2.l, st2.c + 2⟩ m2 { tmps := a2'.tmps.setIfInBounds 9 x, defers := [defD ⟨b, 0, none⟩] } w2 := by
    have hn := hS2.n
    refine ⟨hrel2, fun n => ?_, ⟨rfl, fun p hp => ?_⟩, by simpa using hn⟩
    · have := put_getD a2' 9 x n (Nat.lt_of_lt_of_le (by decide) hn)
      simp only [Act.put] at this
      rw [this]
      simp only [upd]
      split
      · exact .undef _
      · exact hS2.t n
    · cases List.mem_singleton.1 hp
      show (a2'.tmps.setIfInBounds 9 x).getD 2 undef = _
      rw [put_get (by decide)]; exact hp2
  let Q2 : Exit → Act → World → Prop := fun e a w' => match e with
    | .ret => a.defers = [defD ⟨b, 0, none⟩] ∧ ∃ v, (results Tryd.f11 a.tmps).run Tryd.prog w' = .ok v w' ∧ SimEnd E w K (.returned v) w'
    | .panic c => a.defers = [defD ⟨b, 0, none⟩] ∧ a.tmps.getD 2 undef = .pointer (some ⟨b, 0, none⟩) ∧ c = [{ v := shortV, recovered := false }] ∧ (∃ x, w'.cell? ⟨b, 0, none⟩ = some x) ∧ w'.frozen? ⟨b, 0, none⟩ = false ∧
        ∀ (a' : Act) (o : Obj), a'.tmps.getD 2 undef = .pointer (some ⟨b, 0, none⟩) → ∃ v, (results Tryd.f11 a'.tmps).run Tryd.prog ((w'.alloc o).setCell ⟨b, 0, none⟩ (.slice none 0 0)) = .ok v ((w'.alloc o).setCell ⟨b, 0, none⟩ (.slice none 0 0)) ∧ SimEnd E w K (.returned v) ((w'.alloc o).setCell ⟨b, 0, none⟩ (.slice none 0 0))
    | _ => False
  have hinv : ∀ w', (invoke (.fn (.func 36) #[.pointer (some ⟨b, 0, none⟩)]) #[]).run Tryd.prog w' = .ok (.enter 36 #[.pointer (some ⟨b, 0, none⟩)]) w' := by
    intro w'; simp [go_sem]
  have hQ2 : ∀ e a w', Q2 e a w' → bodyPostD Tryd.prog Tryd.f11 (SimEnd E w K) e a w' := by
    intro e a w' hq
    cases e with
    | normal => exact hq.elim
    | ret =>
      obtain ⟨h1, h2⟩ := hq
      show Leaves _ _ _ _ a.defers _ _
      rw [h1]
      refine leaves_cons (f := 36) (args := #[.pointer (some ⟨b, 0, none⟩)]) (by simp) (hinv w') ?_
      refine (catch_idle ⟨b, 0, none⟩ w').mono ?_
      rintro e u' w'' ⟨rfl, rfl, rfl⟩
      exact h2
    | panic c =>
      obtain ⟨h1, h2, rfl, ⟨x, h3⟩, h4, h5⟩ := hq
      show Leaves _ _ _ _ a.defers _ _
      rw [h1]
      refine leaves_cons (f := 36) (args := #[.pointer (some ⟨b, 0, none⟩)]) (by simp) (hinv w') ?_
      refine (catch_short ⟨b, 0, none⟩ x w' h3 h4).mono ?_
      rintro e u' w'' ⟨rfl, rfl, o, rfl⟩
      exact h5 a o h2
    | exit id => exact hq.elim
    | goto l => exact hq.elim
    | outgrown => exact hq.elim
  refine wp_imp (Q := Q2) ?_ hQ2
  refine aCode_ok (N := ⟨56, [defD ⟨b, 0, none⟩], [(2, .pointer (some ⟨b, 0, none⟩))]⟩) (KN := fun _ _ => False) (KX := noX) (KR := aRet (cx [2, 12]) (Tryd.f11).results K) (KP := KPD j2 K) hC rest (fun c a o v w' ho h => ?_) (fun E' L v l m' a w' hr hd hk => ?_) (fun _ _ _ _ _ _ _ _ h => h.elim) (fun id E' L st m a w' _ _ h => h.elim) (fun E' L st m a w' hS _ h => ?_) E2 L2 _ m2 _ w2 (hkr _ _) hS3 (fun j hj => hF2 j (by simp only at hj; omega)) hc2
  · obtain ⟨h1, h2, h3⟩ := h
    have hdd : (a.put o.dst v).defers = a.defers := by cases o.dst <;> rfl
    refine ⟨by rw [← hdd]; exact h1, ?_, h3⟩
    rw [← h2]
    unfold dstOk at ho
    cases hd : o.dst with
    | none => rfl
    | some d =>
      rw [hd] at ho
      simp at ho
      simp only [Act.put]
      rw [put_get (by omega)]
  · obtain ⟨rfl, ⟨q, hq⟩, hK⟩ := hk
    have hEb' := hr.e.le.h _ _ hEb
    obtain ⟨b', hb', -⟩ := hr.m.hp j2 _ hq
    rw [hEb'] at hb'
    cases hb'
    refine ⟨hd.1, hd.2 (2, _) (by simp), rfl, (hr.forget.cellNil hq hEb' (.cells #[] 0)).2.1, (hr.forget.cellNil hq hEb' (.cells #[] 0)).2.2, fun a' o ha' => ?_⟩
    have hr2 := (hr.forget.cellNil hq hEb' o).1
    have hSn : SR E2 w ⟨0, a'.defers, []⟩ E' noPl ⟨fun n => if n = 2 then .ptr (.hp j2) 0 0 else .undef, fun _ => none, 0⟩ { m' with hp := m'.hp.set j2 ⟨[[.nils]], 1⟩ } a' ((w'.alloc o).setCell ⟨b, 0, none⟩ (.slice none 0 0)) := by
      refine ⟨hr2, fun n => ?_, ⟨rfl, fun p hp => by cases hp⟩, Nat.zero_le _⟩
      simp only
      split
      · rename_i e
        subst e
        rw [ha']
        exact .ptr _ _ _ (b, 0, 1) (by simp [pos, hEb'])
      · exact .undef _
    have hlt : j2 < m'.hp.length := (List.getElem?_eq_some_iff.1 hq).1
    have hres : aRet (cx [2, 12]) (Tryd.f11).results K ⟨fun n => if n = 2 then .ptr (.hp j2) 0 0 else .undef, fun _ => none, 0⟩ { m' with hp := m'.hp.set j2 ⟨[[.nils]], 1⟩ } := by
      have e : (Tryd.f11).results = ⟨[.cell 2 25]⟩ := rfl
      have e2 : aRet (cx [2, 12]) (Tryd.f11).results K = aRetL (cx [2, 12]) [.cell 2 25] K := by funext st m; simp only [aRet, aRetL, aRes, aResL, e]; rfl
      rw [e2]
      have hset : (m'.hp.set j2 ⟨[[.nils]], 1⟩)[j2]? = some ⟨[[.nils]], 1⟩ := by simp [hlt]
      exact gox_
    obtain ⟨-, v, h1, h2⟩ := aRet_ok hC hSn hres
    exact ⟨v, h1, hconv _ _ h2⟩
  · obtain ⟨h1, v, h2, h3⟩ := aRet_ok hC hS h
    exact ⟨h1.1, v, h2, hconv _ _ h3⟩
end Go.Proofs.YtdonkjepjobhnaaDoor.IM
namespace Go.Proofs.IM
open Go Go.Proofs.Flt
/-- Reading goes on, and the slice in the result's cell grows. -/
structure GrowD (m0 m : Mem) (j : Nat) (s : AV) (bs : List UInt8) (i j2 n : Nat) (q : AV) (rs : List (List AV)) (own : List Nat) : Prop where
  rd : RdO m0 m j s bs i
  cell : m.hp[j2]? = some ⟨[[q]], 1⟩
  sl : SlG m 9 q rs own
  new : ∀ k ∈ own, n ≤ k
  jl : j < n
  j2l : j2 < n
  nl : n ≤ m.hp.length
  ne : j2 ≠ j
  out : m0.hp.length ≤ j2
theorem GrowD.call {m0 m m' : Mem} {j : Nat} {s : AV} {bs : List UInt8} {i i' j2 n : Nat} {q : AV} {rs : List (List AV)} {own : List Nat} (h : GrowD m0 m j s bs i j2 n q rs own) (hr : RdO m0 m' j s bs i') (hf : Fra m m' j) : GrowD m0 m' j s bs i' j2 n q rs own :=
  ⟨hr, by rw [hf.hp j2 (Nat.lt_of_lt_of_le h.j2l h.nl) h.ne]; exact h.cell, h.sl.fra hf (fun k hk => by have := h.new k hk; have := h.jl; omega), h.new, h.jl, h.j2l, Nat.le_trans h.nl hf.len, h.ne, h.out⟩
theorem GrowD.push {m0 m : Mem} {j : Nat} {s : AV} {bs : List UInt8} {i j2 n : Nat} {q : AV} {rs : List (List AV)} {own : List Nat} (h : GrowD m0 m j s bs i j2 n q rs own) (B : Blk) : GrowD m0 (m.push B) j s bs i j2 n q rs own := by
  have hx : ∀ k, k < m.hp.length → (m.push B).hp[k]? = m.hp[k]? := fun k hk => by
    show (m.hp ++ _)[k]? = _
    rw [List.getElem?_append_left hk]
  have h1 := h.jl; have h2 := h.nl; have h3 := h.j2l
  exact ⟨⟨h.rd.le.push' B, h.rd.out, h.rd.form, h.rd.pos, h.rd.len, by rw [hx _ (by omega)]; exact h.rd.row⟩, by rw [hx _ (by omega)]; exact h.cell, h.sl.ext fun k hk => hx k (h.sl.lt.1 k hk), h.new, h.jl, h.j2l, by rw [push_len]; omega, h.ne, h.out⟩
theorem GrowD.app {m0 m m' : Mem} {j : Nat} {s : AV} {bs : List UInt8} {i j2 n : Nat} {q q' : AV} {rs rs' : List (List AV)} {own own' : List Nat} (h : GrowD m0 m j s bs i j2 n q rs own) (h1 : m'.ro = m.ro) (h2 : m'.gl = m.gl) (h3 : SlG m' 9 q' rs' own')
    (h4 : m.hp.length ≤ m'.hp.length) (h5 : ∀ k, k < m.hp.length → k ∉ own → m'.hp[k]? = m.hp[k]?) (h6 : ∀ k ∈ own', k ∈ own ∨ m.hp.length ≤ k) :
    m'.hp[j2]? = some ⟨[[q]], 1⟩ ∧ GrowD m0 { m' with hp := m'.hp.set j2 ⟨[[q']], 1⟩ } j s bs i j2 n q' rs' own' ∧ ∀ k, n ≤ k → ({ m' with hp := m'.hp.set j2 ⟨[[q']], 1⟩ } : Mem).hp[k]? = m'.hp[k]? := by
  have g1 := h.jl; have g2 := h.nl; have g3 := h.j2l; have g4 := h.ne; have g5 := h.rd.out
  have hn : ∀ k, k < n → k ∉ own := fun k hk hm => by have := h.new k hm; omega
  have hc : m'.hp[j2]? = some ⟨[[q]], 1⟩ := by rw [h5 j2 (by omega) (hn j2 g3)]; exact h.cell
  have hlt := (List.getElem?_eq_some_iff.1 hc).1
  have hset : ∀ k, n ≤ k → ({ m' with hp := m'.hp.set j2 ⟨[[q']], 1⟩ } : Mem).hp[k]? = m'.hp[k]? := fun k hk => by
    show (m'.hp.set j2 _)[k]? = _
    rw [List.getElem?_set, if_neg (by omega)]
  have hnew : ∀ k ∈ own', n ≤ k := fun k hk => by
    rcases h6 k hk with h7 | h7
    · exact h.new k h7
    · omega
  have hle : m0.le m' := ⟨h1.trans h.rd.le.ro, h2.trans h.rd.le.gl, fun k B hk => by
    have hk0 := (List.getElem?_eq_some_iff.1 hk).1
    rw [h5 k (by have := h.rd.le.len; omega) (hn k (by omega))]; exact h.rd.le.hp k B hk⟩
  refine ⟨hc, ⟨⟨hle.set h.out _, h.rd.out, h.rd.form, h.rd.pos, h.rd.len, ?_⟩, by simp [hlt], h3.ext fun k hk => hset k (hnew k hk), hnew, g1, g3, by simp; omega, g4, h.out⟩, hset⟩
  show (m'.hp.set j2 _)[j]? = _
  rw [List.getElem?_set, if_neg g4, h5 j (by omega) (hn j g1)]; exact h.rd.row
end Go.Proofs.IM
namespace Go.Proofs.YtdonkjepjobhnaaDoor.IM
open Go Go.Proofs.IM Go.Proofs.Flt
set_option maxHeartbeats 8000000
set_option maxRecDepth 100000
theorem s_bytesEqN {jj n : Nat} {bs : List UInt8} {m : Mem} {K : AR → Mem → Prop} (h2 : ∀ l : Go.Proofs.IM.Loc, rows? l m (.hp jj) 0 n = some (bs.map bR)) (h : K (.ret (.bool (decide ([] = bs)))) m) : Sim Tryd.prog 40 [.nils, .sl (.hp jj) 0 n n] m K := by
  refine entry (cxok []) Tryd.func40 rfl rfl (by decide) (by decide) ?_
  have hbb := bytes_bR bs
  have hbeq : (([] : List UInt8) == (ByteArray.mk bs.toArray).toList) = decide ([] = bs) := by
    rw [ByteArray.toList_eq, Bool.eq_iff_iff]; simp
  exact gox_
theorem s_bytesEqS {j n c jj n2 : Nat} {b bs : List UInt8} {m : Mem} {K : AR → Mem → Prop} (h1 : ∀ l : Go.Proofs.IM.Loc, rows? l m (.hp j) 0 n = some (b.map bR)) (h2 : ∀ l : Go.Proofs.IM.Loc, rows? l m (.hp jj) 0 n2 = some (bs.map bR)) (h : K (.ret (.bool (decide (b = bs)))) m) : Sim Tryd.prog 40 [.sl (.hp j) 0 n c, .sl (.hp jj) 0 n2 n2] m K := by
  refine entry (cxok []) Tryd.func40 rfl rfl (by decide) (by decide) ?_
  have hbb := bytes_bR bs
  have hb := bytes_bR b
  have hbeq : ((ByteArray.mk b.toArray).toList == (ByteArray.mk bs.toArray).toList) = decide (b = bs) := by
    rw [ByteArray.toList_eq, ByteArray.toList_eq, Bool.eq_iff_iff]; simp
  exact gox_
theorem s_implDecode {m : Mem} {jj : Nat} {bs : List UInt8} {K : AR → Mem → Prop} (hF : FormsR 0 m) (hb : m.hp[jj]? = some ⟨bs.map bR, 1⟩) (hl : bs.length ≤ 1048576)
    (h : ∀ (q : AV) (own : List Nat) (m' : Mem), wtC (decF bs) ≤ 1048576 → m.le m' → PsO m' q (decF bs) own → (∀ k ∈ own, m.hp.length ≤ k) → K (.ret (.agg [q])) m') : Sim Tryd.prog 11 [.sl (.hp jj) 0 bs.length bs.length] m K := by
  refine entryD rfl rfl (by decide) (by decide) (fun D p => by rfl) ?_
  have hnil : decF bs = [] → ∀ m', m.le m' → K (.ret (.agg [.nils])) m' := fun e m' hm => by
    refine h .nils [] m' (by rw [e]; simp [wtC, sumBy]) hm ?_ (by simp)
    rw [e]
    exact (RestP.nil m' 0).done (SlG.nil m' 9)
  have hres : (Tryd.f11).results = ⟨[.cell 2 25]⟩ := rfl
  have hret : aRet (cx [2, 12]) (Tryd.f11).results K = aRetL (cx [2, 12]) [.cell 2 25] K := by funext st m; simp only [aRet, aRetL, aRes, aResL, hres]; rfl
  rw [hret]
  clear hret hres
  have hst0 : st0 [.sl (.hp jj) 0 bs.length bs.length] = ⟨fun n => [AV.sl (.hp jj) 0 bs.length bs.length].getD n noA, noL, 0⟩ := rfl
  rw [hst0]
  clear hst0
  refine goh_ ?_
  have hgi : isImg bs → _ := fun hi => img_facts hi
  refine ⟨fun hc => hnil (decF_none fun hi => by have := (hgi hi).2.2.2.2.1; omega) _ (Mem.le.push m _), fun hc => ⟨m.hp.length, rfl, ?_⟩⟩
  have hr0 : RdO m ((m.push ⟨[[.nils]], 1⟩).push ⟨[[.sl (.hp jj) 0 bs.length bs.length, .int .i64 0]], 2⟩) (m.hp.length + 1) (.sl (.hp jj) 0 bs.length bs.length) bs 0 :=
    ⟨(Mem.le.push m _).trans (Mem.le.push _ _), by omega, ⟨jj, rfl, hb⟩, by omega, hl, by simp [Mem.push]⟩
  have hcell0 : ((m.push ⟨[[.nils]], 1⟩).push ⟨[[.sl (.hp jj) 0 bs.length bs.length, .int .i64 0]], 2⟩).hp[m.hp.length]? = some ⟨[[.nils]], 1⟩ := by simp [Mem.push]
  have hlen0 : ((m.push ⟨[[.nils]], 1⟩).push ⟨[[.sl (.hp jj) 0 bs.length bs.length, .int .i64 0]], 2⟩).hp.length = m.hp.length + 2 := by simp [Mem.push]
  generalize (m.push ⟨[[.nils]], 1⟩).push ⟨[[.sl (.hp jj) 0 bs.length bs.length, .int .i64 0]], 2⟩ = M0 at *
  have hpan : decF bs = [] → ∀ (i' : Nat) (m' : Mem), RdO m m' (m.hp.length + 1) (.sl (.hp jj) 0 bs.length bs.length) bs i' → (∃ q, m'.hp[m.hp.length]? = some ⟨[[q]], 1⟩) → KPD m.hp.length K shortV m' := fun e i' m' hr hq =>
    ⟨rfl, hq, hnil e _ (hr.le.set (Nat.le_refl _) _)⟩
  have hcellr : ∀ i', (M0.rd (m.hp.length + 1) (.sl (.hp jj) 0 bs.length bs.length) i').hp[m.hp.length]? = some ⟨[[.nils]], 1⟩ := fun i' => by
    rw [(Fra.rd M0 (m.hp.length + 1) _ i').hp _ (by omega) (by omega)]; exact hcell0
  have hbyte : ∀ k, k < 3 → isImg bs → bs[k]? = ([72, 67, 1] : List UInt8)[k]? := fun k hk hi => by
    have e : bs[k]? = ([72, 67, 1] ++ (encN (decF bs).length ++ fm encP (decF bs)))[k]? := congrArg (fun l => l[k]?) (hgi hi).2.2.1
    rw [e, List.getElem?_append_left (by simpa using hk)]
  have hshort : ∀ k, k < 3 → bs.length ≤ k → decF bs = [] := fun k hk hle => decF_none fun hi => by have := (hgi hi).2.2.2.1; omega
  have hexit : decF bs = [] → ∀ (i' : Nat) (M : Mem), RdO m M (m.hp.length + 1) (.sl (.hp jj) 0 bs.length bs.length) bs i' → (∃ q, M.hp[m.hp.length]? = some ⟨[[q]], 1⟩) →
      K (.ret (.agg [.nils])) { ro := M.ro, gl := M.gl, hp := M.hp.set m.hp.length ⟨[[.nils]], 1⟩ } ∧ (M.hp.set m.hp.length ⟨[[.nils]], 1⟩)[m.hp.length]? = some ⟨[[.nils]], 1⟩ := fun e i' M hr ⟨q, hq⟩ =>
    ⟨hnil e _ (hr.le.set (Nat.le_refl _) _), by have := (List.getElem?_eq_some_iff.1 hq).1; simp [this]⟩
  refine s_rbyte hr0 (fun hi0 => ?_) (fun hge => hpan (hshort 0 (by decide) hge) 0 M0 hr0 ⟨_, hcell0⟩)
  have hr1 := hr0.set (i' := 1) hi0
  by_cases hb0 : bs[0] = 72
  rotate_left
  · have hne : ((bs[0].toNat : Int) != 72) = true := by
      rw [bne_iff_ne]; intro e; apply hb0; apply UInt8.toNat_inj.1; show bs[0].toNat = 72; omega
    have hc0 := hcellr 1
    obtain ⟨hz1, hz2⟩ := hexit (decF_none fun hi => hb0 (by have := hbyte 0 (by decide) hi; rw [List.getElem?_eq_getElem hi0] at this; simpa using this)) 1 _ hr1 ⟨_, hc0⟩
    generalize M0.rd (m.hp.length + 1) (.sl (.hp jj) 0 bs.length bs.length) (0 + 1) = M1 at *
    exact gox_
  have hne0 : ((bs[0].toNat : Int) != 72) = false := by rw [hb0]; decide
  clear hb0
  refine goh_ ?_
  refine s_rbyte hr1 (fun hi1 => ?_) (fun hge => hpan (hshort 1 (by decide) hge) 1 _ hr1 ⟨_, hcellr 1⟩)
  rw [Mem.rd_rd]
  have hr2 := hr0.set (i' := 2) hi1
  by_cases hb1 : bs[1] = 67
  rotate_left
  · have hne : ((bs[1].toNat : Int) != 67) = true := by
      rw [bne_iff_ne]; intro e; apply hb1; apply UInt8.toNat_inj.1; show bs[1].toNat = 67; omega
    have hc0 := hcellr 2
    obtain ⟨hz1, hz2⟩ := hexit (decF_none fun hi => hb1 (by have := hbyte 1 (by decide) hi; rw [List.getElem?_eq_getElem hi1] at this; simpa using this)) 2 _ hr2 ⟨_, hc0⟩
    generalize M0.rd (m.hp.length + 1) (.sl (.hp jj) 0 bs.length bs.length) (1 + 1) = M1 at *
    exact gox_
  have hne1 : ((bs[1].toNat : Int) != 67) = false := by rw [hb1]; decide
  clear hb1
  refine goh_ ?_
  refine s_rbyte hr2 (fun hi2 => ?_) (fun hge => hpan (hshort 2 (by decide) hge) 2 _ hr2 ⟨_, hcellr 2⟩)
  rw [Mem.rd_rd]
  have hr3 := hr0.set (i' := 3) hi2
  by_cases hb2 : bs[2] = 1
  rotate_left
  · have hne : ((bs[2].toNat : Int) != 1) = true := by
      rw [bne_iff_ne]; intro e; apply hb2; apply UInt8.toNat_inj.1; show bs[2].toNat = 1; omega
    have hc0 := hcellr 3
    obtain ⟨hz1, hz2⟩ := hexit (decF_none fun hi => hb2 (by have := hbyte 2 (by decide) hi; rw [List.getElem?_eq_getElem hi2] at this; simpa using this)) 3 _ hr3 ⟨_, hc0⟩
    generalize M0.rd (m.hp.length + 1) (.sl (.hp jj) 0 bs.length bs.length) (2 + 1) = M1 at *
    exact gox_
  have hne2 : ((bs[2].toNat : Int) != 1) = false := by rw [hb2]; decide
  clear hb2
  refine goh_ ?_
  refine s_rsize (decF bs).length (fm encP (decF bs)) (isImg bs) hr3 (fun hg' => ⟨?_, fm_ge encP_pos _⟩) (fun k1 j1 hk1 hc1 hd1 hE1 => ?_) (fun hng i' hi' hle => ?_)
  · have e := (hgi hg').2.2.1
    have e2 := congrArg (List.drop 3) e
    rw [e2]; rfl
  rotate_left
  · rw [Mem.rd_rd]
    exact hpan (decF_none hng) i' _ (hr0.set hle) ⟨_, hcellr i'⟩
  rw [Mem.rd_rd]
  have gr1 : GrowD m (M0.rd (m.hp.length + 1) (.sl (.hp jj) 0 bs.length bs.length) j1) (m.hp.length + 1) (.sl (.hp jj) 0 bs.length bs.length) bs j1 m.hp.length (m.hp.length + 2) .nils [] [] :=
    ⟨hr0.set hd1, hcellr j1, SlG.nil _ 9, by simp, by omega, by omega, by have := (Fra.rd M0 (m.hp.length + 1) (.sl (.hp jj) 0 bs.length bs.length) j1).len; omega, by omega, Nat.le_refl _⟩
  generalize M0.rd (m.hp.length + 1) (.sl (.hp jj) 0 bs.length bs.length) j1 = mb at *
  clear hcellr hr3 hr2 hr1 hr0 hcell0 hlen0
  refine goh_ ?_
  refine loop_ (fun kk t l c m' => ∃ (d i' : Nat) (us : List Pr) (sc : AV) (own : List Nat) (rs : List (List AV)) (os : List (List Nat)), (t 0 = .sl (.hp jj) 0 bs.length bs.length ∧ t 2 = .ptr (.hp m.hp.length) 0 0 ∧ t 3 = .ptr (.hp (m.hp.length + 1)) 0 0 ∧ t 4 = .int .i64 d) ∧
      GrowD m m' (m.hp.length + 1) (.sl (.hp jj) 0 bs.length bs.length) bs i' m.hp.length (m.hp.length + 2) sc rs own ∧ RestP m' (m.hp.length + 2) rs us os own ∧ goodPs us ∧ j1 + us.length + sumBy Pr.wt us ≤ i' ∧ us.length + d = k1 ∧ (isImg bs → (decF bs).take us.length = us ∧ (decF bs).length = us.length + d ∧ bs.drop i' = fm encP ((decF bs).drop us.length) ++ []) ∧ kk = d) k1 ?_ ?_
  · refine ⟨k1, j1, [], .nils, [], [], [], ⟨rfl, rfl, rfl, rfl⟩, gr1, RestP.nil _ _, by simp [goodPs], by simp [sumBy], by simp, fun hg' => ⟨by simp, by rw [(hE1 hg').1]; simp, ?_⟩, rfl⟩
    rw [(hE1 hg').2]; simp
  intro kk t l c m1 KN ⟨d, i', us, sc, own, rs, os, ⟨t0, t2, t3, t4⟩, gr, hR, hus, hiu, hud, hG, hkk⟩ next
  have hi' := gr.rd.pos
  have hcell := gr.cell
  refine goh_ ?_
  refine ⟨fun hd => ?_, fun hd => ?_⟩
  · have hw : IntKind.i64.wrap ((d : Int) - 1) = ((d - 1 : Nat) : Int) := by
      have : IntKind.i64.wrap ((d : Int) - 1) = (d : Int) - 1 := w64_id (by omega)
      rw [this]; omega
    have hst : isImg bs → _ := fun hg' => step_g (f := encP) ⟨ByteArray.empty, 0, 0, false, 0, [], [], [], []⟩ (hG hg').1 (hG hg').2.1 (by omega)
    generalize hy : ((decF bs)[us.length]?.getD ⟨ByteArray.empty, 0, 0, false, 0, [], [], [], []⟩) = y at hst
    obtain ⟨p1, p2, p3, p4⟩ := gr.sl.facts
    refine draw_ [(0, .pure), (1, .read), (2, .pure), (3, .step [1]), (4, .step [1]), (5, .step []), (6, .pure), (7, .step [])] (by kernel_rfl) ?_
    refine goh_ ?_
    refine s_rproto y _ (isImg bs) gr.rd (fun hg' => ⟨(hgi hg').1 _ (hst hg').2.2, (hgi hg').2.1 _ (hst hg').2.2, by rw [(hG hg').2.2, (hst hg').1, List.append_assoc]⟩) (fun q i2 m2 r w hr2 hf2 hP2 hn2 hw2 hq2 hb2 hE2 => ?_) (fun hng i2 m2 hr2 hf2 => hpan (decF_none hng) i2 m2 hr2 ⟨_, (gr.call hr2 hf2).cell⟩)
    have gr2 := gr.call hr2 hf2
    have hcell2 := gr2.cell
    have hR2 := hR.ext hf2.len (fun k hk => hf2.hp k (hR.hi k hk) (by have := hR.lo k hk; omega))
    have hR3 := hR2.add hP2 hn2 hw2 gr.nl gr.sl.lt.1 hR.hi
    obtain ⟨s1, s2, s3, s4, o1, o2, o3, o4, rfl, g1, g2, g3, g4, -⟩ := hP2
    obtain ⟨x1, x2, x3, x4⟩ := g1.r.facts
    obtain ⟨y1, y2, y3, y4⟩ := g2.r.facts
    obtain ⟨z1, z2, z3, z4⟩ := g3.r.facts
    obtain ⟨u1, u2, u3, u4⟩ := g4.r.facts
    clear g1 g2 g3 g4
    refine goh_ ?_
    have gr3 := gr2.push ⟨[[.str q.s, .int .i64 q.line, .int .i64 q.params, .bool q.rest, .int .i64 q.regs, s1, s2, s3, s4]], 9⟩
    have hR4 := hR3.ext (m' := m2.push ⟨[[.str q.s, .int .i64 q.line, .int .i64 q.params, .bool q.rest, .int .i64 q.regs, s1, s2, s3, s4]], 9⟩) (by rw [push_len]; omega) (fun k hk => by
      show (m2.hp ++ _)[k]? = _
      rw [List.getElem?_append_left (hR3.hi k hk)])
    refine ⟨gr3.cell, ?_⟩
    refine aApp_one (r := [.str q.s, .int .i64 q.line, .int .i64 q.params, .bool q.rest, .int .i64 q.regs, s1, s2, s3, s4]) rfl gr3.sl rfl (by decide) ?_ push_row ?_ ?_ ?_
    · decide
    · simp only [List.length_cons, List.length_nil, List.all_cons, List.all_nil, x1, y1, z1, u1]; rfl
    · have := hR.l1; omega
    intro s' m3 own' e1 e2 e3 e4 e5 e6
    obtain ⟨hc3, gr4, hset⟩ := gr3.app e1 e2 e3 e4 e5 e6
    have hR5 := (hR4.grow e4 e5 e6).ext (m' := { m3 with hp := m3.hp.set m.hp.length ⟨[[s']], 1⟩ }) (by simp) (fun k hk => hset k (hR4.lo k hk))
    obtain ⟨p1, p2, p3, p4⟩ := gr4.sl.facts
    clear e1 e2
    refine goh_ ?_
    refine next _ _ _ _ _ ?_ ⟨d - 1, i2, us ++ [q], s', own', _, os ++ [w], ⟨t0, t2, t3, rfl⟩, gr4, hR5, ?_, ?_, ?_, fun hg' => ?_, rfl⟩
    · omega
    · intro x hx
      rcases List.mem_append.1 hx with hx | hx
      · exact hus x hx
      · cases List.mem_singleton.1 hx; exact hq2
    · simp only [List.length_append, List.length_singleton, sumBy_app, sumBy]; omega
    · rw [List.length_append, List.length_singleton]; omega
    · obtain ⟨a1, a2, a3⟩ := hG hg'
      obtain ⟨b1, b2, b3⟩ := hst hg'
      obtain ⟨ey, hdr⟩ := hE2 hg'
      refine ⟨?_, ?_, ?_⟩
      · rw [List.length_append, List.length_singleton, b2, ey]
      · rw [List.length_append, List.length_singleton]; omega
      · rw [List.length_append, List.length_singleton]; exact hdr
  have hd0 : d = 0 := by omega
  subst hd0
  have hus_ : isImg bs → us = decF bs ∧ i' = bs.length := fun hg' => by
    obtain ⟨a1, a2, a3⟩ := hG hg'
    obtain ⟨b1, b2⟩ := end_g (f := encP) a1 a2
    refine ⟨b1, ?_⟩
    rw [b2] at a3
    have := congrArg List.length a3
    simp at this; omega
  have hrow := gr.rd.row
  have hle := gr.rd.le
  obtain ⟨p1, p2, p3, p4⟩ := gr.sl.facts
  have hps := hR.done gr.sl
  have hnew : ∀ k ∈ own ++ os.flatten, m.hp.length + 2 ≤ k := fun k hk => by
    rcases List.mem_append.1 hk with hk | hk
    · exact gr.new k hk
    · exact hR.lo k hk
  have hown : ∀ k ∈ own ++ os.flatten, k < m1.hp.length := fun k hk => by
    rcases List.mem_append.1 hk with hk | hk
    · exact gr.sl.lt.1 k hk
    · exact hR.hi k hk
  by_cases hat : i' = bs.length
  rotate_left
  · obtain ⟨hz1, hz2⟩ := hexit (decF_none fun hi => hat (hus_ hi).2) i' m1 gr.rd ⟨_, hcell⟩
    have hne : (((i' : Nat) : Int) != (bs.length : Int)) = true := by rw [bne_iff_ne]; omega
    exact gox_
  have hne : (((i' : Nat) : Int) != (bs.length : Int)) = false := by rw [hat]; simp
  have hwt : wtC us ≤ 1048576 := by unfold wtC; omega
  have hlen2 : us.length ≤ 9223372036854775807 := by omega
  have hb1 : m1.hp[jj]? = some ⟨bs.map bR, 1⟩ := hle.hp _ _ hb
  have hrows : ∀ (mm : Mem), m1.le mm → ∀ (l : Go.Proofs.IM.Loc), rows? l mm (.hp jj) 0 bs.length = some (bs.map bR) := fun mm hmm l => by
    have h1 : mm.hp[jj]? = some ⟨bs.map bR, 1⟩ := hmm.hp _ _ hb1
    simp only [rows?, blk?, h1, Option.bind_some]
    rw [if_pos (by simp), List.drop_zero]
    have := List.take_length (l := bs.map bR)
    rw [List.length_map] at this; rw [this]
  have hyes := dec_yes hus (fun hi => (hus_ hi).1)
  have hno := dec_no (fun hi => (hus_ hi).1)
  clear hat
  refine goh_ ?_
  refine s_implEncode (hF.mono hle) hps.r hlen2 hus hwt ?_
  cases hE : encode us with
  | none =>
    intro m2 hm2
    have hr2 : RdO m m2 (m.hp.length + 1) (.sl (.hp jj) 0 bs.length bs.length) bs i' := ⟨hle.trans hm2, gr.rd.out, gr.rd.form, gr.rd.pos, gr.rd.len, hm2.hp _ _ hrow⟩
    have hc2 := hm2.hp _ _ hcell
    obtain ⟨hz1, hz2⟩ := hexit (hno (by rw [hE]; simp)) i' m2 hr2 ⟨_, hc2⟩
    refine goh_ ?_
    refine s_bytesEqN (hrows m2 hm2) ?_
    have hdec : decide ([] = bs) = false := by
      rw [decide_eq_false_iff_not]; intro e; rw [← e] at hi2; simp at hi2
    rw [hdec]
    exact gox_
  | some b =>
    intro s2 m2 hs2
    obtain ⟨f1, f2, f3, f4⟩ := hs2.facts
    have hm2 := hs2.le
    have hr2 : RdO m m2 (m.hp.length + 1) (.sl (.hp jj) 0 bs.length bs.length) bs i' := ⟨hle.trans hm2, gr.rd.out, gr.rd.form, gr.rd.pos, gr.rd.len, hm2.hp _ _ hrow⟩
    have hc2 := hm2.hp _ _ hcell
    obtain ⟨-, j', hj', cc, B, rfl, q1, q2, q3, q4, q5⟩ := hs2
    have hrb : ∀ l : Go.Proofs.IM.Loc, rows? l m2 (.hp j') 0 b.length = some (b.map bR) := fun l => by
      simp only [rows?, blk?, q1, Option.bind_some]
      rw [if_pos (by omega), List.drop_zero, q5]
    refine goh_ ?_
    refine s_bytesEqS hrb (hrows m2 hm2) ?_
    by_cases hbb' : b = bs
    · subst hbb'
      rw [decide_eq_true rfl]
      have hx := hyes hE
      rw [hx] at hps hwt
      have hfin := h sc _ { m2 with hp := m2.hp.set m.hp.length ⟨[[sc]], 1⟩ } hwt ((hle.trans hm2).set (Nat.le_refl _) _) (hps.ext fun k hk => by
        have hk1 := hown k hk
        have hk2 := hnew k hk
        show (m2.hp.set m.hp.length _)[k]? = _
        rw [List.getElem?_set, if_neg (by omega), hm2.hp k _ (List.getElem?_eq_getElem hk1)]; simp [hk1]) (fun k hk => by have := hnew k hk; omega)
      have hz2 : (m2.hp.set m.hp.length ⟨[[sc]], 1⟩)[m.hp.length]? = some ⟨[[sc]], 1⟩ := by have := (List.getElem?_eq_some_iff.1 hc2).1; simp [this]
      exact gox_
    · rw [decide_eq_false hbb']
      obtain ⟨hz1, hz2⟩ := hexit (hno (by rw [hE]; simpa using hbb')) i' m2 hr2 ⟨_, hc2⟩
      exact gox_
end Go.Proofs.YtdonkjepjobhnaaDoor.IM
namespace Go.Proofs.IM
open Go Go.Proofs.Flt
theorem decF_good (bs : List UInt8) : goodPs (decF bs) ∧ (decF bs).length ≤ 200 := by
  by_cases h : isImg bs
  · obtain ⟨h1, h2⟩ := decF_some h
    exact ⟨h1, (encode_bytes h2).1.n1⟩
  · rw [decF_none h]; simp [goodPs]
theorem push_buf {m : Mem} {bs : List UInt8} : BufO (m.push ⟨bs.map bR, 1⟩) (.sl (.hp m.hp.length) 0 bs.length bs.length) bs m.hp.length :=
  ⟨bs.length, ⟨bs.map bR, 1⟩, rfl, push_at, rfl, by simp, Nat.le_refl _, by
    show List.take bs.length (bs.map bR) = _
    have := List.take_length (l := bs.map bR)
    rwa [List.length_map] at this⟩
theorem PsO.lt {m : Mem} {s : AV} {ps : List Pr} {own : List Nat} (h : PsO m s ps own) : ∀ k ∈ own, k < m.hp.length := by
  obtain ⟨rs, o, os, h1, h2, h3, h4, rfl, -⟩ := h
  intro k hk
  rcases List.mem_append.1 hk with hk | hk
  · rcases h1 with ⟨-, -, rfl⟩ | ⟨j, n, c, B, -, g1, -, -, -, rfl⟩
    · cases hk
    · cases List.mem_singleton.1 hk
      exact (List.getElem?_eq_some_iff.1 g1).1
  · obtain ⟨w, hw, hkw⟩ := List.mem_flatten.1 hk
    obtain ⟨i, hi, rfl⟩ := List.getElem_of_mem hw
    exact (h4 i (rs[i]'(by omega)) (ps[i]'(by omega)) _ (by simp [show i < rs.length by omega]) (by simp [show i < ps.length by omega]) (by simp [hi])).lt k hkw
end Go.Proofs.IM
namespace Go.Proofs.YtdonkjepjobhnaaDoor.IM
open Go Go.Proofs.IM Go.Proofs.Flt
set_option maxHeartbeats 8000000
set_option maxRecDepth 100000
theorem s_FnExactDecode {s : AV} {bs : List UInt8} {m : Mem} {K : AR → Mem → Prop} (hF : FormsR 0 m) (hs : SlR m 1 s (bs.map bR))
    (h : ∀ m', m.le m' → K (.ret (.bool true)) m') :
    Sim Tryd.prog 3 [s] m K := by
  refine entry (cxok []) Tryd.func3 rfl rfl (by decide) (by decide) ?_
  obtain ⟨a1, a2, a3, a4⟩ := hs.facts
  have hlen := hs.len'
  rw [List.length_map] at hlen
  obtain ⟨hgood, hD200⟩ := decF_good bs
  have hok := fun p hp => (hgood p hp).ok
  have hD63 : (decF bs).length < 2 ^ 63 := by omega
  refine goh_ ?_
  refine ⟨fun hc => h m (Mem.le.refl m), fun hc => ?_⟩
  have hl : bs.length ≤ 1048576 := by omega
  refine s_toByteS hs (by omega) ?_
  refine goh_ ?_
  have le1 := Mem.le.push m ⟨bs.map bR, 1⟩
  refine s_specDecode (by simp [Mem.push]) hl (fun q0 own0 m2 hm2 hp0 hn0 => ?_)
  have le2 := le1.trans hm2
  obtain ⟨b1, b2, b3, b4⟩ := hp0.r.facts
  clear le1 hm2 hn0
  refine goh_ ?_
  refine s_toByteS (hs.mono le2) (by omega) ?_
  refine goh_ ?_
  have le23 := Mem.le.push m2 ⟨bs.map bR, 1⟩
  have hx3 := push_buf (m := m2) (bs := bs)
  have hl3 : (m2.push ⟨bs.map bR, 1⟩).hp.length = m2.hp.length + 1 := push_len
  have hjx : (m2.push ⟨bs.map bR, 1⟩).hp[m2.hp.length]? = some ⟨bs.map bR, 1⟩ := push_at
  generalize m2.push ⟨bs.map bR, 1⟩ = m3 at *
  refine s_implDecode (hF.mono (le2.trans le23)) hjx hl (fun q1 own1 m4 hwt hm4 hp1 hn1 => ?_)
  obtain ⟨c1, c2, c3, c4⟩ := hp1.r.facts
  have le24 := le23.trans hm4
  refine goh_ ?_
  refine s_eqCode hp1.r (hp0.r.mono le24) hD63 hok ?_
  refine goh_ ?_
  refine s_toByteS (hs.mono (le2.trans le24)) (by omega) ?_
  refine goh_ ?_
  have le45 := Mem.le.push m4 ⟨bs.map bR, 1⟩
  have hx4 : BufO m4 (.sl (.hp m2.hp.length) 0 bs.length bs.length) bs m2.hp.length := hx3.ext (by rw [hm4.hp _ _ hjx, hjx])
  have hy5 := push_buf (m := m4) (bs := bs)
  have hx5 : BufO (m4.push ⟨bs.map bR, 1⟩) (.sl (.hp m2.hp.length) 0 bs.length bs.length) bs m2.hp.length := by
    have h4 := hm4.hp _ _ hjx
    exact hx4.ext (by rw [le45.hp _ _ h4, h4])
  have hp15 : PsO (m4.push ⟨bs.map bR, 1⟩) q1 (decF bs) own1 := hp1.ext fun k hk => by
    show (m4.hp ++ _)[k]? = _
    rw [List.getElem?_append_left (hp1.lt k hk)]
  generalize m4.push ⟨bs.map bR, 1⟩ = m5 at *
  have le25 := le24.trans le45
  refine s_eqByteS hx5.r hy5.r (by omega) ?_
  refine goh_ ?_
  refine s_markByteS (k := 1) (.inr hx5) (by omega) (by decide) fun m6 hch6 _ => ?_
  have le26 : m2.le m6 := hch6.le le25 fun j hj => by
    obtain rfl : j = m2.hp.length := by simpa using hj
    exact Nat.le_refl _
  have hp16 : PsO m6 q1 (decF bs) own1 := hp15.ext fun k hk => hch6.far k (by
    have := hn1 k hk
    simp; omega)
  have e1 : (((1 + bs.length : Nat) : Int) < 0) = False := by rw [eq_iff_iff, iff_false]; omega
  refine goh_ ?_
  refine s_eqCode hp16.r (hp0.r.mono le26) hD63 hok ?_
  clear e1
  have hsum := sum_stP (ps := decF bs)
  have hst : 1 + sumBy stP (decF bs) ≤ 2 ^ 30 := by unfold wtC at hwt; omega
  refine goh_ ?_
  refine s_markCode (k := 1) hp16 (by omega) hst fun m7 hch7 hmk => ?_
  have le27 : m2.le m7 := hch7.le le26 fun j hj => by have := hn1 j hj; omega
  have le7 := le2.trans le27
  refine goh_ ?_
  refine s_heldCode (k := 1) hmk.r (by omega) hst ?_
  have e1 : (((1 + sumBy stP (decF bs) : Nat) : Int) < 0) = False := by rw [eq_iff_iff, iff_false]; omega
  refine goh_ ?_
  clear e1
  refine s_toByteS (hs.mono le7) (by omega) ?_
  refine goh_ ?_
  have le78 := Mem.le.push m7 ⟨bs.map bR, 1⟩
  refine s_implDecode (hF.mono (le7.trans le78)) (by simp [Mem.push]) hl (fun q2 own2 m9 _ hm9 hp2 _ => ?_)
  obtain ⟨d1, d2, d3, d4⟩ := hp2.r.facts
  have le79 := le78.trans hm9
  refine goh_ ?_
  refine s_eqCode hp2.r (hp0.r.mono (le27.trans le79)) hD63 hok ?_
  refine goh_ ?_
  refine s_heldCode (k := 1) (hmk.r.mono le79) (by omega) hst ?_
  have e1 : (((1 + sumBy stP (decF bs) : Nat) : Int) < 0) = False := by rw [eq_iff_iff, iff_false]; omega
  have h := h _ (le7.trans le79)
  exact gox_
end Go.Proofs.YtdonkjepjobhnaaDoor.IM
