/- Walks and laws, joined into one text. -/
import Derived.Test.YtdonkjepjobhnaaDoorQB
import Derived.Test.YtdonkjepjobhnaaDoorQA
import Derived.Laws.Externs
import Derived.Shelf.Strconv.Itoa0
import Derived.Shelf.Strconv.Itoa1
import Derived.Shelf.LaysM
import Derived.Shelf.Strconv.Itoa2
import Derived.Shelf.Strconv.Itoa3
import Derived.Shelf.Strconv.Itoa4
import Derived.Test.YtdonkjepjobhnaaDoorProg
import Derived.Test.YtdonkjepjobhnaaDoorChecked
import Derived.Sort.Grow
import Derived.WalkKit
import Derived.ProofKit
import Derived.Lib.ItoaMem
import Derived.Test.YtdonkjepjobhnaaDoorQM
import Derived.OpenVars
import Derived.MakeChecks
set_option linter.unusedSimpArgs false
set_option linter.unusedVariables false
set_option linter.unnecessarySimpa false
namespace Go.Proofs.IM
open Go Go.Proofs.Flt
/-- The digits of a number. -/
def decL (n : Nat) : List UInt8 := if h : n < 10 then [UInt8.ofNat (48 + n)] else decL (n / 10) ++ [UInt8.ofNat (48 + n % 10)]
theorem decL_lt {n : Nat} (h : n < 10) : decL n = [UInt8.ofNat (48 + n)] := by rw [decL, dif_pos h]
theorem decL_ge {n : Nat} (h : ¬ n < 10) : decL n = decL (n / 10) ++ [UInt8.ofNat (48 + n % 10)] := by rw [decL, dif_neg h]
theorem decL_len : ∀ n, (decL n).length ≤ n + 1 := by
  intro n
  induction n using Nat.strongRecOn with
  | _ n ih =>
    by_cases h : n < 10
    · rw [decL_lt h]; simp
    · rw [decL_ge h]
      have := ih (n / 10) (by omega)
      simp; omega
def decT (n : Int) : ByteArray := if n < 0 then ⟨(45 :: decL n.natAbs).toArray⟩ else ⟨(decL n.natAbs).toArray⟩
theorem decL_le {k : Nat} : ∀ {n : Nat}, n < 10 ^ (k + 1) → (decL n).length ≤ k + 1 := by
  induction k with
  | zero => intro n h; rw [decL_lt (by simpa using h)]; simp
  | succ k ih =>
    intro n h
    by_cases c : n < 10
    · rw [decL_lt c]; simp
    · rw [decL_ge c]
      have := ih (n := n / 10) (by rw [Nat.pow_succ] at h; omega)
      simp; omega
theorem decT_min : decT (-9223372036854775808) = ⟨#[45, 57, 50, 50, 51, 51, 55, 50, 48, 51, 54, 56, 53, 52, 55, 55, 53, 56, 48, 56]⟩ := by
  unfold decT; simp [decL]
end Go.Proofs.IM
namespace Go.Proofs.YtdonkjepjobhnaaDoor.IM
open Go Go.Proofs.IM Go.Proofs.Flt
set_option maxHeartbeats 8000000
set_option maxRecDepth 100000
theorem s_l1decimalP {n : Nat} {m : Mem} {K : AR → Mem → Prop} (hn : n ≤ 9223372036854775807) (h : K (.ret (.str ⟨(decL n).toArray⟩)) m) : Sim Tryd.prog 45 [.int .i64 n] m K := by
  refine entry (cxok [16]) Tryd.func45 rfl rfl (by decide) (by decide) ?_
  have c0 : ((n : Int) == -9223372036854775808) = false := by
    rw [beq_eq_false_iff_ne]; omega
  have c1 : ((n : Int) < 0) = False := by rw [eq_iff_iff, iff_false]; omega
  have hd := decL_le (k := 18) (n := n) (by omega)
  refine goh_ ?_
  clear c0 c1
  refine loop_ (fun k' t l c m' => m' = m ∧ ∃ (x : Nat) (b : List UInt8), t 0 = .int .i64 x ∧ t 3 = .str ⟨b.toArray⟩ ∧ decL x ++ b = decL n ∧ x ≤ n ∧ k' = x) n ?_ ?_
  · exact ⟨rfl, n, [], rfl, rfl, by simp, by omega, rfl⟩
  intro k' t l c m1 KN ⟨hm, x, b, g0, g3, hS, hx, hk⟩ next
  subst m1
  have hbl : b.length ≤ 19 := by
    have := congrArg List.length hS
    simp only [List.length_append] at this; omega
  have e1 : IntKind.u8.wrap (IntKind.i64.wrap (48 + (x : Int).tmod 10)) = ((UInt8.ofNat (48 + x % 10)).toNat : Int) := by
    rw [Int.tmod_eq_emod_of_nonneg (by omega), i64_wrap, u8_wrap]; simp only [UInt8.toNat_ofNat']; omega
  have e2 := @bR_lc l m (c + 4) _ (UInt8.ofNat (48 + x % 10)) rfl
  have e3 : w64 ((x : Int).tdiv 10) = ((x / 10 : Nat) : Int) := by
    rw [Int.tdiv_eq_ediv_of_nonneg (by omega), w64_id (by omega)]; omega
  have e4 : ((ByteArray.mk [UInt8.ofNat (48 + x % 10)].toArray).size + (ByteArray.mk b.toArray).size ≤ 9223372036854775807) = True := by
    rw [eq_iff_iff, iff_true]
    show 1 + b.toArray.size ≤ 9223372036854775807
    rw [List.size_toArray]; omega
  have e5 := str_app
  by_cases hx0 : x < 10
  · have e6 : (((x / 10 : Nat) : Int) == 0) = true := by
      rw [beq_iff_eq]; omega
    rw [decL_lt hx0] at hS
    have e7 : x % 10 = x := Nat.mod_eq_of_lt hx0
    rw [e7] at e1 e2 e4
    have e8 : [UInt8.ofNat (48 + x)] ++ b = decL n := hS
    clear hS hd hbl e7 hx hx0
    exact gox_
  · have e6 : (((x / 10 : Nat) : Int) == 0) = false := by
      rw [beq_eq_false_iff_ne]; omega
    rw [decL_ge hx0] at hS
    refine goh_ ?_
    refine next _ _ _ _ _ ?_ ⟨rfl, x / 10, [UInt8.ofNat (48 + x % 10)] ++ b, rfl, rfl, ?_, by omega, rfl⟩
    · omega
    · rw [← List.append_assoc]; exact hS
theorem s_l1decimal {n : Int} {m : Mem} {K : AR → Mem → Prop} (hn : -9223372036854775808 ≤ n ∧ n ≤ 9223372036854775807) (h : K (.ret (.str (decT n))) m) : Sim Tryd.prog 45 [.int .i64 n] m K := by
  by_cases h0 : 0 ≤ n
  · obtain ⟨k, rfl⟩ : ∃ k : Nat, n = k := ⟨n.toNat, by omega⟩
    refine s_l1decimalP (by omega) ?_
    have e : decT (k : Int) = ⟨(decL k).toArray⟩ := by unfold decT; rw [if_neg (by omega), Int.natAbs_natCast]
    rw [← e]; exact h
  refine entry (cxok [16]) Tryd.func45 rfl rfl (by decide) (by decide) ?_
  by_cases h1 : n = -9223372036854775808
  · subst h1
    rw [decT_min] at h
    clear hn h0
    exact gox_
  have c0 : (n == -9223372036854775808) = false := by rw [beq_eq_false_iff_ne]; exact h1
  have c1 : (n < 0) = True := by rw [eq_iff_iff, iff_true]; omega
  have c2 : w64 (0 - n) = ((n.natAbs : Nat) : Int) := by rw [w64_id (by omega)]; omega
  have hd := decL_le (k := 18) (n := n.natAbs) (by omega)
  have e4 : ((ByteArray.mk #[45]).size + (ByteArray.mk (decL n.natAbs).toArray).size ≤ 9223372036854775807) = True := by
    rw [eq_iff_iff, iff_true]
    show 1 + (decL n.natAbs).toArray.size ≤ 9223372036854775807
    rw [List.size_toArray]; omega
  have e5 : (ByteArray.mk #[45]) ++ (ByteArray.mk (decL n.natAbs).toArray) = decT n := by
    unfold decT; rw [if_pos (by omega)]; exact str_app [45] _
  have hb : n.natAbs ≤ 9223372036854775807 := by omega
  clear hn h0 h1 hd
  refine goh_ ?_
  refine s_l1decimalP hb ?_
  exact gox_
end Go.Proofs.YtdonkjepjobhnaaDoor.IM
namespace Go.Proofs.Flt
open Ieee Go Go.Proofs.IM
/-- The odd part, and the power of two. -/
def odd2 (n : Nat) : Nat × Nat := if h : n ≠ 0 ∧ n % 2 = 0 then ((odd2 (n / 2)).1, (odd2 (n / 2)).2 + 1) else (n, 0)
termination_by n
decreasing_by all_goals omega
theorem odd2_odd {o : Nat} (h : o % 2 = 1) : ∀ t, odd2 (o * 2 ^ t) = (o, t) := by
  intro t
  induction t with
  | zero => rw [Nat.pow_zero, Nat.mul_one, odd2, dif_neg (by omega)]
  | succ t ih =>
    have hp : 0 < o * 2 ^ t := Nat.mul_pos (by omega) (Nat.two_pow_pos t)
    have e : o * 2 ^ (t + 1) = 2 * (o * 2 ^ t) := by rw [Nat.pow_succ]; ac_rfl
    rw [e, odd2, dif_pos (by omega), show 2 * (o * 2 ^ t) / 2 = o * 2 ^ t by omega, ih]
def decI (n : Int) : List UInt8 := if n < 0 then 45 :: decL n.natAbs else decL n.natAbs
theorem decT_I (n : Int) : decT n = ⟨(decI n).toArray⟩ := by
  unfold decT decI; split <;> rfl
/-- The text of what is neither a NaN nor has a sign. -/
def fTxt (r : Nat) : List UInt8 := if r = 0 then [48, 112, 48] else if r = infR then [105, 110, 102] else decI (odd2 (M r)).1 ++ 112 :: decI ((odd2 (M r)).2 - 1074)
def sgnL (s : Bool) : List UInt8 := if s then [45] else []
def fText (b : Nat) : ByteArray := if nan b then ⟨#[110, 97, 110]⟩ else ⟨(sgnL (neg b) ++ fTxt (rung b)).toArray⟩
theorem fTxt_odd {r o t : Nat} (h0 : r ≠ 0) (hi : r < infR) (ho : o % 2 = 1) (hM : M r = o * 2 ^ t) : fTxt r = decI o ++ 112 :: decI (t - 1074) := by
  unfold fTxt
  rw [if_neg h0, if_neg (by omega), hM, odd2_odd ho]
theorem U_pow : U = 2 ^ k0 := pow_k0.symm
/-- What is no whole number is small. -/
theorem small_of {r : Nat} (h : ¬ U ∣ M r) : r < 4841369599423283200 := by
  rcases Nat.lt_or_ge r 4841369599423283200 with c | c
  · exact c
  · exfalso
    apply h
    rw [M_big (by omega), U_pow]
    exact Nat.dvd_mul_left_of_dvd (Nat.pow_dvd_pow 2 (by rw [k0_eq]; omega)) _
theorem one_le {r : Nat} (h0 : r ≠ 0) (hd : U ∣ M r) : 4607182418800017408 ≤ r := by
  have h1 := val_one
  have h2 : val 4607182418800017408 = M 4607182418800017408 := val_w (by decide)
  have h3 : M 4607182418800017408 = U := by rw [h2] at h1; exact_mod_cast h1
  rcases Nat.lt_or_ge r 4607182418800017408 with c | c
  · have := M_lt c
    have := Nat.le_of_dvd (M_pos (by omega)) hd
    omega
  · exact c
/-- Compared with its floor. -/
theorem floor_w {r t : Nat} (hr : r < infR) (h1 : inr (word false r) → nan t = false ∧ val t = val (word false r) / U * U) (h2 : ¬ inr (word false r) → t = word false r) : feq (word false r) t = decide (U ∣ M r) := by
  have hv := val_w (r := r) (by omega)
  have hn := nan_w (s := false) (r := r) (by omega)
  by_cases hi : inr (word false r)
  · obtain ⟨n1, v1⟩ := h1 hi
    rw [feq_iff, hn, n1, v1, hv, Bool.eq_iff_iff]
    simp only [Bool.not_false, Bool.true_and, decide_eq_true_eq]
    constructor
    · intro h
      refine ⟨M r / U, ?_⟩
      have : M r = M r / U * U := by exact_mod_cast h
      rw [Nat.mul_comm]; exact this
    · intro h
      have := Nat.div_mul_cancel h
      exact_mod_cast this.symm
  · rw [h2 hi, feq_self, hn]
    have : U ∣ M r := by
      apply Classical.byContradiction
      intro c
      apply hi
      refine ⟨hn, ?_, ?_⟩
      · rw [hv]; omega
      · rw [hv]
        have h3 := M_lt (small_of c)
        have h4 := M_52 (r := 4841369599423283200) (Nat.le_refl _) (by omega)
        rw [h4] at h3
        have : M r < K63 * U := Nat.lt_of_lt_of_le h3 (Nat.mul_le_mul_right _ (by decide))
        exact_mod_cast this
    simp [this]
/-- An odd whole number is a small one. -/
theorem odd_small {r q : Nat} (hM : M r = q * U) (ho : q % 2 = 1) : q < 9007199254740992 := by
  rcases Nat.lt_or_ge r 4845873199050653696 with c | c
  · have h1 := M_lt c
    rw [hM] at h1
    have h4 : M 4845873199050653696 = 9007199254740992 * U := by
      rw [M_big (by decide), show 4845873199050653696 / 4503599627370496 - 1 = 1 + k0 by decide, Nat.pow_add, pow_k0, ← Nat.mul_assoc]
    rw [h4] at h1
    exact Nat.lt_of_mul_lt_mul_right h1
  · exfalso
    rw [M_big (by omega), show r / 4503599627370496 - 1 = (r / 4503599627370496 - 1 - k0 - 1) + 1 + k0 by rw [k0_eq]; omega, Nat.pow_add, pow_k0, ← Nat.mul_assoc] at hM
    have := Nat.eq_of_mul_eq_mul_right U_pos hM
    rw [Nat.pow_succ, ← Nat.mul_assoc] at this
    omega
/-- The mantissa and the exponent that the bits tell. -/
theorem M_bits (r : Nat) : M r = (if r / 4503599627370496 = 0 then r % 4503599627370496 else 4503599627370496 + r % 4503599627370496) * 2 ^ ((if r / 4503599627370496 = 0 then 1 else r / 4503599627370496) - 1) := by
  by_cases h : r / 4503599627370496 = 0
  · rw [if_pos h, if_pos h, M_low (by omega), Nat.sub_self, Nat.pow_zero, Nat.mul_one]; omega
  · rw [if_neg h, if_neg h, M_big (by omega)]
end Go.Proofs.Flt
namespace Go.Proofs.IM
open Go Go.RowKit Go.Proofs.Flt Ieee
section
variable {P : Program} {f : FuncId} {fn : Func}
theorem run_integral (s : String) (way : Ieee.Toward) (b : Nat) (w : World) (h : fnan b = false) :
    (Extern.MathFloor.toIntegral s way #[.float .f64 b]).run P w = .ok (.float .f64 (Ieee.double.write ((Ieee.double.read b).integral way))) w := by
  unfold fnan at h
  have key : ∀ d : Ieee.Datum, Ieee.double.read b = d → d.isNaN = false → Extern.MathFloor.toIntegral s way #[.float .f64 b] = pure (.float .f64 (Ieee.double.write (d.integral way))) := by
    intro d hd hn
    have e : Extern.MathFloor.toIntegral s way #[.float .f64 b] = (match Ieee.double.read b with
      | .nan s t => if FloatKind.f64.format.quiet t = t then pure (.float .f64 b) else do
        let kept ← choose (.extern "math.Floor,Ceil,Trunc,RoundToEven.signallingNaN kept" 2)
        pure (.float .f64 (if kept == 1 then b else FloatKind.f64.encode (.nan s (FloatKind.f64.format.quiet t))))
      | d => pure (.float .f64 (Ieee.double.write (d.integral way)))) := rfl
    rw [e, hd]
    cases d with
    | nan s t => cases hn
    | infinity s => rfl
    | number s m i => rfl
  rw [key _ rfl h]
  rfl
theorem run_trunc (hf : P.funcs[f]? = some fn) (hname : (fn.name == "runtime.NumGoroutine") = false) (hb : fn.body.isNone = true) (hn : Extern.findNext fn = none) (he : Extern.find fn = some (Extern.MathFloor.toIntegral "math.archTrunc" .zero)) (b : Nat) (w : World) (h : fnan b = false) :
    (callFunc f #[.float .f64 b]).run P w = .ok (.value (.float .f64 (ftrunc b))) w := by
  rw [run_callFunc_extern hf hname hb hn he, run_integral _ _ _ _ h]; rfl
end
theorem c_condT {C : Cx} {KN : St → Mem → Prop} {KX : Nat → St → Mem → Prop} {KR : St → Mem → Prop} {KP : Value → Mem → Prop} {x y : Code} {st : St} {m : Mem} : aCode C (.cond (.const (.bool true)) x y) KN KX KR KP st m = aCode C x KN KX KR KP st m := by
  have e : eA m st.t (.const (.bool true)) = .bool true := rfl
  simp [aCode, e, setc]
/-- The reference's floor, within int64's range. -/
theorem floor_sub {b : Nat} (hi : inr b) (h3 : fgtr (i2f (tr b)) b = true) : ∃ t, double.sub (i2f (tr b)) 4607182418800017408 = some t ∧ nan t = false ∧ val t = val b / Flt.U * Flt.U := by
    have hU := Ui_pos
    have hn' := hi.1
    have hf := inr_fin hi
    obtain ⟨v1, n1⟩ := val_i2f_tr hf
    rw [fgtr_iff, v1, n1, hn'] at h3
    simp only [Bool.not_false, Bool.true_and, decide_eq_true_eq] at h3
    have h4 : val b ≤ 0 ∧ (tr b - 1) * Flt.U < val b := by
      rcases tr_cases b with ⟨_, h5, _⟩ | ⟨h5, _, h6, _⟩
      · omega
      · exact ⟨h5, h6⟩
    -- below nought and no whole number: the whole part is small
    obtain ⟨r', r1, r2, r3, r4⟩ := i2f_tr hf
    have hlt : M (rung b) / Flt.U < 9007199254740992 := by
      rcases r4 with r4 | r4
      · exfalso
        rw [r4] at r2
        have e1 := natAbs_val b
        have e2 : tr b = -((M (rung b) / Flt.U : Nat) : Int) ∨ tr b = ((M (rung b) / Flt.U : Nat) : Int) := by unfold tr; split <;> simp
        have e3 : (M (rung b) : Int) = ((M (rung b) / Flt.U : Nat) : Int) * Flt.U := by exact_mod_cast r2
        generalize M (rung b) / Flt.U = q at e2 e3
        generalize hz : tr b * (Flt.U : Int) = z at h3 h4 ⊢
        have e4 : z = -(M (rung b) : Int) ∨ z = (M (rung b) : Int) := by
          rcases e2 with e2 | e2
          · left; rw [← hz, e2, Int.neg_mul, ← e3]
          · right; rw [← hz, e2, ← e3]
        rcases tr_cases b with ⟨q1, q2, _⟩ | ⟨q1, q2, q3, q4⟩
        · omega
        · have : z ≤ 0 := by rw [← hz]; exact Int.mul_nonpos_of_nonpos_of_nonneg (by omega) (Int.natCast_nonneg _)
          omega
      · exact r4
    have htr : tr b = -((M (rung b) / Flt.U : Nat) : Int) := by
      have e2 : tr b = -((M (rung b) / Flt.U : Nat) : Int) ∨ tr b = ((M (rung b) / Flt.U : Nat) : Int) := by unfold tr; split <;> simp
      generalize M (rung b) / Flt.U = q at e2 ⊢
      rcases tr_cases b with ⟨_, h5, _⟩ | ⟨_, _, _, h6⟩
      · omega
      · omega
    obtain ⟨r2', s1, s2⟩ := whole_rung (M (rung b) / Flt.U + 1) (by omega)
    have hfin : rung (i2f (tr b)) < infR := by
      rw [r3, rung_word _ _ (by unfold infR at r1; omega)]; exact r1
    have h1fin : rung 4607182418800017408 < infR := by decide
    have hd : val (i2f (tr b)) - val 4607182418800017408 = -(((M (rung b) / Flt.U + 1 : Nat) : Int) * Flt.U) := by
      rw [v1, val_one, htr]
      generalize M (rung b) / Flt.U = q
      push_cast
      rw [Int.add_mul, Int.neg_mul]; omega
    have hsub := sub_exact hfin h1fin (r := r2') (by omega) (by rw [hd, s2, Int.natAbs_neg, Int.natAbs_mul, Int.natAbs_natCast, Int.natAbs_natCast]) (by
      rw [hd]
      have : 0 < ((M (rung b) / Flt.U + 1 : Nat) : Int) * Flt.U := Int.mul_pos (by exact_mod_cast Nat.succ_pos _) hU
      generalize ((M (rung b) / Flt.U + 1 : Nat) : Int) * Flt.U = z at *
      omega)
    have hlt2 : r2' < 9223372036854775808 := by unfold infR at s1; omega
    refine ⟨_, hsub, ?_⟩
    refine ⟨nan_word _ _ (by omega), ?_⟩
    rw [val_word _ _ hlt2, hd, if_pos (by
      have : 0 < ((M (rung b) / Flt.U + 1 : Nat) : Int) * Flt.U := Int.mul_pos (by exact_mod_cast Nat.succ_pos _) hU
      simp only [decide_eq_true_eq]
      generalize ((M (rung b) / Flt.U + 1 : Nat) : Int) * Flt.U = z at *
      omega), s2]
    rw [floor_unique (q := tr b - 1) hU (by omega) (by rw [Int.sub_add_cancel]; exact h3)]
    rw [htr]
    generalize M (rung b) / Flt.U = q
    push_cast
    rw [Int.sub_mul, Int.add_mul, Int.neg_mul]; omega
theorem floor_keep {b : Nat} (hi : inr b) (h3 : ¬ fgtr (i2f (tr b)) b = true) : nan (i2f (tr b)) = false ∧ val (i2f (tr b)) = val b / Flt.U * Flt.U := by
    have hn' := hi.1
    have hf := inr_fin hi
    have hU := Ui_pos
    obtain ⟨v1, n1⟩ := val_i2f_tr hf
    refine ⟨n1, ?_⟩
    rw [fgtr_iff, v1, n1, hn'] at h3
    simp only [Bool.not_false, Bool.true_and, decide_eq_true_eq] at h3
    rw [v1, floor_unique (q := tr b) hU (by omega) ?_]
    rcases tr_cases b with ⟨_, _, h5, _⟩ | ⟨_, h5, _, _⟩
    · exact h5
    · rw [Int.add_mul]; omega

end Go.Proofs.IM
namespace Go.Proofs.YtdonkjepjobhnaaDoor.IM
open Go Go.Proofs.IM Go.Proofs.Flt
set_option maxHeartbeats 8000000
set_option maxRecDepth 100000
theorem s_Trunc {b : Nat} {m : Mem} {K : AR → Mem → Prop} (hb : nan b = false) (h : K (.ret (.flt (ftrunc b))) m) : Sim Tryd.prog 173 [.flt b] m K := by
  refine entry (cxok []) Tryd.func173 rfl rfl (by decide) (by decide) ?_
  refine goh_ ?_
  rw [c_condT]
  refine goh_ ?_
  refine sim_one (a := .flt b) (r := .flt (ftrunc b)) ?_ fun E w x hx => by
    cases hx
    exact ⟨_, run_trunc Tryd.func190 (by decide) rfl (by kernel_rfl) (by kernel_rfl) b w (by rw [← hb]; exact fnan_eq b), .flt _⟩
  exact gox_
theorem s_l1nan {b : Nat} {m : Mem} {K : AR → Mem → Prop} (h : K (.ret (.bool (nan b))) m) : Sim Tryd.prog 115 [.flt b] m K := by
  refine entry (cxok []) Tryd.func115 rfl rfl (by decide) (by decide) ?_
  have e : fne b b = nan b := by rw [fne_iff, feq_self, Bool.not_not]
  exact gox_
theorem s_l1floor {b : Nat} {m : Mem} {K : AR → Mem → Prop} (h : ∀ t, (inr b → nan t = false ∧ val t = val b / Flt.U * Flt.U) → (¬ inr b → t = b) → K (.ret (.flt t)) m) : Sim Tryd.prog 116 [.flt b] m K := by
  refine entry (cxok []) Tryd.func116 rfl rfl (by decide) (by decide) ?_
  refine goh_ ?_
  refine s_l1nan ?_
  cases hn : nan b with
  | true => have h := h b (fun q => by rw [q.1] at hn; cases hn) (fun _ => rfl); exact gox_
  | false =>
    cases h0 : feq b 0 with
    | true =>
      have h := h b (fun q => ⟨hn, by rw [feq_iff, val_zero] at h0; simp [hn, nan_consts] at h0; rw [h0]; simp⟩) (fun _ => rfl)
      exact gox_
    | false =>
      cases h1 : fgeq b 4890909195324358656 with
      | true =>
        have h := h b (fun q => by
          rw [fgeq_iff, val_two63] at h1
          simp only [hn, nan_consts, Bool.not_false, Bool.true_and, decide_eq_true_eq] at h1
          exact absurd q.2.2 (by omega)) (fun _ => rfl)
        exact gox_
      | false =>
        have h1' : val b < ((K63 * Flt.U : Nat) : Int) := by
          rw [fgeq_iff, val_two63] at h1
          simp only [hn, nan_consts, Bool.not_false, Bool.true_and, decide_eq_false_iff_not] at h1
          omega
        cases h2 : fleq b 14114281232179134464 with
        | true =>
          have h := h b (fun q => by
            rw [fleq_iff, val_m63] at h2
            simp only [hn, nan_consts, Bool.not_false, Bool.true_and, decide_eq_true_eq] at h2
            refine ⟨hn, ?_⟩
            have e : val b = (-(K63 : Int)) * Flt.U := by have := q.2.1; rw [Int.neg_mul]; push_cast at *; omega
            rw [e, Int.mul_ediv_cancel _ (Int.ne_of_gt Ui_pos)]) (fun _ => rfl)
          exact gox_
        | false =>
          have hi : inr b := by
            rw [fleq_iff, val_m63] at h2
            simp only [hn, nan_consts, Bool.not_false, Bool.true_and, decide_eq_false_iff_not] at h2
            exact ⟨hn, by omega, h1'⟩
          obtain ⟨ok, ei⟩ := inr_f2i hi
          clear h1'
          cases h3 : fgtr (i2f (tr b)) b with
          | true =>
            obtain ⟨t, e1, e2⟩ := floor_sub hi h3
            have h := h t (fun _ => e2) (fun q => absurd hi q)
            clear hi e2
            exact gox_
          | false =>
            have h := h _ (fun _ => floor_keep hi (by rw [h3]; decide)) (fun q => absurd hi q)
            clear hi
            exact gox_
end Go.Proofs.YtdonkjepjobhnaaDoor.IM
namespace Go.Proofs.YtdonkjepjobhnaaDoor.Sh
open Go Go.Proofs Go.Shelf
def lays283_ren : Go.Shelf.Ren := ⟨fun | 283 => 157 | n => n, fun | 3 => 3 | 9 => 9 | 4 => 4 | n => n, fun | n => n⟩
theorem lays283 : Go.Proofs.Lays.n283 Tryd.prog lays283_ren := {
  mixed := by kernel_rfl
  f283 := Tryd.func157.trans (congrArg some (by kernel_rfl))
  t3 := Tryd.underlying3
  a3 := Tryd.isAgg3
  z3 := Tryd.sizeOf3
  v3 := Tryd.zeroValue3
  t4 := Tryd.underlying4
  a4 := Tryd.isAgg4
  z4 := Tryd.sizeOf4
  v4 := Tryd.zeroValue4
  t9 := Tryd.underlying9
  a9 := Tryd.isAgg9
  z9 := Tryd.sizeOf9
  v9 := Tryd.zeroValue9 }
open Go.Lib in
theorem internal_strconv_small (i : Nat) (h : i < 100) (w : World) :
    Calls Tryd.prog 157 #[.int .i64 i] w fun e w' => e = .returned (.string ⟨(Lib.decDigits i).toArray⟩) ∧ w' = w := Any.internal_strconv_small lays283 i h w
def laysM284_ren : Go.Shelf.Ren := ⟨fun | 284 => 158 | 129 => 182 | 317 => 181 | 318 => 183 | n => n, fun | 53 => 143 | 3 => 3 | 212 => 211 | 0 => 0 | 4 => 4 | 46 => 145 | 5 => 5 | 9 => 9 | n => n, fun | 17 => 4 | n => n⟩
theorem laysM284 : Go.Proofs.LaysM.n284 Tryd.prog laysM284_ren := {
  mixed := by kernel_rfl
  f129 := Tryd.func182.trans (congrArg some (by kernel_rfl))
  f284 := Tryd.func158.trans (congrArg some (by kernel_rfl))
  f317 := Tryd.func181.trans (congrArg some (by kernel_rfl))
  f318 := Tryd.func183.trans (congrArg some (by kernel_rfl))
  t0 := Tryd.underlying0
  a0 := Tryd.isAgg0
  z0 := Tryd.sizeOf0
  v0 := Tryd.zeroValue0
  t3 := Tryd.underlying3
  a3 := Tryd.isAgg3
  z3 := Tryd.sizeOf3
  v3 := Tryd.zeroValue3
  t4 := Tryd.underlying4
  a4 := Tryd.isAgg4
  z4 := Tryd.sizeOf4
  v4 := Tryd.zeroValue4
  t5 := Tryd.underlying5
  a5 := Tryd.isAgg5
  z5 := Tryd.sizeOf5
  v5 := Tryd.zeroValue5
  t9 := Tryd.underlying9
  a9 := Tryd.isAgg9
  z9 := Tryd.sizeOf9
  v9 := Tryd.zeroValue9
  t46 := Tryd.underlying145
  a46 := Tryd.isAgg145
  z46 := Tryd.sizeOf145
  v46 := Tryd.zeroValue145
  t53 := Tryd.underlying143
  a53 := Tryd.isAgg143
  z53 := Tryd.sizeOf143
  v53 := Tryd.zeroValue143
  t212 := Tryd.underlying211
  a212 := Tryd.isAgg211
  z212 := Tryd.sizeOf211
  v212 := Tryd.zeroValue211
  g17 := by kernel_rfl
  i0 := by kernel_rfl
  i3 := by kernel_rfl
  i4 := by kernel_rfl
  i5 := by kernel_rfl
  i9 := by kernel_rfl
  i46 := by kernel_rfl
  i53 := by kernel_rfl
  i212 := by kernel_rfl
  m17 := by kernel_rfl }
open Go.Lib in
theorem internal_strconv_numDigits (u : Nat) (h1 : 1 ≤ u) (h2 : u < 18446744073709551616) (w : World) (htab : Lib.TabIs Tryd.prog w "internal/strconv.uint64pow10" .u64 Lib.pow10Tab) :
    Calls Tryd.prog 158 #[.int .u64 u] w fun e w' => e = .returned (.int .i64 (Lib.nDigits u)) ∧ w' = w := Any.internal_strconv_numDigits laysM284 u h1 h2 w htab
def lays285_ren : Go.Shelf.Ren := ⟨fun | 285 => 159 | n => n, fun | 37 => 22 | 53 => 143 | 3 => 3 | 4 => 4 | 51 => 201 | 9 => 9 | 5 => 5 | 0 => 0 | n => n, fun | n => n⟩
theorem lays285 : Go.Proofs.Lays.n285 Tryd.prog lays285_ren := {
  mixed := by kernel_rfl
  f285 := Tryd.func159.trans (congrArg some (by kernel_rfl))
  t0 := Tryd.underlying0
  a0 := Tryd.isAgg0
  z0 := Tryd.sizeOf0
  v0 := Tryd.zeroValue0
  t3 := Tryd.underlying3
  a3 := Tryd.isAgg3
  z3 := Tryd.sizeOf3
  v3 := Tryd.zeroValue3
  t4 := Tryd.underlying4
  a4 := Tryd.isAgg4
  z4 := Tryd.sizeOf4
  v4 := Tryd.zeroValue4
  t5 := Tryd.underlying5
  a5 := Tryd.isAgg5
  z5 := Tryd.sizeOf5
  v5 := Tryd.zeroValue5
  t9 := Tryd.underlying9
  a9 := Tryd.isAgg9
  z9 := Tryd.sizeOf9
  v9 := Tryd.zeroValue9
  t37 := Tryd.underlying22
  a37 := Tryd.isAgg22
  z37 := Tryd.sizeOf22
  v37 := Tryd.zeroValue22
  t51 := Tryd.underlying201
  a51 := Tryd.isAgg201
  z51 := Tryd.sizeOf201
  v51 := Tryd.zeroValue201
  t53 := Tryd.underlying143
  a53 := Tryd.isAgg143
  z53 := Tryd.sizeOf143
  v53 := Tryd.zeroValue143 }
open Go.RowKit Go.Sort Go.Lib in
theorem internal_strconv_formatBase10 (blk off cap : Nat) (u : Nat) (d : Array UInt8) (w : World) (hH : Holds (fun (b : UInt8) => Value.int .u8 (b.toNat : Int)) w blk off d) (hu : u < 10 ^ d.size) (hu64 : u < 18446744073709551616) (hsz : d.size < 4611686018427387904) :
    Calls Tryd.prog 159 #[.slice (some ⟨blk, off, none⟩) d.size cap, .int .u64 u] w fun e w' =>
      e = .returned (.tuple #[]) ∧ ∃ (n v' : Nat) (dk : Array UInt8), w' = (putRow (fun (b : UInt8) => Value.int .u8 (b.toNat : Int)) w blk off dk).drewN n ∧ FmtInv d.size u 0 v' dk := Any.internal_strconv_formatBase10 lays285 blk off cap u d w hH hu hu64 hsz
def laysM171_ren : Go.Shelf.Ren := ⟨fun | 171 => 93 | 243 => 150 | 246 => 117 | 283 => 157 | 284 => 158 | 285 => 159 | 286 => 160 | 129 => 182 | 317 => 181 | 318 => 183 | 319 => 184 | 320 => 185 | 337 => 196 | 338 => 197 | n => n, fun | 3 => 3 | 9 => 9 | 2 => 2 | 4 => 4 | 171 => 183 | 0 => 0 | 53 => 143 | 37 => 22 | 5 => 5 | 173 => 186 | 212 => 211 | 51 => 201 | 20 => 20 | 213 => 212 | 46 => 145 | 232 => 238 | 233 => 239 | n => n, fun | 17 => 4 | 18 => 5 | 19 => 6 | n => n⟩
theorem laysM171 : Go.Proofs.LaysM.n171 Tryd.prog laysM171_ren := {
  mixed := by kernel_rfl
  f129 := Tryd.func182.trans (congrArg some (by kernel_rfl))
  f171 := Tryd.func93.trans (congrArg some (by kernel_rfl))
  f243 := Tryd.func150.trans (congrArg some (by kernel_rfl))
  f246 := Tryd.func117.trans (congrArg some (by kernel_rfl))
  f283 := Tryd.func157.trans (congrArg some (by kernel_rfl))
  f284 := Tryd.func158.trans (congrArg some (by kernel_rfl))
  f285 := Tryd.func159.trans (congrArg some (by kernel_rfl))
  f286 := Tryd.func160.trans (congrArg some (by kernel_rfl))
  f317 := Tryd.func181.trans (congrArg some (by kernel_rfl))
  f318 := Tryd.func183.trans (congrArg some (by kernel_rfl))
  f319 := Tryd.func184.trans (congrArg some (by kernel_rfl))
  f320 := Tryd.func185.trans (congrArg some (by kernel_rfl))
  f337 := Tryd.func196.trans (congrArg some (by kernel_rfl))
  f338 := Tryd.func197.trans (congrArg some (by kernel_rfl))
  t0 := Tryd.underlying0
  a0 := Tryd.isAgg0
  z0 := Tryd.sizeOf0
  v0 := Tryd.zeroValue0
  t2 := Tryd.underlying2
  a2 := Tryd.isAgg2
  z2 := Tryd.sizeOf2
  v2 := Tryd.zeroValue2
  t3 := Tryd.underlying3
  a3 := Tryd.isAgg3
  z3 := Tryd.sizeOf3
  v3 := Tryd.zeroValue3
  t4 := Tryd.underlying4
  a4 := Tryd.isAgg4
  z4 := Tryd.sizeOf4
  v4 := Tryd.zeroValue4
  t5 := Tryd.underlying5
  a5 := Tryd.isAgg5
  z5 := Tryd.sizeOf5
  v5 := Tryd.zeroValue5
  t9 := Tryd.underlying9
  a9 := Tryd.isAgg9
  z9 := Tryd.sizeOf9
  v9 := Tryd.zeroValue9
  t20 := Tryd.underlying20
  a20 := Tryd.isAgg20
  z20 := Tryd.sizeOf20
  v20 := Tryd.zeroValue20
  t37 := Tryd.underlying22
  a37 := Tryd.isAgg22
  z37 := Tryd.sizeOf22
  v37 := Tryd.zeroValue22
  t46 := Tryd.underlying145
  a46 := Tryd.isAgg145
  z46 := Tryd.sizeOf145
  v46 := Tryd.zeroValue145
  t51 := Tryd.underlying201
  a51 := Tryd.isAgg201
  z51 := Tryd.sizeOf201
  v51 := Tryd.zeroValue201
  t53 := Tryd.underlying143
  a53 := Tryd.isAgg143
  z53 := Tryd.sizeOf143
  v53 := Tryd.zeroValue143
  t171 := Tryd.underlying183
  a171 := Tryd.isAgg183
  z171 := Tryd.sizeOf183
  v171 := Tryd.zeroValue183
  t173 := Tryd.underlying186
  a173 := Tryd.isAgg186
  z173 := Tryd.sizeOf186
  v173 := Tryd.zeroValue186
  t212 := Tryd.underlying211
  a212 := Tryd.isAgg211
  z212 := Tryd.sizeOf211
  v212 := Tryd.zeroValue211
  t213 := Tryd.underlying212
  a213 := Tryd.isAgg212
  z213 := Tryd.sizeOf212
  t232 := Tryd.underlying238
  a232 := Tryd.isAgg238
  z232 := Tryd.sizeOf238
  v232 := Tryd.zeroValue238
  t233 := Tryd.underlying239
  a233 := Tryd.isAgg239
  z233 := Tryd.sizeOf239
  v233 := Tryd.zeroValue239
  g17 := by kernel_rfl
  g18 := by kernel_rfl
  g19 := by kernel_rfl
  i0 := by kernel_rfl
  i2 := by kernel_rfl
  i3 := by kernel_rfl
  i4 := by kernel_rfl
  i5 := by kernel_rfl
  i9 := by kernel_rfl
  i20 := by kernel_rfl
  i37 := by kernel_rfl
  i46 := by kernel_rfl
  i51 := by kernel_rfl
  i53 := by kernel_rfl
  i171 := by kernel_rfl
  i173 := by kernel_rfl
  i212 := by kernel_rfl
  i232 := by kernel_rfl
  i233 := by kernel_rfl
  m17 := by kernel_rfl
  m18 := by kernel_rfl
  m19 := by kernel_rfl }
open Go.RowKit Go.Sort Go.Lib in
theorem strconv_Itoa (n : Int) (h0 : -9223372036854775808 ≤ n) (h1 : n ≤ 9223372036854775807) (w : World) (htab : Lib.TabIs Tryd.prog w "internal/strconv.uint64pow10" .u64 Lib.pow10Tab) :
    Calls Tryd.prog 93 #[.int .i64 n] w fun e w' => e = .returned (.string ⟨(Lib.itoa n).toArray⟩) ∧ ∃ k os, w' = grow (w.drewN k) os := Any.strconv_Itoa laysM171 n h0 h1 w htab
def laysM173_ren : Go.Shelf.Ren := ⟨fun | 173 => 48 | 246 => 117 | 283 => 157 | 284 => 158 | 285 => 159 | 286 => 160 | 129 => 182 | 317 => 181 | 318 => 183 | 319 => 184 | 320 => 185 | 337 => 196 | 338 => 197 | n => n, fun | 2 => 2 | 3 => 3 | 9 => 9 | 4 => 4 | 171 => 183 | 0 => 0 | 53 => 143 | 37 => 22 | 5 => 5 | 173 => 186 | 212 => 211 | 51 => 201 | 20 => 20 | 213 => 212 | 46 => 145 | 232 => 238 | 233 => 239 | n => n, fun | 17 => 4 | 18 => 5 | 19 => 6 | n => n⟩
theorem laysM173 : Go.Proofs.LaysM.n173 Tryd.prog laysM173_ren := {
  mixed := by kernel_rfl
  f129 := Tryd.func182.trans (congrArg some (by kernel_rfl))
  f173 := Tryd.func48.trans (congrArg some (by kernel_rfl))
  f246 := Tryd.func117.trans (congrArg some (by kernel_rfl))
  f283 := Tryd.func157.trans (congrArg some (by kernel_rfl))
  f284 := Tryd.func158.trans (congrArg some (by kernel_rfl))
  f285 := Tryd.func159.trans (congrArg some (by kernel_rfl))
  f286 := Tryd.func160.trans (congrArg some (by kernel_rfl))
  f317 := Tryd.func181.trans (congrArg some (by kernel_rfl))
  f318 := Tryd.func183.trans (congrArg some (by kernel_rfl))
  f319 := Tryd.func184.trans (congrArg some (by kernel_rfl))
  f320 := Tryd.func185.trans (congrArg some (by kernel_rfl))
  f337 := Tryd.func196.trans (congrArg some (by kernel_rfl))
  f338 := Tryd.func197.trans (congrArg some (by kernel_rfl))
  t0 := Tryd.underlying0
  a0 := Tryd.isAgg0
  z0 := Tryd.sizeOf0
  v0 := Tryd.zeroValue0
  t2 := Tryd.underlying2
  a2 := Tryd.isAgg2
  z2 := Tryd.sizeOf2
  v2 := Tryd.zeroValue2
  t3 := Tryd.underlying3
  a3 := Tryd.isAgg3
  z3 := Tryd.sizeOf3
  v3 := Tryd.zeroValue3
  t4 := Tryd.underlying4
  a4 := Tryd.isAgg4
  z4 := Tryd.sizeOf4
  v4 := Tryd.zeroValue4
  t5 := Tryd.underlying5
  a5 := Tryd.isAgg5
  z5 := Tryd.sizeOf5
  v5 := Tryd.zeroValue5
  t9 := Tryd.underlying9
  a9 := Tryd.isAgg9
  z9 := Tryd.sizeOf9
  v9 := Tryd.zeroValue9
  t20 := Tryd.underlying20
  a20 := Tryd.isAgg20
  z20 := Tryd.sizeOf20
  v20 := Tryd.zeroValue20
  t37 := Tryd.underlying22
  a37 := Tryd.isAgg22
  z37 := Tryd.sizeOf22
  v37 := Tryd.zeroValue22
  t46 := Tryd.underlying145
  a46 := Tryd.isAgg145
  z46 := Tryd.sizeOf145
  v46 := Tryd.zeroValue145
  t51 := Tryd.underlying201
  a51 := Tryd.isAgg201
  z51 := Tryd.sizeOf201
  v51 := Tryd.zeroValue201
  t53 := Tryd.underlying143
  a53 := Tryd.isAgg143
  z53 := Tryd.sizeOf143
  v53 := Tryd.zeroValue143
  t171 := Tryd.underlying183
  a171 := Tryd.isAgg183
  z171 := Tryd.sizeOf183
  v171 := Tryd.zeroValue183
  t173 := Tryd.underlying186
  a173 := Tryd.isAgg186
  z173 := Tryd.sizeOf186
  v173 := Tryd.zeroValue186
  t212 := Tryd.underlying211
  a212 := Tryd.isAgg211
  z212 := Tryd.sizeOf211
  v212 := Tryd.zeroValue211
  t213 := Tryd.underlying212
  a213 := Tryd.isAgg212
  z213 := Tryd.sizeOf212
  t232 := Tryd.underlying238
  a232 := Tryd.isAgg238
  z232 := Tryd.sizeOf238
  v232 := Tryd.zeroValue238
  t233 := Tryd.underlying239
  a233 := Tryd.isAgg239
  z233 := Tryd.sizeOf239
  v233 := Tryd.zeroValue239
  g17 := by kernel_rfl
  g18 := by kernel_rfl
  g19 := by kernel_rfl
  i0 := by kernel_rfl
  i2 := by kernel_rfl
  i3 := by kernel_rfl
  i4 := by kernel_rfl
  i5 := by kernel_rfl
  i9 := by kernel_rfl
  i20 := by kernel_rfl
  i37 := by kernel_rfl
  i46 := by kernel_rfl
  i51 := by kernel_rfl
  i53 := by kernel_rfl
  i171 := by kernel_rfl
  i173 := by kernel_rfl
  i212 := by kernel_rfl
  i232 := by kernel_rfl
  i233 := by kernel_rfl
  m17 := by kernel_rfl
  m18 := by kernel_rfl
  m19 := by kernel_rfl }
open Go.RowKit Go.Sort Go.Lib in
theorem strconv_FormatInt_10 (n : Int) (h0 : -9223372036854775808 ≤ n) (h1 : n ≤ 9223372036854775807) (w : World) (htab : Lib.TabIs Tryd.prog w "internal/strconv.uint64pow10" .u64 Lib.pow10Tab) :
    Calls Tryd.prog 48 #[.int .i64 n, .int .i64 10] w fun e w' => e = .returned (.string ⟨(Lib.itoa n).toArray⟩) ∧ ∃ k os, w' = grow (w.drewN k) os := Any.strconv_FormatInt_10 laysM173 n h0 h1 w htab
end Go.Proofs.YtdonkjepjobhnaaDoor.Sh
namespace Go.Proofs.YtdonkjepjobhnaaDoor.IM
open Go Go.RowKit Go.Sort Go.Lib Go.Proofs.YtdonkjepjobhnaaDoor.Sh
set_option maxHeartbeats 8000000
set_option maxRecDepth 100000
theorem holds_zero0 (w : World) (T : TypeId) (nd : Nat) (hs : nd ≤ 24) : Holds (fun (b : UInt8) => Value.int .u8 (b.toNat : Int)) (w.alloc (.cells Lib.zeros24 T)) w.heap.size 0 (Array.replicate nd (0 : UInt8)) := fun j hj => by
  have hj' : j < nd := by simpa using hj
  refine ⟨?_, World.frozen?_alloc_new _ _ _ _⟩
  rw [World.cell?_alloc_new, Lib.zeros24_at _ (by omega), getElem!_pos _ j hj]
  simp
/-- FormatUint in base 10. -/
theorem formatUint_in (u : Nat) (hu64 : u < 18446744073709551616) (w : World) (htab : Lib.TabIs Tryd.prog w "internal/strconv.uint64pow10" .u64 Lib.pow10Tab) :
    Calls Tryd.prog 162 #[.int .u64 u, .int .i64 10] w fun e w' => e = .returned (.string ⟨(Lib.decDigits u).toArray⟩) ∧ ∃ k os, w' = grow (w.drewN k) os := by
  by_cases hs : u < 100
  · have hw : IntKind.i64.wrap (u : Int) = u := by rw [IntKind.wrap_i64]; omega
    have hc : ((u : Int) < 100) := by omega
    go_enter Tryd.func162, Tryd.ntmps162
    go_wp2_with (go_at_call 157; refine (internal_strconv_small u hs _).mono ?_; rintro e w' ⟨rfl, rfl⟩)
    go_ret
    exact ⟨rfl, 0, #[], by simp [World.drewN_zero]⟩
  · have hu1 : 1 ≤ u := by omega
    have hc : ¬ ((u : Int) < 100) := by omega
    have hnd : Lib.nDigits u ≤ 20 := by have := Lib.numDigits_eq u hu1 hu64; split at this <;> omega
    have hal : Tryd.prog.arrayLen 183 = 24 := by kernel_rfl
    have hsl : ∀ W, (Instr.sliceAt 183 (.pointer (some ⟨w.heap.size, 0, none⟩)) none (some (.int .i64 (Lib.nDigits u : Int))) none).run Tryd.prog W = .ok (.slice (some ⟨w.heap.size, 0, none⟩) (Lib.nDigits u) 24) W := fun W => by
      rw [run_sliceAt_array_h W 183 ⟨w.heap.size, 0, none⟩ (by simp [Program.arrayLen, Program.elem, Tryd.underlying183]) .i64 (Lib.nDigits u : Int) (by omega) (by rw [hal]; omega)]
      go_simp
      try omega
    have hH0 := holds_zero0 w 183 (Lib.nDigits u) (by omega)
    have hfmt := internal_strconv_formatBase10 w.heap.size 0 24 u (Array.replicate (Lib.nDigits u) 0) (w.alloc (.cells Lib.zeros24 183)) hH0 (by rw [Array.size_replicate]; exact Lib.lt_pow_nDigits u) hu64 (by rw [Array.size_replicate]; omega)
    rw [Array.size_replicate] at hfmt
    have HH0 := Lib.hid hH0
    clear hH0 hal
    go_enter Tryd.func162, Tryd.ntmps162
    go_wp2_with (first
      | (go_at_call 158; refine (internal_strconv_numDigits u hu1 hu64 _ (Lib.tabIs_alloc htab _)).mono ?_; rintro e w' ⟨rfl, rfl⟩))
    go_at_call 159
    refine hfmt.mono ?_
    rintro e w' ⟨rfl, k, v', dk, rfl, hF⟩
    have hcv : (convert 22 9 (.slice (some ⟨w.heap.size, 0, none⟩) (Lib.nDigits u) 24)).run Tryd.prog ((putRow (fun (b : UInt8) => Value.int .u8 (b.toNat : Int)) (w.alloc (.cells Lib.zeros24 183)) w.heap.size 0 dk).drewN k) = .ok (.string ⟨(Lib.decDigits u).toArray⟩) ((putRow (fun (b : UInt8) => Value.int .u8 (b.toNat : Int)) (w.alloc (.cells Lib.zeros24 183)) w.heap.size 0 dk).drewN k) := by
      have h := run_convert_bytes_back (P := Tryd.prog) ((putRow (fun (b : UInt8) => Value.int .u8 (b.toNat : Int)) (w.alloc (.cells Lib.zeros24 183)) w.heap.size 0 dk).drewN k) 22 9 5 ⟨w.heap.size, 0, none⟩ 24 (Lib.decDigits u) Tryd.underlying22 Tryd.underlying5 Tryd.underlying9 (fun j hj => by
        rw [Lib.row_is_numeral hF j hj, Lib.add_plain, World.cell?_drewN]
        exact cell?_putRow (fun (b : UInt8) => Value.int .u8 (b.toNat : Int)) _ w.heap.size 0 _ dk HH0.out (by rw [hF.size, Array.size_replicate]) j (by rw [hF.size]; rw [Lib.decDigits_length] at hj; exact hj))
      rw [Lib.decDigits_length] at h
      exact h
    go_wp2
    go_ret
    refine ⟨rfl, ?_⟩
    rw [alloc_eq_grow]
    obtain ⟨os', _, e⟩ := putRow_grow_new (fun (b : UInt8) => Value.int .u8 (b.toNat : Int)) w #[Obj.cells Lib.zeros24 183] w.heap.size 0 dk (Nat.le_refl _)
    exact ⟨k, os', by rw [e]; rfl⟩
theorem formatUint (u : Nat) (hu64 : u < 18446744073709551616) (w : World) (htab : Lib.TabIs Tryd.prog w "internal/strconv.uint64pow10" .u64 Lib.pow10Tab) :
    Calls Tryd.prog 121 #[.int .u64 u, .int .i64 10] w fun e w' => e = .returned (.string ⟨(Lib.decDigits u).toArray⟩) ∧ ∃ k os, w' = grow (w.drewN k) os := by
  go_enter Tryd.func121, Tryd.ntmps121
  go_wp2_with (go_at_call 162; refine (formatUint_in u hu64 _ htab).mono ?_; rintro e w' ⟨rfl, k, os, rfl⟩)
  go_ret
  exact ⟨rfl, k, os, rfl⟩
end Go.Proofs.YtdonkjepjobhnaaDoor.IM
namespace Go.Proofs.IM
open Go Go.RowKit Go.Sort
theorem decL_eq : ∀ n, decL n = Lib.decDigits n := by
  intro n
  induction n using Nat.strongRecOn with
  | _ n ih =>
    by_cases h : n < 10
    · rw [decL_lt h, Lib.decDigits, dif_pos h]
    · rw [decL_ge h, Lib.decDigits, dif_neg h, ih (n / 10) (by omega)]
theorem decT_itoa (n : Int) : decT n = ⟨(Lib.itoa n).toArray⟩ := by
  unfold decT Lib.itoa
  by_cases h : n < 0
  · rw [if_pos h, if_pos h, decL_eq]
  · rw [if_neg h, if_neg h, decL_eq, show n.natAbs = n.toNat by omega]
theorem MR.grown {E : Env} {m : Mem} {w : World} (h : MR E m w) (k : Nat) (os : Array Obj) : MR E m (grow (w.drewN k) os) where
  bel := h.bel.trans ⟨rfl, rfl, rfl, by simp, fun j hj => heap_grow_old (w.drewN k) os (Nat.lt_of_lt_of_le hj (Nat.le_trans h.bsz h.bel.size))⟩
  bsz := h.bsz
  hp := fun j B hj => let ⟨b, e, a⟩ := h.hp j B hj; ⟨b, e, a.same (heap_grow_old (w.drewN k) os a.lt)⟩
  hpd := h.hpd
  hpb := h.hpb
  inj := h.inj
  ro := h.ro
  gl := h.gl
  fc := h.fc
  gh := h.gh.step rfl fun j s b a1 a2 => ⟨a1, a2, heap_grow_old (w.drewN k) os (h.h_lt a2)⟩
/-- A function whose contract tells that the world has grown and nothing else. -/
theorem sim_grow {P : Program} {f : FuncId} {args : List AV} {m : Mem} {K : AR → Mem → Prop} {r : AV} (hc : callable P f = true) (hK : K (.ret r) m)
    (h : ∀ (E : Env) (w : World) (xs : Array Value), MR E m w → VRs E noPl args xs → Calls P f xs w fun e w' => (∃ x, e = .returned x ∧ VR E noPl r x) ∧ ∃ k os, w' = grow (w.drewN k) os) : Sim P f args m K := by
  intro E w xs hm hx
  refine .inl ⟨hc, (h E w xs hm hx).mono ?_⟩
  rintro e w' ⟨⟨x, rfl, hv⟩, k, os, rfl⟩
  exact ⟨E, m, Env.le.refl E, hm.grown k os, by simp, fun b hb _ => heap_grow_old (w.drewN k) os hb, fun j b s hj => .inr hj, .inl ⟨r, x, rfl, hv, hK⟩⟩
/-- A table of the library's lies as it was laid: g is its variable's number. -/
def Laid (P : Program) (m : Mem) (g : Nat) (name : String) (k : IntKind) (zs : List Int) : Prop := (∃ j B, m.gl g = .ptr (.ro j) 0 0 ∧ m.ro j = some B) ∧ ∀ w, m.gl.fact w → Lib.TabIs P w name k zs
theorem Laid.mono {P : Program} {m m' : Mem} (hm : m.le m') {g : Nat} {name : String} {k : IntKind} {zs : List Int} (h : Laid P m g name k zs) : Laid P m' g name k zs := by
  obtain ⟨⟨j, B, h1, h2⟩, h3⟩ := h
  exact ⟨⟨j, B, by rw [hm.gl]; exact h1, by rw [hm.ro]; exact h2⟩, by rw [hm.gl]; exact h3⟩
theorem Laid.at_ {P : Program} {m : Mem} {g : Nat} {name : String} {k : IntKind} {zs : List Int} (h : Laid P m g name k zs) (hg : P.globalNamed name = some g) {E : Env} {w : World} (hm : MR E m w) : Lib.TabIs P w name k zs := by
  obtain ⟨⟨j, B, h1, h2⟩, h3⟩ := h
  have h4 := h3 _ hm.fc
  have h5 := hm.gl g
  obtain ⟨b, f, h6, h7, -⟩ := hm.ro j B h2
  rw [h1] at h5
  have hb : g < E.base := by
    generalize hv : (Value.pointer (some ⟨g, 0, none⟩)) = v at h5
    cases h5 with
    | ptr a i o p hp =>
      have hp' : E.r j = some p := hp
      rw [h6] at hp'
      cases hp'
      simp only [adr, Value.pointer.injEq, Option.some.injEq, Addr.mk.injEq] at hv
      omega
  unfold Lib.TabIs World.var? at h4 ⊢
  rw [hg] at h4 ⊢
  simp only [Option.bind_some] at h4 ⊢
  rw [hm.bel.block g hb]
  exact h4
end Go.Proofs.IM
namespace Go.Proofs.YtdonkjepjobhnaaDoor.IM
open Go Go.RowKit Go.Sort Go.Lib Go.Proofs.IM Go.Proofs.Flt Go.Proofs.YtdonkjepjobhnaaDoor.Sh
set_option maxHeartbeats 8000000
set_option maxRecDepth 100000
end Go.Proofs.YtdonkjepjobhnaaDoor.IM
namespace Go.Proofs.IM
open Go Go.Proofs.Flt
theorem fText_w {s : Bool} {r : Nat} (hr : r ≤ infR) : fText (word s r) = ⟨(sgnL s ++ fTxt r).toArray⟩ := by
  have h1 := infR_lt
  unfold fText
  rw [nan_w hr, neg_word s r (by omega), rung_word s r (by omega)]; rfl
theorem decI_len {n : Int} (h : -9223372036854775808 ≤ n ∧ n ≤ 9223372036854775807) : (decI n).length ≤ 20 := by
  have := decL_le (k := 18) (n := n.natAbs) (by omega)
  unfold decI; split
  · simp only [List.length_cons]; omega
  · omega
theorem str_sz {l : List UInt8} : (ByteArray.mk l.toArray).size = l.length := by
  show l.toArray.size = _; rw [List.size_toArray]
theorem len2 {a b : List UInt8} (h : a.length + b.length ≤ 1000) : (a.length + b.length ≤ 9223372036854775807) = True := by
  rw [eq_iff_iff, iff_true]; omega
end Go.Proofs.IM
namespace Go.Proofs.YtdonkjepjobhnaaDoor.IM
open Go Go.Proofs.IM Go.Proofs.Flt
set_option maxHeartbeats 8000000
set_option maxRecDepth 100000
theorem s_l1floattext {b : Nat} {m : Mem} {K : AR → Mem → Prop} (hb : b < 18446744073709551616) (h : K (.ret (.str (fText b))) m) : Sim Tryd.prog 46 [.flt b] m K := by
  refine entry (cxok []) Tryd.func46 rfl rfl (by decide) (by decide) ?_
  refine goh_ ?_
  refine s_l1nan ?_
  cases hn : nan b with
  | true =>
    replace h : K (.ret (.str ⟨#[110, 97, 110]⟩)) m := by unfold fText at h; rw [hn] at h; exact h
    clear hb
    exact gox_
  | false =>
  obtain ⟨s, r, rfl, hr⟩ := word_of hb hn
  have hi := infR_lt
  rw [fText_w hr] at h
  have e1 := flss_w0 (s := s) hr
  have e2 := feq_w0 (s := s) hr
  have e3 := feq_w0 (s := false) hr
  have e4 := negF true r (by omega)
  have sa := @str_app
  have sz := @str_sz
  by_cases h0 : r = 0
  · subst h0
    have e5 := one_over (a := word s 0) (rung_word s 0 (by decide))
    rw [neg_word s 0 (by decide)] at e5
    have e6 := flss_inf s
    clear hb hn hr
    cases s with
    | true =>
      replace h : K (.ret (.str ⟨#[45, 48, 112, 48]⟩)) m := h
      exact gox_
    | false =>
      replace h : K (.ret (.str ⟨#[48, 112, 48]⟩)) m := h
      exact gox_
  have hM0 : feq (word s r) 0 = false := by rw [e2]; simp [h0]
  have hM1 : feq (word false r) 0 = false := by rw [e3]; simp [h0]
  have hM2 : flss (word s r) 0 = s := by rw [e1]; simp [h0]
  clear e1 e2 e3 hn hb
  by_cases hinf : r = infR
  · have k1 := half_inf (a := word false r) (by rw [hinf]; exact rung_word false infR (by decide))
    rw [neg_word false r (by omega)] at k1
    have k2 : feq (word false infR) (word false r) = true := by rw [feq_w (s := false) (a := infR) (b := r) (Nat.le_refl _) hr, hinf]; simp
    have hf : fTxt r = [105, 110, 102] := by unfold fTxt; rw [if_neg h0, if_pos hinf]
    rw [hf] at h
    clear hr hf hinf
    cases s with
    | true =>
      replace h : K (.ret (.str ⟨#[45, 105, 110, 102]⟩)) m := h
      exact gox_
    | false =>
      replace h : K (.ret (.str ⟨#[105, 110, 102]⟩)) m := h
      exact gox_
  have hr' : r < infR := by omega
  have hsI : infR = 9218868437227405312 := rfl
  obtain ⟨rh, q1, q2, q3⟩ := half_ne (a := word false r) (by rw [rung_word false r (by omega)]; exact hr') (by rw [rung_word false r (by omega)]; exact h0)
  rw [neg_word false r (by omega)] at q3
  rw [rung_word false r (by omega)] at q2
  have q4 := feq_w (s := false) (a := rh) (b := r) (by omega) hr
  rw [decide_eq_false q2] at q4
  obtain ⟨sg, hsg⟩ : ∃ sg, sg = sgnL s := ⟨_, rfl⟩
  have hsl : sg.length ≤ 1 := by rw [hsg]; cases s <;> decide
  rw [← hsg] at h
  cases s
  all_goals
    refine goh_ ?_
    clear hM0 hM1 hM2 e4 q1 q2 q3 q4 hinf hr
    refine loop_ (fun k t l c m' => m' = m ∧ ∃ (i rr : Nat), t 0 = .flt (word false rr) ∧ t 3 = .str ⟨sg.toArray⟩ ∧ t 4 = .int .i64 i ∧ M rr = M r * 2 ^ i ∧ rr < infR ∧ i ≤ 1074 ∧ k = 1074 - i) 1074 ?_ ?_
    · exact ⟨rfl, 0, r, rfl, by rw [hsg]; rfl, rfl, by simp, hr', by omega, rfl⟩
    clear hsg
    intro k t l c m1 KN ⟨hm, i, rr, g0, g3, g4, hM, hrr, hi1, hk⟩ next
    subst m1
    refine goh_ ?_
    refine s_l1floor fun u hu1 hu2 => ?_
    have c1 := floor_w hrr hu1 hu2
    have c2 := fne_iff (word false rr) u
    rw [c1] at c2
    clear hu1 hu2 c1
    have hr0 : rr ≠ 0 := by
      intro e
      subst e
      rw [M_zero] at hM
      have := Nat.mul_pos (M_pos (r := r) (by omega)) (Nat.two_pow_pos i)
      omega
    by_cases hd : Flt.U ∣ M rr
    · rw [decide_eq_true hd] at c2
      have p3 : w64 (0 - (i : Int)) = -(i : Int) := by rw [w64_id (by omega)]; omega
      clear next
      refine goh_ ?_
      clear c2 p3
      refine loop_ (fun k t l c m' => m' = m ∧ ∃ (j r2 : Nat), t 0 = .flt (word false r2) ∧ t 3 = .str ⟨sg.toArray⟩ ∧ t 4 = .int .i64 ((j : Int) - i) ∧ M r2 * 2 ^ j = M rr ∧ r2 + j * 4503599627370496 = rr ∧ Flt.U ∣ M r2 ∧ k = r2) rr ?_ ?_
      · exact ⟨rfl, 0, rr, g0, g3, (by show AV.int IntKind.i64 (-(i : Int)) = AV.int IntKind.i64 (((0 : Nat) : Int) - i); congr 1; omega), by simp, by omega, hd, rfl⟩
      clear g0 g3 g4 hk
      intro k t l c m1 KN ⟨hm, j, r2, g0, g3, g4, hM2, hj, hd2, hk⟩ next
      subst m1
      have h20 : r2 ≠ 0 := by
        intro e
        subst e
        rw [M_zero, Nat.zero_mul] at hM2
        have := M_pos (r := rr) (by omega)
        omega
      have h21 := one_le h20 hd2
      have p1 := M_half (r := r2) (by omega)
      have p2 := mul_half (a := word false r2) (r := r2 - 4503599627370496) (by rw [rung_word false r2 (by omega)]; omega) (by omega) (by rw [rung_word false r2 (by omega)]; exact p1)
      rw [neg_word false r2 (by omega)] at p2
      refine goh_ ?_
      refine s_l1floor fun u hu1 hu2 => ?_
      have c1 := floor_w (r := r2 - 4503599627370496) (by omega) hu1 hu2
      clear hu1 hu2
      by_cases hd3 : Flt.U ∣ M (r2 - 4503599627370496)
      · rw [decide_eq_true hd3] at c1
        have p3 : w64 ((j : Int) - i + 1) = ((j + 1 : Nat) : Int) - i := by rw [w64_id (by omega)]; omega
        refine goh_ ?_
        exact next _ _ _ _ _ (by omega) ⟨rfl, j + 1, r2 - 4503599627370496, rfl, g3, rfl, by rw [← hM2, ← p1, Nat.pow_succ]; generalize M (r2 - 4503599627370496) = z; generalize 2 ^ j = y; rw [Nat.mul_comm 2 z, Nat.mul_assoc, Nat.mul_comm 2 y], by omega, hd3, rfl⟩
      · rw [decide_eq_false hd3] at c1
        obtain ⟨q, hq⟩ := hd2
        have hq' : M r2 = q * Flt.U := by rw [hq, Nat.mul_comm]
        have ho : q % 2 = 1 := by
          rcases Nat.mod_two_eq_zero_or_one q with e | e
          · exfalso
            apply hd3
            refine ⟨q / 2, ?_⟩
            apply Nat.eq_of_mul_eq_mul_left (show 0 < 2 by decide)
            rw [p1, hq, ← Nat.mul_assoc, Nat.mul_comm 2 Flt.U, Nat.mul_assoc, show 2 * (q / 2) = q by omega]
          · exact e
        have hqs := odd_small hq' ho
        have hMr : M r = q * 2 ^ (k0 + j - i) := by
          apply Nat.eq_of_mul_eq_mul_right (Nat.two_pow_pos i)
          rw [← hM, ← hM2, hq', U_pow, Nat.mul_assoc, Nat.mul_assoc, ← Nat.pow_add, ← Nat.pow_add, show k0 + j - i + i = k0 + j by rw [k0_eq]; omega]
        rw [fTxt_odd h0 hr' ho hMr, show ((k0 + j - i : Nat) : Int) - 1074 = (j : Int) - i by rw [k0_eq]; omega] at h
        have hfi := f2i_w (r := r2) (by omega)
        have hfo := f2iOk_w (r := r2) (by omega) .i64
        rw [hq', Nat.mul_div_cancel _ U_pos] at hfi hfo
        have hfo' : f2iOk .i64 (word false r2) = true := by
          rw [hfo, decide_eq_true_eq, show IntKind.i64.min = -9223372036854775808 by decide, show IntKind.i64.max = 9223372036854775807 by decide]; omega
        clear next hfo hMr p1 p2 hq hq' hd3 hM2 hM hd
        refine goh_ ?_
        refine s_l1decimal (by omega) ?_
        rw [decT_I]
        have l1 := decI_len (n := (q : Int)) (by omega)
        have l2 := decI_len (n := (j : Int) - i) (by omega)
        have y1 := len2 (a := sg) (b := decI q) (by omega)
        have y2 : ((sg ++ decI q).length + 1 ≤ 9223372036854775807) = True := by rw [eq_iff_iff, iff_true, List.length_append]; omega
        have y3 := len2 (a := sg ++ decI q ++ [112]) (b := decI ((j : Int) - i)) (by simp; omega)
        refine goh_ ?_
        refine s_l1decimal (by omega) ?_
        rw [decT_I]
        have h' : K (.ret (.str ⟨(sg ++ decI q ++ [112] ++ decI ((j : Int) - i)).toArray⟩)) m := by
          rw [List.append_assoc, List.append_assoc]; exact h
        clear h
        exact gox_
    · rw [decide_eq_false hd] at c2
      have hrs := small_of hd
      have hi2 : i < 1074 := by
        rcases Nat.lt_or_ge i 1074 with c | c
        · exact c
        · exfalso
          apply hd
          rw [hM, U_pow, show i = k0 by rw [k0_eq]; omega]
          exact Nat.dvd_mul_left _ _
      obtain ⟨r3, x1, x2⟩ := M_dbl hrs
      have p2 := mul_two (a := word false rr) (r := r3) (by rw [rung_word false rr (by omega)]; omega) (by omega) (by rw [rung_word false rr (by omega)]; exact x2)
      rw [neg_word false rr (by omega)] at p2
      have p3 : w64 ((i : Int) + 1) = ((i + 1 : Nat) : Int) := w64_succ (n := i + 1) (by omega) (by omega)
      refine goh_ ?_
      exact next _ _ _ _ _ (by omega) ⟨rfl, i + 1, r3, rfl, g3, rfl, by rw [x2, hM, Nat.pow_succ]; ac_rfl, by omega, by omega, rfl⟩
end Go.Proofs.YtdonkjepjobhnaaDoor.IM
namespace Go.Proofs.IM
open Go Go.Proofs.Flt
theorem bvand64 {x y : Nat} (hx : x < 18446744073709551616) (hy : y < 18446744073709551616) : IntKind.u64.wrap ((BitVec.ofInt IntKind.u64.bits (x : Int) &&& BitVec.ofInt IntKind.u64.bits (y : Int)).toNat : Int) = ((x &&& y : Nat) : Int) := by
  have hb : IntKind.u64.bits = 64 := rfl
  rw [hb, u64_wrap, show BitVec.ofInt 64 (x : Int) = BitVec.ofNat 64 x from BitVec.ofInt_natCast 64 x, show BitVec.ofInt 64 (y : Int) = BitVec.ofNat 64 y from BitVec.ofInt_natCast 64 y, BitVec.toNat_and, BitVec.toNat_ofNat, BitVec.toNat_ofNat,
    Nat.mod_eq_of_lt (by omega : x < 2 ^ 64), Nat.mod_eq_of_lt (by omega : y < 2 ^ 64)]
  have : x &&& y ≤ x := Nat.and_le_left
  omega
theorem and52 {x : Nat} (hx : x < 18446744073709551616) : IntKind.u64.wrap ((BitVec.ofInt IntKind.u64.bits (x : Int) &&& BitVec.ofInt IntKind.u64.bits 4503599627370495).toNat : Int) = ((x % 4503599627370496 : Nat) : Int) := by
  have := bvand64 (y := 4503599627370495) hx (by decide)
  rw [show ((4503599627370495 : Nat) : Int) = 4503599627370495 from rfl] at this
  rw [this, show (4503599627370495 : Nat) = 2 ^ 52 - 1 from rfl, Nat.and_two_pow_sub_one_eq_mod]
theorem and1 {x : Nat} (hx : x < 18446744073709551616) : IntKind.u64.wrap ((BitVec.ofInt IntKind.u64.bits (x : Int) &&& BitVec.ofInt IntKind.u64.bits 1).toNat : Int) = ((x % 2 : Nat) : Int) := by
  have := bvand64 (y := 1) hx (by decide)
  rw [show ((1 : Nat) : Int) = 1 from rfl] at this
  rw [this, show (1 : Nat) = 2 ^ 1 - 1 from rfl, Nat.and_two_pow_sub_one_eq_mod]
theorem or52 {x : Nat} (hx : x < 4503599627370496) : IntKind.u64.wrap ((BitVec.ofInt IntKind.u64.bits (x : Int) ||| BitVec.ofInt IntKind.u64.bits 4503599627370496).toNat : Int) = ((4503599627370496 + x : Nat) : Int) := by
  have := bvor64 (x := x) (y := 4503599627370496) (by omega) (by decide)
  rw [show ((4503599627370496 : Nat) : Int) = 4503599627370496 from rfl] at this
  rw [this, Nat.or_comm]
  have := or_add (A := 1) (i := 52) (b := x) (by omega)
  rw [Nat.one_mul, show (2 : Nat) ^ 52 = 4503599627370496 by decide] at this
  rw [this]
theorem and2047 {x : Nat} (hx : x < 4096) : IntKind.i64.wrap ((BitVec.ofInt IntKind.i64.bits (IntKind.i64.wrap (x : Int)) &&& BitVec.ofInt IntKind.i64.bits 2047).toNat : Int) = ((x % 2048 : Nat) : Int) := by
  have hb : IntKind.i64.bits = 64 := rfl
  rw [hb, i64_wrap, i64_wrap, show ((x : Int) + 9223372036854775808) % 18446744073709551616 - 9223372036854775808 = (x : Int) by omega, show BitVec.ofInt 64 (x : Int) = BitVec.ofNat 64 x from BitVec.ofInt_natCast 64 x, show BitVec.ofInt 64 2047 = BitVec.ofNat 64 2047 from BitVec.ofInt_natCast 64 2047, BitVec.toNat_and, BitVec.toNat_ofNat, BitVec.toNat_ofNat,
    Nat.mod_eq_of_lt (by omega : x < 2 ^ 64), Nat.mod_eq_of_lt (by omega : 2047 < 2 ^ 64), show (2047 : Nat) = 2 ^ 11 - 1 from rfl, Nat.and_two_pow_sub_one_eq_mod, show (2 : Nat) ^ 11 = 2048 from rfl]
  omega
theorem shr52 (x : Nat) : ((x : Int).fdiv (2 ^ min 52 IntKind.u64.bits)) = ((x / 4503599627370496 : Nat) : Int) := by
  have hb : min 52 IntKind.u64.bits = 52 := by decide
  rw [hb, show ((2 : Int) ^ 52) = ((4503599627370496 : Nat) : Int) by decide, ← Int.ofNat_fdiv]
theorem shr1 (x : Nat) : ((x : Int).fdiv (2 ^ min 1 IntKind.u64.bits)) = ((x / 2 : Nat) : Int) := by
  have hb : min 1 IntKind.u64.bits = 1 := by decide
  rw [hb, show ((2 : Int) ^ 1) = ((2 : Nat) : Int) by decide, ← Int.ofNat_fdiv]
theorem abs_bits {s : Bool} {r : Nat} (hr : r < 9223372036854775808) : IntKind.u64.wrap ((BitVec.ofInt IntKind.u64.bits ((word s r : Nat) : Int) &&& ~~~ BitVec.ofInt IntKind.u64.bits 9223372036854775808).toNat : Int) = ((r : Nat) : Int) := by
  have hb : IntKind.u64.bits = 64 := rfl
  have hw : word s r < 18446744073709551616 := by unfold word; split <;> omega
  have hm : (word s r) % 9223372036854775808 = r := by unfold word; split <;> omega
  rw [hb, u64_wrap, show BitVec.ofInt 64 ((word s r : Nat) : Int) = BitVec.ofNat 64 (word s r) from BitVec.ofInt_natCast 64 _, show (~~~ BitVec.ofInt 64 9223372036854775808) = BitVec.ofNat 64 9223372036854775807 by decide, BitVec.toNat_and, BitVec.toNat_ofNat, BitVec.toNat_ofNat,
    Nat.mod_eq_of_lt (by omega : word s r < 2 ^ 64), Nat.mod_eq_of_lt (by omega : 9223372036854775807 < 2 ^ 64), show (9223372036854775807 : Nat) = 2 ^ 63 - 1 from rfl, Nat.and_two_pow_sub_one_eq_mod, show (2 : Nat) ^ 63 = 9223372036854775808 from rfl, hm]
  omega
theorem fgtr_w {a c : Nat} (ha : a ≤ infR) (hc : c ≤ infR) : fgtr (word false a) c = decide (c < a) := by
  rw [fgtr_iff, nan_w ha, show nan c = false from nan_w (s := false) hc, show val c = M c from val_w hc, val_w ha, Bool.eq_iff_iff]
  simp only [Bool.not_false, Bool.true_and, decide_eq_true_eq]
  constructor
  · intro h
    exact M_lt_iff.1 (by omega)
  · intro h; have := M_lt h; omega
end Go.Proofs.IM
namespace Go.Proofs.YtdonkjepjobhnaaDoor.IM
open Go Go.Proofs.IM Go.Proofs.Flt
set_option maxHeartbeats 8000000
set_option maxRecDepth 100000
theorem s_IsInf {s : Bool} {r : Nat} {m : Mem} {K : AR → Mem → Prop} (hr : r ≤ infR) (h : K (.ret (.bool (decide (r = infR)))) m) : Sim Tryd.prog 119 [.flt (word s r), .int .i64 0] m K := by
  refine entry (cxok []) Tryd.func119 rfl rfl (by decide) (by decide) ?_
  have hi := infR_lt
  refine goh_ ?_
  refine entry (cxok []) Tryd.func161 rfl rfl (by decide) (by decide) ?_
  refine goh_ ?_
  refine s_bits ?_
  have e1 := abs_bits (s := s) (r := r) (by omega)
  refine goh_ ?_
  refine s_frombits ?_
  have e2 := fgtr_w (a := r) (c := 9218868437227405311) hr (by decide)
  have e3 : fgtr r 9218868437227405311 = decide (r = infR) := by
    rw [show fgtr r 9218868437227405311 = fgtr (word false r) 9218868437227405311 from rfl, e2, Bool.eq_iff_iff]
    simp only [decide_eq_true_eq]
    have : infR = 9218868437227405312 := rfl
    omega
  clear e1 e2 hi
  exact gox_
end Go.Proofs.YtdonkjepjobhnaaDoor.IM
namespace Go.Proofs.IM
open Go Go.Proofs.Flt
theorem VRs.one {E : Env} {L : Pl} {a : AV} {xs : Array Value} (h : VRs E L [a] xs) : ∃ x, xs = #[x] ∧ VR E L a x := by
  obtain ⟨h1, h2⟩ := h
  have hz : xs.size = 1 := by simpa using h1.symm
  refine ⟨xs[0]'(by omega), ?_, h2 0 a (xs[0]'(by omega)) rfl (by rw [Array.getElem?_eq_getElem])⟩
  apply Array.ext
  · simpa using hz
  · intro i hi hi'
    have : i = 0 := by simp at hi'; omega
    subst this; rfl
theorem VRs.two {E : Env} {L : Pl} {a b : AV} {xs : Array Value} (h : VRs E L [a, b] xs) : ∃ x y, xs = #[x, y] ∧ VR E L a x ∧ VR E L b y := by
  obtain ⟨h1, h2⟩ := h
  have hz : xs.size = 2 := by simpa using h1.symm
  refine ⟨xs[0]'(by omega), xs[1]'(by omega), ?_, h2 0 a (xs[0]'(by omega)) rfl (by rw [Array.getElem?_eq_getElem]), h2 1 b (xs[1]'(by omega)) rfl (by rw [Array.getElem?_eq_getElem])⟩
  apply Array.ext
  · simpa using hz
  · intro i hi hi'
    have : i = 0 ∨ i = 1 := by simp at hi'; omega
    rcases this with rfl | rfl <;> rfl
theorem decI_itoa (n : Int) : decI n = Lib.itoa n := by
  unfold decI Lib.itoa
  by_cases h : n < 0
  · rw [if_pos h, if_pos h, decL_eq]
  · rw [if_neg h, if_neg h, decL_eq, show n.natAbs = n.toNat by omega]
theorem decI_nat (u : Nat) : decI (u : Int) = Lib.decDigits u := by
  unfold decI
  rw [if_neg (by omega), decL_eq, Int.natAbs_natCast]
end Go.Proofs.IM
namespace Go.Proofs.YtdonkjepjobhnaaDoor.IM
open Go Go.Proofs.IM Go.Proofs.Flt
set_option maxHeartbeats 8000000
set_option maxRecDepth 100000
theorem g10 : Tryd.prog.globalNamed "internal/strconv.uint64pow10" = some 4 := by kernel_rfl
abbrev L10 (m : Mem) : Prop := Laid Tryd.prog m 4 "internal/strconv.uint64pow10" .u64 Lib.pow10Tab
theorem s_FormatInt {n : Int} {m : Mem} {K : AR → Mem → Prop} (hl : L10 m) (hn : -9223372036854775808 ≤ n ∧ n ≤ 9223372036854775807) (h : K (.ret (.str ⟨(decI n).toArray⟩)) m) : Sim Tryd.prog 48 [.int .i64 n, .int .i64 10] m K :=
  sim_grow (by kernel_rfl) h fun E w xs hm hx => by
    obtain ⟨x, y, rfl, h1, h2⟩ := VRs.two hx
    cases h1; cases h2
    refine (Sh.strconv_FormatInt_10 n hn.1 hn.2 w (hl.at_ g10 hm)).mono ?_
    rintro e w' ⟨rfl, h⟩
    exact ⟨⟨_, rfl, by rw [decI_itoa]; exact .str _⟩, h⟩
theorem s_Itoa {n : Int} {m : Mem} {K : AR → Mem → Prop} (hl : L10 m) (hn : -9223372036854775808 ≤ n ∧ n ≤ 9223372036854775807) (h : K (.ret (.str ⟨(decI n).toArray⟩)) m) : Sim Tryd.prog 93 [.int .i64 n] m K :=
  sim_grow (by kernel_rfl) h fun E w xs hm hx => by
    obtain ⟨x, rfl, h1⟩ := VRs.one hx
    cases h1
    refine (Sh.strconv_Itoa n hn.1 hn.2 w (hl.at_ g10 hm)).mono ?_
    rintro e w' ⟨rfl, h⟩
    exact ⟨⟨_, rfl, by rw [decI_itoa]; exact .str _⟩, h⟩
theorem s_FormatUint {n : Nat} {m : Mem} {K : AR → Mem → Prop} (hl : L10 m) (hn : n < 18446744073709551616) (h : K (.ret (.str ⟨(decI n).toArray⟩)) m) : Sim Tryd.prog 121 [.int .u64 n, .int .i64 10] m K :=
  sim_grow (by kernel_rfl) h fun E w xs hm hx => by
    obtain ⟨x, y, rfl, h1, h2⟩ := VRs.two hx
    cases h1; cases h2
    refine (formatUint n hn w (hl.at_ g10 hm)).mono ?_
    rintro e w' ⟨rfl, h⟩
    exact ⟨⟨_, rfl, by rw [decI_nat]; exact .str _⟩, h⟩
theorem s_fltText {b : Nat} {m : Mem} {K : AR → Mem → Prop} (hl : L10 m) (hb : b < 18446744073709551616) (h : K (.ret (.str (fText b))) m) : Sim Tryd.prog 49 [.flt b] m K := by
  refine entry (cxok []) Tryd.func49 rfl rfl (by decide) (by decide) ?_
  have e0 : fne b b = nan b := by rw [fne_iff, feq_self, Bool.not_not]
  cases hn : nan b with
  | true =>
    replace h : K (.ret (.str ⟨#[110, 97, 110]⟩)) m := by unfold fText at h; rw [hn] at h; exact h
    rw [hn] at e0
    clear hb
    exact gox_
  | false =>
  rw [hn] at e0
  obtain ⟨s, r, rfl, hr⟩ := word_of hb hn
  have hi := infR_lt
  rw [fText_w hr] at h
  have sa := @str_app
  have sz := @str_sz
  refine goh_ ?_
  refine s_Signbit ?_
  rw [neg_word s r (by omega)]
  have e2 := feq_w0 (s := s) hr
  obtain ⟨sg, hsg⟩ : ∃ sg, sg = sgnL s := ⟨_, rfl⟩
  have hsl : sg.length ≤ 1 := by rw [hsg]; cases s <;> decide
  rw [← hsg] at h
  clear e0 hn
  have hwd : word s r / 4503599627370496 < 4096 := by unfold word; split <;> omega
  have hwE : word s r / 4503599627370496 % 2048 = r / 4503599627370496 := by unfold word; split <;> omega
  have hwm : word s r % 4503599627370496 = r % 4503599627370496 := by unfold word; split <;> omega
  have z1 := len2 (a := sg) (b := [105, 110, 102]) (by simp; omega)
  have z2 := len2 (a := sg) (b := [48, 112, 48]) (by simp; omega)
  have z1' : (sg.length + 3 ≤ 9223372036854775807) = True := z1
  clear z1 z2
  have hwl : word s r < 18446744073709551616 := by unfold word; split <;> omega
  have c1 := shr52 (word s r)
  have c2 := and2047 (x := word s r / 4503599627370496) hwd
  have c3 := and52 (x := word s r) hwl
  have c4 := or52 (x := r % 4503599627370496) (by omega)
  rw [hwE] at c2
  rw [hwm] at c3
  clear hwd hwE hwm
  cases s
  all_goals
    refine goh_ ?_
    refine s_IsInf hr ?_
    by_cases hinf : r = infR
    · rw [decide_eq_true hinf]
      have hf : fTxt r = [105, 110, 102] := by
        unfold fTxt
        rw [if_neg (by rw [hinf]; decide), if_pos hinf]
      rw [hf] at h
      rw [hsg] at h
      clear hb e2 hr hinf hi hf hsg hsl z1' c1 c2 c3 c4 hwl
      refine goh_ ?_
      exact h
    rw [decide_eq_false hinf]
    by_cases h0 : r = 0
    · subst h0
      have e3 := e2.trans (decide_eq_true rfl)
      have hf : fTxt 0 = [48, 112, 48] := rfl
      rw [hf] at h
      rw [hsg] at h
      clear hb e2 hr hinf hi hf hsg hsl z1' c1 c2 c3 c4 hwl
      refine goh_ ?_
      exact h
    have e3 := e2.trans (decide_eq_false h0)
    clear e2
    have hr' : r < infR := by omega
    have hI : infR = 9218868437227405312 := rfl
    refine goh_ ?_
    refine s_bits ?_
    have hMb := M_bits r
    by_cases hE : r / 4503599627370496 = 0
    · have c5 : (((r / 4503599627370496 : Nat) : Int) == 0) = true := by rw [beq_iff_eq]; omega
      have c6 : w64 (-1074) = -1074 := by decide
      rw [if_pos hE, if_pos hE] at hMb
      refine goh_ ?_
      clear c1 c2 c3 c4 c5 c6 hwl e3 hinf hb
      refine loop_ (fun k t l c m' => m' = m ∧ ∃ (q n : Nat), t 3 = .str ⟨sg.toArray⟩ ∧ t 6 = .int .u64 q ∧ t 7 = .int .i64 ((n : Int) - 1074) ∧ M r = q * 2 ^ n ∧ 0 < q ∧ q < 9007199254740992 ∧ n + q ≤ 9007199254750000 ∧ k = q) (r % 4503599627370496) ?_ ?_
      · exact ⟨rfl, r % 4503599627370496, 0, by rw [hsg]; rfl, rfl, by rfl, hMb, by omega, by omega, by omega, rfl⟩
      clear hsg hMb
      intro k t l c m1 KN ⟨hm, q, n, g3, g6, g7, hM, hq0, hq, hn, hk⟩ next
      subst m1
      have d1 := and1 (x := q) (by omega)
      have d2 := shr1 q
      by_cases ho : q % 2 = 0
      · have d3 : (((q % 2 : Nat) : Int) == 0) = true := by rw [beq_iff_eq]; omega
        have d4 : w64 ((n : Int) - 1074 + 1) = ((n + 1 : Nat) : Int) - 1074 := by rw [w64_id (by omega)]; omega
        refine goh_ ?_
        exact next _ _ _ _ _ (by omega) ⟨rfl, q / 2, n + 1, g3, rfl, rfl, by rw [hM, Nat.pow_succ, Nat.mul_comm (2 ^ n) 2, ← Nat.mul_assoc, show q / 2 * 2 = q by omega], by omega, by omega, by omega, rfl⟩
      · have d3 : (((q % 2 : Nat) : Int) == 0) = false := by rw [beq_eq_false_iff_ne]; omega
        rw [fTxt_odd h0 hr' (by omega) hM] at h
        clear next
        refine goh_ ?_
        refine s_FormatUint hl (by omega) ?_
        have l1 := decI_len (n := (q : Int)) (by omega)
        have l2 := decI_len (n := (n : Int) - 1074) (by omega)
        have y1 := len2 (a := sg) (b := decI q) (by omega)
        have y2 : ((sg ++ decI q).length + 1 ≤ 9223372036854775807) = True := by rw [eq_iff_iff, iff_true, List.length_append]; omega
        have y3 := len2 (a := sg ++ decI q ++ [112]) (b := decI ((n : Int) - 1074)) (by simp; omega)
        refine goh_ ?_
        refine s_Itoa hl (by omega) ?_
        have h' : K (.ret (.str ⟨(sg ++ decI q ++ [112] ++ decI ((n : Int) - 1074)).toArray⟩)) m := by
          rw [List.append_assoc, List.append_assoc]; exact h
        clear h
        exact gox_
    · have c5 : (((r / 4503599627370496 : Nat) : Int) == 0) = false := by rw [beq_eq_false_iff_ne]; omega
      have c6 : w64 (((r / 4503599627370496 : Nat) : Int) - 1075) = ((r / 4503599627370496 - 1 : Nat) : Int) - 1074 := by rw [w64_id (by omega)]; omega
      rw [if_neg hE, if_neg hE] at hMb
      refine goh_ ?_
      clear c1 c2 c3 c4 c5 c6 hwl e3 hinf hb
      refine loop_ (fun k t l c m' => m' = m ∧ ∃ (q n : Nat), t 3 = .str ⟨sg.toArray⟩ ∧ t 6 = .int .u64 q ∧ t 7 = .int .i64 ((n : Int) - 1074) ∧ M r = q * 2 ^ n ∧ 0 < q ∧ q < 9007199254740992 ∧ n + q ≤ 9007199254750000 ∧ k = q) (4503599627370496 + r % 4503599627370496) ?_ ?_
      · exact ⟨rfl, 4503599627370496 + r % 4503599627370496, r / 4503599627370496 - 1, by rw [hsg]; rfl, rfl, by rfl, hMb, by omega, by omega, by omega, rfl⟩
      clear hsg hMb
      intro k t l c m1 KN ⟨hm, q, n, g3, g6, g7, hM, hq0, hq, hn, hk⟩ next
      subst m1
      have d1 := and1 (x := q) (by omega)
      have d2 := shr1 q
      by_cases ho : q % 2 = 0
      · have d3 : (((q % 2 : Nat) : Int) == 0) = true := by rw [beq_iff_eq]; omega
        have d4 : w64 ((n : Int) - 1074 + 1) = ((n + 1 : Nat) : Int) - 1074 := by rw [w64_id (by omega)]; omega
        refine goh_ ?_
        exact next _ _ _ _ _ (by omega) ⟨rfl, q / 2, n + 1, g3, rfl, rfl, by rw [hM, Nat.pow_succ, Nat.mul_comm (2 ^ n) 2, ← Nat.mul_assoc, show q / 2 * 2 = q by omega], by omega, by omega, by omega, rfl⟩
      · have d3 : (((q % 2 : Nat) : Int) == 0) = false := by rw [beq_eq_false_iff_ne]; omega
        rw [fTxt_odd h0 hr' (by omega) hM] at h
        clear next
        refine goh_ ?_
        refine s_FormatUint hl (by omega) ?_
        have l1 := decI_len (n := (q : Int)) (by omega)
        have l2 := decI_len (n := (n : Int) - 1074) (by omega)
        have y1 := len2 (a := sg) (b := decI q) (by omega)
        have y2 : ((sg ++ decI q).length + 1 ≤ 9223372036854775807) = True := by rw [eq_iff_iff, iff_true, List.length_append]; omega
        have y3 := len2 (a := sg ++ decI q ++ [112]) (b := decI ((n : Int) - 1074)) (by simp; omega)
        refine goh_ ?_
        refine s_Itoa hl (by omega) ?_
        have h' : K (.ret (.str ⟨(sg ++ decI q ++ [112] ++ decI ((n : Int) - 1074)).toArray⟩)) m := by
          rw [List.append_assoc, List.append_assoc]; exact h
        clear h
        exact gox_
end Go.Proofs.YtdonkjepjobhnaaDoor.IM
namespace Go.Proofs.IM
open Go Go.RowKit
def memOf2 (L : RoT) (gl : Nat → AV) (fact : World → Prop) : Mem := ⟨fun j => (L[j]?).map fun q => q.2.2, ⟨gl, fact, .none⟩, []⟩
theorem rOk_of2 (W : World) (L : RoT) (gl : Nat → AV) (fact : World → Prop) : ROk (envOf W L) (memOf2 L gl fact) L := fun j b f B h => by simp [envOf, memOf2, h]
theorem mr_of2 {W : World} {L : RoT} (h : EntOk W L L) {gl : Nat → AV} (hgl : ∀ g, VR (envOf W L) noPl (gl g) (.pointer (some ⟨g, 0, none⟩))) {fact : World → Prop} (hf : fact W) : MR (envOf W L) (memOf2 L gl fact) W :=
  let k := mr_of h hgl
  { bel := k.bel, bsz := k.bsz, hp := k.hp, hpd := k.hpd, hpb := k.hpb, inj := k.inj, ro := k.ro, gl := k.gl, fc := hf, gh := .none rfl }
/-- A package variable's block, of which the machine knows nothing but that it is there. -/
theorem ent_there {W : World} {L : RoT} {g : Nat} (hg : g < W.heap.size) (z : Nat) : EntOk W L [(g, 0, ⟨[], z⟩)] := fun E m _ q hq => by
  rw [List.mem_singleton] at hq
  subst hq
  exact ⟨hg, fun i row hi => by simp at hi⟩
theorem var_lt {P : Program} {W : World} {n : String} {g : Nat} {cs : Array Value} (hg : P.globalNamed n = some g) (h : W.var? P n = some cs) : g < W.heap.size := by
  unfold World.var? at h
  rw [hg] at h
  simp only [Option.bind_some] at h
  cases hh : W.heap[g]? with
  | none => rw [hh] at h; cases h
  | some o => exact (Array.getElem?_eq_some_iff.1 hh).1
end Go.Proofs.IM
namespace Go.Proofs.YtdonkjepjobhnaaDoor.IM
open Go Go.Proofs.IM Go.RowKit
set_option maxRecDepth 100000
theorem t10 : (Tryd.prog.globals[4]?).map (·.type) = some 211 := by kernel_rfl
theorem tab10_of {W : World} {cs : Array Value} {fuel : Nat} {p : List MemPlace} {t : TypeId} {g : Nat} {d : DataW Unit} (hd' : d = Lib.tabData .u64 Lib.pow10Tab) (hg : Tryd.prog.globalNamed "internal/strconv.uint64pow10" = some g) (ht : (Tryd.prog.globals[g]?).map (·.type) = some t) (hv : W.var? Tryd.prog "internal/strconv.uint64pow10" = some cs)
    (hd : DataW.trod (fun _ => ()) Tryd.prog W 0 (fun _ => true) false fuel t cs.toList = some (d, p)) : Lib.TabIs Tryd.prog W "internal/strconv.uint64pow10" .u64 Lib.pow10Tab := by
  obtain rfl := Option.some.inj (g10.symm.trans hg)
  obtain rfl := Option.some.inj (t10.symm.trans ht)
  subst hd'
  have := Lib.cells_of_tab Tryd.underlying211 Tryd.underlying143 (by kernel_rfl) (by kernel_rfl) hd
  unfold Lib.TabIs
  rw [hv, ← this]
end Go.Proofs.YtdonkjepjobhnaaDoor.IM
