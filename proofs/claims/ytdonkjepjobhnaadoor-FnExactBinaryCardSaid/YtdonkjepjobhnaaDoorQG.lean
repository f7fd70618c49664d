/- Walks and laws, joined into one text. -/
import Derived.Test.YtdonkjepjobhnaaDoorQA
import Derived.Laws.Externs
import Derived.Test.YtdonkjepjobhnaaDoorQB
import Derived.Shelf.Strconv.Itoa0
import Derived.Shelf.Strconv.Itoa1
import Derived.Shelf.LaysM
import Derived.Shelf.Strconv.Itoa2
import Derived.Shelf.Strconv.Itoa3
import Derived.Shelf.Strconv.Itoa4
import Derived.Test.YtdonkjepjobhnaaDoorProg
import Derived.Test.YtdonkjepjobhnaaDoorChecked
import Derived.Sort.Grow
import Derived.WalkKit
import Derived.ProofKit
import Derived.Lib.ItoaMem
import Derived.OpenVars
import Derived.MakeChecks
set_option linter.unusedSimpArgs false
set_option linter.unusedVariables false
namespace Go.Proofs.YtdonkjepjobhnaaDoor.IM
open Go Go.Proofs.IM Go.Proofs.Flt
theorem s_frombits {b : Nat} {m : Mem} {K : AR → Mem → Prop} (h : K (.ret (.flt b)) m) : Sim Tryd.prog 152 [.int .u64 b] m K :=
  sim_one h fun E w x hx => by
    cases hx
    exact ⟨_, run_frombits Tryd.func152 (by decide) rfl (by kernel_rfl) (by kernel_rfl) (b : Int) w, .flt _⟩
end Go.Proofs.YtdonkjepjobhnaaDoor.IM
namespace Go.Proofs.IM
open Go Go.RowKit Go.Proofs.Flt Ieee
section
variable {P : Program} {f : FuncId} {fn : Func}
theorem run_integral (s : String) (way : Ieee.Toward) (b : Nat) (w : World) (h : fnan b = false) :
    (Extern.MathFloor.toIntegral s way #[.float .f64 b]).run P w = .ok (.float .f64 (Ieee.double.write ((Ieee.double.read b).integral way))) w := by
  unfold fnan at h
  have key : ∀ d : Ieee.Datum, Ieee.double.read b = d → d.isNaN = false → Extern.MathFloor.toIntegral s way #[.float .f64 b] = pure (.float .f64 (Ieee.double.write (d.integral way))) := by
    intro d hd hn
    have e : Extern.MathFloor.toIntegral s way #[.float .f64 b] = (match Ieee.double.read b with
      | .nan s t => if FloatKind.f64.format.quiet t = t then pure (.float .f64 b) else do
        let kept ← choose (.extern "math.Floor,Ceil,Trunc,RoundToEven.signallingNaN kept" 2)
        pure (.float .f64 (if kept == 1 then b else FloatKind.f64.encode (.nan s (FloatKind.f64.format.quiet t))))
      | d => pure (.float .f64 (Ieee.double.write (d.integral way)))) := rfl
    rw [e, hd]
    cases d with
    | nan s t => cases hn
    | infinity s => rfl
    | number s m i => rfl
  rw [key _ rfl h]
  rfl
theorem run_trunc (hf : P.funcs[f]? = some fn) (hname : (fn.name == "runtime.NumGoroutine") = false) (hb : fn.body.isNone = true) (hn : Extern.findNext fn = none) (he : Extern.find fn = some (Extern.MathFloor.toIntegral "math.archTrunc" .zero)) (b : Nat) (w : World) (h : fnan b = false) :
    (callFunc f #[.float .f64 b]).run P w = .ok (.value (.float .f64 (ftrunc b))) w := by
  rw [run_callFunc_extern hf hname hb hn he, run_integral _ _ _ _ h]; rfl
end
theorem c_condT {C : Cx} {KN : St → Mem → Prop} {KX : Nat → St → Mem → Prop} {KR : St → Mem → Prop} {KP : Value → Mem → Prop} {x y : Code} {st : St} {m : Mem} : aCode C (.cond (.const (.bool true)) x y) KN KX KR KP st m = aCode C x KN KX KR KP st m := by
  have e : eA m st.t (.const (.bool true)) = .bool true := rfl
  simp [aCode, e, setc]
/-- The reference's floor, within int64's range. -/
theorem floor_sub {b : Nat} (hi : inr b) (h3 : fgtr (i2f (tr b)) b = true) : ∃ t, double.sub (i2f (tr b)) 4607182418800017408 = some t ∧ nan t = false ∧ val t = val b / Flt.U * Flt.U := by
    have hU := Ui_pos
    have hn' := hi.1
    have hf := inr_fin hi
    obtain ⟨v1, n1⟩ := val_i2f_tr hf
    rw [fgtr_iff, v1, n1, hn'] at h3
    simp only [Bool.not_false, Bool.true_and, decide_eq_true_eq] at h3
    have h4 : val b ≤ 0 ∧ (tr b - 1) * Flt.U < val b := by
      rcases tr_cases b with ⟨_, h5, _⟩ | ⟨h5, _, h6, _⟩
      · omega
      · exact ⟨h5, h6⟩
    -- below nought and no whole number: the whole part is small
    obtain ⟨r', r1, r2, r3, r4⟩ := i2f_tr hf
    have hlt : M (rung b) / Flt.U < 9007199254740992 := by
      rcases r4 with r4 | r4
      · exfalso
        rw [r4] at r2
        have e1 := natAbs_val b
        have e2 : tr b = -((M (rung b) / Flt.U : Nat) : Int) ∨ tr b = ((M (rung b) / Flt.U : Nat) : Int) := by unfold tr; split <;> simp
        have e3 : (M (rung b) : Int) = ((M (rung b) / Flt.U : Nat) : Int) * Flt.U := by exact_mod_cast r2
        generalize M (rung b) / Flt.U = q at e2 e3
        generalize hz : tr b * (Flt.U : Int) = z at h3 h4 ⊢
        have e4 : z = -(M (rung b) : Int) ∨ z = (M (rung b) : Int) := by
          rcases e2 with e2 | e2
          · left; rw [← hz, e2, Int.neg_mul, ← e3]
          · right; rw [← hz, e2, ← e3]
        rcases tr_cases b with ⟨q1, q2, _⟩ | ⟨q1, q2, q3, q4⟩
        · omega
        · have : z ≤ 0 := by rw [← hz]; exact Int.mul_nonpos_of_nonpos_of_nonneg (by omega) (Int.natCast_nonneg _)
          omega
      · exact r4
    have htr : tr b = -((M (rung b) / Flt.U : Nat) : Int) := by
      have e2 : tr b = -((M (rung b) / Flt.U : Nat) : Int) ∨ tr b = ((M (rung b) / Flt.U : Nat) : Int) := by unfold tr; split <;> simp
      generalize M (rung b) / Flt.U = q at e2 ⊢
      rcases tr_cases b with ⟨_, h5, _⟩ | ⟨_, _, _, h6⟩
      · omega
      · omega
    obtain ⟨r2', s1, s2⟩ := whole_rung (M (rung b) / Flt.U + 1) (by omega)
    have hfin : rung (i2f (tr b)) < infR := by
      rw [r3, rung_word _ _ (by unfold infR at r1; omega)]; exact r1
    have h1fin : rung 4607182418800017408 < infR := by decide
    have hd : val (i2f (tr b)) - val 4607182418800017408 = -(((M (rung b) / Flt.U + 1 : Nat) : Int) * Flt.U) := by
      rw [v1, val_one, htr]
      generalize M (rung b) / Flt.U = q
      push_cast
      rw [Int.add_mul, Int.neg_mul]; omega
    have hsub := sub_exact hfin h1fin (r := r2') (by omega) (by rw [hd, s2, Int.natAbs_neg, Int.natAbs_mul, Int.natAbs_natCast, Int.natAbs_natCast]) (by
      rw [hd]
      have : 0 < ((M (rung b) / Flt.U + 1 : Nat) : Int) * Flt.U := Int.mul_pos (by exact_mod_cast Nat.succ_pos _) hU
      generalize ((M (rung b) / Flt.U + 1 : Nat) : Int) * Flt.U = z at *
      omega)
    have hlt2 : r2' < 9223372036854775808 := by unfold infR at s1; omega
    refine ⟨_, hsub, ?_⟩
    refine ⟨nan_word _ _ (by omega), ?_⟩
    rw [val_word _ _ hlt2, hd, if_pos (by
      have : 0 < ((M (rung b) / Flt.U + 1 : Nat) : Int) * Flt.U := Int.mul_pos (by exact_mod_cast Nat.succ_pos _) hU
      simp only [decide_eq_true_eq]
      generalize ((M (rung b) / Flt.U + 1 : Nat) : Int) * Flt.U = z at *
      omega), s2]
    rw [floor_unique (q := tr b - 1) hU (by omega) (by rw [Int.sub_add_cancel]; exact h3)]
    rw [htr]
    generalize M (rung b) / Flt.U = q
    push_cast
    rw [Int.sub_mul, Int.add_mul, Int.neg_mul]; omega
theorem floor_keep {b : Nat} (hi : inr b) (h3 : ¬ fgtr (i2f (tr b)) b = true) : nan (i2f (tr b)) = false ∧ val (i2f (tr b)) = val b / Flt.U * Flt.U := by
    have hn' := hi.1
    have hf := inr_fin hi
    have hU := Ui_pos
    obtain ⟨v1, n1⟩ := val_i2f_tr hf
    refine ⟨n1, ?_⟩
    rw [fgtr_iff, v1, n1, hn'] at h3
    simp only [Bool.not_false, Bool.true_and, decide_eq_true_eq] at h3
    rw [v1, floor_unique (q := tr b) hU (by omega) ?_]
    rcases tr_cases b with ⟨_, _, h5, _⟩ | ⟨_, h5, _, _⟩
    · exact h5
    · rw [Int.add_mul]; omega

end Go.Proofs.IM
namespace Go.Proofs.YtdonkjepjobhnaaDoor.IM
open Go Go.Proofs.IM Go.Proofs.Flt
set_option maxHeartbeats 8000000
set_option maxRecDepth 100000
theorem s_Trunc {b : Nat} {m : Mem} {K : AR → Mem → Prop} (hb : nan b = false) (h : K (.ret (.flt (ftrunc b))) m) : Sim Tryd.prog 173 [.flt b] m K := by
  refine entry (cxok []) Tryd.func173 rfl rfl (by decide) (by decide) ?_
  refine goh_ ?_
  rw [c_condT]
  refine goh_ ?_
  refine sim_one (a := .flt b) (r := .flt (ftrunc b)) ?_ fun E w x hx => by
    cases hx
    exact ⟨_, run_trunc Tryd.func190 (by decide) rfl (by kernel_rfl) (by kernel_rfl) b w (by rw [← hb]; exact fnan_eq b), .flt _⟩
  exact gox_
theorem s_l1nan {b : Nat} {m : Mem} {K : AR → Mem → Prop} (h : K (.ret (.bool (nan b))) m) : Sim Tryd.prog 115 [.flt b] m K := by
  refine entry (cxok []) Tryd.func115 rfl rfl (by decide) (by decide) ?_
  have e : fne b b = nan b := by rw [fne_iff, feq_self, Bool.not_not]
  exact gox_
theorem s_l1floor {b : Nat} {m : Mem} {K : AR → Mem → Prop} (h : ∀ t, (inr b → nan t = false ∧ val t = val b / Flt.U * Flt.U) → (¬ inr b → t = b) → K (.ret (.flt t)) m) : Sim Tryd.prog 116 [.flt b] m K := by
  refine entry (cxok []) Tryd.func116 rfl rfl (by decide) (by decide) ?_
  refine goh_ ?_
  refine s_l1nan ?_
  cases hn : nan b with
  | true => have h := h b (fun q => by rw [q.1] at hn; cases hn) (fun _ => rfl); exact gox_
  | false =>
    cases h0 : feq b 0 with
    | true =>
      have h := h b (fun q => ⟨hn, by rw [feq_iff, val_zero] at h0; simp [hn, nan_consts] at h0; rw [h0]; simp⟩) (fun _ => rfl)
      exact gox_
    | false =>
      cases h1 : fgeq b 4890909195324358656 with
      | true =>
        have h := h b (fun q => by
          rw [fgeq_iff, val_two63] at h1
          simp only [hn, nan_consts, Bool.not_false, Bool.true_and, decide_eq_true_eq] at h1
          exact absurd q.2.2 (by omega)) (fun _ => rfl)
        exact gox_
      | false =>
        have h1' : val b < ((K63 * Flt.U : Nat) : Int) := by
          rw [fgeq_iff, val_two63] at h1
          simp only [hn, nan_consts, Bool.not_false, Bool.true_and, decide_eq_false_iff_not] at h1
          omega
        cases h2 : fleq b 14114281232179134464 with
        | true =>
          have h := h b (fun q => by
            rw [fleq_iff, val_m63] at h2
            simp only [hn, nan_consts, Bool.not_false, Bool.true_and, decide_eq_true_eq] at h2
            refine ⟨hn, ?_⟩
            have e : val b = (-(K63 : Int)) * Flt.U := by have := q.2.1; rw [Int.neg_mul]; push_cast at *; omega
            rw [e, Int.mul_ediv_cancel _ (Int.ne_of_gt Ui_pos)]) (fun _ => rfl)
          exact gox_
        | false =>
          have hi : inr b := by
            rw [fleq_iff, val_m63] at h2
            simp only [hn, nan_consts, Bool.not_false, Bool.true_and, decide_eq_false_iff_not] at h2
            exact ⟨hn, by omega, h1'⟩
          obtain ⟨ok, ei⟩ := inr_f2i hi
          clear h1'
          cases h3 : fgtr (i2f (tr b)) b with
          | true =>
            obtain ⟨t, e1, e2⟩ := floor_sub hi h3
            have h := h t (fun _ => e2) (fun q => absurd hi q)
            clear hi e2
            exact gox_
          | false =>
            have h := h _ (fun _ => floor_keep hi (by rw [h3]; decide)) (fun q => absurd hi q)
            clear hi
            exact gox_
end Go.Proofs.YtdonkjepjobhnaaDoor.IM
namespace Go.Proofs.IM
open Go Go.RowKit Go.Proofs.Flt Ieee
def sgn (a b : Int) : Int := if a < b then -1 else if a > b then 1 else 0
theorem sgn_range (a b : Int) : -1 ≤ sgn a b ∧ sgn a b ≤ 1 := by
  unfold sgn
  by_cases h : a < b
  · rw [if_pos h]; decide
  · rw [if_neg h]
    by_cases h : a > b
    · rw [if_pos h]; decide
    · rw [if_neg h]; decide
/-- The order of an integer and a float that is no NaN. -/
def iff_ (n : Int) (f : Nat) : Int := sgn (n * Flt.U) (val f)
theorem le_mul {a b : Int} (h : a ≤ b) : a * (Flt.U : Int) ≤ b * Flt.U := Int.mul_le_mul_of_nonneg_right h (Int.natCast_nonneg _)
theorem lt_mul {a b : Int} (h : a < b) : a * (Flt.U : Int) < b * Flt.U := Int.mul_lt_mul_of_pos_right h Ui_pos
theorem lo_mul {n : Int} (h : -9223372036854775808 ≤ n) : -((K63 * Flt.U : Nat) : Int) ≤ n * Flt.U := by
  have := le_mul h
  have e : (-9223372036854775808 : Int) * Flt.U = -((K63 * Flt.U : Nat) : Int) := by
    have : ((K63 : Nat) : Int) = 9223372036854775808 := by decide
    push_cast; rw [this, Int.neg_mul]
  omega
theorem hi_mul {n : Int} (h : n ≤ 9223372036854775807) : n * Flt.U < ((K63 * Flt.U : Nat) : Int) := by
  have := lt_mul (show n < 9223372036854775808 by omega)
  have e : (9223372036854775808 : Int) * Flt.U = ((K63 * Flt.U : Nat) : Int) := by
    have : ((K63 : Nat) : Int) = 9223372036854775808 := by decide
    push_cast; rw [this]
  omega
/-- The three cases that both sides begin with. -/
theorem out_cases {n : Int} {f : Nat} (hn : nan f = false) (hlo : -9223372036854775808 ≤ n) (hhi : n ≤ 9223372036854775807) :
    (fgeq f 4890909195324358656 = true ∧ iff_ n f = -1) ∨ (fgeq f 4890909195324358656 = false ∧ flss f 14114281232179134464 = true ∧ iff_ n f = 1) ∨ (fgeq f 4890909195324358656 = false ∧ flss f 14114281232179134464 = false ∧ inr f) := by
  have e1 : fgeq f 4890909195324358656 = decide (((K63 * Flt.U : Nat) : Int) ≤ val f) := by
    rw [fgeq_iff, val_two63]; simp [hn, nan_consts]
  have e2 : flss f 14114281232179134464 = decide (val f < -((K63 * Flt.U : Nat) : Int)) := by
    rw [flss_iff, val_m63]; simp [hn, nan_consts]
  have l := lo_mul hlo
  have h := hi_mul hhi
  rw [e1, e2]
  unfold iff_ sgn
  simp only [decide_eq_true_eq, decide_eq_false_iff_not]
  by_cases c1 : ((K63 * Flt.U : Nat) : Int) ≤ val f
  · left; exact ⟨c1, by rw [if_pos (by omega)]⟩
  · right
    by_cases c2 : val f < -((K63 * Flt.U : Nat) : Int)
    · left; exact ⟨c1, c2, by rw [if_neg (by omega), if_pos (by omega)]⟩
    · right; exact ⟨c1, c2, hn, by omega, by omega⟩
theorem iff_spec {n : Int} {f t : Nat} (hn : nan f = false) (hi : inr f) (n1 : nan t = false) (v1 : val t = val f / Flt.U * Flt.U) : ∃ q, f2iOk .i64 t = true ∧ f2i t = q ∧ (if n < q then -1 else if n > q then 1 else if fgtr f t = true then -1 else 0) = iff_ n f := by
  have hU := Ui_pos
  have g1 : val f / (Flt.U : Int) * Flt.U ≤ val f := Int.ediv_mul_le _ (Int.ne_of_gt hU)
  have g2 : val f < (val f / (Flt.U : Int) + 1) * Flt.U := Int.lt_ediv_add_one_mul_self _ hU
  obtain ⟨_, i1, i2⟩ := hi
  generalize hq : val f / (Flt.U : Int) = q at *
  have l : -((K63 * Flt.U : Nat) : Int) ≤ q * Flt.U := by
    rcases Int.lt_or_le q (-9223372036854775808) with c | c
    · exfalso
      have := le_mul (show q + 1 ≤ -9223372036854775808 by omega)
      have e : (-9223372036854775808 : Int) * Flt.U = -((K63 * Flt.U : Nat) : Int) := by
        have : ((K63 : Nat) : Int) = 9223372036854775808 := by decide
        push_cast; rw [this, Int.neg_mul]
      omega
    · exact lo_mul c
  have hit : inr t := ⟨n1, by rw [v1]; exact l, by rw [v1]; omega⟩
  obtain ⟨k1, k2⟩ := inr_f2i hit
  have k3 : tr t = q := tr_of_whole v1
  have e3 : fgtr f t = decide (q * (Flt.U : Int) < val f) := by rw [fgtr_iff, v1]; simp [hn, n1]
  refine ⟨q, k1, by rw [k2, k3], ?_⟩
  rw [e3]
  unfold iff_ sgn
  rcases Int.lt_trichotomy n q with c | c | c
  · have := lt_mul c
    rw [if_pos c, if_pos (by omega)]
  · subst c
    rw [if_neg (by omega), if_neg (by omega)]
    by_cases c : n * (Flt.U : Int) < val f
    · rw [if_pos (by simpa using c), if_pos c]
    · rw [if_neg (by simpa using c), if_neg c, if_neg (by omega)]
  · have := le_mul (show q + 1 ≤ n by omega)
    rw [if_neg (by omega), if_pos c, if_neg (by omega), if_pos (by omega)]
theorem iff_impl {n : Int} {f : Nat} (hn : nan f = false) (hi : inr f) : ∃ q, f2iOk .i64 (ftrunc f) = true ∧ f2i (ftrunc f) = q ∧ (if sgn n q ≠ 0 then sgn n q else if fgtr f (ftrunc f) = true then -1 else if flss f (ftrunc f) = true then 1 else 0) = iff_ n f := by
  obtain ⟨v1, n1⟩ := val_ftrunc (inr_fin hi)
  have ht := inr_tr hi
  have hit : inr (ftrunc f) := ⟨n1, by rw [v1]; exact lo_mul ht.1, by rw [v1]; exact hi_mul ht.2⟩
  obtain ⟨k1, k2⟩ := inr_f2i hit
  have k3 : tr (ftrunc f) = tr f := tr_of_whole v1
  have e3 : fgtr f (ftrunc f) = decide (tr f * (Flt.U : Int) < val f) := by rw [fgtr_iff, v1]; simp [hn, n1]
  have e4 : flss f (ftrunc f) = decide (val f < tr f * (Flt.U : Int)) := by rw [flss_iff, v1]; simp [hn, n1]
  refine ⟨_, k1, k2.trans k3, ?_⟩
  rw [e3, e4]
  have hc := tr_cases f
  generalize tr f = q at *
  unfold iff_
  rcases Int.lt_trichotomy n q with c | c | c
  · have g := lt_mul c
    have g2 := le_mul (show n ≤ q - 1 by omega)
    have hs : sgn n q = -1 := by unfold sgn; rw [if_pos c]
    rw [hs, if_pos (by decide)]
    unfold sgn; rw [if_pos (by omega)]
  · subst c
    have hs : sgn n n = 0 := by unfold sgn; rw [if_neg (by omega), if_neg (by omega)]
    rw [hs, if_neg (by decide)]
    unfold sgn
    by_cases c : n * (Flt.U : Int) < val f
    · rw [if_pos (by simpa using c), if_pos c]
    · rw [if_neg (by simpa using c), if_neg c]
      by_cases c' : n * (Flt.U : Int) > val f
      · rw [if_pos (by simpa using c'), if_pos c']
      · rw [if_neg (by simpa using c'), if_neg c']
  · have g := le_mul (show q + 1 ≤ n by omega)
    have g2 := lt_mul c
    have hs : sgn n q = 1 := by unfold sgn; rw [if_neg (by omega), if_pos c]
    rw [hs, if_pos (by decide)]
    unfold sgn; rw [if_neg (by omega), if_pos (by omega)]
theorem sgn_mul {a b : Int} : sgn (a * Flt.U) (b * Flt.U) = sgn a b := by
  unfold sgn
  rcases Int.lt_trichotomy a b with c | c | c
  · rw [if_pos (lt_mul c), if_pos c]
  · subst c; simp
  · have := lt_mul c
    rw [if_neg (by omega), if_pos (by omega), if_neg (by omega), if_pos c]
theorem sgn_neg {a b : Int} : -sgn a b = sgn b a := by
  unfold sgn
  rcases Int.lt_trichotomy a b with c | c | c
  · rw [if_pos c, if_neg (by omega), if_pos (by omega)]; decide
  · subst c; simp
  · rw [if_neg (by omega), if_pos (by omega), if_pos (by omega)]
def numK (v : V) : Bool := v.k == 2 || v.k == 3
def nanV (v : V) : Bool := v.k == 3 && nan v.f
def numV (v : V) : Int := if v.k = 2 then v.n * Flt.U else val v.f
def cmpN (a b : V) : Int := if nanV a || nanV b then 2 else sgn (numV a) (numV b)
/-- Whether two values are the same one. -/
def sameV (a b : V) : Bool := vok a && vok b && (if numK a && numK b then cmpN a b == 0 else a.k == b.k && a.n == b.n && a.s.toList == b.s.toList && a.r == b.r)
end Go.Proofs.IM
namespace Go.Proofs.YtdonkjepjobhnaaDoor.IM
open Go Go.Proofs.IM Go.Proofs.Flt
set_option maxHeartbeats 8000000
set_option maxRecDepth 100000
theorem s_l1num {k n r : Int} {f : Nat} {s : ByteArray} {m : Mem} {K : AR → Mem → Prop} (h : K (.ret (.bool (numK ⟨k, n, f, s, r⟩))) m) :
    Sim Tryd.prog 69 [.agg [.int .i64 k, .int .i64 n, .flt f, .str s, .int .i64 r]] m K := by
  refine entry (cxok []) Tryd.func69 rfl rfl (by decide) (by decide) ?_
  simp only [numK] at h
  by_cases h2 : k = 2
  · subst h2; replace h : K (.ret (.bool true)) m := h; exact gox_
  have e : (k == 2) = false := by simpa using h2
  rw [e, Bool.false_or] at h
  exact gox_
theorem s_number {k n r : Int} {f : Nat} {s : ByteArray} {m : Mem} {K : AR → Mem → Prop} (h : K (.ret (.bool (numK ⟨k, n, f, s, r⟩))) m) :
    Sim Tryd.prog 77 [.agg [.int .i64 k, .int .i64 n, .flt f, .str s, .int .i64 r]] m K := by
  refine entry (cxok []) Tryd.func77 rfl rfl (by decide) (by decide) ?_
  simp only [numK] at h
  by_cases h2 : k = 2
  · subst h2; replace h : K (.ret (.bool true)) m := h; exact gox_
  have e : (k == 2) = false := by simpa using h2
  rw [e, Bool.false_or] at h
  exact gox_
theorem s_order64 {a b : Int} {m : Mem} {K : AR → Mem → Prop} (h : K (.ret (.int .i64 (sgn a b))) m) : Sim Tryd.prog 135 [.int .i64 a, .int .i64 b] m K := by
  refine entry (cxok []) Tryd.func135 rfl rfl (by decide) (by decide) ?_
  simp only [sgn] at h
  by_cases c : a < b
  · rw [if_pos c] at h; exact gox_
  rw [if_neg c] at h
  by_cases d : a > b
  · rw [if_pos d] at h; exact gox_
  rw [if_neg d] at h; exact gox_
theorem s_l1intflt {n : Int} {f : Nat} {m : Mem} {K : AR → Mem → Prop} (hn : nan f = false) (hg : -9223372036854775808 ≤ n ∧ n ≤ 9223372036854775807) (h : K (.ret (.int .i64 (iff_ n f))) m) : Sim Tryd.prog 131 [.int .i64 n, .flt f] m K := by
  refine entry (cxok []) Tryd.func131 rfl rfl (by decide) (by decide) ?_
  rcases out_cases hn hg.1 hg.2 with ⟨a, b⟩ | ⟨a, b, c⟩ | ⟨a, b, hi⟩
  · rw [b] at h; clear hg; exact gox_
  · rw [c] at h; clear hg; exact gox_
  · clear hg
    refine goh_ ?_
    refine s_l1floor fun t h1 _ => ?_
    obtain ⟨n1, v1⟩ := h1 hi
    obtain ⟨q, k1, k2, k3⟩ := iff_spec (n := n) hn hi n1 v1
    rw [← k3] at h
    clear k3 hi h1 v1
    by_cases c : n < q
    · rw [if_pos c] at h; exact gox_
    rw [if_neg c] at h
    by_cases d : n > q
    · rw [if_pos d] at h; exact gox_
    rw [if_neg d] at h
    cases e : fgtr f t with
    | true => rw [e, if_pos rfl] at h; exact gox_
    | false => rw [e, if_neg (by decide)] at h; exact gox_
theorem s_intFloat {n : Int} {f : Nat} {m : Mem} {K : AR → Mem → Prop} (hn : nan f = false) (hg : -9223372036854775808 ≤ n ∧ n ≤ 9223372036854775807) (h : K (.ret (.int .i64 (iff_ n f))) m) : Sim Tryd.prog 136 [.int .i64 n, .flt f] m K := by
  refine entry (cxok []) Tryd.func136 rfl rfl (by decide) (by decide) ?_
  rcases out_cases hn hg.1 hg.2 with ⟨a, b⟩ | ⟨a, b, c⟩ | ⟨a, b, hi⟩
  · rw [b] at h; clear hg; exact gox_
  · rw [c] at h; clear hg; exact gox_
  · clear hg
    refine goh_ ?_
    refine s_Trunc hn ?_
    obtain ⟨q, k1, k2, k3⟩ := iff_impl (n := n) hn hi
    rw [← k3] at h
    clear k3 hi
    refine goh_ ?_
    refine s_order64 ?_
    generalize sgn n q = sg at h ⊢
    by_cases c : sg ≠ 0
    · rw [if_pos c] at h
      have c' : (sg != 0) = true := by simpa using c
      exact gox_
    rw [if_neg c] at h
    simp only [ne_eq, Decidable.not_not] at c
    subst c
    cases e : fgtr f (ftrunc f) with
    | true => rw [e, if_pos rfl] at h; exact gox_
    | false =>
      rw [e, if_neg (by decide)] at h
      cases e2 : flss f (ftrunc f) with
      | true => rw [e2, if_pos rfl] at h; exact gox_
      | false => rw [e2, if_neg (by decide)] at h; exact gox_
end Go.Proofs.YtdonkjepjobhnaaDoor.IM
namespace Go.Proofs.IM
open Go Go.RowKit Go.Proofs.Flt Ieee
theorem numK_cases {k n r : Int} {f : Nat} {s : ByteArray} (h : numK ⟨k, n, f, s, r⟩ = true) : k = 2 ∨ k = 3 := by simpa [numK] using h
def i64r (n : Int) : Prop := -9223372036854775808 ≤ n ∧ n ≤ 9223372036854775807
theorem sgn_w64 {a b : Int} : w64 (-sgn a b) = sgn b a := by
  rw [sgn_neg]
  have := sgn_range b a
  exact w64_id (by omega)
theorem sgn_val {f g : Nat} (hf : nan f = false) (hg : nan g = false) : sgn (val f) (val g) = if flss f g then -1 else if fgtr f g then 1 else 0 := by
  rw [flss_iff, fgtr_iff, hf, hg]
  unfold sgn
  simp
end Go.Proofs.IM
namespace Go.Proofs.YtdonkjepjobhnaaDoor.IM
open Go Go.Proofs.IM Go.Proofs.Flt
set_option maxHeartbeats 8000000
set_option maxRecDepth 100000
theorem s_specCompareN {k n r k' n' r' : Int} {f f' : Nat} {s s' : ByteArray} {m : Mem} {K : AR → Mem → Prop} (ha : vok ⟨k, n, f, s, r⟩ = true) (hb : vok ⟨k', n', f', s', r'⟩ = true) (na : numK ⟨k, n, f, s, r⟩ = true) (nb : numK ⟨k', n', f', s', r'⟩ = true) (hn : i64r n) (hn' : i64r n')
    (h : K (.ret (.int .i64 (cmpN ⟨k, n, f, s, r⟩ ⟨k', n', f', s', r'⟩))) m) :
    Sim Tryd.prog 67 [.agg [.int .i64 k, .int .i64 n, .flt f, .str s, .int .i64 r], .agg [.int .i64 k', .int .i64 n', .flt f', .str s', .int .i64 r']] m K := by
  refine entry (cxok []) Tryd.func67 rfl rfl (by decide) (by decide) ?_
  refine goh_ ?_
  refine s_specValueOk ?_
  rw [ha]
  refine goh_ ?_
  refine s_specValueOk ?_
  rw [hb]
  clear ha hb
  rcases numK_cases na with rfl | rfl <;> rcases numK_cases nb with rfl | rfl
  · clear hn hn'
    replace h : K (.ret (.int .i64 (sgn n n'))) m := by have e : cmpN ⟨2, n, f, s, r⟩ ⟨2, n', f', s', r'⟩ = sgn n n' := sgn_mul; rw [e] at h; exact h
    refine goh_ ?_
    refine s_l1num ?_
    refine goh_ ?_
    refine s_l1num ?_
    unfold sgn at h
    by_cases c : n < n'
    · rw [if_pos c] at h; exact gox_
    rw [if_neg c] at h
    by_cases d : n > n'
    · rw [if_pos d] at h; exact gox_
    rw [if_neg d] at h; exact gox_
  · replace h : K (.ret (.int .i64 (if nan f' then 2 else iff_ n f'))) m := h
    refine goh_ ?_
    refine s_l1num ?_
    refine goh_ ?_
    refine s_l1num ?_
    refine goh_ ?_
    refine s_l1nan ?_
    cases nf : nan f' with
    | true =>
      rw [nf] at h; replace h : K (.ret (.int .i64 2)) m := h
      have e9 : fne f' f' = nan f' := by rw [fne_iff, feq_self, Bool.not_not]
      exact gox_
    | false =>
      rw [nf] at h; replace h : K (.ret (.int .i64 (iff_ n f'))) m := h
      have e9 : fne f' f' = nan f' := by rw [fne_iff, feq_self, Bool.not_not]
      clear hn'
      refine goh_ ?_
      refine s_l1intflt nf hn ?_
      clear hn
      exact gox_
  · replace h : K (.ret (.int .i64 (if nan f then 2 else sgn (val f) (n' * Flt.U)))) m := by
      have e : cmpN ⟨3, n, f, s, r⟩ ⟨2, n', f', s', r'⟩ = (if nan f then 2 else sgn (val f) (n' * Flt.U)) := by simp [cmpN, nanV, numV]
      rw [e] at h; exact h
    refine goh_ ?_
    refine s_l1num ?_
    refine goh_ ?_
    refine s_l1num ?_
    refine goh_ ?_
    refine s_l1nan ?_
    cases nf : nan f with
    | true =>
      rw [nf] at h; replace h : K (.ret (.int .i64 2)) m := h
      have e9 : fne f f = nan f := by rw [fne_iff, feq_self, Bool.not_not]
      exact gox_
    | false =>
      rw [nf] at h; replace h : K (.ret (.int .i64 (sgn (val f) (n' * Flt.U)))) m := h
      have e9 : fne f f = nan f := by rw [fne_iff, feq_self, Bool.not_not]
      clear hn
      refine goh_ ?_
      refine s_l1intflt nf hn' ?_
      clear hn'
      have e : w64 (0 - iff_ n' f) = sgn (val f) (n' * Flt.U) := by rw [Int.zero_sub]; exact sgn_w64
      exact gox_
  · clear hn hn'
    replace h : K (.ret (.int .i64 (if nan f || nan f' then 2 else sgn (val f) (val f')))) m := by
      have e : cmpN ⟨3, n, f, s, r⟩ ⟨3, n', f', s', r'⟩ = (if nan f || nan f' then 2 else sgn (val f) (val f')) := by simp [cmpN, nanV, numV]
      rw [e] at h; exact h
    refine goh_ ?_
    refine s_l1num ?_
    refine goh_ ?_
    refine s_l1num ?_
    refine goh_ ?_
    refine s_l1nan ?_
    have e9 : fne f f = nan f := by rw [fne_iff, feq_self, Bool.not_not]
    have e8 : fne f' f' = nan f' := by rw [fne_iff, feq_self, Bool.not_not]
    cases nf : nan f with
    | true => rw [nf, Bool.true_or] at h; replace h : K (.ret (.int .i64 2)) m := h; exact gox_
    | false =>
      rw [nf, Bool.false_or] at h
      refine goh_ ?_
      refine s_l1nan ?_
      cases nf' : nan f' with
      | true => rw [nf'] at h; replace h : K (.ret (.int .i64 2)) m := h; exact gox_
      | false =>
        rw [nf'] at h; replace h : K (.ret (.int .i64 (sgn (val f) (val f')))) m := h
        rw [sgn_val nf nf'] at h
        cases c : flss f f' with
        | true => rw [c] at h; replace h : K (.ret (.int .i64 (-1))) m := h; exact gox_
        | false =>
          rw [c] at h
          cases d : fgtr f f' with
          | true => rw [d] at h; replace h : K (.ret (.int .i64 1)) m := h; exact gox_
          | false => rw [d] at h; replace h : K (.ret (.int .i64 0)) m := h; exact gox_
theorem s_implCompareN {k n r k' n' r' : Int} {f f' : Nat} {s s' : ByteArray} {m : Mem} {K : AR → Mem → Prop} (ha : vok ⟨k, n, f, s, r⟩ = true) (hb : vok ⟨k', n', f', s', r'⟩ = true) (na : numK ⟨k, n, f, s, r⟩ = true) (nb : numK ⟨k', n', f', s', r'⟩ = true) (hn : i64r n) (hn' : i64r n')
    (h : K (.ret (.int .i64 (cmpN ⟨k, n, f, s, r⟩ ⟨k', n', f', s', r'⟩))) m) :
    Sim Tryd.prog 76 [.agg [.int .i64 k, .int .i64 n, .flt f, .str s, .int .i64 r], .agg [.int .i64 k', .int .i64 n', .flt f', .str s', .int .i64 r']] m K := by
  refine entry (cxok []) Tryd.func76 rfl rfl (by decide) (by decide) ?_
  refine goh_ ?_
  refine s_implValueOk ?_
  rw [ha]
  refine goh_ ?_
  refine s_implValueOk ?_
  rw [hb]
  clear ha hb
  rcases numK_cases na with rfl | rfl <;> rcases numK_cases nb with rfl | rfl
  · clear hn hn'
    replace h : K (.ret (.int .i64 (sgn n n'))) m := by have e : cmpN ⟨2, n, f, s, r⟩ ⟨2, n', f', s', r'⟩ = sgn n n' := sgn_mul; rw [e] at h; exact h
    refine goh_ ?_
    refine s_number ?_
    refine goh_ ?_
    refine s_number ?_
    refine goh_ ?_
    refine s_order64 ?_
    exact gox_
  · replace h : K (.ret (.int .i64 (if nan f' then 2 else iff_ n f'))) m := h
    refine goh_ ?_
    refine s_number ?_
    refine goh_ ?_
    refine s_number ?_
    cases nf : nan f' with
    | true =>
      rw [nf] at h; replace h : K (.ret (.int .i64 2)) m := h
      have e9 : fne f' f' = nan f' := by rw [fne_iff, feq_self, Bool.not_not]
      exact gox_
    | false =>
      rw [nf] at h; replace h : K (.ret (.int .i64 (iff_ n f'))) m := h
      have e9 : fne f' f' = nan f' := by rw [fne_iff, feq_self, Bool.not_not]
      clear hn'
      refine goh_ ?_
      refine s_intFloat nf hn ?_
      clear hn
      exact gox_
  · replace h : K (.ret (.int .i64 (if nan f then 2 else sgn (val f) (n' * Flt.U)))) m := by
      have e : cmpN ⟨3, n, f, s, r⟩ ⟨2, n', f', s', r'⟩ = (if nan f then 2 else sgn (val f) (n' * Flt.U)) := by simp [cmpN, nanV, numV]
      rw [e] at h; exact h
    refine goh_ ?_
    refine s_number ?_
    refine goh_ ?_
    refine s_number ?_
    cases nf : nan f with
    | true =>
      rw [nf] at h; replace h : K (.ret (.int .i64 2)) m := h
      have e9 : fne f f = nan f := by rw [fne_iff, feq_self, Bool.not_not]
      exact gox_
    | false =>
      rw [nf] at h; replace h : K (.ret (.int .i64 (sgn (val f) (n' * Flt.U)))) m := h
      have e9 : fne f f = nan f := by rw [fne_iff, feq_self, Bool.not_not]
      clear hn
      refine goh_ ?_
      refine s_intFloat nf hn' ?_
      clear hn'
      have e : w64 (0 - iff_ n' f) = sgn (val f) (n' * Flt.U) := by rw [Int.zero_sub]; exact sgn_w64
      exact gox_
  · clear hn hn'
    replace h : K (.ret (.int .i64 (if nan f || nan f' then 2 else sgn (val f) (val f')))) m := by
      have e : cmpN ⟨3, n, f, s, r⟩ ⟨3, n', f', s', r'⟩ = (if nan f || nan f' then 2 else sgn (val f) (val f')) := by simp [cmpN, nanV, numV]
      rw [e] at h; exact h
    refine goh_ ?_
    refine s_number ?_
    refine goh_ ?_
    refine s_number ?_
    have e9 : fne f f = nan f := by rw [fne_iff, feq_self, Bool.not_not]
    have e8 : fne f' f' = nan f' := by rw [fne_iff, feq_self, Bool.not_not]
    cases nf : nan f with
    | true => rw [nf, Bool.true_or] at h; replace h : K (.ret (.int .i64 2)) m := h; exact gox_
    | false =>
      rw [nf, Bool.false_or] at h
      cases nf' : nan f' with
      | true => rw [nf'] at h; replace h : K (.ret (.int .i64 2)) m := h; exact gox_
      | false =>
        rw [nf'] at h; replace h : K (.ret (.int .i64 (sgn (val f) (val f')))) m := h
        rw [sgn_val nf nf'] at h
        cases c : flss f f' with
        | true => rw [c] at h; replace h : K (.ret (.int .i64 (-1))) m := h; exact gox_
        | false =>
          rw [c] at h
          cases d : fgtr f f' with
          | true => rw [d] at h; replace h : K (.ret (.int .i64 1)) m := h; exact gox_
          | false => rw [d] at h; replace h : K (.ret (.int .i64 0)) m := h; exact gox_
theorem s_specSame {k n r k' n' r' : Int} {f f' : Nat} {s s' : ByteArray} {m : Mem} {K : AR → Mem → Prop} (hn : i64r n) (hn' : i64r n')
    (h : K (.ret (.bool (sameV ⟨k, n, f, s, r⟩ ⟨k', n', f', s', r'⟩))) m) :
    Sim Tryd.prog 66 [.agg [.int .i64 k, .int .i64 n, .flt f, .str s, .int .i64 r], .agg [.int .i64 k', .int .i64 n', .flt f', .str s', .int .i64 r']] m K := by
  refine entry (cxok []) Tryd.func66 rfl rfl (by decide) (by decide) ?_
  refine goh_ ?_
  refine s_specValueOk ?_
  simp only [sameV] at h
  cases ha : vok ⟨k, n, f, s, r⟩ with
  | false => rw [ha] at h; replace h : K (.ret (.bool false)) m := h; clear hn hn'; exact gox_
  | true =>
  rw [ha, Bool.true_and] at h
  refine goh_ ?_
  refine s_specValueOk ?_
  cases hb : vok ⟨k', n', f', s', r'⟩ with
  | false => rw [hb] at h; replace h : K (.ret (.bool false)) m := h; clear hn hn'; exact gox_
  | true =>
  rw [hb, Bool.true_and] at h
  refine goh_ ?_
  refine s_l1num ?_
  cases na : numK ⟨k, n, f, s, r⟩ with
  | true =>
    rw [na, Bool.true_and] at h
    refine goh_ ?_
    refine s_l1num ?_
    cases nb : numK ⟨k', n', f', s', r'⟩ with
    | true =>
      rw [nb, if_pos rfl] at h
      refine goh_ ?_
      refine s_specCompareN ha hb na nb hn hn' ?_
      clear hn hn'
      exact gox_
    | false =>
      rw [nb, if_neg (by decide)] at h
      clear hn hn' na nb ha hb
      refine goh_ ?_; revert h; grind
  | false =>
    rw [na, Bool.false_and, if_neg (by decide)] at h
    clear hn hn' na ha hb
    refine goh_ ?_; revert h; grind
theorem s_implSame {k n r k' n' r' : Int} {f f' : Nat} {s s' : ByteArray} {m : Mem} {K : AR → Mem → Prop} (hn : i64r n) (hn' : i64r n')
    (h : K (.ret (.bool (sameV ⟨k, n, f, s, r⟩ ⟨k', n', f', s', r'⟩))) m) :
    Sim Tryd.prog 75 [.agg [.int .i64 k, .int .i64 n, .flt f, .str s, .int .i64 r], .agg [.int .i64 k', .int .i64 n', .flt f', .str s', .int .i64 r']] m K := by
  refine entry (cxok []) Tryd.func75 rfl rfl (by decide) (by decide) ?_
  refine goh_ ?_
  refine s_implValueOk ?_
  simp only [sameV] at h
  cases ha : vok ⟨k, n, f, s, r⟩ with
  | false => rw [ha] at h; replace h : K (.ret (.bool false)) m := h; clear hn hn'; exact gox_
  | true =>
  rw [ha, Bool.true_and] at h
  refine goh_ ?_
  refine s_implValueOk ?_
  cases hb : vok ⟨k', n', f', s', r'⟩ with
  | false => rw [hb] at h; replace h : K (.ret (.bool false)) m := h; clear hn hn'; exact gox_
  | true =>
  rw [hb, Bool.true_and] at h
  refine goh_ ?_
  refine s_number ?_
  cases na : numK ⟨k, n, f, s, r⟩ with
  | true =>
    rw [na, Bool.true_and] at h
    refine goh_ ?_
    refine s_number ?_
    cases nb : numK ⟨k', n', f', s', r'⟩ with
    | true =>
      rw [nb, if_pos rfl] at h
      refine goh_ ?_
      refine s_implCompareN ha hb na nb hn hn' ?_
      clear hn hn'
      exact gox_
    | false =>
      rw [nb, if_neg (by decide)] at h
      clear hn hn' na nb ha hb
      refine goh_ ?_; revert h; grind
  | false =>
    rw [na, Bool.false_and, if_neg (by decide)] at h
    clear hn hn' na ha hb
    refine goh_ ?_; revert h; grind
end Go.Proofs.YtdonkjepjobhnaaDoor.IM
namespace Go.Proofs.IM
open Go Go.Proofs.Flt
/-- The digits of a number. -/
def decL (n : Nat) : List UInt8 := if h : n < 10 then [UInt8.ofNat (48 + n)] else decL (n / 10) ++ [UInt8.ofNat (48 + n % 10)]
theorem decL_lt {n : Nat} (h : n < 10) : decL n = [UInt8.ofNat (48 + n)] := by rw [decL, dif_pos h]
theorem decL_ge {n : Nat} (h : ¬ n < 10) : decL n = decL (n / 10) ++ [UInt8.ofNat (48 + n % 10)] := by rw [decL, dif_neg h]
theorem decL_len : ∀ n, (decL n).length ≤ n + 1 := by
  intro n
  induction n using Nat.strongRecOn with
  | _ n ih =>
    by_cases h : n < 10
    · rw [decL_lt h]; simp
    · rw [decL_ge h]
      have := ih (n / 10) (by omega)
      simp; omega
def decT (n : Int) : ByteArray := if n < 0 then ⟨(45 :: decL n.natAbs).toArray⟩ else ⟨(decL n.natAbs).toArray⟩
theorem decL_le {k : Nat} : ∀ {n : Nat}, n < 10 ^ (k + 1) → (decL n).length ≤ k + 1 := by
  induction k with
  | zero => intro n h; rw [decL_lt (by simpa using h)]; simp
  | succ k ih =>
    intro n h
    by_cases c : n < 10
    · rw [decL_lt c]; simp
    · rw [decL_ge c]
      have := ih (n := n / 10) (by rw [Nat.pow_succ] at h; omega)
      simp; omega
theorem decT_min : decT (-9223372036854775808) = ⟨#[45, 57, 50, 50, 51, 51, 55, 50, 48, 51, 54, 56, 53, 52, 55, 55, 53, 56, 48, 56]⟩ := by
  unfold decT; simp [decL]
end Go.Proofs.IM
namespace Go.Proofs.YtdonkjepjobhnaaDoor.IM
open Go Go.Proofs.IM Go.Proofs.Flt
set_option maxHeartbeats 8000000
set_option maxRecDepth 100000
theorem s_l1decimalP {n : Nat} {m : Mem} {K : AR → Mem → Prop} (hn : n ≤ 9223372036854775807) (h : K (.ret (.str ⟨(decL n).toArray⟩)) m) : Sim Tryd.prog 45 [.int .i64 n] m K := by
  refine entry (cxok [16]) Tryd.func45 rfl rfl (by decide) (by decide) ?_
  have c0 : ((n : Int) == -9223372036854775808) = false := by
    rw [beq_eq_false_iff_ne]; omega
  have c1 : ((n : Int) < 0) = False := by rw [eq_iff_iff, iff_false]; omega
  have hd := decL_le (k := 18) (n := n) (by omega)
  refine goh_ ?_
  clear c0 c1
  refine loop_ (fun k' t l c m' => m' = m ∧ ∃ (x : Nat) (b : List UInt8), t 0 = .int .i64 x ∧ t 3 = .str ⟨b.toArray⟩ ∧ decL x ++ b = decL n ∧ x ≤ n ∧ k' = x) n ?_ ?_
  · exact ⟨rfl, n, [], rfl, rfl, by simp, by omega, rfl⟩
  intro k' t l c m1 KN ⟨hm, x, b, g0, g3, hS, hx, hk⟩ next
  subst m1
  have hbl : b.length ≤ 19 := by
    have := congrArg List.length hS
    simp only [List.length_append] at this; omega
  have e1 : IntKind.u8.wrap (IntKind.i64.wrap (48 + (x : Int).tmod 10)) = ((UInt8.ofNat (48 + x % 10)).toNat : Int) := by
    rw [Int.tmod_eq_emod_of_nonneg (by omega), i64_wrap, u8_wrap]; simp only [UInt8.toNat_ofNat']; omega
  have e2 := @bR_lc l m (c + 4) _ (UInt8.ofNat (48 + x % 10)) rfl
  have e3 : w64 ((x : Int).tdiv 10) = ((x / 10 : Nat) : Int) := by
    rw [Int.tdiv_eq_ediv_of_nonneg (by omega), w64_id (by omega)]; omega
  have e4 : ((ByteArray.mk [UInt8.ofNat (48 + x % 10)].toArray).size + (ByteArray.mk b.toArray).size ≤ 9223372036854775807) = True := by
    rw [eq_iff_iff, iff_true]
    show 1 + b.toArray.size ≤ 9223372036854775807
    rw [List.size_toArray]; omega
  have e5 := str_app
  by_cases hx0 : x < 10
  · have e6 : (((x / 10 : Nat) : Int) == 0) = true := by
      rw [beq_iff_eq]; omega
    rw [decL_lt hx0] at hS
    have e7 : x % 10 = x := Nat.mod_eq_of_lt hx0
    rw [e7] at e1 e2 e4
    have e8 : [UInt8.ofNat (48 + x)] ++ b = decL n := hS
    clear hS hd hbl e7 hx hx0
    exact gox_
  · have e6 : (((x / 10 : Nat) : Int) == 0) = false := by
      rw [beq_eq_false_iff_ne]; omega
    rw [decL_ge hx0] at hS
    refine goh_ ?_
    refine next _ _ _ _ _ ?_ ⟨rfl, x / 10, [UInt8.ofNat (48 + x % 10)] ++ b, rfl, rfl, ?_, by omega, rfl⟩
    · omega
    · rw [← List.append_assoc]; exact hS
theorem s_l1decimal {n : Int} {m : Mem} {K : AR → Mem → Prop} (hn : -9223372036854775808 ≤ n ∧ n ≤ 9223372036854775807) (h : K (.ret (.str (decT n))) m) : Sim Tryd.prog 45 [.int .i64 n] m K := by
  by_cases h0 : 0 ≤ n
  · obtain ⟨k, rfl⟩ : ∃ k : Nat, n = k := ⟨n.toNat, by omega⟩
    refine s_l1decimalP (by omega) ?_
    have e : decT (k : Int) = ⟨(decL k).toArray⟩ := by unfold decT; rw [if_neg (by omega), Int.natAbs_natCast]
    rw [← e]; exact h
  refine entry (cxok [16]) Tryd.func45 rfl rfl (by decide) (by decide) ?_
  by_cases h1 : n = -9223372036854775808
  · subst h1
    rw [decT_min] at h
    clear hn h0
    exact gox_
  have c0 : (n == -9223372036854775808) = false := by rw [beq_eq_false_iff_ne]; exact h1
  have c1 : (n < 0) = True := by rw [eq_iff_iff, iff_true]; omega
  have c2 : w64 (0 - n) = ((n.natAbs : Nat) : Int) := by rw [w64_id (by omega)]; omega
  have hd := decL_le (k := 18) (n := n.natAbs) (by omega)
  have e4 : ((ByteArray.mk #[45]).size + (ByteArray.mk (decL n.natAbs).toArray).size ≤ 9223372036854775807) = True := by
    rw [eq_iff_iff, iff_true]
    show 1 + (decL n.natAbs).toArray.size ≤ 9223372036854775807
    rw [List.size_toArray]; omega
  have e5 : (ByteArray.mk #[45]) ++ (ByteArray.mk (decL n.natAbs).toArray) = decT n := by
    unfold decT; rw [if_pos (by omega)]; exact str_app [45] _
  have hb : n.natAbs ≤ 9223372036854775807 := by omega
  clear hn h0 h1 hd
  refine goh_ ?_
  refine s_l1decimalP hb ?_
  exact gox_
end Go.Proofs.YtdonkjepjobhnaaDoor.IM
namespace Go.Proofs.Flt
open Ieee Go Go.Proofs.IM
/-- The odd part, and the power of two. -/
def odd2 (n : Nat) : Nat × Nat := if h : n ≠ 0 ∧ n % 2 = 0 then ((odd2 (n / 2)).1, (odd2 (n / 2)).2 + 1) else (n, 0)
termination_by n
decreasing_by all_goals omega
theorem odd2_odd {o : Nat} (h : o % 2 = 1) : ∀ t, odd2 (o * 2 ^ t) = (o, t) := by
  intro t
  induction t with
  | zero => rw [Nat.pow_zero, Nat.mul_one, odd2, dif_neg (by omega)]
  | succ t ih =>
    have hp : 0 < o * 2 ^ t := Nat.mul_pos (by omega) (Nat.two_pow_pos t)
    have e : o * 2 ^ (t + 1) = 2 * (o * 2 ^ t) := by rw [Nat.pow_succ]; ac_rfl
    rw [e, odd2, dif_pos (by omega), show 2 * (o * 2 ^ t) / 2 = o * 2 ^ t by omega, ih]
def decI (n : Int) : List UInt8 := if n < 0 then 45 :: decL n.natAbs else decL n.natAbs
theorem decT_I (n : Int) : decT n = ⟨(decI n).toArray⟩ := by
  unfold decT decI; split <;> rfl
/-- The text of what is neither a NaN nor has a sign. -/
def fTxt (r : Nat) : List UInt8 := if r = 0 then [48, 112, 48] else if r = infR then [105, 110, 102] else decI (odd2 (M r)).1 ++ 112 :: decI ((odd2 (M r)).2 - 1074)
def sgnL (s : Bool) : List UInt8 := if s then [45] else []
def fText (b : Nat) : ByteArray := if nan b then ⟨#[110, 97, 110]⟩ else ⟨(sgnL (neg b) ++ fTxt (rung b)).toArray⟩
theorem fTxt_odd {r o t : Nat} (h0 : r ≠ 0) (hi : r < infR) (ho : o % 2 = 1) (hM : M r = o * 2 ^ t) : fTxt r = decI o ++ 112 :: decI (t - 1074) := by
  unfold fTxt
  rw [if_neg h0, if_neg (by omega), hM, odd2_odd ho]
theorem U_pow : U = 2 ^ k0 := pow_k0.symm
/-- What is no whole number is small. -/
theorem small_of {r : Nat} (h : ¬ U ∣ M r) : r < 4841369599423283200 := by
  rcases Nat.lt_or_ge r 4841369599423283200 with c | c
  · exact c
  · exfalso
    apply h
    rw [M_big (by omega), U_pow]
    exact Nat.dvd_mul_left_of_dvd (Nat.pow_dvd_pow 2 (by rw [k0_eq]; omega)) _
theorem one_le {r : Nat} (h0 : r ≠ 0) (hd : U ∣ M r) : 4607182418800017408 ≤ r := by
  have h1 := val_one
  have h2 : val 4607182418800017408 = M 4607182418800017408 := val_w (by decide)
  have h3 : M 4607182418800017408 = U := by rw [h2] at h1; exact_mod_cast h1
  rcases Nat.lt_or_ge r 4607182418800017408 with c | c
  · have := M_lt c
    have := Nat.le_of_dvd (M_pos (by omega)) hd
    omega
  · exact c
/-- Compared with its floor. -/
theorem floor_w {r t : Nat} (hr : r < infR) (h1 : inr (word false r) → nan t = false ∧ val t = val (word false r) / U * U) (h2 : ¬ inr (word false r) → t = word false r) : feq (word false r) t = decide (U ∣ M r) := by
  have hv := val_w (r := r) (by omega)
  have hn := nan_w (s := false) (r := r) (by omega)
  by_cases hi : inr (word false r)
  · obtain ⟨n1, v1⟩ := h1 hi
    rw [feq_iff, hn, n1, v1, hv, Bool.eq_iff_iff]
    simp only [Bool.not_false, Bool.true_and, decide_eq_true_eq]
    constructor
    · intro h
      refine ⟨M r / U, ?_⟩
      have : M r = M r / U * U := by exact_mod_cast h
      rw [Nat.mul_comm]; exact this
    · intro h
      have := Nat.div_mul_cancel h
      exact_mod_cast this.symm
  · rw [h2 hi, feq_self, hn]
    have : U ∣ M r := by
      apply Classical.byContradiction
      intro c
      apply hi
      refine ⟨hn, ?_, ?_⟩
      · rw [hv]; omega
      · rw [hv]
        have h3 := M_lt (small_of c)
        have h4 := M_52 (r := 4841369599423283200) (Nat.le_refl _) (by omega)
        rw [h4] at h3
        have : M r < K63 * U := Nat.lt_of_lt_of_le h3 (Nat.mul_le_mul_right _ (by decide))
        exact_mod_cast this
    simp [this]
/-- An odd whole number is a small one. -/
theorem odd_small {r q : Nat} (hM : M r = q * U) (ho : q % 2 = 1) : q < 9007199254740992 := by
  rcases Nat.lt_or_ge r 4845873199050653696 with c | c
  · have h1 := M_lt c
    rw [hM] at h1
    have h4 : M 4845873199050653696 = 9007199254740992 * U := by
      rw [M_big (by decide), show 4845873199050653696 / 4503599627370496 - 1 = 1 + k0 by decide, Nat.pow_add, pow_k0, ← Nat.mul_assoc]
    rw [h4] at h1
    exact Nat.lt_of_mul_lt_mul_right h1
  · exfalso
    rw [M_big (by omega), show r / 4503599627370496 - 1 = (r / 4503599627370496 - 1 - k0 - 1) + 1 + k0 by rw [k0_eq]; omega, Nat.pow_add, pow_k0, ← Nat.mul_assoc] at hM
    have := Nat.eq_of_mul_eq_mul_right U_pos hM
    rw [Nat.pow_succ, ← Nat.mul_assoc] at this
    omega
/-- The mantissa and the exponent that the bits tell. -/
theorem M_bits (r : Nat) : M r = (if r / 4503599627370496 = 0 then r % 4503599627370496 else 4503599627370496 + r % 4503599627370496) * 2 ^ ((if r / 4503599627370496 = 0 then 1 else r / 4503599627370496) - 1) := by
  by_cases h : r / 4503599627370496 = 0
  · rw [if_pos h, if_pos h, M_low (by omega), Nat.sub_self, Nat.pow_zero, Nat.mul_one]; omega
  · rw [if_neg h, if_neg h, M_big (by omega)]
end Go.Proofs.Flt
namespace Go.Proofs.YtdonkjepjobhnaaDoor.Sh
open Go Go.Proofs Go.Shelf
def lays283_ren : Go.Shelf.Ren := ⟨fun | 283 => 157 | n => n, fun | 3 => 3 | 9 => 9 | 4 => 4 | n => n, fun | n => n⟩
theorem lays283 : Go.Proofs.Lays.n283 Tryd.prog lays283_ren := {
  mixed := by kernel_rfl
  f283 := Tryd.func157.trans (congrArg some (by kernel_rfl))
  t3 := Tryd.underlying3
  a3 := Tryd.isAgg3
  z3 := Tryd.sizeOf3
  v3 := Tryd.zeroValue3
  t4 := Tryd.underlying4
  a4 := Tryd.isAgg4
  z4 := Tryd.sizeOf4
  v4 := Tryd.zeroValue4
  t9 := Tryd.underlying9
  a9 := Tryd.isAgg9
  z9 := Tryd.sizeOf9
  v9 := Tryd.zeroValue9 }
open Go.Lib in
theorem internal_strconv_small (i : Nat) (h : i < 100) (w : World) :
    Calls Tryd.prog 157 #[.int .i64 i] w fun e w' => e = .returned (.string ⟨(Lib.decDigits i).toArray⟩) ∧ w' = w := Any.internal_strconv_small lays283 i h w
def laysM284_ren : Go.Shelf.Ren := ⟨fun | 284 => 158 | 129 => 182 | 317 => 181 | 318 => 183 | n => n, fun | 53 => 143 | 3 => 3 | 212 => 211 | 0 => 0 | 4 => 4 | 46 => 145 | 5 => 5 | 9 => 9 | n => n, fun | 17 => 4 | n => n⟩
theorem laysM284 : Go.Proofs.LaysM.n284 Tryd.prog laysM284_ren := {
  mixed := by kernel_rfl
  f129 := Tryd.func182.trans (congrArg some (by kernel_rfl))
  f284 := Tryd.func158.trans (congrArg some (by kernel_rfl))
  f317 := Tryd.func181.trans (congrArg some (by kernel_rfl))
  f318 := Tryd.func183.trans (congrArg some (by kernel_rfl))
  t0 := Tryd.underlying0
  a0 := Tryd.isAgg0
  z0 := Tryd.sizeOf0
  v0 := Tryd.zeroValue0
  t3 := Tryd.underlying3
  a3 := Tryd.isAgg3
  z3 := Tryd.sizeOf3
  v3 := Tryd.zeroValue3
  t4 := Tryd.underlying4
  a4 := Tryd.isAgg4
  z4 := Tryd.sizeOf4
  v4 := Tryd.zeroValue4
  t5 := Tryd.underlying5
  a5 := Tryd.isAgg5
  z5 := Tryd.sizeOf5
  v5 := Tryd.zeroValue5
  t9 := Tryd.underlying9
  a9 := Tryd.isAgg9
  z9 := Tryd.sizeOf9
  v9 := Tryd.zeroValue9
  t46 := Tryd.underlying145
  a46 := Tryd.isAgg145
  z46 := Tryd.sizeOf145
  v46 := Tryd.zeroValue145
  t53 := Tryd.underlying143
  a53 := Tryd.isAgg143
  z53 := Tryd.sizeOf143
  v53 := Tryd.zeroValue143
  t212 := Tryd.underlying211
  a212 := Tryd.isAgg211
  z212 := Tryd.sizeOf211
  v212 := Tryd.zeroValue211
  g17 := by kernel_rfl
  i0 := by kernel_rfl
  i3 := by kernel_rfl
  i4 := by kernel_rfl
  i5 := by kernel_rfl
  i9 := by kernel_rfl
  i46 := by kernel_rfl
  i53 := by kernel_rfl
  i212 := by kernel_rfl
  m17 := by kernel_rfl }
open Go.Lib in
theorem internal_strconv_numDigits (u : Nat) (h1 : 1 ≤ u) (h2 : u < 18446744073709551616) (w : World) (htab : Lib.TabIs Tryd.prog w "internal/strconv.uint64pow10" .u64 Lib.pow10Tab) :
    Calls Tryd.prog 158 #[.int .u64 u] w fun e w' => e = .returned (.int .i64 (Lib.nDigits u)) ∧ w' = w := Any.internal_strconv_numDigits laysM284 u h1 h2 w htab
def lays285_ren : Go.Shelf.Ren := ⟨fun | 285 => 159 | n => n, fun | 37 => 22 | 53 => 143 | 3 => 3 | 4 => 4 | 51 => 201 | 9 => 9 | 5 => 5 | 0 => 0 | n => n, fun | n => n⟩
theorem lays285 : Go.Proofs.Lays.n285 Tryd.prog lays285_ren := {
  mixed := by kernel_rfl
  f285 := Tryd.func159.trans (congrArg some (by kernel_rfl))
  t0 := Tryd.underlying0
  a0 := Tryd.isAgg0
  z0 := Tryd.sizeOf0
  v0 := Tryd.zeroValue0
  t3 := Tryd.underlying3
  a3 := Tryd.isAgg3
  z3 := Tryd.sizeOf3
  v3 := Tryd.zeroValue3
  t4 := Tryd.underlying4
  a4 := Tryd.isAgg4
  z4 := Tryd.sizeOf4
  v4 := Tryd.zeroValue4
  t5 := Tryd.underlying5
  a5 := Tryd.isAgg5
  z5 := Tryd.sizeOf5
  v5 := Tryd.zeroValue5
  t9 := Tryd.underlying9
  a9 := Tryd.isAgg9
  z9 := Tryd.sizeOf9
  v9 := Tryd.zeroValue9
  t37 := Tryd.underlying22
  a37 := Tryd.isAgg22
  z37 := Tryd.sizeOf22
  v37 := Tryd.zeroValue22
  t51 := Tryd.underlying201
  a51 := Tryd.isAgg201
  z51 := Tryd.sizeOf201
  v51 := Tryd.zeroValue201
  t53 := Tryd.underlying143
  a53 := Tryd.isAgg143
  z53 := Tryd.sizeOf143
  v53 := Tryd.zeroValue143 }
open Go.RowKit Go.Sort Go.Lib in
theorem internal_strconv_formatBase10 (blk off cap : Nat) (u : Nat) (d : Array UInt8) (w : World) (hH : Holds (fun (b : UInt8) => Value.int .u8 (b.toNat : Int)) w blk off d) (hu : u < 10 ^ d.size) (hu64 : u < 18446744073709551616) (hsz : d.size < 4611686018427387904) :
    Calls Tryd.prog 159 #[.slice (some ⟨blk, off, none⟩) d.size cap, .int .u64 u] w fun e w' =>
      e = .returned (.tuple #[]) ∧ ∃ (n v' : Nat) (dk : Array UInt8), w' = (putRow (fun (b : UInt8) => Value.int .u8 (b.toNat : Int)) w blk off dk).drewN n ∧ FmtInv d.size u 0 v' dk := Any.internal_strconv_formatBase10 lays285 blk off cap u d w hH hu hu64 hsz
def laysM171_ren : Go.Shelf.Ren := ⟨fun | 171 => 93 | 243 => 150 | 246 => 117 | 283 => 157 | 284 => 158 | 285 => 159 | 286 => 160 | 129 => 182 | 317 => 181 | 318 => 183 | 319 => 184 | 320 => 185 | 337 => 196 | 338 => 197 | n => n, fun | 3 => 3 | 9 => 9 | 2 => 2 | 4 => 4 | 171 => 183 | 0 => 0 | 53 => 143 | 37 => 22 | 5 => 5 | 173 => 186 | 212 => 211 | 51 => 201 | 20 => 20 | 213 => 212 | 46 => 145 | 232 => 238 | 233 => 239 | n => n, fun | 17 => 4 | 18 => 5 | 19 => 6 | n => n⟩
theorem laysM171 : Go.Proofs.LaysM.n171 Tryd.prog laysM171_ren := {
  mixed := by kernel_rfl
  f129 := Tryd.func182.trans (congrArg some (by kernel_rfl))
  f171 := Tryd.func93.trans (congrArg some (by kernel_rfl))
  f243 := Tryd.func150.trans (congrArg some (by kernel_rfl))
  f246 := Tryd.func117.trans (congrArg some (by kernel_rfl))
  f283 := Tryd.func157.trans (congrArg some (by kernel_rfl))
  f284 := Tryd.func158.trans (congrArg some (by kernel_rfl))
  f285 := Tryd.func159.trans (congrArg some (by kernel_rfl))
  f286 := Tryd.func160.trans (congrArg some (by kernel_rfl))
  f317 := Tryd.func181.trans (congrArg some (by kernel_rfl))
  f318 := Tryd.func183.trans (congrArg some (by kernel_rfl))
  f319 := Tryd.func184.trans (congrArg some (by kernel_rfl))
  f320 := Tryd.func185.trans (congrArg some (by kernel_rfl))
  f337 := Tryd.func196.trans (congrArg some (by kernel_rfl))
  f338 := Tryd.func197.trans (congrArg some (by kernel_rfl))
  t0 := Tryd.underlying0
  a0 := Tryd.isAgg0
  z0 := Tryd.sizeOf0
  v0 := Tryd.zeroValue0
  t2 := Tryd.underlying2
  a2 := Tryd.isAgg2
  z2 := Tryd.sizeOf2
  v2 := Tryd.zeroValue2
  t3 := Tryd.underlying3
  a3 := Tryd.isAgg3
  z3 := Tryd.sizeOf3
  v3 := Tryd.zeroValue3
  t4 := Tryd.underlying4
  a4 := Tryd.isAgg4
  z4 := Tryd.sizeOf4
  v4 := Tryd.zeroValue4
  t5 := Tryd.underlying5
  a5 := Tryd.isAgg5
  z5 := Tryd.sizeOf5
  v5 := Tryd.zeroValue5
  t9 := Tryd.underlying9
  a9 := Tryd.isAgg9
  z9 := Tryd.sizeOf9
  v9 := Tryd.zeroValue9
  t20 := Tryd.underlying20
  a20 := Tryd.isAgg20
  z20 := Tryd.sizeOf20
  v20 := Tryd.zeroValue20
  t37 := Tryd.underlying22
  a37 := Tryd.isAgg22
  z37 := Tryd.sizeOf22
  v37 := Tryd.zeroValue22
  t46 := Tryd.underlying145
  a46 := Tryd.isAgg145
  z46 := Tryd.sizeOf145
  v46 := Tryd.zeroValue145
  t51 := Tryd.underlying201
  a51 := Tryd.isAgg201
  z51 := Tryd.sizeOf201
  v51 := Tryd.zeroValue201
  t53 := Tryd.underlying143
  a53 := Tryd.isAgg143
  z53 := Tryd.sizeOf143
  v53 := Tryd.zeroValue143
  t171 := Tryd.underlying183
  a171 := Tryd.isAgg183
  z171 := Tryd.sizeOf183
  v171 := Tryd.zeroValue183
  t173 := Tryd.underlying186
  a173 := Tryd.isAgg186
  z173 := Tryd.sizeOf186
  v173 := Tryd.zeroValue186
  t212 := Tryd.underlying211
  a212 := Tryd.isAgg211
  z212 := Tryd.sizeOf211
  v212 := Tryd.zeroValue211
  t213 := Tryd.underlying212
  a213 := Tryd.isAgg212
  z213 := Tryd.sizeOf212
  t232 := Tryd.underlying238
  a232 := Tryd.isAgg238
  z232 := Tryd.sizeOf238
  v232 := Tryd.zeroValue238
  t233 := Tryd.underlying239
  a233 := Tryd.isAgg239
  z233 := Tryd.sizeOf239
  v233 := Tryd.zeroValue239
  g17 := by kernel_rfl
  g18 := by kernel_rfl
  g19 := by kernel_rfl
  i0 := by kernel_rfl
  i2 := by kernel_rfl
  i3 := by kernel_rfl
  i4 := by kernel_rfl
  i5 := by kernel_rfl
  i9 := by kernel_rfl
  i20 := by kernel_rfl
  i37 := by kernel_rfl
  i46 := by kernel_rfl
  i51 := by kernel_rfl
  i53 := by kernel_rfl
  i171 := by kernel_rfl
  i173 := by kernel_rfl
  i212 := by kernel_rfl
  i232 := by kernel_rfl
  i233 := by kernel_rfl
  m17 := by kernel_rfl
  m18 := by kernel_rfl
  m19 := by kernel_rfl }
open Go.RowKit Go.Sort Go.Lib in
theorem strconv_Itoa (n : Int) (h0 : -9223372036854775808 ≤ n) (h1 : n ≤ 9223372036854775807) (w : World) (htab : Lib.TabIs Tryd.prog w "internal/strconv.uint64pow10" .u64 Lib.pow10Tab) :
    Calls Tryd.prog 93 #[.int .i64 n] w fun e w' => e = .returned (.string ⟨(Lib.itoa n).toArray⟩) ∧ ∃ k os, w' = grow (w.drewN k) os := Any.strconv_Itoa laysM171 n h0 h1 w htab
def laysM173_ren : Go.Shelf.Ren := ⟨fun | 173 => 48 | 246 => 117 | 283 => 157 | 284 => 158 | 285 => 159 | 286 => 160 | 129 => 182 | 317 => 181 | 318 => 183 | 319 => 184 | 320 => 185 | 337 => 196 | 338 => 197 | n => n, fun | 2 => 2 | 3 => 3 | 9 => 9 | 4 => 4 | 171 => 183 | 0 => 0 | 53 => 143 | 37 => 22 | 5 => 5 | 173 => 186 | 212 => 211 | 51 => 201 | 20 => 20 | 213 => 212 | 46 => 145 | 232 => 238 | 233 => 239 | n => n, fun | 17 => 4 | 18 => 5 | 19 => 6 | n => n⟩
theorem laysM173 : Go.Proofs.LaysM.n173 Tryd.prog laysM173_ren := {
  mixed := by kernel_rfl
  f129 := Tryd.func182.trans (congrArg some (by kernel_rfl))
  f173 := Tryd.func48.trans (congrArg some (by kernel_rfl))
  f246 := Tryd.func117.trans (congrArg some (by kernel_rfl))
  f283 := Tryd.func157.trans (congrArg some (by kernel_rfl))
  f284 := Tryd.func158.trans (congrArg some (by kernel_rfl))
  f285 := Tryd.func159.trans (congrArg some (by kernel_rfl))
  f286 := Tryd.func160.trans (congrArg some (by kernel_rfl))
  f317 := Tryd.func181.trans (congrArg some (by kernel_rfl))
  f318 := Tryd.func183.trans (congrArg some (by kernel_rfl))
  f319 := Tryd.func184.trans (congrArg some (by kernel_rfl))
  f320 := Tryd.func185.trans (congrArg some (by kernel_rfl))
  f337 := Tryd.func196.trans (congrArg some (by kernel_rfl))
  f338 := Tryd.func197.trans (congrArg some (by kernel_rfl))
  t0 := Tryd.underlying0
  a0 := Tryd.isAgg0
  z0 := Tryd.sizeOf0
  v0 := Tryd.zeroValue0
  t2 := Tryd.underlying2
  a2 := Tryd.isAgg2
  z2 := Tryd.sizeOf2
  v2 := Tryd.zeroValue2
  t3 := Tryd.underlying3
  a3 := Tryd.isAgg3
  z3 := Tryd.sizeOf3
  v3 := Tryd.zeroValue3
  t4 := Tryd.underlying4
  a4 := Tryd.isAgg4
  z4 := Tryd.sizeOf4
  v4 := Tryd.zeroValue4
  t5 := Tryd.underlying5
  a5 := Tryd.isAgg5
  z5 := Tryd.sizeOf5
  v5 := Tryd.zeroValue5
  t9 := Tryd.underlying9
  a9 := Tryd.isAgg9
  z9 := Tryd.sizeOf9
  v9 := Tryd.zeroValue9
  t20 := Tryd.underlying20
  a20 := Tryd.isAgg20
  z20 := Tryd.sizeOf20
  v20 := Tryd.zeroValue20
  t37 := Tryd.underlying22
  a37 := Tryd.isAgg22
  z37 := Tryd.sizeOf22
  v37 := Tryd.zeroValue22
  t46 := Tryd.underlying145
  a46 := Tryd.isAgg145
  z46 := Tryd.sizeOf145
  v46 := Tryd.zeroValue145
  t51 := Tryd.underlying201
  a51 := Tryd.isAgg201
  z51 := Tryd.sizeOf201
  v51 := Tryd.zeroValue201
  t53 := Tryd.underlying143
  a53 := Tryd.isAgg143
  z53 := Tryd.sizeOf143
  v53 := Tryd.zeroValue143
  t171 := Tryd.underlying183
  a171 := Tryd.isAgg183
  z171 := Tryd.sizeOf183
  v171 := Tryd.zeroValue183
  t173 := Tryd.underlying186
  a173 := Tryd.isAgg186
  z173 := Tryd.sizeOf186
  v173 := Tryd.zeroValue186
  t212 := Tryd.underlying211
  a212 := Tryd.isAgg211
  z212 := Tryd.sizeOf211
  v212 := Tryd.zeroValue211
  t213 := Tryd.underlying212
  a213 := Tryd.isAgg212
  z213 := Tryd.sizeOf212
  t232 := Tryd.underlying238
  a232 := Tryd.isAgg238
  z232 := Tryd.sizeOf238
  v232 := Tryd.zeroValue238
  t233 := Tryd.underlying239
  a233 := Tryd.isAgg239
  z233 := Tryd.sizeOf239
  v233 := Tryd.zeroValue239
  g17 := by kernel_rfl
  g18 := by kernel_rfl
  g19 := by kernel_rfl
  i0 := by kernel_rfl
  i2 := by kernel_rfl
  i3 := by kernel_rfl
  i4 := by kernel_rfl
  i5 := by kernel_rfl
  i9 := by kernel_rfl
  i20 := by kernel_rfl
  i37 := by kernel_rfl
  i46 := by kernel_rfl
  i51 := by kernel_rfl
  i53 := by kernel_rfl
  i171 := by kernel_rfl
  i173 := by kernel_rfl
  i212 := by kernel_rfl
  i232 := by kernel_rfl
  i233 := by kernel_rfl
  m17 := by kernel_rfl
  m18 := by kernel_rfl
  m19 := by kernel_rfl }
open Go.RowKit Go.Sort Go.Lib in
theorem strconv_FormatInt_10 (n : Int) (h0 : -9223372036854775808 ≤ n) (h1 : n ≤ 9223372036854775807) (w : World) (htab : Lib.TabIs Tryd.prog w "internal/strconv.uint64pow10" .u64 Lib.pow10Tab) :
    Calls Tryd.prog 48 #[.int .i64 n, .int .i64 10] w fun e w' => e = .returned (.string ⟨(Lib.itoa n).toArray⟩) ∧ ∃ k os, w' = grow (w.drewN k) os := Any.strconv_FormatInt_10 laysM173 n h0 h1 w htab
end Go.Proofs.YtdonkjepjobhnaaDoor.Sh
namespace Go.Proofs.YtdonkjepjobhnaaDoor.IM
open Go Go.RowKit Go.Sort Go.Lib Go.Proofs.YtdonkjepjobhnaaDoor.Sh
set_option maxHeartbeats 8000000
set_option maxRecDepth 100000
theorem holds_zero0 (w : World) (T : TypeId) (nd : Nat) (hs : nd ≤ 24) : Holds (fun (b : UInt8) => Value.int .u8 (b.toNat : Int)) (w.alloc (.cells Lib.zeros24 T)) w.heap.size 0 (Array.replicate nd (0 : UInt8)) := fun j hj => by
  have hj' : j < nd := by simpa using hj
  refine ⟨?_, World.frozen?_alloc_new _ _ _ _⟩
  rw [World.cell?_alloc_new, Lib.zeros24_at _ (by omega), getElem!_pos _ j hj]
  simp
/-- FormatUint in base 10. -/
theorem formatUint_in (u : Nat) (hu64 : u < 18446744073709551616) (w : World) (htab : Lib.TabIs Tryd.prog w "internal/strconv.uint64pow10" .u64 Lib.pow10Tab) :
    Calls Tryd.prog 162 #[.int .u64 u, .int .i64 10] w fun e w' => e = .returned (.string ⟨(Lib.decDigits u).toArray⟩) ∧ ∃ k os, w' = grow (w.drewN k) os := by
  by_cases hs : u < 100
  · have hw : IntKind.i64.wrap (u : Int) = u := by rw [IntKind.wrap_i64]; omega
    have hc : ((u : Int) < 100) := by omega
    go_enter Tryd.func162, Tryd.ntmps162
    go_wp2_with (go_at_call 157; refine (internal_strconv_small u hs _).mono ?_; rintro e w' ⟨rfl, rfl⟩)
    go_ret
    exact ⟨rfl, 0, #[], by simp [World.drewN_zero]⟩
  · have hu1 : 1 ≤ u := by omega
    have hc : ¬ ((u : Int) < 100) := by omega
    have hnd : Lib.nDigits u ≤ 20 := by have := Lib.numDigits_eq u hu1 hu64; split at this <;> omega
    have hal : Tryd.prog.arrayLen 183 = 24 := by kernel_rfl
    have hsl : ∀ W, (Instr.sliceAt 183 (.pointer (some ⟨w.heap.size, 0, none⟩)) none (some (.int .i64 (Lib.nDigits u : Int))) none).run Tryd.prog W = .ok (.slice (some ⟨w.heap.size, 0, none⟩) (Lib.nDigits u) 24) W := fun W => by
      rw [run_sliceAt_array_h W 183 ⟨w.heap.size, 0, none⟩ (by simp [Program.arrayLen, Program.elem, Tryd.underlying183]) .i64 (Lib.nDigits u : Int) (by omega) (by rw [hal]; omega)]
      go_simp
      try omega
    have hH0 := holds_zero0 w 183 (Lib.nDigits u) (by omega)
    have hfmt := internal_strconv_formatBase10 w.heap.size 0 24 u (Array.replicate (Lib.nDigits u) 0) (w.alloc (.cells Lib.zeros24 183)) hH0 (by rw [Array.size_replicate]; exact Lib.lt_pow_nDigits u) hu64 (by rw [Array.size_replicate]; omega)
    rw [Array.size_replicate] at hfmt
    have HH0 := Lib.hid hH0
    clear hH0 hal
    go_enter Tryd.func162, Tryd.ntmps162
    go_wp2_with (first
      | (go_at_call 158; refine (internal_strconv_numDigits u hu1 hu64 _ (Lib.tabIs_alloc htab _)).mono ?_; rintro e w' ⟨rfl, rfl⟩))
    go_at_call 159
    refine hfmt.mono ?_
    rintro e w' ⟨rfl, k, v', dk, rfl, hF⟩
    have hcv : (convert 22 9 (.slice (some ⟨w.heap.size, 0, none⟩) (Lib.nDigits u) 24)).run Tryd.prog ((putRow (fun (b : UInt8) => Value.int .u8 (b.toNat : Int)) (w.alloc (.cells Lib.zeros24 183)) w.heap.size 0 dk).drewN k) = .ok (.string ⟨(Lib.decDigits u).toArray⟩) ((putRow (fun (b : UInt8) => Value.int .u8 (b.toNat : Int)) (w.alloc (.cells Lib.zeros24 183)) w.heap.size 0 dk).drewN k) := by
      have h := run_convert_bytes_back (P := Tryd.prog) ((putRow (fun (b : UInt8) => Value.int .u8 (b.toNat : Int)) (w.alloc (.cells Lib.zeros24 183)) w.heap.size 0 dk).drewN k) 22 9 5 ⟨w.heap.size, 0, none⟩ 24 (Lib.decDigits u) Tryd.underlying22 Tryd.underlying5 Tryd.underlying9 (fun j hj => by
        rw [Lib.row_is_numeral hF j hj, Lib.add_plain, World.cell?_drewN]
        exact cell?_putRow (fun (b : UInt8) => Value.int .u8 (b.toNat : Int)) _ w.heap.size 0 _ dk HH0.out (by rw [hF.size, Array.size_replicate]) j (by rw [hF.size]; rw [Lib.decDigits_length] at hj; exact hj))
      rw [Lib.decDigits_length] at h
      exact h
    go_wp2
    go_ret
    refine ⟨rfl, ?_⟩
    rw [alloc_eq_grow]
    obtain ⟨os', _, e⟩ := putRow_grow_new (fun (b : UInt8) => Value.int .u8 (b.toNat : Int)) w #[Obj.cells Lib.zeros24 183] w.heap.size 0 dk (Nat.le_refl _)
    exact ⟨k, os', by rw [e]; rfl⟩
theorem formatUint (u : Nat) (hu64 : u < 18446744073709551616) (w : World) (htab : Lib.TabIs Tryd.prog w "internal/strconv.uint64pow10" .u64 Lib.pow10Tab) :
    Calls Tryd.prog 121 #[.int .u64 u, .int .i64 10] w fun e w' => e = .returned (.string ⟨(Lib.decDigits u).toArray⟩) ∧ ∃ k os, w' = grow (w.drewN k) os := by
  go_enter Tryd.func121, Tryd.ntmps121
  go_wp2_with (go_at_call 162; refine (formatUint_in u hu64 _ htab).mono ?_; rintro e w' ⟨rfl, k, os, rfl⟩)
  go_ret
  exact ⟨rfl, k, os, rfl⟩
end Go.Proofs.YtdonkjepjobhnaaDoor.IM
namespace Go.Proofs.IM
open Go Go.RowKit Go.Sort
theorem decL_eq : ∀ n, decL n = Lib.decDigits n := by
  intro n
  induction n using Nat.strongRecOn with
  | _ n ih =>
    by_cases h : n < 10
    · rw [decL_lt h, Lib.decDigits, dif_pos h]
    · rw [decL_ge h, Lib.decDigits, dif_neg h, ih (n / 10) (by omega)]
theorem decT_itoa (n : Int) : decT n = ⟨(Lib.itoa n).toArray⟩ := by
  unfold decT Lib.itoa
  by_cases h : n < 0
  · rw [if_pos h, if_pos h, decL_eq]
  · rw [if_neg h, if_neg h, decL_eq, show n.natAbs = n.toNat by omega]
theorem MR.grown {E : Env} {m : Mem} {w : World} (h : MR E m w) (k : Nat) (os : Array Obj) : MR E m (grow (w.drewN k) os) where
  bel := h.bel.trans ⟨rfl, rfl, rfl, by simp, fun j hj => heap_grow_old (w.drewN k) os (Nat.lt_of_lt_of_le hj (Nat.le_trans h.bsz h.bel.size))⟩
  bsz := h.bsz
  hp := fun j B hj => let ⟨b, e, a⟩ := h.hp j B hj; ⟨b, e, a.same (heap_grow_old (w.drewN k) os a.lt)⟩
  hpd := h.hpd
  hpb := h.hpb
  inj := h.inj
  ro := h.ro
  gl := h.gl
  fc := h.fc
/-- A function whose contract tells that the world has grown and nothing else. -/
theorem sim_grow {P : Program} {f : FuncId} {args : List AV} {m : Mem} {K : AR → Mem → Prop} {r : AV} (hc : callable P f = true) (hK : K (.ret r) m)
    (h : ∀ (E : Env) (w : World) (xs : Array Value), MR E m w → VRs E noPl args xs → Calls P f xs w fun e w' => (∃ x, e = .returned x ∧ VR E noPl r x) ∧ ∃ k os, w' = grow (w.drewN k) os) : Sim P f args m K := by
  intro E w xs hm hx
  refine .inl ⟨hc, (h E w xs hm hx).mono ?_⟩
  rintro e w' ⟨⟨x, rfl, hv⟩, k, os, rfl⟩
  exact ⟨E, m, Env.le.refl E, hm.grown k os, by simp, fun b hb _ => heap_grow_old (w.drewN k) os hb, fun j b s hj => .inr hj, .inl ⟨r, x, rfl, hv, hK⟩⟩
/-- A table of the library's lies as it was laid: g is its variable's number. -/
def Laid (P : Program) (m : Mem) (g : Nat) (name : String) (k : IntKind) (zs : List Int) : Prop := (∃ j B, m.gl g = .ptr (.ro j) 0 0 ∧ m.ro j = some B) ∧ ∀ w, m.gl.fact w → Lib.TabIs P w name k zs
theorem Laid.mono {P : Program} {m m' : Mem} (hm : m.le m') {g : Nat} {name : String} {k : IntKind} {zs : List Int} (h : Laid P m g name k zs) : Laid P m' g name k zs := by
  obtain ⟨⟨j, B, h1, h2⟩, h3⟩ := h
  exact ⟨⟨j, B, by rw [hm.gl]; exact h1, by rw [hm.ro]; exact h2⟩, by rw [hm.gl]; exact h3⟩
theorem Laid.at_ {P : Program} {m : Mem} {g : Nat} {name : String} {k : IntKind} {zs : List Int} (h : Laid P m g name k zs) (hg : P.globalNamed name = some g) {E : Env} {w : World} (hm : MR E m w) : Lib.TabIs P w name k zs := by
  obtain ⟨⟨j, B, h1, h2⟩, h3⟩ := h
  have h4 := h3 _ hm.fc
  have h5 := hm.gl g
  obtain ⟨b, f, h6, h7, -⟩ := hm.ro j B h2
  rw [h1] at h5
  have hb : g < E.base := by
    generalize hv : (Value.pointer (some ⟨g, 0, none⟩)) = v at h5
    cases h5 with
    | ptr a i o p hp =>
      have hp' : E.r j = some p := hp
      rw [h6] at hp'
      cases hp'
      simp only [adr, Value.pointer.injEq, Option.some.injEq, Addr.mk.injEq] at hv
      omega
  unfold Lib.TabIs World.var? at h4 ⊢
  rw [hg] at h4 ⊢
  simp only [Option.bind_some] at h4 ⊢
  rw [hm.bel.block g hb]
  exact h4
end Go.Proofs.IM
namespace Go.Proofs.YtdonkjepjobhnaaDoor.IM
open Go Go.RowKit Go.Sort Go.Lib Go.Proofs.IM Go.Proofs.Flt Go.Proofs.YtdonkjepjobhnaaDoor.Sh
set_option maxHeartbeats 8000000
set_option maxRecDepth 100000
end Go.Proofs.YtdonkjepjobhnaaDoor.IM
namespace Go.Proofs.IM
open Go Go.Proofs.Flt
theorem fText_w {s : Bool} {r : Nat} (hr : r ≤ infR) : fText (word s r) = ⟨(sgnL s ++ fTxt r).toArray⟩ := by
  have h1 := infR_lt
  unfold fText
  rw [nan_w hr, neg_word s r (by omega), rung_word s r (by omega)]; rfl
theorem decI_len {n : Int} (h : -9223372036854775808 ≤ n ∧ n ≤ 9223372036854775807) : (decI n).length ≤ 20 := by
  have := decL_le (k := 18) (n := n.natAbs) (by omega)
  unfold decI; split
  · simp only [List.length_cons]; omega
  · omega
theorem str_sz {l : List UInt8} : (ByteArray.mk l.toArray).size = l.length := by
  show l.toArray.size = _; rw [List.size_toArray]
theorem len2 {a b : List UInt8} (h : a.length + b.length ≤ 1000) : (a.length + b.length ≤ 9223372036854775807) = True := by
  rw [eq_iff_iff, iff_true]; omega
end Go.Proofs.IM
namespace Go.Proofs.YtdonkjepjobhnaaDoor.IM
open Go Go.Proofs.IM Go.Proofs.Flt
set_option maxHeartbeats 8000000
set_option maxRecDepth 100000
theorem s_l1floattext {b : Nat} {m : Mem} {K : AR → Mem → Prop} (hb : b < 18446744073709551616) (h : K (.ret (.str (fText b))) m) : Sim Tryd.prog 46 [.flt b] m K := by
  refine entry (cxok []) Tryd.func46 rfl rfl (by decide) (by decide) ?_
  refine goh_ ?_
  refine s_l1nan ?_
  cases hn : nan b with
  | true =>
    replace h : K (.ret (.str ⟨#[110, 97, 110]⟩)) m := by unfold fText at h; rw [hn] at h; exact h
    clear hb
    exact gox_
  | false =>
  obtain ⟨s, r, rfl, hr⟩ := word_of hb hn
  have hi := infR_lt
  rw [fText_w hr] at h
  have e1 := flss_w0 (s := s) hr
  have e2 := feq_w0 (s := s) hr
  have e3 := feq_w0 (s := false) hr
  have e4 := negF true r (by omega)
  have sa := @str_app
  have sz := @str_sz
  by_cases h0 : r = 0
  · subst h0
    have e5 := one_over (a := word s 0) (rung_word s 0 (by decide))
    rw [neg_word s 0 (by decide)] at e5
    have e6 := flss_inf s
    clear hb hn hr
    cases s with
    | true =>
      replace h : K (.ret (.str ⟨#[45, 48, 112, 48]⟩)) m := h
      exact gox_
    | false =>
      replace h : K (.ret (.str ⟨#[48, 112, 48]⟩)) m := h
      exact gox_
  have hM0 : feq (word s r) 0 = false := by rw [e2]; simp [h0]
  have hM1 : feq (word false r) 0 = false := by rw [e3]; simp [h0]
  have hM2 : flss (word s r) 0 = s := by rw [e1]; simp [h0]
  clear e1 e2 e3 hn hb
  by_cases hinf : r = infR
  · have k1 := half_inf (a := word false r) (by rw [hinf]; exact rung_word false infR (by decide))
    rw [neg_word false r (by omega)] at k1
    have k2 : feq (word false infR) (word false r) = true := by rw [feq_w (s := false) (a := infR) (b := r) (Nat.le_refl _) hr, hinf]; simp
    have hf : fTxt r = [105, 110, 102] := by unfold fTxt; rw [if_neg h0, if_pos hinf]
    rw [hf] at h
    clear hr hf hinf
    cases s with
    | true =>
      replace h : K (.ret (.str ⟨#[45, 105, 110, 102]⟩)) m := h
      exact gox_
    | false =>
      replace h : K (.ret (.str ⟨#[105, 110, 102]⟩)) m := h
      exact gox_
  have hr' : r < infR := by omega
  have hsI : infR = 9218868437227405312 := rfl
  obtain ⟨rh, q1, q2, q3⟩ := half_ne (a := word false r) (by rw [rung_word false r (by omega)]; exact hr') (by rw [rung_word false r (by omega)]; exact h0)
  rw [neg_word false r (by omega)] at q3
  rw [rung_word false r (by omega)] at q2
  have q4 := feq_w (s := false) (a := rh) (b := r) (by omega) hr
  rw [decide_eq_false q2] at q4
  obtain ⟨sg, hsg⟩ : ∃ sg, sg = sgnL s := ⟨_, rfl⟩
  have hsl : sg.length ≤ 1 := by rw [hsg]; cases s <;> decide
  rw [← hsg] at h
  cases s
  all_goals
    refine goh_ ?_
    clear hM0 hM1 hM2 e4 q1 q2 q3 q4 hinf hr
    refine loop_ (fun k t l c m' => m' = m ∧ ∃ (i rr : Nat), t 0 = .flt (word false rr) ∧ t 3 = .str ⟨sg.toArray⟩ ∧ t 4 = .int .i64 i ∧ M rr = M r * 2 ^ i ∧ rr < infR ∧ i ≤ 1074 ∧ k = 1074 - i) 1074 ?_ ?_
    · exact ⟨rfl, 0, r, rfl, by rw [hsg]; rfl, rfl, by simp, hr', by omega, rfl⟩
    clear hsg
    intro k t l c m1 KN ⟨hm, i, rr, g0, g3, g4, hM, hrr, hi1, hk⟩ next
    subst m1
    refine goh_ ?_
    refine s_l1floor fun u hu1 hu2 => ?_
    have c1 := floor_w hrr hu1 hu2
    have c2 := fne_iff (word false rr) u
    rw [c1] at c2
    clear hu1 hu2 c1
    have hr0 : rr ≠ 0 := by
      intro e
      subst e
      rw [M_zero] at hM
      have := Nat.mul_pos (M_pos (r := r) (by omega)) (Nat.two_pow_pos i)
      omega
    by_cases hd : Flt.U ∣ M rr
    · rw [decide_eq_true hd] at c2
      have p3 : w64 (0 - (i : Int)) = -(i : Int) := by rw [w64_id (by omega)]; omega
      clear next
      refine goh_ ?_
      clear c2 p3
      refine loop_ (fun k t l c m' => m' = m ∧ ∃ (j r2 : Nat), t 0 = .flt (word false r2) ∧ t 3 = .str ⟨sg.toArray⟩ ∧ t 4 = .int .i64 ((j : Int) - i) ∧ M r2 * 2 ^ j = M rr ∧ r2 + j * 4503599627370496 = rr ∧ Flt.U ∣ M r2 ∧ k = r2) rr ?_ ?_
      · exact ⟨rfl, 0, rr, g0, g3, (by show AV.int IntKind.i64 (-(i : Int)) = AV.int IntKind.i64 (((0 : Nat) : Int) - i); congr 1; omega), by simp, by omega, hd, rfl⟩
      clear g0 g3 g4 hk
      intro k t l c m1 KN ⟨hm, j, r2, g0, g3, g4, hM2, hj, hd2, hk⟩ next
      subst m1
      have h20 : r2 ≠ 0 := by
        intro e
        subst e
        rw [M_zero, Nat.zero_mul] at hM2
        have := M_pos (r := rr) (by omega)
        omega
      have h21 := one_le h20 hd2
      have p1 := M_half (r := r2) (by omega)
      have p2 := mul_half (a := word false r2) (r := r2 - 4503599627370496) (by rw [rung_word false r2 (by omega)]; omega) (by omega) (by rw [rung_word false r2 (by omega)]; exact p1)
      rw [neg_word false r2 (by omega)] at p2
      refine goh_ ?_
      refine s_l1floor fun u hu1 hu2 => ?_
      have c1 := floor_w (r := r2 - 4503599627370496) (by omega) hu1 hu2
      clear hu1 hu2
      by_cases hd3 : Flt.U ∣ M (r2 - 4503599627370496)
      · rw [decide_eq_true hd3] at c1
        have p3 : w64 ((j : Int) - i + 1) = ((j + 1 : Nat) : Int) - i := by rw [w64_id (by omega)]; omega
        refine goh_ ?_
        exact next _ _ _ _ _ (by omega) ⟨rfl, j + 1, r2 - 4503599627370496, rfl, g3, rfl, by rw [← hM2, ← p1, Nat.pow_succ]; generalize M (r2 - 4503599627370496) = z; generalize 2 ^ j = y; rw [Nat.mul_comm 2 z, Nat.mul_assoc, Nat.mul_comm 2 y], by omega, hd3, rfl⟩
      · rw [decide_eq_false hd3] at c1
        obtain ⟨q, hq⟩ := hd2
        have hq' : M r2 = q * Flt.U := by rw [hq, Nat.mul_comm]
        have ho : q % 2 = 1 := by
          rcases Nat.mod_two_eq_zero_or_one q with e | e
          · exfalso
            apply hd3
            refine ⟨q / 2, ?_⟩
            apply Nat.eq_of_mul_eq_mul_left (show 0 < 2 by decide)
            rw [p1, hq, ← Nat.mul_assoc, Nat.mul_comm 2 Flt.U, Nat.mul_assoc, show 2 * (q / 2) = q by omega]
          · exact e
        have hqs := odd_small hq' ho
        have hMr : M r = q * 2 ^ (k0 + j - i) := by
          apply Nat.eq_of_mul_eq_mul_right (Nat.two_pow_pos i)
          rw [← hM, ← hM2, hq', U_pow, Nat.mul_assoc, Nat.mul_assoc, ← Nat.pow_add, ← Nat.pow_add, show k0 + j - i + i = k0 + j by rw [k0_eq]; omega]
        rw [fTxt_odd h0 hr' ho hMr, show ((k0 + j - i : Nat) : Int) - 1074 = (j : Int) - i by rw [k0_eq]; omega] at h
        have hfi := f2i_w (r := r2) (by omega)
        have hfo := f2iOk_w (r := r2) (by omega) .i64
        rw [hq', Nat.mul_div_cancel _ U_pos] at hfi hfo
        have hfo' : f2iOk .i64 (word false r2) = true := by
          rw [hfo, decide_eq_true_eq, show IntKind.i64.min = -9223372036854775808 by decide, show IntKind.i64.max = 9223372036854775807 by decide]; omega
        clear next hfo hMr p1 p2 hq hq' hd3 hM2 hM hd
        refine goh_ ?_
        refine s_l1decimal (by omega) ?_
        rw [decT_I]
        have l1 := decI_len (n := (q : Int)) (by omega)
        have l2 := decI_len (n := (j : Int) - i) (by omega)
        have y1 := len2 (a := sg) (b := decI q) (by omega)
        have y2 : ((sg ++ decI q).length + 1 ≤ 9223372036854775807) = True := by rw [eq_iff_iff, iff_true, List.length_append]; omega
        have y3 := len2 (a := sg ++ decI q ++ [112]) (b := decI ((j : Int) - i)) (by simp; omega)
        refine goh_ ?_
        refine s_l1decimal (by omega) ?_
        rw [decT_I]
        have h' : K (.ret (.str ⟨(sg ++ decI q ++ [112] ++ decI ((j : Int) - i)).toArray⟩)) m := by
          rw [List.append_assoc, List.append_assoc]; exact h
        clear h
        exact gox_
    · rw [decide_eq_false hd] at c2
      have hrs := small_of hd
      have hi2 : i < 1074 := by
        rcases Nat.lt_or_ge i 1074 with c | c
        · exact c
        · exfalso
          apply hd
          rw [hM, U_pow, show i = k0 by rw [k0_eq]; omega]
          exact Nat.dvd_mul_left _ _
      obtain ⟨r3, x1, x2⟩ := M_dbl hrs
      have p2 := mul_two (a := word false rr) (r := r3) (by rw [rung_word false rr (by omega)]; omega) (by omega) (by rw [rung_word false rr (by omega)]; exact x2)
      rw [neg_word false rr (by omega)] at p2
      have p3 : w64 ((i : Int) + 1) = ((i + 1 : Nat) : Int) := w64_succ (n := i + 1) (by omega) (by omega)
      refine goh_ ?_
      exact next _ _ _ _ _ (by omega) ⟨rfl, i + 1, r3, rfl, g3, rfl, by rw [x2, hM, Nat.pow_succ]; ac_rfl, by omega, by omega, rfl⟩
end Go.Proofs.YtdonkjepjobhnaaDoor.IM
namespace Go.Proofs.IM
open Go Go.Proofs.Flt
theorem bvand64 {x y : Nat} (hx : x < 18446744073709551616) (hy : y < 18446744073709551616) : IntKind.u64.wrap ((BitVec.ofInt IntKind.u64.bits (x : Int) &&& BitVec.ofInt IntKind.u64.bits (y : Int)).toNat : Int) = ((x &&& y : Nat) : Int) := by
  have hb : IntKind.u64.bits = 64 := rfl
  rw [hb, u64_wrap, show BitVec.ofInt 64 (x : Int) = BitVec.ofNat 64 x from BitVec.ofInt_natCast 64 x, show BitVec.ofInt 64 (y : Int) = BitVec.ofNat 64 y from BitVec.ofInt_natCast 64 y, BitVec.toNat_and, BitVec.toNat_ofNat, BitVec.toNat_ofNat,
    Nat.mod_eq_of_lt (by omega : x < 2 ^ 64), Nat.mod_eq_of_lt (by omega : y < 2 ^ 64)]
  have : x &&& y ≤ x := Nat.and_le_left
  omega
theorem and52 {x : Nat} (hx : x < 18446744073709551616) : IntKind.u64.wrap ((BitVec.ofInt IntKind.u64.bits (x : Int) &&& BitVec.ofInt IntKind.u64.bits 4503599627370495).toNat : Int) = ((x % 4503599627370496 : Nat) : Int) := by
  have := bvand64 (y := 4503599627370495) hx (by decide)
  rw [show ((4503599627370495 : Nat) : Int) = 4503599627370495 from rfl] at this
  rw [this, show (4503599627370495 : Nat) = 2 ^ 52 - 1 from rfl, Nat.and_two_pow_sub_one_eq_mod]
theorem and1 {x : Nat} (hx : x < 18446744073709551616) : IntKind.u64.wrap ((BitVec.ofInt IntKind.u64.bits (x : Int) &&& BitVec.ofInt IntKind.u64.bits 1).toNat : Int) = ((x % 2 : Nat) : Int) := by
  have := bvand64 (y := 1) hx (by decide)
  rw [show ((1 : Nat) : Int) = 1 from rfl] at this
  rw [this, show (1 : Nat) = 2 ^ 1 - 1 from rfl, Nat.and_two_pow_sub_one_eq_mod]
theorem or52 {x : Nat} (hx : x < 4503599627370496) : IntKind.u64.wrap ((BitVec.ofInt IntKind.u64.bits (x : Int) ||| BitVec.ofInt IntKind.u64.bits 4503599627370496).toNat : Int) = ((4503599627370496 + x : Nat) : Int) := by
  have := bvor64 (x := x) (y := 4503599627370496) (by omega) (by decide)
  rw [show ((4503599627370496 : Nat) : Int) = 4503599627370496 from rfl] at this
  rw [this, Nat.or_comm]
  have := or_add (A := 1) (i := 52) (b := x) (by omega)
  rw [Nat.one_mul, show (2 : Nat) ^ 52 = 4503599627370496 by decide] at this
  rw [this]
theorem and2047 {x : Nat} (hx : x < 4096) : IntKind.i64.wrap ((BitVec.ofInt IntKind.i64.bits (IntKind.i64.wrap (x : Int)) &&& BitVec.ofInt IntKind.i64.bits 2047).toNat : Int) = ((x % 2048 : Nat) : Int) := by
  have hb : IntKind.i64.bits = 64 := rfl
  rw [hb, i64_wrap, i64_wrap, show ((x : Int) + 9223372036854775808) % 18446744073709551616 - 9223372036854775808 = (x : Int) by omega, show BitVec.ofInt 64 (x : Int) = BitVec.ofNat 64 x from BitVec.ofInt_natCast 64 x, show BitVec.ofInt 64 2047 = BitVec.ofNat 64 2047 from BitVec.ofInt_natCast 64 2047, BitVec.toNat_and, BitVec.toNat_ofNat, BitVec.toNat_ofNat,
    Nat.mod_eq_of_lt (by omega : x < 2 ^ 64), Nat.mod_eq_of_lt (by omega : 2047 < 2 ^ 64), show (2047 : Nat) = 2 ^ 11 - 1 from rfl, Nat.and_two_pow_sub_one_eq_mod, show (2 : Nat) ^ 11 = 2048 from rfl]
  omega
theorem shr52 (x : Nat) : ((x : Int).fdiv (2 ^ min 52 IntKind.u64.bits)) = ((x / 4503599627370496 : Nat) : Int) := by
  have hb : min 52 IntKind.u64.bits = 52 := by decide
  rw [hb, show ((2 : Int) ^ 52) = ((4503599627370496 : Nat) : Int) by decide, ← Int.ofNat_fdiv]
theorem shr1 (x : Nat) : ((x : Int).fdiv (2 ^ min 1 IntKind.u64.bits)) = ((x / 2 : Nat) : Int) := by
  have hb : min 1 IntKind.u64.bits = 1 := by decide
  rw [hb, show ((2 : Int) ^ 1) = ((2 : Nat) : Int) by decide, ← Int.ofNat_fdiv]
theorem abs_bits {s : Bool} {r : Nat} (hr : r < 9223372036854775808) : IntKind.u64.wrap ((BitVec.ofInt IntKind.u64.bits ((word s r : Nat) : Int) &&& ~~~ BitVec.ofInt IntKind.u64.bits 9223372036854775808).toNat : Int) = ((r : Nat) : Int) := by
  have hb : IntKind.u64.bits = 64 := rfl
  have hw : word s r < 18446744073709551616 := by unfold word; split <;> omega
  have hm : (word s r) % 9223372036854775808 = r := by unfold word; split <;> omega
  rw [hb, u64_wrap, show BitVec.ofInt 64 ((word s r : Nat) : Int) = BitVec.ofNat 64 (word s r) from BitVec.ofInt_natCast 64 _, show (~~~ BitVec.ofInt 64 9223372036854775808) = BitVec.ofNat 64 9223372036854775807 by decide, BitVec.toNat_and, BitVec.toNat_ofNat, BitVec.toNat_ofNat,
    Nat.mod_eq_of_lt (by omega : word s r < 2 ^ 64), Nat.mod_eq_of_lt (by omega : 9223372036854775807 < 2 ^ 64), show (9223372036854775807 : Nat) = 2 ^ 63 - 1 from rfl, Nat.and_two_pow_sub_one_eq_mod, show (2 : Nat) ^ 63 = 9223372036854775808 from rfl, hm]
  omega
theorem fgtr_w {a c : Nat} (ha : a ≤ infR) (hc : c ≤ infR) : fgtr (word false a) c = decide (c < a) := by
  rw [fgtr_iff, nan_w ha, show nan c = false from nan_w (s := false) hc, show val c = M c from val_w hc, val_w ha, Bool.eq_iff_iff]
  simp only [Bool.not_false, Bool.true_and, decide_eq_true_eq]
  constructor
  · intro h
    exact M_lt_iff.1 (by omega)
  · intro h; have := M_lt h; omega
end Go.Proofs.IM
namespace Go.Proofs.YtdonkjepjobhnaaDoor.IM
open Go Go.Proofs.IM Go.Proofs.Flt
set_option maxHeartbeats 8000000
set_option maxRecDepth 100000
theorem s_IsInf {s : Bool} {r : Nat} {m : Mem} {K : AR → Mem → Prop} (hr : r ≤ infR) (h : K (.ret (.bool (decide (r = infR)))) m) : Sim Tryd.prog 119 [.flt (word s r), .int .i64 0] m K := by
  refine entry (cxok []) Tryd.func119 rfl rfl (by decide) (by decide) ?_
  have hi := infR_lt
  refine goh_ ?_
  refine entry (cxok []) Tryd.func161 rfl rfl (by decide) (by decide) ?_
  refine goh_ ?_
  refine s_bits ?_
  have e1 := abs_bits (s := s) (r := r) (by omega)
  refine goh_ ?_
  refine s_frombits ?_
  have e2 := fgtr_w (a := r) (c := 9218868437227405311) hr (by decide)
  have e3 : fgtr r 9218868437227405311 = decide (r = infR) := by
    rw [show fgtr r 9218868437227405311 = fgtr (word false r) 9218868437227405311 from rfl, e2, Bool.eq_iff_iff]
    simp only [decide_eq_true_eq]
    have : infR = 9218868437227405312 := rfl
    omega
  clear e1 e2 hi
  exact gox_
end Go.Proofs.YtdonkjepjobhnaaDoor.IM
namespace Go.Proofs.IM
open Go Go.Proofs.Flt
theorem VRs.one {E : Env} {L : Pl} {a : AV} {xs : Array Value} (h : VRs E L [a] xs) : ∃ x, xs = #[x] ∧ VR E L a x := by
  obtain ⟨h1, h2⟩ := h
  have hz : xs.size = 1 := by simpa using h1.symm
  refine ⟨xs[0]'(by omega), ?_, h2 0 a (xs[0]'(by omega)) rfl (by rw [Array.getElem?_eq_getElem])⟩
  apply Array.ext
  · simpa using hz
  · intro i hi hi'
    have : i = 0 := by simp at hi'; omega
    subst this; rfl
theorem VRs.two {E : Env} {L : Pl} {a b : AV} {xs : Array Value} (h : VRs E L [a, b] xs) : ∃ x y, xs = #[x, y] ∧ VR E L a x ∧ VR E L b y := by
  obtain ⟨h1, h2⟩ := h
  have hz : xs.size = 2 := by simpa using h1.symm
  refine ⟨xs[0]'(by omega), xs[1]'(by omega), ?_, h2 0 a (xs[0]'(by omega)) rfl (by rw [Array.getElem?_eq_getElem]), h2 1 b (xs[1]'(by omega)) rfl (by rw [Array.getElem?_eq_getElem])⟩
  apply Array.ext
  · simpa using hz
  · intro i hi hi'
    have : i = 0 ∨ i = 1 := by simp at hi'; omega
    rcases this with rfl | rfl <;> rfl
theorem decI_itoa (n : Int) : decI n = Lib.itoa n := by
  unfold decI Lib.itoa
  by_cases h : n < 0
  · rw [if_pos h, if_pos h, decL_eq]
  · rw [if_neg h, if_neg h, decL_eq, show n.natAbs = n.toNat by omega]
theorem decI_nat (u : Nat) : decI (u : Int) = Lib.decDigits u := by
  unfold decI
  rw [if_neg (by omega), decL_eq, Int.natAbs_natCast]
end Go.Proofs.IM
namespace Go.Proofs.YtdonkjepjobhnaaDoor.IM
open Go Go.Proofs.IM Go.Proofs.Flt
set_option maxHeartbeats 8000000
set_option maxRecDepth 100000
theorem g10 : Tryd.prog.globalNamed "internal/strconv.uint64pow10" = some 4 := by kernel_rfl
abbrev L10 (m : Mem) : Prop := Laid Tryd.prog m 4 "internal/strconv.uint64pow10" .u64 Lib.pow10Tab
theorem s_FormatInt {n : Int} {m : Mem} {K : AR → Mem → Prop} (hl : L10 m) (hn : -9223372036854775808 ≤ n ∧ n ≤ 9223372036854775807) (h : K (.ret (.str ⟨(decI n).toArray⟩)) m) : Sim Tryd.prog 48 [.int .i64 n, .int .i64 10] m K :=
  sim_grow (by kernel_rfl) h fun E w xs hm hx => by
    obtain ⟨x, y, rfl, h1, h2⟩ := VRs.two hx
    cases h1; cases h2
    refine (Sh.strconv_FormatInt_10 n hn.1 hn.2 w (hl.at_ g10 hm)).mono ?_
    rintro e w' ⟨rfl, h⟩
    exact ⟨⟨_, rfl, by rw [decI_itoa]; exact .str _⟩, h⟩
theorem s_Itoa {n : Int} {m : Mem} {K : AR → Mem → Prop} (hl : L10 m) (hn : -9223372036854775808 ≤ n ∧ n ≤ 9223372036854775807) (h : K (.ret (.str ⟨(decI n).toArray⟩)) m) : Sim Tryd.prog 93 [.int .i64 n] m K :=
  sim_grow (by kernel_rfl) h fun E w xs hm hx => by
    obtain ⟨x, rfl, h1⟩ := VRs.one hx
    cases h1
    refine (Sh.strconv_Itoa n hn.1 hn.2 w (hl.at_ g10 hm)).mono ?_
    rintro e w' ⟨rfl, h⟩
    exact ⟨⟨_, rfl, by rw [decI_itoa]; exact .str _⟩, h⟩
theorem s_FormatUint {n : Nat} {m : Mem} {K : AR → Mem → Prop} (hl : L10 m) (hn : n < 18446744073709551616) (h : K (.ret (.str ⟨(decI n).toArray⟩)) m) : Sim Tryd.prog 121 [.int .u64 n, .int .i64 10] m K :=
  sim_grow (by kernel_rfl) h fun E w xs hm hx => by
    obtain ⟨x, y, rfl, h1, h2⟩ := VRs.two hx
    cases h1; cases h2
    refine (formatUint n hn w (hl.at_ g10 hm)).mono ?_
    rintro e w' ⟨rfl, h⟩
    exact ⟨⟨_, rfl, by rw [decI_nat]; exact .str _⟩, h⟩
theorem s_fltText {b : Nat} {m : Mem} {K : AR → Mem → Prop} (hl : L10 m) (hb : b < 18446744073709551616) (h : K (.ret (.str (fText b))) m) : Sim Tryd.prog 49 [.flt b] m K := by
  refine entry (cxok []) Tryd.func49 rfl rfl (by decide) (by decide) ?_
  have e0 : fne b b = nan b := by rw [fne_iff, feq_self, Bool.not_not]
  cases hn : nan b with
  | true =>
    replace h : K (.ret (.str ⟨#[110, 97, 110]⟩)) m := by unfold fText at h; rw [hn] at h; exact h
    rw [hn] at e0
    clear hb
    exact gox_
  | false =>
  rw [hn] at e0
  obtain ⟨s, r, rfl, hr⟩ := word_of hb hn
  have hi := infR_lt
  rw [fText_w hr] at h
  have sa := @str_app
  have sz := @str_sz
  refine goh_ ?_
  refine s_Signbit ?_
  rw [neg_word s r (by omega)]
  have e2 := feq_w0 (s := s) hr
  obtain ⟨sg, hsg⟩ : ∃ sg, sg = sgnL s := ⟨_, rfl⟩
  have hsl : sg.length ≤ 1 := by rw [hsg]; cases s <;> decide
  rw [← hsg] at h
  clear e0 hn
  have hwd : word s r / 4503599627370496 < 4096 := by unfold word; split <;> omega
  have hwE : word s r / 4503599627370496 % 2048 = r / 4503599627370496 := by unfold word; split <;> omega
  have hwm : word s r % 4503599627370496 = r % 4503599627370496 := by unfold word; split <;> omega
  have z1 := len2 (a := sg) (b := [105, 110, 102]) (by simp; omega)
  have z2 := len2 (a := sg) (b := [48, 112, 48]) (by simp; omega)
  have z1' : (sg.length + 3 ≤ 9223372036854775807) = True := z1
  clear z1 z2
  have hwl : word s r < 18446744073709551616 := by unfold word; split <;> omega
  have c1 := shr52 (word s r)
  have c2 := and2047 (x := word s r / 4503599627370496) hwd
  have c3 := and52 (x := word s r) hwl
  have c4 := or52 (x := r % 4503599627370496) (by omega)
  rw [hwE] at c2
  rw [hwm] at c3
  clear hwd hwE hwm
  cases s
  all_goals
    refine goh_ ?_
    refine s_IsInf hr ?_
    by_cases hinf : r = infR
    · rw [decide_eq_true hinf]
      have hf : fTxt r = [105, 110, 102] := by
        unfold fTxt
        rw [if_neg (by rw [hinf]; decide), if_pos hinf]
      rw [hf] at h
      rw [hsg] at h
      clear hb e2 hr hinf hi hf hsg hsl z1' c1 c2 c3 c4 hwl
      refine goh_ ?_
      exact h
    rw [decide_eq_false hinf]
    by_cases h0 : r = 0
    · subst h0
      have e3 := e2.trans (decide_eq_true rfl)
      have hf : fTxt 0 = [48, 112, 48] := rfl
      rw [hf] at h
      rw [hsg] at h
      clear hb e2 hr hinf hi hf hsg hsl z1' c1 c2 c3 c4 hwl
      refine goh_ ?_
      exact h
    have e3 := e2.trans (decide_eq_false h0)
    clear e2
    have hr' : r < infR := by omega
    have hI : infR = 9218868437227405312 := rfl
    refine goh_ ?_
    refine s_bits ?_
    have hMb := M_bits r
    by_cases hE : r / 4503599627370496 = 0
    · have c5 : (((r / 4503599627370496 : Nat) : Int) == 0) = true := by rw [beq_iff_eq]; omega
      have c6 : w64 (-1074) = -1074 := by decide
      rw [if_pos hE, if_pos hE] at hMb
      refine goh_ ?_
      clear c1 c2 c3 c4 c5 c6 hwl e3 hinf hb
      refine loop_ (fun k t l c m' => m' = m ∧ ∃ (q n : Nat), t 3 = .str ⟨sg.toArray⟩ ∧ t 6 = .int .u64 q ∧ t 7 = .int .i64 ((n : Int) - 1074) ∧ M r = q * 2 ^ n ∧ 0 < q ∧ q < 9007199254740992 ∧ n + q ≤ 9007199254750000 ∧ k = q) (r % 4503599627370496) ?_ ?_
      · exact ⟨rfl, r % 4503599627370496, 0, by rw [hsg]; rfl, rfl, by rfl, hMb, by omega, by omega, by omega, rfl⟩
      clear hsg hMb
      intro k t l c m1 KN ⟨hm, q, n, g3, g6, g7, hM, hq0, hq, hn, hk⟩ next
      subst m1
      have d1 := and1 (x := q) (by omega)
      have d2 := shr1 q
      by_cases ho : q % 2 = 0
      · have d3 : (((q % 2 : Nat) : Int) == 0) = true := by rw [beq_iff_eq]; omega
        have d4 : w64 ((n : Int) - 1074 + 1) = ((n + 1 : Nat) : Int) - 1074 := by rw [w64_id (by omega)]; omega
        refine goh_ ?_
        exact next _ _ _ _ _ (by omega) ⟨rfl, q / 2, n + 1, g3, rfl, rfl, by rw [hM, Nat.pow_succ, Nat.mul_comm (2 ^ n) 2, ← Nat.mul_assoc, show q / 2 * 2 = q by omega], by omega, by omega, by omega, rfl⟩
      · have d3 : (((q % 2 : Nat) : Int) == 0) = false := by rw [beq_eq_false_iff_ne]; omega
        rw [fTxt_odd h0 hr' (by omega) hM] at h
        clear next
        refine goh_ ?_
        refine s_FormatUint hl (by omega) ?_
        have l1 := decI_len (n := (q : Int)) (by omega)
        have l2 := decI_len (n := (n : Int) - 1074) (by omega)
        have y1 := len2 (a := sg) (b := decI q) (by omega)
        have y2 : ((sg ++ decI q).length + 1 ≤ 9223372036854775807) = True := by rw [eq_iff_iff, iff_true, List.length_append]; omega
        have y3 := len2 (a := sg ++ decI q ++ [112]) (b := decI ((n : Int) - 1074)) (by simp; omega)
        refine goh_ ?_
        refine s_Itoa hl (by omega) ?_
        have h' : K (.ret (.str ⟨(sg ++ decI q ++ [112] ++ decI ((n : Int) - 1074)).toArray⟩)) m := by
          rw [List.append_assoc, List.append_assoc]; exact h
        clear h
        exact gox_
    · have c5 : (((r / 4503599627370496 : Nat) : Int) == 0) = false := by rw [beq_eq_false_iff_ne]; omega
      have c6 : w64 (((r / 4503599627370496 : Nat) : Int) - 1075) = ((r / 4503599627370496 - 1 : Nat) : Int) - 1074 := by rw [w64_id (by omega)]; omega
      rw [if_neg hE, if_neg hE] at hMb
      refine goh_ ?_
      clear c1 c2 c3 c4 c5 c6 hwl e3 hinf hb
      refine loop_ (fun k t l c m' => m' = m ∧ ∃ (q n : Nat), t 3 = .str ⟨sg.toArray⟩ ∧ t 6 = .int .u64 q ∧ t 7 = .int .i64 ((n : Int) - 1074) ∧ M r = q * 2 ^ n ∧ 0 < q ∧ q < 9007199254740992 ∧ n + q ≤ 9007199254750000 ∧ k = q) (4503599627370496 + r % 4503599627370496) ?_ ?_
      · exact ⟨rfl, 4503599627370496 + r % 4503599627370496, r / 4503599627370496 - 1, by rw [hsg]; rfl, rfl, by rfl, hMb, by omega, by omega, by omega, rfl⟩
      clear hsg hMb
      intro k t l c m1 KN ⟨hm, q, n, g3, g6, g7, hM, hq0, hq, hn, hk⟩ next
      subst m1
      have d1 := and1 (x := q) (by omega)
      have d2 := shr1 q
      by_cases ho : q % 2 = 0
      · have d3 : (((q % 2 : Nat) : Int) == 0) = true := by rw [beq_iff_eq]; omega
        have d4 : w64 ((n : Int) - 1074 + 1) = ((n + 1 : Nat) : Int) - 1074 := by rw [w64_id (by omega)]; omega
        refine goh_ ?_
        exact next _ _ _ _ _ (by omega) ⟨rfl, q / 2, n + 1, g3, rfl, rfl, by rw [hM, Nat.pow_succ, Nat.mul_comm (2 ^ n) 2, ← Nat.mul_assoc, show q / 2 * 2 = q by omega], by omega, by omega, by omega, rfl⟩
      · have d3 : (((q % 2 : Nat) : Int) == 0) = false := by rw [beq_eq_false_iff_ne]; omega
        rw [fTxt_odd h0 hr' (by omega) hM] at h
        clear next
        refine goh_ ?_
        refine s_FormatUint hl (by omega) ?_
        have l1 := decI_len (n := (q : Int)) (by omega)
        have l2 := decI_len (n := (n : Int) - 1074) (by omega)
        have y1 := len2 (a := sg) (b := decI q) (by omega)
        have y2 : ((sg ++ decI q).length + 1 ≤ 9223372036854775807) = True := by rw [eq_iff_iff, iff_true, List.length_append]; omega
        have y3 := len2 (a := sg ++ decI q ++ [112]) (b := decI ((n : Int) - 1074)) (by simp; omega)
        refine goh_ ?_
        refine s_Itoa hl (by omega) ?_
        have h' : K (.ret (.str ⟨(sg ++ decI q ++ [112] ++ decI ((n : Int) - 1074)).toArray⟩)) m := by
          rw [List.append_assoc, List.append_assoc]; exact h
        clear h
        exact gox_
end Go.Proofs.YtdonkjepjobhnaaDoor.IM
namespace Go.Proofs.IM
open Go Go.Proofs.Flt
def textV (v : V) : ByteArray :=
  if vok v then
    if v.k = 0 then ⟨#[110, 105, 108]⟩ else if v.k = 1 then (if v.n = 1 then ⟨#[116, 114, 117, 101]⟩ else ⟨#[102, 97, 108, 115, 101]⟩) else if v.k = 2 then ⟨(decI v.n).toArray⟩ else if v.k = 3 then fText v.f
    else if v.k = 4 then v.s else if v.k = 5 then ⟨#[116, 97, 98, 108, 101]⟩ else if v.k = 6 then ⟨#[102, 110]⟩ else if v.k = 7 then ⟨#[116, 97, 115, 107]⟩ else ⟨#[98, 117, 105, 108, 116, 105, 110]⟩
  else ⟨#[]⟩
end Go.Proofs.IM
namespace Go.Proofs.YtdonkjepjobhnaaDoor.IM
open Go Go.Proofs.IM Go.Proofs.Flt
set_option maxHeartbeats 8000000
set_option maxRecDepth 100000
theorem s_specText {k n r : Int} {f : Nat} {s : ByteArray} {m : Mem} {K : AR → Mem → Prop} (hn : -9223372036854775808 ≤ n ∧ n ≤ 9223372036854775807) (hf : f < 18446744073709551616) (h : K (.ret (.str (textV ⟨k, n, f, s, r⟩))) m) :
    Sim Tryd.prog 18 [.agg [.int .i64 k, .int .i64 n, .flt f, .str s, .int .i64 r]] m K := by
  refine entry (cxok []) Tryd.func18 rfl rfl (by decide) (by decide) ?_
  refine goh_ ?_
  refine s_specValueOk ?_
  unfold textV at h
  revert h; generalize vok _ = z; intro h
  cases z with
  | false =>
    replace h : K (.ret (.str ⟨#[]⟩)) m := h
    clear hn hf
    exact gox_
  | true =>
  rw [if_pos rfl] at h
  by_cases k0 : k = 0
  · subst k0; replace h : K (.ret (.str ⟨#[110, 105, 108]⟩)) m := h; clear hn hf; exact gox_
  by_cases k1 : k = 1
  · subst k1
    by_cases c : n = 1
    · subst c; replace h : K (.ret (.str ⟨#[116, 114, 117, 101]⟩)) m := h; clear hn hf k0; exact gox_
    · replace h : K (.ret (.str ⟨#[102, 97, 108, 115, 101]⟩)) m := by simpa [c] using h
      have c' : (n == 1) = false := by simpa using c
      clear hn hf k0; exact gox_
  by_cases k2 : k = 2
  · subst k2
    replace h : K (.ret (.str ⟨(decI n).toArray⟩)) m := h
    clear k0 k1 hf
    refine go_ ?_
    refine s_l1decimal hn ?_
    rw [decT_I]
    clear hn
    exact gox_
  by_cases k3 : k = 3
  · subst k3
    replace h : K (.ret (.str (fText f))) m := h
    clear k0 k1 k2 hn
    refine go_ ?_
    refine s_l1floattext hf ?_
    clear hf
    exact gox_
  clear hn hf
  have b0 : (k == 0) = false := by simpa using k0
  have b1 : (k == 1) = false := by simpa using k1
  have b2 : (k == 2) = false := by simpa using k2
  have b3 : (k == 3) = false := by simpa using k3
  simp only [if_neg k0, if_neg k1, if_neg k2, if_neg k3] at h
  by_cases k4 : k = 4
  · subst k4; replace h : K (.ret (.str s)) m := h; clear k0 k1 k2 k3 b0 b1 b2 b3; exact gox_
  by_cases k5 : k = 5
  · subst k5; replace h : K (.ret (.str ⟨#[116, 97, 98, 108, 101]⟩)) m := h; clear k0 k1 k2 k3 k4 b0 b1 b2 b3; exact gox_
  by_cases k6 : k = 6
  · subst k6; replace h : K (.ret (.str ⟨#[102, 110]⟩)) m := h; clear k0 k1 k2 k3 k4 k5 b0 b1 b2 b3; exact gox_
  by_cases k7 : k = 7
  · subst k7; replace h : K (.ret (.str ⟨#[116, 97, 115, 107]⟩)) m := h; clear k0 k1 k2 k3 k4 k5 k6 b0 b1 b2 b3; exact gox_
  have b4 : (k == 4) = false := by simpa using k4
  have b5 : (k == 5) = false := by simpa using k5
  have b6 : (k == 6) = false := by simpa using k6
  have b7 : (k == 7) = false := by simpa using k7
  simp only [if_neg k4, if_neg k5, if_neg k6, if_neg k7] at h
  clear k0 k1 k2 k3 k4 k5 k6 k7
  exact gox_
theorem s_implText {k n r : Int} {f : Nat} {s : ByteArray} {m : Mem} {K : AR → Mem → Prop} (hl : L10 m) (hn : -9223372036854775808 ≤ n ∧ n ≤ 9223372036854775807) (hf : f < 18446744073709551616) (h : K (.ret (.str (textV ⟨k, n, f, s, r⟩))) m) :
    Sim Tryd.prog 20 [.agg [.int .i64 k, .int .i64 n, .flt f, .str s, .int .i64 r]] m K := by
  refine entry (cxok []) Tryd.func20 rfl rfl (by decide) (by decide) ?_
  refine goh_ ?_
  refine s_implValueOk ?_
  unfold textV at h
  revert h; generalize vok _ = z; intro h
  cases z with
  | false =>
    replace h : K (.ret (.str ⟨#[]⟩)) m := h
    clear hn hf
    exact gox_
  | true =>
  rw [if_pos rfl] at h
  by_cases k0 : k = 0
  · subst k0; replace h : K (.ret (.str ⟨#[110, 105, 108]⟩)) m := h; clear hn hf; exact gox_
  by_cases k1 : k = 1
  · subst k1
    by_cases c : n = 1
    · subst c; replace h : K (.ret (.str ⟨#[116, 114, 117, 101]⟩)) m := h; clear hn hf k0; exact gox_
    · replace h : K (.ret (.str ⟨#[102, 97, 108, 115, 101]⟩)) m := by simpa [c] using h
      have c' : (n == 1) = false := by simpa using c
      clear hn hf k0; exact gox_
  by_cases k2 : k = 2
  · subst k2
    replace h : K (.ret (.str ⟨(decI n).toArray⟩)) m := h
    clear k0 k1 hf
    refine go_ ?_
    refine s_FormatInt hl hn ?_
    clear hn
    exact gox_
  by_cases k3 : k = 3
  · subst k3
    replace h : K (.ret (.str (fText f))) m := h
    clear k0 k1 k2 hn
    refine go_ ?_
    refine s_fltText hl hf ?_
    clear hf
    exact gox_
  clear hn hf
  have b0 : (k == 0) = false := by simpa using k0
  have b1 : (k == 1) = false := by simpa using k1
  have b2 : (k == 2) = false := by simpa using k2
  have b3 : (k == 3) = false := by simpa using k3
  simp only [if_neg k0, if_neg k1, if_neg k2, if_neg k3] at h
  by_cases k4 : k = 4
  · subst k4; replace h : K (.ret (.str s)) m := h; clear k0 k1 k2 k3 b0 b1 b2 b3; exact gox_
  by_cases k5 : k = 5
  · subst k5; replace h : K (.ret (.str ⟨#[116, 97, 98, 108, 101]⟩)) m := h; clear k0 k1 k2 k3 k4 b0 b1 b2 b3; exact gox_
  by_cases k6 : k = 6
  · subst k6; replace h : K (.ret (.str ⟨#[102, 110]⟩)) m := h; clear k0 k1 k2 k3 k4 k5 b0 b1 b2 b3; exact gox_
  by_cases k7 : k = 7
  · subst k7; replace h : K (.ret (.str ⟨#[116, 97, 115, 107]⟩)) m := h; clear k0 k1 k2 k3 k4 k5 k6 b0 b1 b2 b3; exact gox_
  have b4 : (k == 4) = false := by simpa using k4
  have b5 : (k == 5) = false := by simpa using k5
  have b6 : (k == 6) = false := by simpa using k6
  have b7 : (k == 7) = false := by simpa using k7
  simp only [if_neg k4, if_neg k5, if_neg k6, if_neg k7] at h
  clear k0 k1 k2 k3 k4 k5 k6 k7
  exact gox_
end Go.Proofs.YtdonkjepjobhnaaDoor.IM
namespace Go.Proofs.Flt
open Go Go.Proofs.IM
theorem odd2_le : ∀ q, 0 < q → (odd2 q).1 ≤ q ∧ (odd2 q).2 ≤ q := by
  intro q
  induction q using Nat.strongRecOn with
  | _ q ih =>
    intro h
    rw [odd2]
    by_cases c : q ≠ 0 ∧ q % 2 = 0
    · rw [dif_pos c]
      have := ih (q / 2) (by omega) (by omega)
      simp only; omega
    · rw [dif_neg c]; simp
theorem odd2_mul {q : Nat} (h : 0 < q) : ∀ n, odd2 (q * 2 ^ n) = ((odd2 q).1, (odd2 q).2 + n) := by
  intro n
  induction n with
  | zero => rw [Nat.pow_zero, Nat.mul_one]; rfl
  | succ n ih =>
    have hp : 0 < q * 2 ^ n := Nat.mul_pos h (Nat.two_pow_pos n)
    have e : q * 2 ^ (n + 1) = 2 * (q * 2 ^ n) := by rw [Nat.pow_succ]; ac_rfl
    rw [e, odd2, dif_pos (by omega), show 2 * (q * 2 ^ n) / 2 = q * 2 ^ n by omega, ih]; rfl
theorem fTxt_len {r : Nat} (hr : r ≤ infR) : (fTxt r).length ≤ 100 := by
  unfold fTxt
  by_cases h0 : r = 0
  · rw [if_pos h0]; decide
  rw [if_neg h0]
  by_cases h1 : r = infR
  · rw [if_pos h1]; decide
  rw [if_neg h1]
  have hI : infR = 9218868437227405312 := rfl
  obtain ⟨q, n, hq, hq2, hn, e⟩ : ∃ q n, 0 < q ∧ q < 9007199254740992 ∧ n ≤ 2047 ∧ M r = q * 2 ^ n := by
    have := M_bits r
    by_cases c : r / 4503599627370496 = 0
    · rw [if_pos c, if_pos c] at this
      exact ⟨_, _, by omega, by omega, by omega, this⟩
    · rw [if_neg c, if_neg c] at this
      exact ⟨_, _, by omega, by omega, by omega, this⟩
  rw [e, odd2_mul hq]
  have hb := odd2_le q hq
  simp only [List.length_append, List.length_cons]
  have l1 := decI_len (n := ((odd2 q).1 : Int)) (by omega)
  have l2 := decI_len (n := (((odd2 q).2 + n : Nat) : Int) - 1074) (by omega)
  omega
theorem fText_len (b : Nat) : (fText b).size ≤ 200 := by
  unfold fText
  cases hn : nan b with
  | true => rw [if_pos rfl]; decide
  | false =>
    rw [if_neg (by decide), str_sz, List.length_append]
    have h1 := fTxt_len (r := rung b) (by
      have : ¬ infR < rung b := by simpa [nan] using hn
      omega)
    have h2 : (sgnL (neg b)).length ≤ 1 := by cases neg b <;> decide
    omega
end Go.Proofs.Flt
namespace Go.Proofs.IM
open Go Go.Proofs.Flt
theorem textV_len {v : V} (hn : -9223372036854775808 ≤ v.n ∧ v.n ≤ 9223372036854775807) : (textV v).size ≤ 4000 := by
  obtain ⟨k, n, f, s, r⟩ := v
  unfold textV
  cases hv : vok ⟨k, n, f, s, r⟩ with
  | false => rw [if_neg (by decide)]; decide
  | true =>
    rw [if_pos rfl]
    dsimp only at hn ⊢
    by_cases k0 : k = 0
    · rw [if_pos k0]; decide
    rw [if_neg k0]
    by_cases k1 : k = 1
    · rw [if_pos k1]; split <;> decide
    rw [if_neg k1]
    by_cases k2 : k = 2
    · rw [if_pos k2, str_sz]; have := decI_len hn; omega
    rw [if_neg k2]
    by_cases k3 : k = 3
    · rw [if_pos k3]; have := fText_len f; omega
    rw [if_neg k3]
    by_cases k4 : k = 4
    · rw [if_pos k4]
      subst k4
      simp only [vok, zok] at hv
      grind
    rw [if_neg k4]
    repeat' split
    all_goals decide
end Go.Proofs.IM
namespace Go.Proofs.IM
open Go Go.RowKit
def memOf2 (L : RoT) (gl : Nat → AV) (fact : World → Prop) : Mem := ⟨fun j => (L[j]?).map fun q => q.2.2, ⟨gl, fact⟩, []⟩
theorem rOk_of2 (W : World) (L : RoT) (gl : Nat → AV) (fact : World → Prop) : ROk (envOf W L) (memOf2 L gl fact) L := fun j b f B h => by simp [envOf, memOf2, h]
theorem mr_of2 {W : World} {L : RoT} (h : EntOk W L L) {gl : Nat → AV} (hgl : ∀ g, VR (envOf W L) noPl (gl g) (.pointer (some ⟨g, 0, none⟩))) {fact : World → Prop} (hf : fact W) : MR (envOf W L) (memOf2 L gl fact) W :=
  let k := mr_of h hgl
  { bel := k.bel, bsz := k.bsz, hp := k.hp, hpd := k.hpd, hpb := k.hpb, inj := k.inj, ro := k.ro, gl := k.gl, fc := hf }
/-- A package variable's block, of which the machine knows nothing but that it is there. -/
theorem ent_there {W : World} {L : RoT} {g : Nat} (hg : g < W.heap.size) (z : Nat) : EntOk W L [(g, 0, ⟨[], z⟩)] := fun E m _ q hq => by
  rw [List.mem_singleton] at hq
  subst hq
  exact ⟨hg, fun i row hi => by simp at hi⟩
theorem var_lt {P : Program} {W : World} {n : String} {g : Nat} {cs : Array Value} (hg : P.globalNamed n = some g) (h : W.var? P n = some cs) : g < W.heap.size := by
  unfold World.var? at h
  rw [hg] at h
  simp only [Option.bind_some] at h
  cases hh : W.heap[g]? with
  | none => rw [hh] at h; cases h
  | some o => exact (Array.getElem?_eq_some_iff.1 hh).1
end Go.Proofs.IM
namespace Go.Proofs.YtdonkjepjobhnaaDoor.IM
open Go Go.Proofs.IM Go.RowKit
set_option maxRecDepth 100000
theorem t10 : (Tryd.prog.globals[4]?).map (·.type) = some 211 := by kernel_rfl
theorem tab10_of {W : World} {cs : Array Value} {fuel : Nat} {p : List MemPlace} {t : TypeId} {g : Nat} {d : DataW Unit} (hd' : d = Lib.tabData .u64 Lib.pow10Tab) (hg : Tryd.prog.globalNamed "internal/strconv.uint64pow10" = some g) (ht : (Tryd.prog.globals[g]?).map (·.type) = some t) (hv : W.var? Tryd.prog "internal/strconv.uint64pow10" = some cs)
    (hd : DataW.trod (fun _ => ()) Tryd.prog W 0 (fun _ => true) false fuel t cs.toList = some (d, p)) : Lib.TabIs Tryd.prog W "internal/strconv.uint64pow10" .u64 Lib.pow10Tab := by
  obtain rfl := Option.some.inj (g10.symm.trans hg)
  obtain rfl := Option.some.inj (t10.symm.trans ht)
  subst hd'
  have := Lib.cells_of_tab Tryd.underlying211 Tryd.underlying143 (by kernel_rfl) (by kernel_rfl) hd
  unfold Lib.TabIs
  rw [hv, ← this]
end Go.Proofs.YtdonkjepjobhnaaDoor.IM
namespace Go.Proofs.Flt
open Ieee Go Go.Proofs.IM
theorem nearest_word (s : Bool) (m : Nat) (p : Int) : ∃ r, r ≤ infR ∧ double.nearest s m p = word s r := by
  unfold Format.nearest
  split
  · exact ⟨0, by decide, dbl_word s 0⟩
  · exact ⟨_, by rw [← dbl_inf]; exact Nat.min_le_right _ _, dbl_word s _⟩
theorem write_word {d : Datum} (h : d.isNaN = false) : ∃ s r, r ≤ infR ∧ double.write d = word s r := by
  cases d with
  | nan s t => cases h
  | infinity s => exact ⟨s, infR, Nat.le_refl _, by show double.word s double.infRung = _; rw [dbl_inf, dbl_word]⟩
  | number s m i => obtain ⟨r, h1, h2⟩ := nearest_word s m i; exact ⟨s, r, h1, h2⟩
theorem div_word {a b q : Nat} (h : double.div a b = some q) : ∃ s r, r ≤ infR ∧ q = word s r := by
  unfold Format.div at h
  obtain ⟨d, h1, rfl⟩ := Option.map_eq_some_iff.1 h
  refine write_word ?_
  generalize double.read a = x at h1
  generalize double.read b = y at h1
  cases x <;> cases y <;> simp only [Datum.quotient] at h1 <;> try cases h1
  all_goals try rfl
  split at h1
  · split at h1
    · cases h1
    · cases h1; rfl
  · cases h1; rfl
theorem sub_word {a b q : Nat} (h : double.sub a b = some q) : ∃ s r, r ≤ infR ∧ q = word s r := by
  unfold Format.sub at h
  obtain ⟨d, h1, rfl⟩ := Option.map_eq_some_iff.1 h
  refine write_word ?_
  generalize double.read a = x at h1
  generalize (double.read b).opposite = y at h1
  cases x <;> cases y <;> simp only [Datum.sum] at h1 <;> try cases h1
  all_goals try rfl
  split at h1
  · cases h1; rfl
  · cases h1
theorem read_isNaN {q : Nat} (h : nan q = true) : ∃ s t, double.read q = .nan s t := ⟨_, _, read_nan q (by simpa [nan] using h)⟩
theorem mul_nan {q b : Nat} (h : nan q = true) : double.mul q b = none := by
  obtain ⟨s, t, e⟩ := read_isNaN h
  unfold Format.mul; rw [e]; rfl
theorem sub_nan {a p : Nat} (h : nan p = true) : double.sub a p = none := by
  obtain ⟨s, t, e⟩ := read_isNaN h
  unfold Format.sub; rw [e]
  cases double.read a <;> rfl
theorem cut_down (s : Bool) (n d : Nat) : Toward.down.cut s n d = n / 2 ^ d + (s && decide (n % 2 ^ d ≠ 0)).toNat := by
  unfold Toward.cut
  simp only [Nat.shiftLeft_eq, Nat.one_mul]
  have hb : ∀ x : Nat, (x != 0) = decide (x ≠ 0) := fun x => by by_cases h : x = 0 <;> simp [h]
  by_cases h : d ≤ n.log2 + 2
  · rw [show min d (n.log2 + 2) = d by omega, hb]
  · rw [show min d (n.log2 + 2) = n.log2 + 2 by omega, hb]
    have h1 := @Nat.lt_log2_self n
    have h2 : 2 ^ (n.log2 + 1) ≤ 2 ^ (n.log2 + 2) := Nat.pow_le_pow_right (by decide) (by omega)
    have h3 : 2 ^ (n.log2 + 1) ≤ 2 ^ d := Nat.pow_le_pow_right (by decide) (by omega)
    rw [Nat.div_eq_of_lt (by omega), Nat.div_eq_of_lt (by omega), Nat.mod_eq_of_lt (by omega), Nat.mod_eq_of_lt (by omega)]
theorem shift_mod0 (m e k : Nat) : ((m <<< ((e : Int) - k).toNat) % 2 ^ (-((e : Int) - k)).toNat ≠ 0) ↔ (m * 2 ^ e % 2 ^ k ≠ 0) := by
  rw [Nat.shiftLeft_eq]
  by_cases h : k ≤ e
  · rw [show (-((e : Int) - k)).toNat = 0 by omega, Nat.pow_zero, Nat.mod_one, show m * 2 ^ e = m * 2 ^ (e - k) * 2 ^ k by rw [Nat.mul_assoc, ← Nat.pow_add]; congr 2; omega, Nat.mul_mod_left]
  · rw [show ((e : Int) - k).toNat = 0 by omega, Nat.pow_zero, Nat.mul_one, show 2 ^ k = 2 ^ (-((e : Int) - k)).toNat * 2 ^ e by rw [← Nat.pow_add]; congr 1; omega, Nat.mul_mod_mul_right]
    have := Nat.two_pow_pos e
    constructor
    · intro h; exact Nat.mul_ne_zero h (by omega)
    · intro h h0; rw [h0, Nat.zero_mul] at h; exact h rfl
theorem integral_down (b : Nat) (h : rung b < infR) : (double.read b).integral .down = .number (neg b) (M (rung b) / U + (neg b && decide (M (rung b) % U ≠ 0)).toNat) 0 := by
  obtain ⟨m, e, hr, hm, _⟩ := read_finite b h
  rw [hr]
  have k := shift_mod0 m e k0
  rw [pow_k0, hm] at k
  have k' : decide ((m <<< ((e : Int) - 1074).toNat) % 2 ^ (-((e : Int) - 1074)).toNat ≠ 0) = decide (M (rung b) % U ≠ 0) := decide_eq_decide.2 k
  simp only [Datum.integral, cut_down, shift_div, hm]
  rw [k']
theorem ffloor_word {s : Bool} {r : Nat} (h : r < infR) : ∃ r', r' ≤ infR ∧ ffloor (word s r) = word s r' ∧ M r' = (M r / U + (s && decide (M r % U ≠ 0)).toNat) * U := by
  have hi := infR_lt
  have hex : ∃ r', r' ≤ infR ∧ M r' = (M r / U + (s && decide (M r % U ≠ 0)).toNat) * U := by
    by_cases hd : M r % U = 0
    · refine ⟨r, by omega, ?_⟩
      simp only [hd, ne_eq, not_true_eq_false, decide_false, Bool.and_false, Bool.toNat_false, Nat.add_zero]
      exact (Nat.div_mul_cancel (Nat.dvd_of_mod_eq_zero hd)).symm
    · obtain ⟨r', h1, h2, h3⟩ := trunc_rung r h
      rcases h3 with h3 | h3
      · exfalso; apply hd
        rw [h3] at h2
        rw [h2]; exact Nat.mul_mod_left _ _
      · have : (s && decide (M r % U ≠ 0)).toNat ≤ 1 := by cases (s && decide (M r % U ≠ 0)) <;> decide
        obtain ⟨r2, g1, g2⟩ := whole_rung (M r / U + (s && decide (M r % U ≠ 0)).toNat) (by omega)
        exact ⟨r2, by omega, g2⟩
  obtain ⟨r', h1, h2⟩ := hex
  refine ⟨r', h1, ?_, h2⟩
  unfold ffloor
  rw [integral_down _ (by rw [rung_word s r (by omega)]; exact h), rung_word s r (by omega), neg_word s r (by omega)]
  show double.nearest s _ 0 = _
  refine nearest_exact _ _ _ r' h1 ?_
  rw [h2, show ((0 : Int) + 1074).toNat = k0 from rfl, show (-((0 : Int) + 1074)).toNat = 0 from rfl, Nat.pow_zero, Nat.mul_one, pow_k0]
theorem ffloor_inf (s : Bool) : ffloor (word s infR) = word s infR := by
  unfold ffloor
  rw [read_inf _ (rung_word s infR (by decide)), neg_word s infR (by decide)]
  show double.word s double.infRung = _
  rw [dbl_inf, dbl_word]
/-- Of a whole number. -/
theorem ffloor_whole {s : Bool} {r : Nat} (h : r < infR) (hd : U ∣ M r) : ffloor (word s r) = word s r := by
  obtain ⟨r', h1, h2, h3⟩ := ffloor_word (s := s) h
  rw [h2]
  congr 1
  refine M_inj ?_
  rw [h3]
  obtain ⟨c, hc⟩ := hd
  rw [hc, Nat.mul_mod_right, Nat.mul_div_cancel_left _ U_pos]
  simp [Nat.mul_comm]
theorem val_w' {s : Bool} {r : Nat} (h : r ≤ infR) : val (word s r) = if s then -(M r : Int) else (M r : Int) := val_word s r (by have := infR_lt; omega)
theorem word_val {s t : Bool} {a b : Nat} (ha : a ≤ infR) (hb : b ≤ infR) (h : val (word s a) = val (word t b)) (h0 : val (word s a) ≠ 0) : word s a = word t b := by
  rw [val_w' ha, val_w' hb] at h
  rw [val_w' ha] at h0
  cases s <;> cases t <;> simp only [if_true, Bool.false_eq_true, if_false] at h h0
  · rw [M_inj (by exact_mod_cast h : M a = M b)]
  · exfalso; omega
  · exfalso; omega
  · rw [M_inj (by have : (M a : Int) = M b := by omega
                  exact_mod_cast this : M a = M b)]
theorem val_ffloor {s : Bool} {r : Nat} (h : r < infR) : val (ffloor (word s r)) = val (word s r) / U * U := by
  obtain ⟨r', h1, h2, h3⟩ := ffloor_word (s := s) h
  have hU := Ui_pos
  have e1 := Nat.div_add_mod (M r) U
  have e2 := Nat.mod_lt (M r) U_pos
  rw [h2, val_w' h1, val_w' (Nat.le_of_lt h), h3]
  cases s
  · simp only [Bool.false_and, Bool.toNat_false, Nat.add_zero, Bool.false_eq_true, if_false]
    push_cast; rfl
  · simp only [Bool.true_and, if_true]
    generalize hq : M r / U = q at *
    generalize hp : M r % U = p at *
    have hm : (M r : Int) = U * q + p := by rw [← e1]; push_cast; rfl
    have hc : (U : Int) * q = (q : Int) * U := Int.mul_comm _ _
    by_cases hp0 : p = 0
    · rw [floor_unique (q := -(q : Int)) hU (by rw [Int.neg_mul]; omega) (by rw [Int.add_mul, Int.neg_mul]; omega)]
      simp only [hp0, ne_eq, not_true_eq_false, decide_false, Bool.toNat_false, Nat.add_zero]
      push_cast; rw [Int.neg_mul]
    · rw [floor_unique (q := -(q : Int) - 1) hU (by rw [Int.sub_mul, Int.neg_mul]; omega) (by rw [Int.add_mul, Int.sub_mul, Int.neg_mul]; omega)]
      simp only [hp0, ne_eq, not_false_eq_true, decide_true, Bool.toNat_true]
      push_cast; rw [Int.sub_mul, Int.neg_mul, Int.add_mul]; omega
/-- What the reference's floor is, in int64's range and no zero. -/
theorem floor_is {s : Bool} {r t : Nat} (h : r < infR) (hr0 : r ≠ 0) (ht : ∃ s' r', r' ≤ infR ∧ t = word s' r') (hv : val t = val (word s r) / U * U) (hz : val t = 0 → t = 0) : t = ffloor (word s r) := by
  obtain ⟨r1, a1, a2, a3⟩ := ffloor_word (s := s) h
  have e := val_ffloor (s := s) h
  obtain ⟨s', r', b1, rfl⟩ := ht
  by_cases h0 : val (word s' r') = 0
  · rw [hz h0, a2]
    rw [a2, ← hv, h0, val_w' a1] at e
    have hs : s = false := by
      cases s with
      | false => rfl
      | true =>
        exfalso
        simp only [if_true] at e
        have hM : M r1 = 0 := by omega
        rw [a3] at hM
        have hp := M_pos (r := r) (by omega)
        have := Nat.div_add_mod (M r) U
        rcases Nat.mul_eq_zero.1 hM with q | q
        · by_cases hd : M r % U = 0
          · have hq : M r / U = 0 := (Nat.add_eq_zero_iff.1 q).1
            rw [hq, hd] at this; omega
          · simp [hd] at q
        · have := U_pos; omega
    subst hs
    simp only [Bool.false_eq_true, if_false] at e
    have : M r1 = M 0 := by rw [M_zero]; exact_mod_cast e
    rw [M_inj this]; rfl
  · rw [a2]
    exact word_val b1 a1 (by rw [hv, ← e, a2]) h0
end Go.Proofs.Flt
namespace Go.Proofs.IM
open Go Go.RowKit Go.Proofs.Flt Ieee
abbrev failA (c : Int) : AV := .agg [.int .i64 c, .int .i64 0, .int .i64 0, .flt 0, .str ByteArray.empty, .int .i64 0]
abbrev gotA (k n : Int) (f : Nat) (s : ByteArray) : AV := .agg [.int .i64 0, .int .i64 k, .int .i64 n, .flt f, .str s, .int .i64 0]
/-- What an operator comes to. -/
inductive Out where
  | fail (c : Int) | int (n : Int) | flt (o : Option Nat) | bool (b : Bool) | str (s : ByteArray)
def b2i (b : Bool) : Int := if b then 1 else 0
/-- Of a NaN only that it is one. -/
def Out.av : Out → AV → Prop
  | .fail c, v => v = failA c
  | .int n, v => v = gotA 2 n 0 ByteArray.empty
  | .flt (some w), v => v = gotA 3 0 w ByteArray.empty
  | .flt none, v => ∃ q, nan q = true ∧ v = gotA 3 0 q ByteArray.empty
  | .bool b, v => v = gotA 1 (b2i b) 0 ByteArray.empty
  | .str s, v => v = gotA 4 0 0 s
def quotI (a b : Int) : Int := if b = -1 then w64 (0 - a) else if (a.tmod b != 0) && !(decide (a < 0) == decide (b < 0)) then w64 (w64 (a.tdiv b) - 1) else w64 (a.tdiv b)
def shlI (a b : Int) : Int := w64 (a * 2 ^ min b.toNat IntKind.i64.bits)
def shrI (a b : Int) : Int := w64 ((IntKind.u64.wrap a).fdiv (2 ^ min b.toNat IntKind.u64.bits))
def intO (op a b : Int) : Out :=
  if op = 1 then .int (w64 (a + b)) else if op = 2 then .int (w64 (a - b)) else if op = 3 then .int (w64 (a * b)) else if op = 4 then .flt (double.div (i2f a) (i2f b))
  else if op = 5 then (if b = 0 then .fail 2 else .int (quotI a b)) else if op = 6 then (if b = 0 then .fail 2 else .int (w64 (a - w64 (b * quotI a b))))
  else if op = 7 then .int (w64 (BitVec.ofInt IntKind.i64.bits a &&& BitVec.ofInt IntKind.i64.bits b).toNat) else if op = 8 then .int (w64 (BitVec.ofInt IntKind.i64.bits a ||| BitVec.ofInt IntKind.i64.bits b).toNat)
  else if op = 9 then .int (w64 (BitVec.ofInt IntKind.i64.bits a ^^^ BitVec.ofInt IntKind.i64.bits b).toNat)
  else if b < 0 then .fail 3 else if b > 63 then .int 0 else if op = 10 then .int (shlI a b) else .int (shrI a b)
def fltO (op : Int) (a b : Nat) : Option Nat :=
  if op = 1 then double.add a b else if op = 2 then double.sub a b else if op = 3 then double.mul a b else if op = 4 then double.div a b
  else if op = 5 then (double.div a b).map ffloor else (double.div a b).bind fun q => (double.mul (ffloor q) b).bind fun p => double.sub a p
theorem isNaN_nan {q : Nat} (h : isNaN64 q) : nan q = true := by
  have := h.1
  unfold nan
  rw [decide_eq_true_eq]
  show (9218868437227405312 : Nat) < rung q
  exact this
theorem inr_nan {q : Nat} (h : nan q = true) : ¬ inr q := fun c => by rw [c.1] at h; cases h
/-- The shift of the bits and the shift of the number. -/
theorem shl_eq {a b : Int} : IntKind.wrap .i64 (IntKind.u64.wrap (IntKind.u64.wrap a * 2 ^ min b.toNat IntKind.u64.bits)) = shlI a b := by
  unfold shlI
  rw [show IntKind.i64.bits = 64 from rfl, show IntKind.u64.bits = 64 from rfl]
  generalize min b.toNat 64 = k
  simp only [i64_wrap, u64_wrap]
  have h1 : (a % 18446744073709551616 * 2 ^ k) % 18446744073709551616 = (a * 2 ^ k) % 18446744073709551616 := by
    rw [Int.mul_emod, Int.emod_emod_of_dvd _ (Int.dvd_refl _), ← Int.mul_emod]
  rw [h1]
  generalize a * 2 ^ k = z
  omega
end Go.Proofs.IM
namespace Go.Proofs.YtdonkjepjobhnaaDoor.IM
open Go Go.RowKit Go.Proofs.IM Go.Proofs.Flt Ieee
set_option maxHeartbeats 8000000
set_option maxRecDepth 100000
theorem s_l1fail {c : Int} {m : Mem} {K : AR → Mem → Prop} (h : K (.ret (failA c)) m) : Sim Tryd.prog 61 [.int .i64 c] m K := by
  refine entry (cxok []) Tryd.func61 rfl rfl (by decide) (by decide) ?_
  exact gox_
theorem s_bad {c : Int} {m : Mem} {K : AR → Mem → Prop} (h : K (.ret (failA c)) m) : Sim Tryd.prog 72 [.int .i64 c] m K := by
  refine entry (cxok []) Tryd.func72 rfl rfl (by decide) (by decide) ?_
  exact gox_
theorem s_l1got {k n : Int} {f : Nat} {s : ByteArray} {m : Mem} {K : AR → Mem → Prop} (h : K (.ret (gotA k n f s)) m) : Sim Tryd.prog 63 [.agg [.int .i64 k, .int .i64 n, .flt f, .str s, .int .i64 0]] m K := by
  refine entry (cxok []) Tryd.func63 rfl rfl (by decide) (by decide) ?_
  exact gox_
theorem s_good {k n : Int} {f : Nat} {s : ByteArray} {m : Mem} {K : AR → Mem → Prop} (h : K (.ret (gotA k n f s)) m) : Sim Tryd.prog 73 [.agg [.int .i64 k, .int .i64 n, .flt f, .str s, .int .i64 0]] m K := by
  refine entry (cxok []) Tryd.func73 rfl rfl (by decide) (by decide) ?_
  exact gox_
theorem s_l1int {n : Int} {m : Mem} {K : AR → Mem → Prop} (h : K (.ret (.agg [.int .i64 2, .int .i64 n, .flt 0, .str ByteArray.empty, .int .i64 0])) m) : Sim Tryd.prog 132 [.int .i64 n] m K := by
  refine entry (cxok []) Tryd.func132 rfl rfl (by decide) (by decide) ?_
  exact gox_
theorem s_vInt {n : Int} {m : Mem} {K : AR → Mem → Prop} (h : K (.ret (.agg [.int .i64 2, .int .i64 n, .flt 0, .str ByteArray.empty, .int .i64 0])) m) : Sim Tryd.prog 137 [.int .i64 n] m K := by
  refine entry (cxok []) Tryd.func137 rfl rfl (by decide) (by decide) ?_
  exact gox_
theorem s_l1flt {f : Nat} {m : Mem} {K : AR → Mem → Prop} (h : K (.ret (.agg [.int .i64 3, .int .i64 0, .flt f, .str ByteArray.empty, .int .i64 0])) m) : Sim Tryd.prog 133 [.flt f] m K := by
  refine entry (cxok []) Tryd.func133 rfl rfl (by decide) (by decide) ?_
  exact gox_
theorem s_vFltB {f : Nat} {m : Mem} {K : AR → Mem → Prop} (h : K (.ret (.agg [.int .i64 3, .int .i64 0, .flt f, .str ByteArray.empty, .int .i64 0])) m) : Sim Tryd.prog 80 [.flt f] m K := by
  refine entry (cxok []) Tryd.func80 rfl rfl (by decide) (by decide) ?_
  exact gox_
theorem s_l1str {s : ByteArray} {m : Mem} {K : AR → Mem → Prop} (h : K (.ret (.agg [.int .i64 4, .int .i64 0, .flt 0, .str s, .int .i64 0])) m) : Sim Tryd.prog 64 [.str s] m K := by
  refine entry (cxok []) Tryd.func64 rfl rfl (by decide) (by decide) ?_
  exact gox_
theorem s_vStrB {s : ByteArray} {m : Mem} {K : AR → Mem → Prop} (h : K (.ret (.agg [.int .i64 4, .int .i64 0, .flt 0, .str s, .int .i64 0])) m) : Sim Tryd.prog 78 [.str s] m K := by
  refine entry (cxok []) Tryd.func78 rfl rfl (by decide) (by decide) ?_
  exact gox_
theorem s_l1bool {b : Bool} {m : Mem} {K : AR → Mem → Prop} (h : K (.ret (.agg [.int .i64 1, .int .i64 (b2i b), .flt 0, .str ByteArray.empty, .int .i64 0])) m) : Sim Tryd.prog 65 [.bool b] m K := by
  refine entry (cxok []) Tryd.func65 rfl rfl (by decide) (by decide) ?_
  cases b with
  | true => replace h : K (.ret (.agg [.int .i64 1, .int .i64 1, .flt 0, .str ByteArray.empty, .int .i64 0])) m := h; exact gox_
  | false => replace h : K (.ret (.agg [.int .i64 1, .int .i64 0, .flt 0, .str ByteArray.empty, .int .i64 0])) m := h; exact gox_
theorem s_vBool {b : Bool} {m : Mem} {K : AR → Mem → Prop} (h : K (.ret (.agg [.int .i64 1, .int .i64 (b2i b), .flt 0, .str ByteArray.empty, .int .i64 0])) m) : Sim Tryd.prog 74 [.bool b] m K := by
  refine entry (cxok []) Tryd.func74 rfl rfl (by decide) (by decide) ?_
  cases b with
  | true => replace h : K (.ret (.agg [.int .i64 1, .int .i64 1, .flt 0, .str ByteArray.empty, .int .i64 0])) m := h; exact gox_
  | false => replace h : K (.ret (.agg [.int .i64 1, .int .i64 0, .flt 0, .str ByteArray.empty, .int .i64 0])) m := h; exact gox_
theorem s_l1quot {a b : Int} {m : Mem} {K : AR → Mem → Prop} (hb : b ≠ 0) (h : K (.ret (.int .i64 (quotI a b))) m) : Sim Tryd.prog 134 [.int .i64 a, .int .i64 b] m K := by
  refine entry (cxok []) Tryd.func134 rfl rfl (by decide) (by decide) ?_
  unfold quotI at h
  by_cases c : b = -1
  · rw [if_pos c] at h; subst c; clear hb; exact gox_
  rw [if_neg c] at h
  have c' : (b == -1) = false := by simpa using c
  clear c
  cases d : (a.tmod b != 0) with
  | false => rw [d] at h; replace h : K (.ret (.int .i64 (w64 (a.tdiv b)))) m := h; exact gox_
  | true =>
    rw [d] at h
    cases e : (decide (a < 0) == decide (b < 0)) with
    | false => rw [e] at h; replace h : K (.ret (.int .i64 (w64 (w64 (a.tdiv b) - 1)))) m := h; exact gox_
    | true => rw [e] at h; replace h : K (.ret (.int .i64 (w64 (a.tdiv b)))) m := h; exact gox_
theorem s_floorDiv {a b : Int} {m : Mem} {K : AR → Mem → Prop} (hb : b ≠ 0) (h : K (.ret (.int .i64 (quotI a b))) m) : Sim Tryd.prog 138 [.int .i64 a, .int .i64 b] m K := by
  refine entry (cxok []) Tryd.func138 rfl rfl (by decide) (by decide) ?_
  unfold quotI at h
  by_cases c : b = -1
  · rw [if_pos c] at h; subst c; clear hb; exact gox_
  rw [if_neg c] at h
  have c' : (b == -1) = false := by simpa using c
  clear c
  cases d : (a.tmod b != 0) with
  | false => rw [d] at h; replace h : K (.ret (.int .i64 (w64 (a.tdiv b)))) m := h; exact gox_
  | true =>
    rw [d] at h
    cases e : (decide (a < 0) == decide (b < 0)) with
    | false => rw [e] at h; replace h : K (.ret (.int .i64 (w64 (w64 (a.tdiv b) - 1)))) m := h; exact gox_
    | true => rw [e] at h; replace h : K (.ret (.int .i64 (w64 (a.tdiv b)))) m := h; exact gox_
theorem s_l1asflt {k n r : Int} {f : Nat} {s : ByteArray} {m : Mem} {K : AR → Mem → Prop} (h : K (.ret (.flt (if k = 2 then i2f n else f))) m) : Sim Tryd.prog 71 [.agg [.int .i64 k, .int .i64 n, .flt f, .str s, .int .i64 r]] m K := by
  refine entry (cxok []) Tryd.func71 rfl rfl (by decide) (by decide) ?_
  by_cases c : k = 2
  · subst c; replace h : K (.ret (.flt (i2f n))) m := h; exact gox_
  · rw [if_neg c] at h
    have c' : (k == 2) = false := by simpa using c
    clear c
    exact gox_
theorem s_flt {k n r : Int} {f : Nat} {s : ByteArray} {m : Mem} {K : AR → Mem → Prop} (h : K (.ret (.flt (if k = 2 then i2f n else f))) m) : Sim Tryd.prog 82 [.agg [.int .i64 k, .int .i64 n, .flt f, .str s, .int .i64 r]] m K := by
  refine entry (cxok []) Tryd.func82 rfl rfl (by decide) (by decide) ?_
  by_cases c : k = 2
  · subst c; replace h : K (.ret (.flt (i2f n))) m := h; exact gox_
  · rw [if_neg c] at h
    have c' : (k == 2) = false := by simpa using c
    clear c
    exact gox_
theorem s_l1ints {op a b : Int} {m : Mem} {K : AR → Mem → Prop} (ho : op = 1 ∨ op = 2 ∨ op = 3 ∨ op = 4 ∨ op = 5 ∨ op = 6 ∨ op = 7 ∨ op = 8 ∨ op = 9 ∨ op = 10 ∨ op = 11) (h : ∀ v, (intO op a b).av v → K (.ret v) m) : Sim Tryd.prog 68 [.int .i64 op, .int .i64 a, .int .i64 b] m K := by
  refine entry (cxok []) Tryd.func68 rfl rfl (by decide) (by decide) ?_
  rcases ho with rfl | rfl | rfl | rfl | rfl | rfl | rfl | rfl | rfl | rfl | rfl
  · replace h : K (.ret (gotA 2 (w64 (a + b)) 0 ByteArray.empty)) m := h _ rfl
    refine go_ ?_
    refine s_l1int ?_
    refine go_ ?_
    refine s_l1got ?_
    exact gox_
  · replace h : K (.ret (gotA 2 (w64 (a - b)) 0 ByteArray.empty)) m := h _ rfl
    refine go_ ?_
    refine s_l1int ?_
    refine go_ ?_
    refine s_l1got ?_
    exact gox_
  · replace h : K (.ret (gotA 2 (w64 (a * b)) 0 ByteArray.empty)) m := h _ rfl
    refine go_ ?_
    refine s_l1int ?_
    refine go_ ?_
    refine s_l1got ?_
    exact gox_
  · refine go_ ?_
    cases c : double.div (i2f a) (i2f b) with
    | some w =>
      have h : K (.ret (gotA 3 0 w ByteArray.empty)) m := h _ (by show (Out.flt (double.div (i2f a) (i2f b))).av _; rw [c]; rfl)
      refine goh_ ?_
      refine s_l1flt ?_
      refine goh_ ?_
      refine s_l1got ?_
      exact gox_
    | none =>
      have h : ∀ q, nan q = true → K (.ret (gotA 3 0 q ByteArray.empty)) m := fun q hq => h _ (by show (Out.flt (double.div (i2f a) (i2f b))).av _; rw [c]; exact ⟨q, hq, rfl⟩)
      intro q hq
      replace h := h q (isNaN_nan hq)
      clear hq
      refine goh_ ?_
      refine s_l1flt ?_
      refine goh_ ?_
      refine s_l1got ?_
      exact gox_
  · by_cases c : b = 0
    · subst c
      replace h : K (.ret (failA 2)) m := h _ rfl
      refine go_ ?_
      refine s_l1fail ?_
      exact gox_
    · replace h : K (.ret (gotA 2 (quotI a b) 0 ByteArray.empty)) m := h _ (by simp only [intO, if_neg c]; rfl)
      have c' : (b == 0) = false := by simpa using c
      refine goh_ ?_
      refine s_l1quot c ?_
      clear c c'
      generalize quotI a b = z at h ⊢
      refine goh_ ?_
      refine s_l1int ?_
      refine goh_ ?_
      refine s_l1got ?_
      exact gox_
  · by_cases c : b = 0
    · subst c
      replace h : K (.ret (failA 2)) m := h _ rfl
      refine go_ ?_
      refine s_l1fail ?_
      exact gox_
    · replace h : K (.ret (gotA 2 (w64 (a - w64 (b * quotI a b))) 0 ByteArray.empty)) m := h _ (by simp only [intO, if_neg c]; rfl)
      have c' : (b == 0) = false := by simpa using c
      refine goh_ ?_
      refine s_l1quot c ?_
      clear c c'
      generalize quotI a b = z at h ⊢
      refine goh_ ?_
      refine s_l1int ?_
      refine goh_ ?_
      refine s_l1got ?_
      exact gox_
  · replace h : K (.ret (gotA 2 (w64 (BitVec.ofInt IntKind.i64.bits a &&& BitVec.ofInt IntKind.i64.bits b).toNat) 0 ByteArray.empty)) m := h _ rfl
    refine go_ ?_
    refine s_l1int ?_
    refine go_ ?_
    refine s_l1got ?_
    exact gox_
  · replace h : K (.ret (gotA 2 (w64 (BitVec.ofInt IntKind.i64.bits a ||| BitVec.ofInt IntKind.i64.bits b).toNat) 0 ByteArray.empty)) m := h _ rfl
    refine go_ ?_
    refine s_l1int ?_
    refine go_ ?_
    refine s_l1got ?_
    exact gox_
  · replace h : K (.ret (gotA 2 (w64 (BitVec.ofInt IntKind.i64.bits a ^^^ BitVec.ofInt IntKind.i64.bits b).toNat) 0 ByteArray.empty)) m := h _ rfl
    refine go_ ?_
    refine s_l1int ?_
    refine go_ ?_
    refine s_l1got ?_
    exact gox_
  · by_cases c : b < 0
    · replace h : K (.ret (failA 3)) m := h _ (by simp only [intO, if_pos c]; rfl)
      refine goh_ ?_
      refine s_l1fail ?_
      exact gox_
    by_cases d : b > 63
    · replace h : K (.ret (gotA 2 (0) 0 ByteArray.empty)) m := h _ (by simp only [intO, if_neg c, if_pos d]; rfl)
      have d' : 63 < b := d
      clear d
      refine goh_ ?_
      refine s_l1int ?_
      refine goh_ ?_
      refine s_l1got ?_
      exact gox_
    · replace h : K (.ret (gotA 2 (shlI a b) 0 ByteArray.empty)) m := h _ (by simp only [intO, if_neg c, if_neg d]; rfl)
      have d' : ¬ 63 < b := d
      have e : IntKind.u64.wrap b = b := by rw [u64_wrap]; omega
      have e0 : 0 ≤ b := by omega
      clear d
      refine goh_ ?_
      refine s_l1int ?_
      refine goh_ ?_
      refine s_l1got ?_
      unfold shlI at h
      exact gox_
  · by_cases c : b < 0
    · replace h : K (.ret (failA 3)) m := h _ (by simp only [intO, if_pos c]; rfl)
      refine goh_ ?_
      refine s_l1fail ?_
      exact gox_
    by_cases d : b > 63
    · replace h : K (.ret (gotA 2 (0) 0 ByteArray.empty)) m := h _ (by simp only [intO, if_neg c, if_pos d]; rfl)
      have d' : 63 < b := d
      clear d
      refine goh_ ?_
      refine s_l1int ?_
      refine goh_ ?_
      refine s_l1got ?_
      exact gox_
    · replace h : K (.ret (gotA 2 (shrI a b) 0 ByteArray.empty)) m := h _ (by simp only [intO, if_neg c, if_neg d]; rfl)
      have d' : ¬ 63 < b := d
      have e : IntKind.u64.wrap b = b := by rw [u64_wrap]; omega
      have e0 : 0 ≤ b := by omega
      clear d
      refine goh_ ?_
      refine s_l1int ?_
      refine goh_ ?_
      refine s_l1got ?_
      unfold shrI at h
      exact gox_
theorem s_intOp {op a b : Int} {m : Mem} {K : AR → Mem → Prop} (ho : op = 1 ∨ op = 2 ∨ op = 3 ∨ op = 5 ∨ op = 6) (h : ∀ v, (intO op a b).av v → K (.ret v) m) : Sim Tryd.prog 79 [.int .i64 op, .int .i64 a, .int .i64 b] m K := by
  refine entry (cxok []) Tryd.func79 rfl rfl (by decide) (by decide) ?_
  rcases ho with rfl | rfl | rfl | rfl | rfl
  · replace h : K (.ret (gotA 2 (w64 (a + b)) 0 ByteArray.empty)) m := h _ rfl
    refine go_ ?_
    refine s_vInt ?_
    refine go_ ?_
    refine s_good ?_
    exact gox_
  · replace h : K (.ret (gotA 2 (w64 (a - b)) 0 ByteArray.empty)) m := h _ rfl
    refine go_ ?_
    refine s_vInt ?_
    refine go_ ?_
    refine s_good ?_
    exact gox_
  · replace h : K (.ret (gotA 2 (w64 (a * b)) 0 ByteArray.empty)) m := h _ rfl
    refine go_ ?_
    refine s_vInt ?_
    refine go_ ?_
    refine s_good ?_
    exact gox_
  · by_cases c : b = 0
    · subst c
      replace h : K (.ret (failA 2)) m := h _ rfl
      refine go_ ?_
      refine s_bad ?_
      exact gox_
    · replace h : K (.ret (gotA 2 (quotI a b) 0 ByteArray.empty)) m := h _ (by simp only [intO, if_neg c]; rfl)
      have c' : (b == 0) = false := by simpa using c
      refine goh_ ?_
      refine s_floorDiv c ?_
      clear c c'
      generalize quotI a b = z at h ⊢
      refine goh_ ?_
      refine s_vInt ?_
      refine goh_ ?_
      refine s_good ?_
      exact gox_
  · by_cases c : b = 0
    · subst c
      replace h : K (.ret (failA 2)) m := h _ rfl
      refine go_ ?_
      refine s_bad ?_
      exact gox_
    · replace h : K (.ret (gotA 2 (w64 (a - w64 (b * quotI a b))) 0 ByteArray.empty)) m := h _ (by simp only [intO, if_neg c]; rfl)
      have c' : (b == 0) = false := by simpa using c
      refine goh_ ?_
      refine s_floorDiv c ?_
      clear c c'
      generalize quotI a b = z at h ⊢
      refine goh_ ?_
      refine s_vInt ?_
      refine goh_ ?_
      refine s_good ?_
      exact gox_
theorem s_bitOp {op a b : Int} {m : Mem} {K : AR → Mem → Prop} (ho : op = 7 ∨ op = 8 ∨ op = 9 ∨ op = 10 ∨ op = 11) (h : ∀ v, (intO op a b).av v → K (.ret v) m) : Sim Tryd.prog 83 [.int .i64 op, .int .i64 a, .int .i64 b] m K := by
  refine entry (cxok []) Tryd.func83 rfl rfl (by decide) (by decide) ?_
  rcases ho with rfl | rfl | rfl | rfl | rfl
  · replace h : K (.ret (gotA 2 (w64 (BitVec.ofInt IntKind.i64.bits a &&& BitVec.ofInt IntKind.i64.bits b).toNat) 0 ByteArray.empty)) m := h _ rfl
    refine go_ ?_
    refine s_vInt ?_
    refine go_ ?_
    refine s_good ?_
    exact gox_
  · replace h : K (.ret (gotA 2 (w64 (BitVec.ofInt IntKind.i64.bits a ||| BitVec.ofInt IntKind.i64.bits b).toNat) 0 ByteArray.empty)) m := h _ rfl
    refine go_ ?_
    refine s_vInt ?_
    refine go_ ?_
    refine s_good ?_
    exact gox_
  · replace h : K (.ret (gotA 2 (w64 (BitVec.ofInt IntKind.i64.bits a ^^^ BitVec.ofInt IntKind.i64.bits b).toNat) 0 ByteArray.empty)) m := h _ rfl
    refine go_ ?_
    refine s_vInt ?_
    refine go_ ?_
    refine s_good ?_
    exact gox_
  · by_cases c : b < 0
    · replace h : K (.ret (failA 3)) m := h _ (by simp only [intO, if_pos c]; rfl)
      refine goh_ ?_
      refine s_bad ?_
      exact gox_
    by_cases d : b > 63
    · replace h : K (.ret (gotA 2 (0) 0 ByteArray.empty)) m := h _ (by simp only [intO, if_neg c, if_pos d]; rfl)
      have d' : 63 < b := d
      clear d
      refine goh_ ?_
      refine s_vInt ?_
      refine goh_ ?_
      refine s_good ?_
      exact gox_
    · replace h : K (.ret (gotA 2 (shlI a b) 0 ByteArray.empty)) m := h _ (by simp only [intO, if_neg c, if_neg d]; rfl)
      have d' : ¬ 63 < b := d
      have e : IntKind.u64.wrap b = b := by rw [u64_wrap]; omega
      have e0 : 0 ≤ b := by omega
      clear d
      refine goh_ ?_
      rw [shl_eq]
      refine s_vInt ?_
      refine goh_ ?_
      refine s_good ?_
      exact gox_
  · by_cases c : b < 0
    · replace h : K (.ret (failA 3)) m := h _ (by simp only [intO, if_pos c]; rfl)
      refine goh_ ?_
      refine s_bad ?_
      exact gox_
    by_cases d : b > 63
    · replace h : K (.ret (gotA 2 (0) 0 ByteArray.empty)) m := h _ (by simp only [intO, if_neg c, if_pos d]; rfl)
      have d' : 63 < b := d
      clear d
      refine goh_ ?_
      refine s_vInt ?_
      refine goh_ ?_
      refine s_good ?_
      exact gox_
    · replace h : K (.ret (gotA 2 (shrI a b) 0 ByteArray.empty)) m := h _ (by simp only [intO, if_neg c, if_neg d]; rfl)
      have d' : ¬ 63 < b := d
      have e : IntKind.u64.wrap b = b := by rw [u64_wrap]; omega
      have e0 : 0 ≤ b := by omega
      clear d
      refine goh_ ?_
      refine s_vInt ?_
      refine goh_ ?_
      refine s_good ?_
      unfold shrI at h
      exact gox_
end Go.Proofs.YtdonkjepjobhnaaDoor.IM
namespace Go.Proofs.IM
open Go Go.RowKit Go.Proofs.Flt Ieee Go.Sort
theorem zero_word (s : Bool) : ffloor (word s 0) = word s 0 := ffloor_whole (by decide) (by rw [M_zero]; exact Nat.dvd_zero _)
theorem whole_of_big {s : Bool} {r : Nat} (h : r ≤ infR) (hb : K63 * Flt.U ≤ M r) : ffloor (word s r) = word s r := by
  by_cases hi : r = infR
  · rw [hi]; exact ffloor_inf s
  · refine ffloor_whole (by omega) ?_
    apply Classical.byContradiction
    intro c
    have h3 := M_lt (small_of c)
    rw [M_52 (r := 4841369599423283200) (Nat.le_refl _) (by omega)] at h3
    have : M r < K63 * Flt.U := Nat.lt_of_lt_of_le h3 (Nat.mul_le_mul_right _ (by decide))
    omega
theorem abs_val {s : Bool} {r : Nat} (h : r ≤ infR) : ((K63 * Flt.U : Nat) : Int) ≤ val (word s r) ∨ val (word s r) ≤ -((K63 * Flt.U : Nat) : Int) → K63 * Flt.U ≤ M r := by
  rw [val_w' h]
  intro c
  have hp : 0 ≤ ((K63 * Flt.U : Nat) : Int) := Int.natCast_nonneg _
  cases s <;> simp only [if_true, Bool.false_eq_true, if_false] at c
  · rcases c with c | c
    · exact_mod_cast c
    · have : (M r : Int) ≤ 0 := by omega
      have : ((K63 * Flt.U : Nat) : Int) ≤ M r := by omega
      exact_mod_cast this
  · have : ((K63 * Flt.U : Nat) : Int) ≤ M r := by omega
    exact_mod_cast this
theorem inr_rung {s : Bool} {r : Nat} (h : r ≤ infR) (hi : inr (word s r)) : r < infR := by
  have hf := inr_fin hi
  rw [rung_word s r (by have := infR_lt; omega)] at hf
  exact hf
theorem leaf_sub {s : Bool} {r t : Nat} (hr : r ≤ infR) (hr0 : r ≠ 0) (hi : inr (word s r)) (h3 : fgtr (i2f (tr (word s r))) (word s r) = true) (e1 : double.sub (i2f (tr (word s r))) 4607182418800017408 = some t) (hv : val t = val (word s r) / Flt.U * Flt.U) : t = ffloor (word s r) := by
  have hf := inr_fin hi
  have hr' := inr_rung hr hi
  have hU := Ui_pos
  obtain ⟨s', r', b1, b2⟩ := sub_word e1
  refine floor_is hr' hr0 ⟨s', r', b1, b2⟩ hv fun h0 => ?_
  exfalso
  obtain ⟨v1, n1⟩ := val_i2f_tr hf
  rw [fgtr_iff, v1, n1, hi.1] at h3
  simp only [Bool.not_false, Bool.true_and, decide_eq_true_eq] at h3
  rw [hv] at h0
  have g1 : val (word s r) / (Flt.U : Int) * Flt.U ≤ val (word s r) := Int.ediv_mul_le _ (Int.ne_of_gt hU)
  rw [h0] at g1
  rcases tr_cases (word s r) with ⟨_, h5, _⟩ | ⟨h5, _, _, _⟩
  · omega
  · have : val (word s r) = 0 := by omega
    rw [val_w' hr] at this
    have hp := M_pos (r := r) (by omega)
    cases s <;> simp only [if_true, Bool.false_eq_true, if_false] at this <;> omega
theorem leaf_keep {s : Bool} {r : Nat} (hr : r ≤ infR) (hr0 : r ≠ 0) (hi : inr (word s r)) (h3 : ¬ fgtr (i2f (tr (word s r))) (word s r) = true) : i2f (tr (word s r)) = ffloor (word s r) := by
  have hf := inr_fin hi
  have hr' := inr_rung hr hi
  have hrg := rung_word s r (by have := infR_lt; omega)
  obtain ⟨_, v1⟩ := floor_keep hi h3
  obtain ⟨r', k1, k2, k3, _⟩ := i2f_tr hf
  refine floor_is hr' hr0 ⟨_, r', by omega, k3⟩ v1 fun h0 => ?_
  rw [k3, val_w' (by omega)] at h0
  have hM : M r' = 0 := by
    cases hd : decide (tr (word s r) < 0) <;> rw [hd] at h0 <;> simp only [if_true, Bool.false_eq_true, if_false] at h0 <;> omega
  have hr0' : r' = 0 := M_inj (by rw [hM, M_zero])
  have hq : M (rung (word s r)) / Flt.U = 0 := by
    rw [hM] at k2
    rcases Nat.mul_eq_zero.1 k2.symm with q | q
    · exact q
    · have := U_pos; omega
  have ht : tr (word s r) = 0 := by unfold tr; rw [hq]; split <;> rfl
  rw [k3, ht, hr0']; rfl
theorem run_floor {P : Program} {f : FuncId} {fn : Func} (hf : P.funcs[f]? = some fn) (hname : (fn.name == "runtime.NumGoroutine") = false) (hb : fn.body.isNone = true) (hn : Extern.findNext fn = none) (he : Extern.find fn = some (Extern.MathFloor.toIntegral "math.archFloor" .down)) (b : Nat) (w : World) (h : fnan b = false) :
    (callFunc f #[.float .f64 b]).run P w = .ok (.value (.float .f64 (ffloor b))) w := by
  rw [run_callFunc_extern hf hname hb hn he, run_integral _ _ _ _ h]; rfl
theorem quiet_nan (s : Bool) (t : Nat) : nan (FloatKind.f64.encode (.nan s (FloatKind.f64.format.quiet t))) = true := by
  show nan (double.word s (double.infRung + double.quiet t % double.binade)) = true
  rw [dbl_inf, dbl_word, dbl_binade]
  have h1 : double.quiet t = t ||| 2251799813685248 := rfl
  have h2 : (t ||| 2251799813685248) % 4503599627370496 ≠ 0 := by
    intro h
    have h3 : (t ||| 2251799813685248).testBit 51 = true := by
      rw [Nat.testBit_or, show Nat.testBit 2251799813685248 51 = true by decide, Bool.or_true]
    rw [show (4503599627370496 : Nat) = 2 ^ 52 from rfl] at h
    have h4 := Nat.testBit_mod_two_pow (t ||| 2251799813685248) 52 51
    rw [h, h3] at h4
    simp at h4
  rw [h1]
  have h5 : (t ||| 2251799813685248) % 4503599627370496 < 4503599627370496 := Nat.mod_lt _ (by decide)
  generalize (t ||| 2251799813685248) % 4503599627370496 = k at h2 h5
  have hI : infR = 9218868437227405312 := rfl
  unfold nan
  rw [rung_word s _ (by omega), decide_eq_true_eq]
  omega
/-- The floor of a NaN: some NaN; of a signalling one it is drawn which. -/
theorem run_floor_nan {P : Program} {f : FuncId} {fn : Func} (hf : P.funcs[f]? = some fn) (hname : (fn.name == "runtime.NumGoroutine") = false) (hb : fn.body.isNone = true) (hn : Extern.findNext fn = none) (he : Extern.find fn = some (Extern.MathFloor.toIntegral "math.archFloor" .down)) (b : Nat) (w : World) (h : nan b = true) :
    ∃ q k, nan q = true ∧ (callFunc f #[.float .f64 b]).run P w = .ok (.value (.float .f64 q)) (w.drewN k) := by
  obtain ⟨s, t, e⟩ := read_isNaN h
  have e0 : Extern.MathFloor.toIntegral "math.archFloor" .down #[.float .f64 b] = (match double.read b with
      | .nan s t => if FloatKind.f64.format.quiet t = t then pure (.float .f64 b) else do
        let kept ← choose (.extern "math.Floor,Ceil,Trunc,RoundToEven.signallingNaN kept" 2)
        pure (.float .f64 (if kept == 1 then b else FloatKind.f64.encode (.nan s (FloatKind.f64.format.quiet t))))
      | d => pure (.float .f64 (double.write (d.integral .down)))) := rfl
  rw [run_callFunc_extern hf hname hb hn he, e0, e]
  dsimp only
  by_cases hq : FloatKind.f64.format.quiet t = t
  · rw [if_pos hq]
    exact ⟨b, 0, h, rfl⟩
  · rw [if_neg hq]
    refine ⟨if ((Question.extern "math.Floor,Ceil,Trunc,RoundToEven.signallingNaN kept" 2).cut (w.tape w.drawn (.extern "math.Floor,Ceil,Trunc,RoundToEven.signallingNaN kept" 2))) == 1 then b else FloatKind.f64.encode (.nan s (FloatKind.f64.format.quiet t)), 1, ?_, rfl⟩
    split
    · exact h
    · exact quiet_nan s t
theorem VRs.one' {E : Env} {L : Pl} {a : AV} {xs : Array Value} (h : VRs E L [a] xs) : ∃ x, xs = #[x] ∧ VR E L a x := by
  obtain ⟨h1, h2⟩ := h
  have hz : xs.size = 1 := by simpa using h1.symm
  refine ⟨xs[0]'(by omega), ?_, h2 0 a (xs[0]'(by omega)) rfl (by rw [Array.getElem?_eq_getElem])⟩
  apply Array.ext
  · simpa using hz
  · intro i hi hi'
    have : i = 0 := by simp at hi'; omega
    subst this; rfl
theorem sim_grow2 {P : Program} {f : FuncId} {args : List AV} {m : Mem} {K : AR → Mem → Prop} (hc : callable P f = true)
    (h : ∀ (E : Env) (w : World) (xs : Array Value), MR E m w → VRs E noPl args xs → Calls P f xs w fun e w' => (∃ r x, e = .returned x ∧ VR E noPl r x ∧ K (.ret r) m) ∧ ∃ k os, w' = grow (w.drewN k) os) : Sim P f args m K := by
  intro E w xs hm hx
  refine .inl ⟨hc, (h E w xs hm hx).mono ?_⟩
  rintro e w' ⟨⟨r, x, rfl, hv, hK⟩, k, os, rfl⟩
  exact ⟨E, m, Env.le.refl E, hm.grown k os, by simp, fun b hb _ => heap_grow_old (w.drewN k) os hb, fun j b s hj => .inr hj, .inl ⟨r, x, rfl, hv, hK⟩⟩
end Go.Proofs.IM
namespace Go.Proofs.YtdonkjepjobhnaaDoor.IM
open Go Go.RowKit Go.Proofs.IM Go.Proofs.Flt Ieee
set_option maxHeartbeats 8000000
set_option maxRecDepth 100000
theorem s_Floor {b : Nat} {m : Mem} {K : AR → Mem → Prop} (hb : nan b = false) (h : K (.ret (.flt (ffloor b))) m) : Sim Tryd.prog 174 [.flt b] m K := by
  refine entry (cxok []) Tryd.func174 rfl rfl (by decide) (by decide) ?_
  refine goh_ ?_
  rw [c_condT]
  refine goh_ ?_
  refine sim_one (a := .flt b) (r := .flt (ffloor b)) ?_ fun E w x hx => by
    cases hx
    exact ⟨_, run_floor Tryd.func192 (by decide) rfl (by kernel_rfl) (by kernel_rfl) b w (by rw [← hb]; exact fnan_eq b), .flt _⟩
  exact gox_
theorem floor_nan {b : Nat} (hb : nan b = true) (w : World) : Calls Tryd.prog 174 #[.float .f64 b] w fun e w' => (∃ q, e = .returned (.float .f64 q) ∧ nan q = true) ∧ ∃ k, w' = w.drewN k := by
  obtain ⟨q, k, hq, hr⟩ := run_floor_nan Tryd.func192 (by decide) rfl (by kernel_rfl) (by kernel_rfl) b w hb
  go_enter Tryd.func174, Tryd.ntmps174
  go_wp2
  go_ret
  exact ⟨⟨q, rfl, hq⟩, k, rfl⟩
theorem s_FloorN {b : Nat} {m : Mem} {K : AR → Mem → Prop} (hb : nan b = true) (h : ∀ q, nan q = true → K (.ret (.flt q)) m) : Sim Tryd.prog 174 [.flt b] m K :=
  sim_grow2 (by kernel_rfl) fun E w xs hm hx => by
    obtain ⟨x, rfl, h1⟩ := VRs.one' hx
    cases h1
    refine (floor_nan hb w).mono ?_
    rintro e w' ⟨⟨q, rfl, hq⟩, k, rfl⟩
    exact ⟨⟨.flt q, _, rfl, .flt _, h q hq⟩, k, #[], by simp⟩
end Go.Proofs.YtdonkjepjobhnaaDoor.IM
namespace Go.Proofs.IM
open Go Go.RowKit Go.Proofs.Flt Ieee
def fq : Option Nat → Nat → Prop
  | some w, q => q = w
  | none, q => nan q = true
end Go.Proofs.IM
namespace Go.Proofs.YtdonkjepjobhnaaDoor.IM
open Go Go.RowKit Go.Proofs.IM Go.Proofs.Flt Ieee
set_option maxHeartbeats 8000000
set_option maxRecDepth 100000
theorem s_floorR {s : Bool} {r : Nat} {m : Mem} {K : AR → Mem → Prop} (hr : r ≤ infR) (h : K (.ret (.flt (ffloor (word s r)))) m) : Sim Tryd.prog 116 [.flt (word s r)] m K := by
  refine entry (cxok []) Tryd.func116 rfl rfl (by decide) (by decide) ?_
  refine goh_ ?_
  refine s_l1nan ?_
  have hn : nan (word s r) = false := nan_w hr
  have h0 := feq_w0 (s := s) hr
  by_cases hr0 : r = 0
  · rw [decide_eq_true hr0] at h0
    subst hr0
    rw [zero_word] at h
    rw [hn]
    exact gox_
  rw [decide_eq_false hr0] at h0
  rw [hn]
  cases h1 : fgeq (word s r) 4890909195324358656 with
  | true =>
    have e : ffloor (word s r) = word s r := whole_of_big hr (abs_val hr (.inl (by
      rw [fgeq_iff, val_two63] at h1
      simpa only [hn, nan_consts, Bool.not_false, Bool.true_and, decide_eq_true_eq] using h1)))
    rw [e] at h
    exact gox_
  | false =>
    have h1' : val (word s r) < ((K63 * Flt.U : Nat) : Int) := by
      rw [fgeq_iff, val_two63] at h1
      simp only [hn, nan_consts, Bool.not_false, Bool.true_and, decide_eq_false_iff_not] at h1
      omega
    cases h2 : fleq (word s r) 14114281232179134464 with
    | true =>
      have e : ffloor (word s r) = word s r := whole_of_big hr (abs_val hr (.inr (by
        rw [fleq_iff, val_m63] at h2
        simpa only [hn, nan_consts, Bool.not_false, Bool.true_and, decide_eq_true_eq] using h2)))
      rw [e] at h
      clear h1'
      exact gox_
    | false =>
      have hi : inr (word s r) := by
        rw [fleq_iff, val_m63] at h2
        simp only [hn, nan_consts, Bool.not_false, Bool.true_and, decide_eq_false_iff_not] at h2
        exact ⟨hn, by omega, h1'⟩
      obtain ⟨ok, ei⟩ := inr_f2i hi
      clear h1'
      cases h3 : fgtr (i2f (tr (word s r))) (word s r) with
      | true =>
        obtain ⟨t, e1, e2⟩ := floor_sub hi h3
        have e := leaf_sub hr hr0 hi h3 e1 e2.2
        rw [← e] at h
        clear hi e2 e
        exact gox_
      | false =>
        have e := leaf_keep hr hr0 hi (by rw [h3]; decide)
        rw [← e] at h
        clear hi e
        exact gox_
theorem s_floorRN {q : Nat} {m : Mem} {K : AR → Mem → Prop} (hq : nan q = true) (h : K (.ret (.flt q)) m) : Sim Tryd.prog 116 [.flt q] m K :=
  s_l1floor fun t _ h2 => by rw [h2 (inr_nan hq)]; exact h
theorem s_floorFlt {s : Bool} {r : Nat} {m : Mem} {K : AR → Mem → Prop} (hr : r ≤ infR) (h : K (.ret (.flt (ffloor (word s r)))) m) : Sim Tryd.prog 139 [.flt (word s r)] m K := by
  refine entry (cxok []) Tryd.func139 rfl rfl (by decide) (by decide) ?_
  refine go_ ?_
  refine s_Floor (nan_w hr) ?_
  exact gox_
theorem s_floorFltN {q : Nat} {m : Mem} {K : AR → Mem → Prop} (hq : nan q = true) (h : ∀ q, nan q = true → K (.ret (.flt q)) m) : Sim Tryd.prog 139 [.flt q] m K := by
  refine entry (cxok []) Tryd.func139 rfl rfl (by decide) (by decide) ?_
  refine go_ ?_
  refine s_FloorN hq fun q2 hq2 => ?_
  replace h := h q2 hq2
  clear hq hq2
  exact gox_
theorem s_l1floats {op : Int} {a b : Nat} {m : Mem} {K : AR → Mem → Prop} (ho : op = 1 ∨ op = 2 ∨ op = 3 ∨ op = 4 ∨ op = 5 ∨ op = 6) (h : ∀ v, (Out.flt (fltO op a b)).av v → K (.ret v) m) : Sim Tryd.prog 70 [.int .i64 op, .flt a, .flt b] m K := by
  refine entry (cxok []) Tryd.func70 rfl rfl (by decide) (by decide) ?_
  rcases ho with rfl | rfl | rfl | rfl | rfl | rfl
  · refine go_ ?_
    cases c : double.add a b with
    | some w =>
      have hh : fltO 1 a b = some w := c
      replace h : K (.ret (gotA 3 0 w ByteArray.empty)) m := h _ (by rw [hh]; rfl)
      clear hh
      refine goh_ ?_
      refine s_l1flt ?_
      refine goh_ ?_
      refine s_l1got ?_
      exact gox_
    | none =>
      have hh : fltO 1 a b = none := c
      replace h : ∀ q, nan q = true → K (.ret (gotA 3 0 q ByteArray.empty)) m := fun q hq => h _ (by rw [hh]; exact ⟨q, hq, rfl⟩)
      clear hh
      intro q hq
      replace h := h q (isNaN_nan hq)
      clear hq
      refine goh_ ?_
      refine s_l1flt ?_
      refine goh_ ?_
      refine s_l1got ?_
      exact gox_
  · refine go_ ?_
    cases c : double.sub a b with
    | some w =>
      have hh : fltO 2 a b = some w := c
      replace h : K (.ret (gotA 3 0 w ByteArray.empty)) m := h _ (by rw [hh]; rfl)
      clear hh
      refine goh_ ?_
      refine s_l1flt ?_
      refine goh_ ?_
      refine s_l1got ?_
      exact gox_
    | none =>
      have hh : fltO 2 a b = none := c
      replace h : ∀ q, nan q = true → K (.ret (gotA 3 0 q ByteArray.empty)) m := fun q hq => h _ (by rw [hh]; exact ⟨q, hq, rfl⟩)
      clear hh
      intro q hq
      replace h := h q (isNaN_nan hq)
      clear hq
      refine goh_ ?_
      refine s_l1flt ?_
      refine goh_ ?_
      refine s_l1got ?_
      exact gox_
  · refine go_ ?_
    cases c : double.mul a b with
    | some w =>
      have hh : fltO 3 a b = some w := c
      replace h : K (.ret (gotA 3 0 w ByteArray.empty)) m := h _ (by rw [hh]; rfl)
      clear hh
      refine goh_ ?_
      refine s_l1flt ?_
      refine goh_ ?_
      refine s_l1got ?_
      exact gox_
    | none =>
      have hh : fltO 3 a b = none := c
      replace h : ∀ q, nan q = true → K (.ret (gotA 3 0 q ByteArray.empty)) m := fun q hq => h _ (by rw [hh]; exact ⟨q, hq, rfl⟩)
      clear hh
      intro q hq
      replace h := h q (isNaN_nan hq)
      clear hq
      refine goh_ ?_
      refine s_l1flt ?_
      refine goh_ ?_
      refine s_l1got ?_
      exact gox_
  · refine go_ ?_
    cases c : double.div a b with
    | some w =>
      have hh : fltO 4 a b = some w := c
      replace h : K (.ret (gotA 3 0 w ByteArray.empty)) m := h _ (by rw [hh]; rfl)
      clear hh
      refine goh_ ?_
      refine s_l1flt ?_
      refine goh_ ?_
      refine s_l1got ?_
      exact gox_
    | none =>
      have hh : fltO 4 a b = none := c
      replace h : ∀ q, nan q = true → K (.ret (gotA 3 0 q ByteArray.empty)) m := fun q hq => h _ (by rw [hh]; exact ⟨q, hq, rfl⟩)
      clear hh
      intro q hq
      replace h := h q (isNaN_nan hq)
      clear hq
      refine goh_ ?_
      refine s_l1flt ?_
      refine goh_ ?_
      refine s_l1got ?_
      exact gox_
  · refine go_ ?_
    cases c : double.div a b with
    | some w =>
      have hh : fltO 5 a b = some (ffloor w) := by show (double.div a b).map ffloor = _; rw [c]; rfl
      replace h : K (.ret (gotA 3 0 (ffloor w) ByteArray.empty)) m := h _ (by rw [hh]; rfl)
      clear hh
      obtain ⟨s, r, hr, rfl⟩ := div_word c
      clear c
      refine go_ ?_
      refine s_floorR hr ?_
      clear hr
      refine goh_ ?_
      refine s_l1flt ?_
      refine goh_ ?_
      refine s_l1got ?_
      exact gox_
    | none =>
      have hh : fltO 5 a b = none := by show (double.div a b).map ffloor = _; rw [c]; rfl
      replace h : ∀ q, nan q = true → K (.ret (gotA 3 0 q ByteArray.empty)) m := fun q hq => h _ (by rw [hh]; exact ⟨q, hq, rfl⟩)
      clear hh c
      intro q hq
      have hq2 := isNaN_nan hq
      clear hq
      refine go_ ?_
      refine s_floorRN hq2 ?_
      replace h := h q hq2
      clear hq2
      refine goh_ ?_
      refine s_l1flt ?_
      refine goh_ ?_
      refine s_l1got ?_
      exact gox_
  · refine go_ ?_
    cases c : double.div a b with
    | some w =>
      obtain ⟨s, r, hr, hw⟩ := div_word c
      subst hw
      have hh0 : fltO 6 a b = (double.mul (ffloor (word s r)) b).bind fun p => double.sub a p := by show (double.div a b).bind _ = _; rw [c]; rfl
      clear c
      refine go_ ?_
      refine s_floorR hr ?_
      clear hr
      refine go_ ?_
      cases c : double.mul (ffloor (word s r)) b with
      | some p =>
        refine goh_ ?_
        cases d : double.sub a p with
        | some z =>
          have hh : fltO 6 a b = some z := by rw [hh0, c]; exact d
          replace h : K (.ret (gotA 3 0 z ByteArray.empty)) m := h _ (by rw [hh]; rfl)
          clear hh hh0
          refine goh_ ?_
          refine s_l1flt ?_
          refine goh_ ?_
          refine s_l1got ?_
          exact gox_
        | none =>
          have hh : fltO 6 a b = none := by rw [hh0, c]; exact d
          replace h : ∀ q, nan q = true → K (.ret (gotA 3 0 q ByteArray.empty)) m := fun q hq => h _ (by rw [hh]; exact ⟨q, hq, rfl⟩)
          clear hh hh0
          intro z hz
          replace h := h z (isNaN_nan hz)
          clear hz
          refine goh_ ?_
          refine s_l1flt ?_
          refine goh_ ?_
          refine s_l1got ?_
          exact gox_
      | none =>
        have hh : fltO 6 a b = none := by rw [hh0, c]; rfl
        replace h : ∀ q, nan q = true → K (.ret (gotA 3 0 q ByteArray.empty)) m := fun q hq => h _ (by rw [hh]; exact ⟨q, hq, rfl⟩)
        clear hh hh0
        intro p hp
        have c3 := sub_nan (a := a) (isNaN_nan hp)
        clear hp
        refine goh_ ?_
        intro z hz
        replace h := h z (isNaN_nan hz)
        clear hz
        refine goh_ ?_
        refine s_l1flt ?_
        refine goh_ ?_
        refine s_l1got ?_
        exact gox_
    | none =>
      have hh : fltO 6 a b = none := by show (double.div a b).bind _ = _; rw [c]; rfl
      replace h : ∀ q, nan q = true → K (.ret (gotA 3 0 q ByteArray.empty)) m := fun q hq => h _ (by rw [hh]; exact ⟨q, hq, rfl⟩)
      clear hh c
      intro q hq
      have hq2 := isNaN_nan hq
      clear hq
      refine go_ ?_
      refine s_floorRN hq2 ?_
      have c2 := mul_nan (b := b) hq2
      clear hq2
      refine goh_ ?_
      intro p hp
      have c3 := sub_nan (a := a) (isNaN_nan hp)
      clear hp
      refine goh_ ?_
      intro z hz
      replace h := h z (isNaN_nan hz)
      clear hz
      refine goh_ ?_
      refine s_l1flt ?_
      refine goh_ ?_
      refine s_l1got ?_
      exact gox_
theorem s_fltOp {op : Int} {a b : Nat} {m : Mem} {K : AR → Mem → Prop} (ho : op = 1 ∨ op = 2 ∨ op = 3 ∨ op = 4 ∨ op = 5 ∨ op = 6) (h : ∀ q, fq (fltO op a b) q → K (.ret (.flt q)) m) : Sim Tryd.prog 81 [.int .i64 op, .flt a, .flt b] m K := by
  refine entry (cxok []) Tryd.func81 rfl rfl (by decide) (by decide) ?_
  rcases ho with rfl | rfl | rfl | rfl | rfl | rfl
  · refine go_ ?_
    cases c : double.add a b with
    | some w =>
      have hh : fltO 1 a b = some w := c
      replace h : K (.ret (.flt w)) m := h _ (by rw [hh]; rfl)
      clear hh
      exact gox_
    | none =>
      have hh : fltO 1 a b = none := c
      replace h : ∀ q, nan q = true → K (.ret (.flt q)) m := fun q hq => h _ (by rw [hh]; exact hq)
      clear hh
      intro q hq
      replace h := h q (isNaN_nan hq)
      clear hq
      exact gox_
  · refine go_ ?_
    cases c : double.sub a b with
    | some w =>
      have hh : fltO 2 a b = some w := c
      replace h : K (.ret (.flt w)) m := h _ (by rw [hh]; rfl)
      clear hh
      exact gox_
    | none =>
      have hh : fltO 2 a b = none := c
      replace h : ∀ q, nan q = true → K (.ret (.flt q)) m := fun q hq => h _ (by rw [hh]; exact hq)
      clear hh
      intro q hq
      replace h := h q (isNaN_nan hq)
      clear hq
      exact gox_
  · refine go_ ?_
    cases c : double.mul a b with
    | some w =>
      have hh : fltO 3 a b = some w := c
      replace h : K (.ret (.flt w)) m := h _ (by rw [hh]; rfl)
      clear hh
      exact gox_
    | none =>
      have hh : fltO 3 a b = none := c
      replace h : ∀ q, nan q = true → K (.ret (.flt q)) m := fun q hq => h _ (by rw [hh]; exact hq)
      clear hh
      intro q hq
      replace h := h q (isNaN_nan hq)
      clear hq
      exact gox_
  · refine go_ ?_
    cases c : double.div a b with
    | some w =>
      have hh : fltO 4 a b = some w := c
      replace h : K (.ret (.flt w)) m := h _ (by rw [hh]; rfl)
      clear hh
      exact gox_
    | none =>
      have hh : fltO 4 a b = none := c
      replace h : ∀ q, nan q = true → K (.ret (.flt q)) m := fun q hq => h _ (by rw [hh]; exact hq)
      clear hh
      intro q hq
      replace h := h q (isNaN_nan hq)
      clear hq
      exact gox_
  · refine go_ ?_
    cases c : double.div a b with
    | some w =>
      have hh : fltO 5 a b = some (ffloor w) := by show (double.div a b).map ffloor = _; rw [c]; rfl
      replace h : K (.ret (.flt (ffloor w))) m := h _ (by rw [hh]; rfl)
      clear hh
      obtain ⟨s, r, hr, rfl⟩ := div_word c
      clear c
      refine go_ ?_
      refine s_floorFlt hr ?_
      clear hr
      exact gox_
    | none =>
      have hh : fltO 5 a b = none := by show (double.div a b).map ffloor = _; rw [c]; rfl
      replace h : ∀ q, nan q = true → K (.ret (.flt q)) m := fun q hq => h _ (by rw [hh]; exact hq)
      clear hh c
      intro q hq
      have hq2 := isNaN_nan hq
      clear hq
      refine go_ ?_
      refine s_floorFltN hq2 fun q2 hq3 => ?_
      replace h := h q2 hq3
      clear hq2 hq3
      exact gox_
  · refine go_ ?_
    cases c : double.div a b with
    | some w =>
      obtain ⟨s, r, hr, hw⟩ := div_word c
      subst hw
      have hh0 : fltO 6 a b = (double.mul (ffloor (word s r)) b).bind fun p => double.sub a p := by show (double.div a b).bind _ = _; rw [c]; rfl
      clear c
      refine go_ ?_
      refine s_floorFlt hr ?_
      clear hr
      refine go_ ?_
      cases c : double.mul (ffloor (word s r)) b with
      | some p =>
        refine goh_ ?_
        cases d : double.sub a p with
        | some z =>
          have hh : fltO 6 a b = some z := by rw [hh0, c]; exact d
          replace h : K (.ret (.flt z)) m := h _ (by rw [hh]; rfl)
          clear hh hh0
          exact gox_
        | none =>
          have hh : fltO 6 a b = none := by rw [hh0, c]; exact d
          replace h : ∀ q, nan q = true → K (.ret (.flt q)) m := fun q hq => h _ (by rw [hh]; exact hq)
          clear hh hh0
          intro z hz
          replace h := h z (isNaN_nan hz)
          clear hz
          exact gox_
      | none =>
        have hh : fltO 6 a b = none := by rw [hh0, c]; rfl
        replace h : ∀ q, nan q = true → K (.ret (.flt q)) m := fun q hq => h _ (by rw [hh]; exact hq)
        clear hh hh0
        intro p hp
        have c3 := sub_nan (a := a) (isNaN_nan hp)
        clear hp
        refine goh_ ?_
        intro z hz
        replace h := h z (isNaN_nan hz)
        clear hz
        exact gox_
    | none =>
      have hh : fltO 6 a b = none := by show (double.div a b).bind _ = _; rw [c]; rfl
      replace h : ∀ q, nan q = true → K (.ret (.flt q)) m := fun q hq => h _ (by rw [hh]; exact hq)
      clear hh c
      intro q hq
      have hq2 := isNaN_nan hq
      clear hq
      refine go_ ?_
      refine s_floorFltN hq2 fun q2 hq3 => ?_
      clear hq2
      have c2 := mul_nan (b := b) hq3
      clear hq3
      refine goh_ ?_
      intro p hp
      have c3 := sub_nan (a := a) (isNaN_nan hp)
      clear hp
      refine goh_ ?_
      intro z hz
      replace h := h z (isNaN_nan hz)
      clear hz
      exact gox_
theorem s_l1floatsX {op : Int} {a b : Nat} {m : Mem} {K : AR → Mem → Prop} (ho : op = 7 ∨ op = 8 ∨ op = 9 ∨ op = 10 ∨ op = 11) (h : K (.ret (failA 1)) m) : Sim Tryd.prog 70 [.int .i64 op, .flt a, .flt b] m K := by
  refine entry (cxok []) Tryd.func70 rfl rfl (by decide) (by decide) ?_
  rcases ho with rfl | rfl | rfl | rfl | rfl
  all_goals
    refine go_ ?_
    refine s_l1fail ?_
    exact gox_
end Go.Proofs.YtdonkjepjobhnaaDoor.IM
namespace Go.Proofs.IM
open Go Go.Proofs.Flt
def scmp (x y : List UInt8) : Int := if Op.bytesLess x y = true then -1 else if (!(Op.bytesLess x y || x == y)) = true then 1 else 0
theorem scmp_cons (a b : UInt8) (x y : List UInt8) : scmp (a :: x) (b :: y) = if a < b then -1 else if b < a then 1 else scmp x y := by
  unfold scmp
  simp only [Op.bytesLess]
  by_cases h1 : a < b
  · simp [h1]
  · by_cases h2 : b < a
    · have hne : ¬ a = b := by rintro rfl; exact h1 h2
      have hne' : (a == b) = false := by simpa using hne
      simp [h1, h2, hne]
    · have : a = b := by
        apply UInt8.toNat_inj.mp
        rw [UInt8.lt_iff_toNat_lt] at h1 h2
        omega
      subst this
      simp
theorem toList_len (s : ByteArray) : s.toList.length = s.size := by rw [ByteArray.toList_eq]; exact Array.length_toList
theorem toList_at (s : ByteArray) {i : Nat} (h : i < s.size) : s.toList[i]'(by rw [toList_len]; exact h) = s[i]'h := by
  have e := ByteArray.toList_eq s
  have : s.toList[i]? = s.data.toList[i]? := by rw [e]
  have h1 : s.toList[i]? = some (s.toList[i]'(by rw [toList_len]; exact h)) := List.getElem?_eq_getElem _
  have h2 : s.data.toList[i]? = some (s[i]'h) := by
    rw [List.getElem?_eq_getElem (by rw [Array.length_toList]; exact h)]; rfl
  rw [h1, h2] at this
  exact Option.some.inj this
theorem bti_atB (s : ByteArray) {i : Nat} (h : i < s.size) : bti s (i : Int) = ((s[i]'h).toNat : Int) := by
  unfold bti
  simp only [Int.toNat_natCast]
  rw [dif_pos h]
theorem drop_at (s : ByteArray) {i : Nat} (h : i < s.size) : s.toList.drop i = (s[i]'h) :: s.toList.drop (i + 1) := by
  rw [List.drop_eq_getElem_cons (by rw [toList_len]; exact h), toList_at s h]
theorem drop_end (s : ByteArray) {i : Nat} (h : s.size ≤ i) : s.toList.drop i = [] := List.drop_of_length_le (by rw [toList_len]; exact h)
def cmpV (a b : V) : Int := if !vok a || !vok b then 3 else if a.k == 4 && b.k == 4 then scmp a.s.toList b.s.toList else if !numK a || !numK b then 3 else cmpN a b
end Go.Proofs.IM
namespace Go.Proofs.YtdonkjepjobhnaaDoor.IM
open Go Go.Proofs.IM Go.Proofs.Flt
set_option maxHeartbeats 8000000
set_option maxRecDepth 100000
theorem s_l1strings {x y : ByteArray} {m : Mem} {K : AR → Mem → Prop} (hx : x.size ≤ 2 ^ 40) (hy : y.size ≤ 2 ^ 40) (h : K (.ret (.int .i64 (scmp x.toList y.toList))) m) : Sim Tryd.prog 130 [.str x, .str y] m K := by
  refine entry (cxok []) Tryd.func130 rfl rfl (by decide) (by decide) ?_
  refine goh_ ?_
  refine loop_ (fun k t l c m' => m' = m ∧ ∃ (i : Nat), t 0 = .str x ∧ t 1 = .str y ∧ t 5 = .int .i64 i ∧ i ≤ x.size ∧ i ≤ y.size ∧ scmp x.toList y.toList = scmp (x.toList.drop i) (y.toList.drop i) ∧ k = x.size - i) x.size ?_ ?_
  · exact ⟨rfl, 0, rfl, rfl, rfl, by omega, by omega, rfl, rfl⟩
  intro k t l c m1 KN ⟨hm, i, g0, g1, g5, hi1, hi2, hS, hk⟩ next
  subst m1
  rw [hS] at h
  by_cases c1 : i < x.size
  · have c1' : ((i : Int) < (x.size : Int)) = True := by rw [eq_iff_iff, iff_true]; omega
    rw [drop_at x c1] at h
    have b1 := bti_atB x c1
    by_cases c2 : i < y.size
    · have c2' : ((i : Int) < (y.size : Int)) = True := by rw [eq_iff_iff, iff_true]; omega
      rw [drop_at y c2, scmp_cons] at h
      have b2 := bti_atB y c2
      have hw : w64 ((i : Int) + 1) = ((i + 1 : Nat) : Int) := w64_succ (n := x.size) c1 (by omega)
      have hS' : x.toList.drop i = (x[i]'c1) :: x.toList.drop (i + 1) := drop_at x c1
      have hS2 : y.toList.drop i = (y[i]'c2) :: y.toList.drop (i + 1) := drop_at y c2
      rw [hS', hS2, scmp_cons] at hS
      clear hS' hS2
      refine goh_ ?_
      refine draw_ [(0, .pure), (1, .pure), (2, .pure), (3, .pure), (4, .pure), (5, .pure), (6, .pure)] (by kernel_rfl) ?_
      by_cases d1 : x[i]'c1 < y[i]'c2
      · rw [if_pos d1] at h
        have d1' : (((x[i]'c1).toNat : Int) < ((y[i]'c2).toNat : Int)) = True := by rw [eq_iff_iff, iff_true]; rw [UInt8.lt_iff_toNat_lt] at d1; omega
        clear hS hx hy
        exact gox_
      rw [if_neg d1] at h hS
      have d1' : (((x[i]'c1).toNat : Int) < ((y[i]'c2).toNat : Int)) = False := by rw [eq_iff_iff, iff_false]; rw [UInt8.lt_iff_toNat_lt] at d1; omega
      refine goh_ ?_
      refine draw_ [(0, .pure), (1, .pure), (2, .pure), (3, .pure), (4, .pure), (5, .pure), (6, .pure)] (by kernel_rfl) ?_
      by_cases d2 : y[i]'c2 < x[i]'c1
      · rw [if_pos d2] at h
        have d2' : (((y[i]'c2).toNat : Int) < ((x[i]'c1).toNat : Int)) = True := by rw [eq_iff_iff, iff_true]; rw [UInt8.lt_iff_toNat_lt] at d2; omega
        clear hS hx hy
        exact gox_
      rw [if_neg d2] at h hS
      have d2' : (((y[i]'c2).toNat : Int) < ((x[i]'c1).toNat : Int)) = False := by rw [eq_iff_iff, iff_false]; rw [UInt8.lt_iff_toNat_lt] at d2; omega
      refine goh_ ?_
      exact next _ _ _ _ _ (by omega) ⟨rfl, i + 1, g0, g1, rfl, by omega, by omega, hS, rfl⟩
    · have c2' : ((i : Int) < (y.size : Int)) = False := by rw [eq_iff_iff, iff_false]; omega
      have c3 : ((x.size : Int) < (y.size : Int)) = False := by rw [eq_iff_iff, iff_false]; omega
      have c4 : ((y.size : Int) < (x.size : Int)) = True := by rw [eq_iff_iff, iff_true]; omega
      rw [drop_end y (by omega)] at h
      replace h : K (.ret (.int .i64 1)) m := by simpa [scmp, Op.bytesLess] using h
      clear hS hx hy next
      exact gox_
  · have c1' : ((i : Int) < (x.size : Int)) = False := by rw [eq_iff_iff, iff_false]; omega
    rw [drop_end x (by omega)] at h
    by_cases c2 : i < y.size
    · have c3 : ((x.size : Int) < (y.size : Int)) = True := by rw [eq_iff_iff, iff_true]; omega
      rw [drop_at y c2] at h
      replace h : K (.ret (.int .i64 (-1))) m := by simpa [scmp, Op.bytesLess] using h
      clear hS hx hy next
      exact gox_
    · have c3 : ((x.size : Int) < (y.size : Int)) = False := by rw [eq_iff_iff, iff_false]; omega
      have c4 : ((y.size : Int) < (x.size : Int)) = False := by rw [eq_iff_iff, iff_false]; omega
      rw [drop_end y (by omega)] at h
      replace h : K (.ret (.int .i64 0)) m := by simpa [scmp, Op.bytesLess] using h
      clear hS hx hy next
      exact gox_
end Go.Proofs.YtdonkjepjobhnaaDoor.IM
namespace Go.Proofs.IM
open Go Go.Proofs.Flt
theorem vok_str {n r : Int} {f : Nat} {s : ByteArray} (h : vok ⟨4, n, f, s, r⟩ = true) : s.size ≤ 4000 := by
  simp only [vok, zok] at h
  grind
end Go.Proofs.IM
namespace Go.Proofs.YtdonkjepjobhnaaDoor.IM
open Go Go.Proofs.IM Go.Proofs.Flt
set_option maxHeartbeats 8000000
set_option maxRecDepth 100000
theorem s_specCompare {k n r k' n' r' : Int} {f f' : Nat} {s s' : ByteArray} {m : Mem} {K : AR → Mem → Prop} (hn : i64r n) (hn' : i64r n') (h : K (.ret (.int .i64 (cmpV ⟨k, n, f, s, r⟩ ⟨k', n', f', s', r'⟩))) m) :
    Sim Tryd.prog 67 [.agg [.int .i64 k, .int .i64 n, .flt f, .str s, .int .i64 r], .agg [.int .i64 k', .int .i64 n', .flt f', .str s', .int .i64 r']] m K := by
  simp only [cmpV] at h
  cases ha : vok ⟨k, n, f, s, r⟩ with
  | false =>
    rw [ha] at h
    replace h : K (.ret (.int .i64 3)) m := h
    refine entry (cxok []) Tryd.func67 rfl rfl (by decide) (by decide) ?_
    refine go_ ?_
    refine s_specValueOk ?_
    rw [ha]
    clear hn hn' ha
    exact gox_
  | true =>
  cases hb : vok ⟨k', n', f', s', r'⟩ with
  | false =>
    rw [ha, hb] at h
    replace h : K (.ret (.int .i64 3)) m := h
    refine entry (cxok []) Tryd.func67 rfl rfl (by decide) (by decide) ?_
    refine go_ ?_
    refine s_specValueOk ?_
    rw [ha]
    refine go_ ?_
    refine s_specValueOk ?_
    rw [hb]
    clear hn hn' ha hb
    exact gox_
  | true =>
  rw [ha, hb] at h
  simp only [Bool.not_true, Bool.or_self, Bool.false_eq_true, if_false] at h
  by_cases k4 : k = 4
  · subst k4
    have sa := vok_str ha
    refine entry (cxok []) Tryd.func67 rfl rfl (by decide) (by decide) ?_
    refine go_ ?_
    refine s_specValueOk ?_
    rw [ha]
    refine go_ ?_
    refine s_specValueOk ?_
    rw [hb]
    by_cases k4' : k' = 4
    · subst k4'
      have sb := vok_str hb
      replace h : K (.ret (.int .i64 (scmp s.toList s'.toList))) m := h
      clear ha hb
      refine go_ ?_
      refine s_l1strings (by omega) (by omega) ?_
      exact gox_
    · have e : (k' == 4) = false := by simpa using k4'
      rw [e] at h
      replace h : K (.ret (.int .i64 3)) m := h
      clear ha hb hn hn' sa k4'
      refine goh_ ?_
      refine s_l1num ?_
      rw [show numK ⟨4, n, f, s, r⟩ = false from rfl]
      exact gox_
  · have e : (k == 4) = false := by simpa using k4
    rw [e] at h
    simp only [Bool.false_and, Bool.false_eq_true, if_false] at h
    cases na : numK ⟨k, n, f, s, r⟩ with
    | false =>
      rw [na] at h
      replace h : K (.ret (.int .i64 3)) m := h
      refine entry (cxok []) Tryd.func67 rfl rfl (by decide) (by decide) ?_
      refine go_ ?_
      refine s_specValueOk ?_
      rw [ha]
      refine go_ ?_
      refine s_specValueOk ?_
      rw [hb]
      clear hn hn' ha hb k4
      refine goh_ ?_
      refine s_l1num ?_
      rw [na]
      clear na
      exact gox_
    | true =>
    cases nb : numK ⟨k', n', f', s', r'⟩ with
    | false =>
      rw [na, nb] at h
      replace h : K (.ret (.int .i64 3)) m := h
      refine entry (cxok []) Tryd.func67 rfl rfl (by decide) (by decide) ?_
      refine go_ ?_
      refine s_specValueOk ?_
      rw [ha]
      refine go_ ?_
      refine s_specValueOk ?_
      rw [hb]
      clear hn hn' ha hb k4
      refine goh_ ?_
      refine s_l1num ?_
      rw [na]
      refine goh_ ?_
      refine s_l1num ?_
      rw [nb]
      clear na nb
      exact gox_
    | true =>
      rw [na, nb] at h
      exact s_specCompareN ha hb na nb hn hn' h
theorem s_implCompare {k n r k' n' r' : Int} {f f' : Nat} {s s' : ByteArray} {m : Mem} {K : AR → Mem → Prop} (hn : i64r n) (hn' : i64r n') (h : K (.ret (.int .i64 (cmpV ⟨k, n, f, s, r⟩ ⟨k', n', f', s', r'⟩))) m) :
    Sim Tryd.prog 76 [.agg [.int .i64 k, .int .i64 n, .flt f, .str s, .int .i64 r], .agg [.int .i64 k', .int .i64 n', .flt f', .str s', .int .i64 r']] m K := by
  simp only [cmpV] at h
  cases ha : vok ⟨k, n, f, s, r⟩ with
  | false =>
    rw [ha] at h
    replace h : K (.ret (.int .i64 3)) m := h
    refine entry (cxok []) Tryd.func76 rfl rfl (by decide) (by decide) ?_
    refine go_ ?_
    refine s_implValueOk ?_
    rw [ha]
    clear hn hn' ha
    exact gox_
  | true =>
  cases hb : vok ⟨k', n', f', s', r'⟩ with
  | false =>
    rw [ha, hb] at h
    replace h : K (.ret (.int .i64 3)) m := h
    refine entry (cxok []) Tryd.func76 rfl rfl (by decide) (by decide) ?_
    refine go_ ?_
    refine s_implValueOk ?_
    rw [ha]
    refine go_ ?_
    refine s_implValueOk ?_
    rw [hb]
    clear hn hn' ha hb
    exact gox_
  | true =>
  rw [ha, hb] at h
  simp only [Bool.not_true, Bool.or_self, Bool.false_eq_true, if_false] at h
  by_cases k4 : k = 4
  · subst k4
    have sa := vok_str ha
    refine entry (cxok []) Tryd.func76 rfl rfl (by decide) (by decide) ?_
    refine go_ ?_
    refine s_implValueOk ?_
    rw [ha]
    refine go_ ?_
    refine s_implValueOk ?_
    rw [hb]
    by_cases k4' : k' = 4
    · subst k4'
      have sb := vok_str hb
      replace h : K (.ret (.int .i64 (scmp s.toList s'.toList))) m := h
      clear ha hb
      refine go_ ?_
      unfold scmp at h
      cases c1 : Op.bytesLess s.toList s'.toList with
      | true => rw [c1] at h; replace h : K (.ret (.int .i64 (-1))) m := h; clear sa sb hn hn'; exact gox_
      | false =>
        rw [c1] at h
        cases c2 : (s.toList == s'.toList) with
        | true => rw [c2] at h; replace h : K (.ret (.int .i64 0)) m := h; clear sa sb hn hn'; exact gox_
        | false => rw [c2] at h; replace h : K (.ret (.int .i64 1)) m := h; clear sa sb hn hn'; exact gox_
    · have e : (k' == 4) = false := by simpa using k4'
      rw [e] at h
      replace h : K (.ret (.int .i64 3)) m := h
      clear ha hb hn hn' sa k4'
      refine goh_ ?_
      refine s_number ?_
      rw [show numK ⟨4, n, f, s, r⟩ = false from rfl]
      exact gox_
  · have e : (k == 4) = false := by simpa using k4
    rw [e] at h
    simp only [Bool.false_and, Bool.false_eq_true, if_false] at h
    cases na : numK ⟨k, n, f, s, r⟩ with
    | false =>
      rw [na] at h
      replace h : K (.ret (.int .i64 3)) m := h
      refine entry (cxok []) Tryd.func76 rfl rfl (by decide) (by decide) ?_
      refine go_ ?_
      refine s_implValueOk ?_
      rw [ha]
      refine go_ ?_
      refine s_implValueOk ?_
      rw [hb]
      clear hn hn' ha hb k4
      refine goh_ ?_
      refine s_number ?_
      rw [na]
      clear na
      exact gox_
    | true =>
    cases nb : numK ⟨k', n', f', s', r'⟩ with
    | false =>
      rw [na, nb] at h
      replace h : K (.ret (.int .i64 3)) m := h
      refine entry (cxok []) Tryd.func76 rfl rfl (by decide) (by decide) ?_
      refine go_ ?_
      refine s_implValueOk ?_
      rw [ha]
      refine go_ ?_
      refine s_implValueOk ?_
      rw [hb]
      clear hn hn' ha hb k4
      refine goh_ ?_
      refine s_number ?_
      rw [na]
      refine goh_ ?_
      refine s_number ?_
      rw [nb]
      clear na nb
      exact gox_
    | true =>
      rw [na, nb] at h
      exact s_implCompareN ha hb na nb hn hn' h
end Go.Proofs.YtdonkjepjobhnaaDoor.IM
namespace Go.Proofs.IM
open Go Go.Proofs.Flt
def joinK (v : V) : Bool := numK v || v.k == 4
def ordB (op c : Int) : Bool := (op == 15 && c == -1) || (op == 16 && (c == -1 || c == 0)) || (op == 17 && c == 1) || (op == 18 && (c == 1 || c == 0))
def ordO (op c : Int) : Out := if c = 3 then .fail 1 else .bool (ordB op c)
def flV (v : V) : Nat := if v.k = 2 then i2f v.n else v.f
def joinO (x y : ByteArray) : Out := if x.size + y.size > 4000 then .fail 4 else .str (x ++ y)
def binI (op : Int) (a b : V) : Out :=
  if op = 12 then (if joinK a && joinK b then joinO (textV a) (textV b) else .fail 1)
  else if op = 13 then .bool (sameV a b) else if op = 14 then .bool (!sameV a b)
  else if 15 ≤ op then ordO op (cmpV a b)
  else if a.k = 2 ∧ b.k = 2 then intO op a.n b.n
  else if numK a && numK b then (if op ≤ 6 then .flt (fltO op (flV a) (flV b)) else .fail 1) else .fail 1
def binO (op : Int) (a b : V) : Out := if vok a = true ∧ vok b = true ∧ 1 ≤ op ∧ op ≤ 18 then binI op a b else .fail 1
theorem binO_in {op : Int} {a b : V} (ha : vok a = true) (hb : vok b = true) (ho : 1 ≤ op ∧ op ≤ 18) : binO op a b = binI op a b := if_pos ⟨ha, hb, ho⟩
theorem num2 {v : V} (h : numK v = false) : (v.k == 2) = false ∧ (v.k == 3) = false ∧ ¬ v.k = 2 := by
  unfold numK at h
  rw [Bool.or_eq_false_iff] at h
  exact ⟨h.1, h.2, by simpa using h.1⟩
theorem binI_fail {op : Int} {a b : V} (ho : 1 ≤ op ∧ op ≤ 11) (h : numK a = false ∨ numK b = false) : binI op a b = .fail 1 := by
  unfold binI
  rw [if_neg (by omega), if_neg (by omega), if_neg (by omega), if_neg (by omega)]
  rcases h with h | h
  · rw [if_neg (fun c => (num2 h).2.2 c.1), h]; rfl
  · rw [if_neg (fun c => (num2 h).2.2 c.2), h, Bool.and_false]; rfl
theorem cmpV_range (a b : V) : cmpV a b = -1 ∨ cmpV a b = 0 ∨ cmpV a b = 1 ∨ cmpV a b = 2 ∨ cmpV a b = 3 := by
  unfold cmpV
  split
  · omega
  split
  · unfold scmp; repeat' split
    all_goals omega
  split
  · omega
  unfold cmpN
  split
  · omega
  have := sgn_range (numV a) (numV b)
  omega
theorem binI_join {a b : V} : binI 12 a b = if joinK a && joinK b then joinO (textV a) (textV b) else .fail 1 := if_pos rfl
theorem join_not {v : V} (h : joinK v = false) : numK v = false ∧ (v.k == 4) = false := by
  unfold joinK at h; exact Bool.or_eq_false_iff.1 h
theorem Out.av_agg {o : Out} {v : AV} (h : o.av v) : ∃ (a0 a1 a2 : Int) (a3 : Nat) (a4 : ByteArray) (a5 : Int), v = .agg [.int .i64 a0, .int .i64 a1, .int .i64 a2, .flt a3, .str a4, .int .i64 a5] := by
  cases o with
  | fail c => exact ⟨_, _, _, _, _, _, h⟩
  | int n => exact ⟨_, _, _, _, _, _, h⟩
  | flt o =>
    cases o with
    | some w => exact ⟨_, _, _, _, _, _, h⟩
    | none => obtain ⟨q, _, h⟩ := h; exact ⟨_, _, _, _, _, _, h⟩
  | bool b => exact ⟨_, _, _, _, _, _, h⟩
  | str s => exact ⟨_, _, _, _, _, _, h⟩
end Go.Proofs.IM
