/- Values: floors, keys, sameness; both ways. -/
import Derived.Test.YtgfkbcmdegnneaaJB
import Derived.Laws.Externs
namespace Go.Proofs.IM
open Go Go.RowKit Go.Proofs.Flt Ieee
section
variable {P : Program} {f : FuncId} {fn : Func}
/-- One argument, one value that the model gives. -/
theorem sim_one {a r : AV} {m : Mem} {K : AR → Mem → Prop} (h : K (.ret r) m) (hr : ∀ (E : Env) (w : World) (x : Value), VR E noPl a x → ∃ y, (callFunc f #[x]).run P w = .ok (.value y) w ∧ VR E noPl r y) : Sim P f [a] m K := by
  intro E w xs hm hx
  refine .inr ?_
  obtain ⟨h1, h2⟩ := hx
  have hz : xs.size = 1 := by simpa using h1.symm
  have e : xs = #[xs[0]'(by omega)] := by
    apply Array.ext
    · simpa using hz
    · intro i hi hi'
      have : i = 0 := by simp at hi'; omega
      subst this; rfl
  obtain ⟨y, hy, hv⟩ := hr E w _ (h2 0 a (xs[0]'(by omega)) rfl (by rw [Array.getElem?_eq_getElem]))
  rw [← e] at hy
  exact ⟨r, y, hy, hv, h⟩
theorem run_integral (s : String) (way : Ieee.Toward) (b : Nat) (w : World) (h : fnan b = false) :
    (Extern.MathFloor.toIntegral s way #[.float .f64 b]).run P w = .ok (.float .f64 (Ieee.double.write ((Ieee.double.read b).integral way))) w := by
  unfold fnan at h
  have key : ∀ d : Ieee.Datum, Ieee.double.read b = d → d.isNaN = false → Extern.MathFloor.toIntegral s way #[.float .f64 b] = pure (.float .f64 (Ieee.double.write (d.integral way))) := by
    intro d hd hn
    have e : Extern.MathFloor.toIntegral s way #[.float .f64 b] = (match Ieee.double.read b with
      | .nan s t => if FloatKind.f64.format.quiet t = t then pure (.float .f64 b) else do
        let kept ← choose (.extern "math.Floor,Ceil,Trunc,RoundToEven.signallingNaN kept" 2)
        pure (.float .f64 (if kept == 1 then b else FloatKind.f64.encode (.nan s (FloatKind.f64.format.quiet t))))
      | d => pure (.float .f64 (Ieee.double.write (d.integral way)))) := rfl
    rw [e, hd]
    cases d with
    | nan s t => cases hn
    | infinity s => rfl
    | number s m i => rfl
  rw [key _ rfl h]
  rfl
theorem run_trunc (hf : P.funcs[f]? = some fn) (hname : (fn.name == "runtime.NumGoroutine") = false) (hb : fn.body.isNone = true) (hn : Extern.findNext fn = none) (he : Extern.find fn = some (Extern.MathFloor.toIntegral "math.archTrunc" .zero)) (b : Nat) (w : World) (h : fnan b = false) :
    (callFunc f #[.float .f64 b]).run P w = .ok (.value (.float .f64 (ftrunc b))) w := by
  rw [run_callFunc_extern hf hname hb hn he, run_integral _ _ _ _ h]; rfl
end
theorem c_condT {C : Cx} {KN : St → Mem → Prop} {KX : Nat → St → Mem → Prop} {KR : St → Mem → Prop} {KP : Value → Mem → Prop} {x y : Code} {st : St} {m : Mem} : aCode C (.cond (.const (.bool true)) x y) KN KX KR KP st m = aCode C x KN KX KR KP st m := by
  have e : eA m st.t (.const (.bool true)) = .bool true := rfl
  simp [aCode, e, setc]
/-- The reference's floor, within int64's range. -/
theorem floor_sub {b : Nat} (hi : inr b) (h3 : fgtr (i2f (tr b)) b = true) : ∃ t, double.sub (i2f (tr b)) 4607182418800017408 = some t ∧ nan t = false ∧ val t = val b / Flt.U * Flt.U := by
    have hU := Ui_pos
    have hn' := hi.1
    have hf := inr_fin hi
    obtain ⟨v1, n1⟩ := val_i2f_tr hf
    rw [fgtr_iff, v1, n1, hn'] at h3
    simp only [Bool.not_false, Bool.true_and, decide_eq_true_eq] at h3
    have h4 : val b ≤ 0 ∧ (tr b - 1) * Flt.U < val b := by
      rcases tr_cases b with ⟨_, h5, _⟩ | ⟨h5, _, h6, _⟩
      · omega
      · exact ⟨h5, h6⟩
    -- below nought and no whole number: the whole part is small
    obtain ⟨r', r1, r2, r3, r4⟩ := i2f_tr hf
    have hlt : M (rung b) / Flt.U < 9007199254740992 := by
      rcases r4 with r4 | r4
      · exfalso
        rw [r4] at r2
        have e1 := natAbs_val b
        have e2 : tr b = -((M (rung b) / Flt.U : Nat) : Int) ∨ tr b = ((M (rung b) / Flt.U : Nat) : Int) := by unfold tr; split <;> simp
        have e3 : (M (rung b) : Int) = ((M (rung b) / Flt.U : Nat) : Int) * Flt.U := by exact_mod_cast r2
        generalize M (rung b) / Flt.U = q at e2 e3
        generalize hz : tr b * (Flt.U : Int) = z at h3 h4 ⊢
        have e4 : z = -(M (rung b) : Int) ∨ z = (M (rung b) : Int) := by
          rcases e2 with e2 | e2
          · left; rw [← hz, e2, Int.neg_mul, ← e3]
          · right; rw [← hz, e2, ← e3]
        rcases tr_cases b with ⟨q1, q2, _⟩ | ⟨q1, q2, q3, q4⟩
        · omega
        · have : z ≤ 0 := by rw [← hz]; exact Int.mul_nonpos_of_nonpos_of_nonneg (by omega) (Int.natCast_nonneg _)
          omega
      · exact r4
    have htr : tr b = -((M (rung b) / Flt.U : Nat) : Int) := by
      have e2 : tr b = -((M (rung b) / Flt.U : Nat) : Int) ∨ tr b = ((M (rung b) / Flt.U : Nat) : Int) := by unfold tr; split <;> simp
      generalize M (rung b) / Flt.U = q at e2 ⊢
      rcases tr_cases b with ⟨_, h5, _⟩ | ⟨_, _, _, h6⟩
      · omega
      · omega
    obtain ⟨r2', s1, s2⟩ := whole_rung (M (rung b) / Flt.U + 1) (by omega)
    have hfin : rung (i2f (tr b)) < infR := by
      rw [r3, rung_word _ _ (by unfold infR at r1; omega)]; exact r1
    have h1fin : rung 4607182418800017408 < infR := by decide
    have hd : val (i2f (tr b)) - val 4607182418800017408 = -(((M (rung b) / Flt.U + 1 : Nat) : Int) * Flt.U) := by
      rw [v1, val_one, htr]
      generalize M (rung b) / Flt.U = q
      push_cast
      rw [Int.add_mul, Int.neg_mul]; omega
    have hsub := sub_exact hfin h1fin (r := r2') (by omega) (by rw [hd, s2, Int.natAbs_neg, Int.natAbs_mul, Int.natAbs_natCast, Int.natAbs_natCast]) (by
      rw [hd]
      have : 0 < ((M (rung b) / Flt.U + 1 : Nat) : Int) * Flt.U := Int.mul_pos (by exact_mod_cast Nat.succ_pos _) hU
      generalize ((M (rung b) / Flt.U + 1 : Nat) : Int) * Flt.U = z at *
      omega)
    have hlt2 : r2' < 9223372036854775808 := by unfold infR at s1; omega
    refine ⟨_, hsub, ?_⟩
    refine ⟨nan_word _ _ (by omega), ?_⟩
    rw [val_word _ _ hlt2, hd, if_pos (by
      have : 0 < ((M (rung b) / Flt.U + 1 : Nat) : Int) * Flt.U := Int.mul_pos (by exact_mod_cast Nat.succ_pos _) hU
      simp only [decide_eq_true_eq]
      generalize ((M (rung b) / Flt.U + 1 : Nat) : Int) * Flt.U = z at *
      omega), s2]
    rw [floor_unique (q := tr b - 1) hU (by omega) (by rw [Int.sub_add_cancel]; exact h3)]
    rw [htr]
    generalize M (rung b) / Flt.U = q
    push_cast
    rw [Int.sub_mul, Int.add_mul, Int.neg_mul]; omega
theorem floor_keep {b : Nat} (hi : inr b) (h3 : ¬ fgtr (i2f (tr b)) b = true) : nan (i2f (tr b)) = false ∧ val (i2f (tr b)) = val b / Flt.U * Flt.U := by
    have hn' := hi.1
    have hf := inr_fin hi
    have hU := Ui_pos
    obtain ⟨v1, n1⟩ := val_i2f_tr hf
    refine ⟨n1, ?_⟩
    rw [fgtr_iff, v1, n1, hn'] at h3
    simp only [Bool.not_false, Bool.true_and, decide_eq_true_eq] at h3
    rw [v1, floor_unique (q := tr b) hU (by omega) ?_]
    rcases tr_cases b with ⟨_, _, h5, _⟩ | ⟨_, h5, _, _⟩
    · exact h5
    · rw [Int.add_mul]; omega

end Go.Proofs.IM
namespace Go.Proofs.Ytgfkbcmdegnneaa.IM
open Go Go.Proofs.IM Go.Proofs.Flt
set_option maxHeartbeats 8000000
set_option maxRecDepth 100000
theorem s_Trunc {b : Nat} {m : Mem} {K : AR → Mem → Prop} (hb : nan b = false) (h : K (.ret (.flt (ftrunc b))) m) : Sim Try.prog 38 [.flt b] m K := by
  refine entry (cxok []) Try.func38 rfl rfl (by decide) (by decide) ?_
  refine goh_ ?_
  rw [c_condT]
  refine goh_ ?_
  refine sim_one (a := .flt b) (r := .flt (ftrunc b)) ?_ fun E w x hx => by
    cases hx
    exact ⟨_, run_trunc Try.func48 (by decide) rfl (by kernel_rfl) (by kernel_rfl) b w (by rw [← hb]; exact fnan_eq b), .flt _⟩
  exact gox_
theorem s_l1nan {b : Nat} {m : Mem} {K : AR → Mem → Prop} (h : K (.ret (.bool (nan b))) m) : Sim Try.prog 28 [.flt b] m K := by
  refine entry (cxok []) Try.func28 rfl rfl (by decide) (by decide) ?_
  have e : fne b b = nan b := by rw [fne_iff, feq_self, Bool.not_not]
  exact gox_
theorem s_l1floor {b : Nat} {m : Mem} {K : AR → Mem → Prop} (h : ∀ t, (inr b → nan t = false ∧ val t = val b / Flt.U * Flt.U) → (¬ inr b → t = b) → K (.ret (.flt t)) m) : Sim Try.prog 29 [.flt b] m K := by
  refine entry (cxok []) Try.func29 rfl rfl (by decide) (by decide) ?_
  refine goh_ ?_
  refine s_l1nan ?_
  cases hn : nan b with
  | true => have h := h b (fun q => by rw [q.1] at hn; cases hn) (fun _ => rfl); exact gox_
  | false =>
    cases h0 : feq b 0 with
    | true =>
      have h := h b (fun q => ⟨hn, by rw [feq_iff, val_zero] at h0; simp [hn, nan_consts] at h0; rw [h0]; simp⟩) (fun _ => rfl)
      exact gox_
    | false =>
      cases h1 : fgeq b 4890909195324358656 with
      | true =>
        have h := h b (fun q => by
          rw [fgeq_iff, val_two63] at h1
          simp only [hn, nan_consts, Bool.not_false, Bool.true_and, decide_eq_true_eq] at h1
          exact absurd q.2.2 (by omega)) (fun _ => rfl)
        exact gox_
      | false =>
        have h1' : val b < ((K63 * Flt.U : Nat) : Int) := by
          rw [fgeq_iff, val_two63] at h1
          simp only [hn, nan_consts, Bool.not_false, Bool.true_and, decide_eq_false_iff_not] at h1
          omega
        cases h2 : fleq b 14114281232179134464 with
        | true =>
          have h := h b (fun q => by
            rw [fleq_iff, val_m63] at h2
            simp only [hn, nan_consts, Bool.not_false, Bool.true_and, decide_eq_true_eq] at h2
            refine ⟨hn, ?_⟩
            have e : val b = (-(K63 : Int)) * Flt.U := by have := q.2.1; rw [Int.neg_mul]; push_cast at *; omega
            rw [e, Int.mul_ediv_cancel _ (Int.ne_of_gt Ui_pos)]) (fun _ => rfl)
          exact gox_
        | false =>
          have hi : inr b := by
            rw [fleq_iff, val_m63] at h2
            simp only [hn, nan_consts, Bool.not_false, Bool.true_and, decide_eq_false_iff_not] at h2
            exact ⟨hn, by omega, h1'⟩
          obtain ⟨ok, ei⟩ := inr_f2i hi
          clear h1'
          cases h3 : fgtr (i2f (tr b)) b with
          | true =>
            obtain ⟨t, e1, e2⟩ := floor_sub hi h3
            have h := h t (fun _ => e2) (fun q => absurd hi q)
            clear hi e2
            exact gox_
          | false =>
            have h := h _ (fun _ => floor_keep hi (by rw [h3]; decide)) (fun q => absurd hi q)
            clear hi
            exact gox_
end Go.Proofs.Ytgfkbcmdegnneaa.IM
