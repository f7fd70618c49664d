/- Signs of floats; the constants of a proto, the other way. -/
import Derived.Test.YtdonkjepjobhnaaDoorJE
import Derived.Laws.Externs
namespace Go.Proofs.IM
open Go Go.RowKit
section
variable {P : Program} {f : FuncId} {fn : Func}
theorem run_bits (hf : P.funcs[f]? = some fn) (hname : (fn.name == "runtime.NumGoroutine") = false) (hb : fn.body.isNone = true) (hn : Extern.findNext fn = none) (he : Extern.find fn = some Extern.MathFloatBits.float64bits) (b : Nat) (w : World) :
    (callFunc f #[.float .f64 b]).run P w = .ok (.value (.int .u64 (b : Int))) w := by
  rw [run_callFunc_extern hf hname hb hn he]; rfl
theorem run_frombits (hf : P.funcs[f]? = some fn) (hname : (fn.name == "runtime.NumGoroutine") = false) (hb : fn.body.isNone = true) (hn : Extern.findNext fn = none) (he : Extern.find fn = some Extern.MathFloatBits.float64frombits) (b : Int) (w : World) :
    (callFunc f #[.int .u64 b]).run P w = .ok (.value (.float .f64 b.toNat)) w := by
  rw [run_callFunc_extern hf hname hb hn he]; rfl
/-- One argument, one value that the model gives. -/
theorem sim_one {a r : AV} {m : Mem} {K : AR → Mem → Prop} (h : K (.ret r) m) (hr : ∀ (E : Env) (w : World) (x : Value), VR E noPl a x → ∃ y, (callFunc f #[x]).run P w = .ok (.value y) w ∧ VR E noPl r y) : Sim P f [a] m K := by
  intro E w xs hm hx
  refine .inr ?_
  obtain ⟨h1, h2⟩ := hx
  have hz : xs.size = 1 := by simpa using h1.symm
  have e : xs = #[xs[0]'(by omega)] := by
    apply Array.ext
    · simpa using hz
    · intro i hi hi'
      have : i = 0 := by simp at hi'; omega
      subst this; rfl
  obtain ⟨y, hy, hv⟩ := hr E w _ (h2 0 a (xs[0]'(by omega)) rfl (by rw [Array.getElem?_eq_getElem]))
  rw [← e] at hy
  exact ⟨r, y, hy, hv, h⟩
end
theorem vok_flt {k n r : Int} {f : Nat} {s : ByteArray} (h : vok ⟨k, n, f, s, r⟩ = true) (h3 : k ≠ 3) : feq f 0 = true := by
  simp only [vok, zok] at h
  grind
theorem w64_neg (f : Nat) : decide (w64 (f : Int) < 0) = Flt.neg f := by
  have h1 : (IntKind.i64).bits = 64 := rfl
  simp only [w64, IntKind.wrap, Flt.neg]
  simp [h1, IntKind.signed]
  rw [Bool.eq_iff_iff]
  simp
  split <;> omega
end Go.Proofs.IM
namespace Go.Proofs.YtdonkjepjobhnaaDoor.IM
open Go Go.Proofs.IM Go.Proofs.Flt
set_option maxHeartbeats 8000000
theorem s_bits {b : Nat} {m : Mem} {K : AR → Mem → Prop} (h : K (.ret (.int .u64 b)) m) : Sim Tryd.prog 120 [.flt b] m K :=
  sim_one h fun E w x hx => by
    cases hx
    exact ⟨_, run_bits Tryd.func120 (by decide) rfl (by kernel_rfl) (by kernel_rfl) b w, .int _ _⟩
theorem s_Signbit {b : Nat} {m : Mem} {K : AR → Mem → Prop} (h : K (.ret (.bool (neg b))) m) : Sim Tryd.prog 118 [.flt b] m K := by
  refine entry (cxok []) Tryd.func118 rfl rfl (by decide) (by decide) ?_
  refine goh_ ?_
  refine s_bits ?_
  rw [← w64_neg] at h
  exact gox_
theorem s_constOk {k n r : Int} {f : Nat} {s : ByteArray} {m : Mem} {K : AR → Mem → Prop} (h : K (.ret (.bool (cok ⟨k, n, f, s, r⟩))) m) :
    Sim Tryd.prog 56 [.agg [.int .i64 k, .int .i64 n, .flt f, .str s, .int .i64 r]] m K := by
  refine entry (cxok []) Tryd.func56 rfl rfl (by decide) (by decide) ?_
  have hne : vok ⟨k, n, f, s, r⟩ = true → k ≠ 3 → feq f 0 = true := vok_flt
  have e := feq_self f
  have e2 : fne f f = nan f := by rw [fne_iff, feq_self, Bool.not_not]
  simp only [cok] at h
  refine go_ ?_
  refine s_implValueOk ?_
  revert h hne; generalize vok _ = z; intro hne h
  cases z with
  | false => simp only [Bool.false_and] at h; exact gox_
  | true =>
    by_cases h3 : k = 3
    · subst h3
      have g3 : ((3 : Int) != 3) = false := by decide
      refine goh_ ?_
      grind
    · have hf := hne rfl h3
      have g3 : (k == 3) = false := by simpa using h3
      have g3' : (k != 3) = true := by simpa using h3
      refine goh_ ?_
      by_cases h5 : k = 5
      · grind
      by_cases h6 : k = 6
      · grind
      by_cases h7 : k = 7
      · grind
      refine ⟨fun q5 => ?_, fun q => by simp at q; omega⟩
      refine ⟨fun q6 => ?_, fun q => by simp at q; omega⟩
      refine ⟨fun q7 => ?_, fun q => by simp at q; omega⟩
      refine s_Signbit ?_
      refine goh_ ?_
      grind
end Go.Proofs.YtdonkjepjobhnaaDoor.IM
