/- The row of the law FnExactInputOk: for every input that reads as data the call returns true, and the input reads behind it as it did. No condition. -/
import Derived.Test.YtdjlbfaiccdbfaaRows
import Derived.Test.YtdjlbfaiccdbfaaPureInputOk
import Derived.WalkKit
import Derived.ProofKit
import Derived.OpenShut
import Derived.ShutString
import Derived.ChangeOld
import Derived.Below
import Derived.SizedLaws
namespace Go.Proofs.Ytdjlbfaiccdbfaa.fnExactInputOk
open Go.ChangeShapes Go.WideShapes Go.ChangeAt Go.RowKit Go.Proofs.YtdjlbfaiccdbfaaW.PrintWords Go.Proofs.Ytdjlbfaiccdbfaa.PAll Go.Proofs.Ytdjlbfaiccdbfaa.PureInputOk
set_option linter.unusedVariables false
set_option linter.unusedSimpArgs false
theorem own : ownKnob Try.prog.godebug = none := by kernel_rfl
theorem laidOut : laidOutB Try.prog = true := by kernel_rfl
theorem opens33 : Opens Try.prog 33 k33 Good33 := by
  intro H enc w base spare held fuel cs x h
  obtain ⟨ys, n, _, _, hlen, hyl, hf⟩ := DataW.trod_struct Try.underlying33 h
  obtain ⟨x0, h0, g0⟩ := field_opens hyl hf 0 _ rfl 1 (by kernel_rfl) (opens_slice Try.underlying31 (opens_string Try.underlying9) (by kernel_rfl))
  obtain ⟨x1, h1, g1⟩ := field_opens hyl hf 1 _ rfl 1 (by kernel_rfl) (opens_slice Try.underlying31 (opens_string Try.underlying9) (by kernel_rfl))
  obtain ⟨x2, h2, g2⟩ := field_opens hyl hf 2 _ rfl 1 (by kernel_rfl) (opens_i64 Try.underlying3)
  obtain ⟨x3, h3, g3⟩ := field_opens hyl hf 3 _ rfl 1 (by kernel_rfl) (opens_i64 Try.underlying3)
  obtain ⟨x4, h4, g4⟩ := field_opens hyl hf 4 _ rfl 1 (by kernel_rfl) (opens_i64 Try.underlying3)
  exact ⟨⟨x0, x1, x2, x3, x4⟩, (pair_from (o := 0) (n := 1) h0 (pair_from (o := 1) (n := 1) h1 (pair_from (o := 2) (n := 1) h2 (pair_from (o := 3) (n := 1) h3 (last_from (o := 4) (n := 1) h4 (hlen.trans (by kernel_rfl))))))), ⟨g0, g1, g2, g3, g4⟩⟩
set_option maxRecDepth 100000 in
theorem lifted (os : Os) (started : os.Started) (H : Type) (enc : TypeId × Value → H) :
    ReturnsInHanded {} Try.checked os 6 .any (Rows.fnExactInputOkSpec.pre6 enc Try.prog Try.f6 Rows.fnExactInputOkRow.domain false) (Rows.fnExactInputOkSpec.post enc Try.prog Try.f6 false true false false) := by
  refine returnsInHanded_of_change_sized (C := Try.checked) own started (by kernel_rfl) Try.func6
    (ChangeSpec.witness6 (enc := enc) (C := Try.checked) false ⟨#[], #[.agg #[.slice none 0 0, .slice none 0 0, .int .i64 0, .int .i64 0, .int .i64 0]], []⟩ 8 (by kernel_rfl) (by kernel_rfl) (by kernel_rfl) (by kernel_rfl)) ?_
  intro W base args ds gs before hval0 hW hcnd hsz0 _
  have hval : ∀ (j : Nat) t v, Try.f6.params[j]? = some t → args[j]? = some v → Value.okWide Try.prog W .any base t v := hval0
  have hW' := hW
  obtain ⟨p, q, hA0, hV, rfl, hfz, hnd⟩ := hW
  have hA : DataW.TrodAll enc Try.prog W 0 (fun _ => true) true Try.f6.params.toList args.toList ds p := hA0
  rw [Try.params6] at hA hval
  obtain ⟨v0, vs0, d0, ds0, p0, q0, hargs, rfl, rfl, h0, r0⟩ := trodAll_cons hA
  obtain ⟨rfl, rfl, rfl⟩ := trodAll_nil r0
  obtain rfl : args = #[v0] := by cases args; simp_all
  obtain ⟨rfl, rfl⟩ := trodVars_none hV
  have k0 := h0
  have lt0 : ∀ x ∈ p0, x.block < W.heap.size := by obtain ⟨m, hm⟩ := k0; exact DataW.trod_lt m _ _ _ hm
  obtain ⟨cs0, rfl, _⟩ := okWide_struct Try.underlying33 (hval 0 33 v0 rfl rfl)
  obtain ⟨x0, K0, G0⟩ : ∃ x, k33.K W x cs0.toList ∧ Good33 x := by obtain ⟨m, hm⟩ := k0; exact opens33 hm
  obtain ⟨A0_0, c0_0, A0_1, c0_1, e0, l0_0, g0_0, l0_1, g0_1⟩ := k33_open K0
  obtain rfl : cs0 = #[.slice A0_0 x0.f0.length c0_0, .slice A0_1 x0.f1.length c0_1, .int .i64 x0.f2, .int .i64 x0.f3, .int .i64 x0.f4] := by obtain ⟨l⟩ := cs0; simp only at e0; rw [e0]
  have hp := pure x0 G0
  obtain ⟨k, hp⟩ := hp
  clear hA0 hval0 hsz0
  refine (laws_FnExactInputOk.calls k _ _ x0.f0 _ _ x0.f1 x0.f2 x0.f3 x0.f4 true W g0_0 l0_0 g0_1 l0_1 hp rfl).mono fun e W' ⟨he, bel0⟩ => ?_
  have bel : Below W.heap.size W W' := bel0
  subst he
  exact ⟨_, rfl, _, _, _, [], _, [], hW', trodAll_mk1 (shut_bool Try.underlying4 _), (trodAll_cons_mk (Below.trod laidOut (by kernel_rfl) (of_decide_eq_true (by kernel_rfl)) k0 bel lt0) trodAll_mk0), rfl, bel.frame _, fun h => by cases h⟩
theorem over : Rows.fnExactInputOkRow.holds Try.pinned (OpenSpec.ofChange Rows.fnExactInputOkSpec) :=
  OpenClaim.holds_of_wide 6 Try.f6 rfl rfl rfl rfl rfl rfl rfl ⟨rfl, rfl, rfl, rfl, rfl⟩ rfl rfl rfl rfl rfl (by kernel_rfl) Try.func6 (by kernel_rfl)
    (of_decide_eq_true (by kernel_rfl)) (by unfold Func.isWrapper; first | (rw [if_pos (by decide +kernel)]; kernel_rfl) | (rw [if_neg (by decide +kernel)]; exact ⟨rfl, rfl⟩))
    (fun os started H enc _ => lifted os started H enc)
theorem proved : Rows.FnExactInputOkSaid := over
#print axioms proved
end Go.Proofs.Ytdjlbfaiccdbfaa.fnExactInputOk
namespace Go.Proofs.Ytdjlbfaiccdbfaa
/-- The row, under a short name, for the claim. -/
theorem fnExactInputOk_holds : Rows.FnExactInputOkSaid := fnExactInputOk.proved
end Go.Proofs.Ytdjlbfaiccdbfaa
