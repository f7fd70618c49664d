/- Cut down from the texts of the same job by wip/shake.py to what this claim reaches. -/
import Derived.Test.YtdjlbfaiccdbfaaRows
import Derived.WalkKit
import Derived.ProofKit
import Derived.OpenShut
import Derived.ShutString
import Derived.ChangeOld
import Derived.Below
import Derived.SizedLaws
import Derived.Test.YtdjlbfaiccdbfaaKLGPureLength
namespace Go.Proofs.Ytdjlbfaiccdbfaa.fnExactLength
open Go.ChangeShapes Go.WideShapes Go.ChangeAt Go.RowKit Go.Proofs.YtdjlbfaiccdbfaaW.PrintWords Go.Proofs.Ytdjlbfaiccdbfaa.PAll Go.Proofs.Ytdjlbfaiccdbfaa.PureLength
set_option linter.unusedVariables false
set_option linter.unusedSimpArgs false
theorem own : ownKnob Try.prog.godebug = none := by kernel_rfl
theorem laidOut : laidOutB Try.prog = true := by kernel_rfl
theorem opens25 : Opens Try.prog 25 k25 Good25 := by
  intro H enc w base spare held fuel cs x h
  obtain ⟨ys, n, _, _, hlen, hyl, hf⟩ := DataW.trod_struct Try.underlying25 h
  obtain ⟨x0, h0, g0⟩ := field_opens hyl hf 0 _ rfl 1 (by kernel_rfl) (opens_i64 Try.underlying3)
  obtain ⟨x1, h1, g1⟩ := field_opens hyl hf 1 _ rfl 1 (by kernel_rfl) (opens_i64 Try.underlying2)
  obtain ⟨x2, h2, g2⟩ := field_opens hyl hf 2 _ rfl 1 (by kernel_rfl) (opens_flt Try.underlying23)
  obtain ⟨x3, h3, g3⟩ := field_opens hyl hf 3 _ rfl 1 (by kernel_rfl) (opens_string Try.underlying9)
  obtain ⟨x4, h4, g4⟩ := field_opens hyl hf 4 _ rfl 1 (by kernel_rfl) (opens_i64 Try.underlying3)
  exact ⟨⟨x0, x1, x2, x3, x4⟩, (pair_from (o := 0) (n := 1) h0 (pair_from (o := 1) (n := 1) h1 (pair_from (o := 2) (n := 1) h2 (pair_from (o := 3) (n := 1) h3 (last_from (o := 4) (n := 1) h4 (hlen.trans (by kernel_rfl))))))), ⟨g0, g1, g2, g3, g4⟩⟩
theorem opens96 : Opens Try.prog 96 k96 Good96 := by
  intro H enc w base spare held fuel cs x h
  obtain ⟨ys, n, _, _, hlen, hyl, hf⟩ := DataW.trod_struct Try.underlying96 h
  obtain ⟨x0, h0, g0⟩ := field_opens hyl hf 0 _ rfl 5 (by kernel_rfl) opens25
  obtain ⟨x1, h1, g1⟩ := field_opens hyl hf 1 _ rfl 5 (by kernel_rfl) opens25
  obtain ⟨x2, h2, g2⟩ := field_opens hyl hf 2 _ rfl 1 (by kernel_rfl) (opens_i64 Try.underlying3)
  exact ⟨⟨x0, x1, x2⟩, (pair_from (o := 0) (n := 5) h0 (pair_from (o := 5) (n := 5) h1 (last_from (o := 10) (n := 1) h2 (hlen.trans (by kernel_rfl))))), ⟨g0, g1, g2⟩⟩
theorem opens51 : Opens Try.prog 51 k51 Good51 := by
  intro H enc w base spare held fuel cs x h
  obtain ⟨ys, n, _, _, hlen, hyl, hf⟩ := DataW.trod_struct Try.underlying51 h
  obtain ⟨x0, h0, g0⟩ := field_opens hyl hf 0 _ rfl 1 (by kernel_rfl) (opens_slice Try.underlying49 opens96 (by kernel_rfl))
  obtain ⟨x1, h1, g1⟩ := field_opens hyl hf 1 _ rfl 1 (by kernel_rfl) (opens_i64 Try.underlying3)
  exact ⟨⟨x0, x1⟩, (pair_from (o := 0) (n := 1) h0 (last_from (o := 1) (n := 1) h1 (hlen.trans (by kernel_rfl)))), ⟨g0, g1⟩⟩
set_option maxRecDepth 100000 in
theorem lifted (os : Os) (started : os.Started) (H : Type) (enc : TypeId × Value → H) :
    ReturnsInHanded {} Try.checked os 13 .any (Rows.fnExactLengthSpec.pre6 enc Try.prog Try.f13 Rows.fnExactLengthRow.domain false) (Rows.fnExactLengthSpec.post enc Try.prog Try.f13 false true false false) := by
  refine returnsInHanded_of_change_sized (C := Try.checked) own started (by kernel_rfl) Try.func13
    (ChangeSpec.witness6 (enc := enc) (C := Try.checked) false ⟨#[], #[.agg #[.slice none 0 0, .int .i64 0]], []⟩ 8 (by kernel_rfl) (by kernel_rfl) (by kernel_rfl) (by kernel_rfl)) ?_
  intro W base args ds gs before hval0 hW hcnd hsz0 _
  have hval : ∀ (j : Nat) t v, Try.f13.params[j]? = some t → args[j]? = some v → Value.okWide Try.prog W .any base t v := hval0
  have hW' := hW
  obtain ⟨p, q, hA0, hV, rfl, hfz, hnd⟩ := hW
  have hA : DataW.TrodAll enc Try.prog W 0 (fun _ => true) true Try.f13.params.toList args.toList ds p := hA0
  rw [Try.params13] at hA hval
  obtain ⟨v0, vs0, d0, ds0, p0, q0, hargs, rfl, rfl, h0, r0⟩ := trodAll_cons hA
  obtain ⟨rfl, rfl, rfl⟩ := trodAll_nil r0
  obtain rfl : args = #[v0] := by cases args; simp_all
  obtain ⟨rfl, rfl⟩ := trodVars_none hV
  have k0 := h0
  have lt0 : ∀ x ∈ p0, x.block < W.heap.size := by obtain ⟨m, hm⟩ := k0; exact DataW.trod_lt m _ _ _ hm
  obtain ⟨cs0, rfl, _⟩ := okWide_struct Try.underlying51 (hval 0 51 v0 rfl rfl)
  obtain ⟨x0, K0, G0⟩ : ∃ x, k51.K W x cs0.toList ∧ Good51 x := by obtain ⟨m, hm⟩ := k0; exact opens51 hm
  obtain ⟨A0_0, c0_0, e0, l0_0, g0_0⟩ := k51_open K0
  obtain rfl : cs0 = #[.slice A0_0 x0.f0.length c0_0, .int .i64 x0.f1] := by obtain ⟨l⟩ := cs0; simp only at e0; rw [e0]
  have hp := pure x0 G0
  obtain ⟨k, hp⟩ := hp
  clear hA0 hval0 hsz0
  refine (laws_FnExactLength.calls k _ _ x0.f0 x0.f1 true W g0_0 l0_0 hp rfl).mono fun e W' ⟨he, bel0⟩ => ?_
  have bel : Below W.heap.size W W' := bel0
  subst he
  exact ⟨_, rfl, _, _, _, [], _, [], hW', trodAll_mk1 (shut_bool Try.underlying4 _), (trodAll_cons_mk (Below.trod laidOut (by kernel_rfl) (of_decide_eq_true (by kernel_rfl)) k0 bel lt0) trodAll_mk0), rfl, bel.frame _, fun h => by cases h⟩
theorem over : Rows.fnExactLengthRow.holds Try.pinned (OpenSpec.ofChange Rows.fnExactLengthSpec) :=
  OpenClaim.holds_of_wide 13 Try.f13 rfl rfl rfl rfl rfl rfl rfl ⟨rfl, rfl, rfl, rfl, rfl⟩ rfl rfl rfl rfl rfl (by kernel_rfl) Try.func13 (by kernel_rfl)
    (of_decide_eq_true (by kernel_rfl)) (by unfold Func.isWrapper; first | (rw [if_pos (by decide +kernel)]; kernel_rfl) | (rw [if_neg (by decide +kernel)]; exact ⟨rfl, rfl⟩))
    (fun os started H enc _ => lifted os started H enc)
theorem proved : Rows.FnExactLengthSaid := over
#print axioms proved
end Go.Proofs.Ytdjlbfaiccdbfaa.fnExactLength
namespace Go.Proofs.Ytdjlbfaiccdbfaa
theorem fnExactLength_holds : Rows.FnExactLengthSaid := fnExactLength.proved
end Go.Proofs.Ytdjlbfaiccdbfaa
