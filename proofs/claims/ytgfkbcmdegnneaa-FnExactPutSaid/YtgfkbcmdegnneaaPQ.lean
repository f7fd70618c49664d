/- The laws' row Put: for every table, key and value that read as data the call returns true, and they read behind it as they did. No condition. -/
import Derived.Test.YtgfkbcmdegnneaaPO
import Derived.Test.YtgfkbcmdegnneaaRows
import Derived.WalkKit
import Derived.ProofKit
import Derived.OpenShut
import Derived.ChangeOld
import Derived.Below
import Derived.SizedLaws
namespace Go.Proofs.Ytgfkbcmdegnneaa.fnExactPut
open Go Go.ChangeShapes Go.WideShapes Go.ChangeAt Go.RowKit Go.Proofs.IM Go.Proofs.Ytgfkbcmdegnneaa.IM
set_option maxRecDepth 100000
theorem own : ownKnob Try.prog.godebug = none := by kernel_rfl
theorem laidOut : laidOutB Try.prog = true := by kernel_rfl
theorem lifted (os : Os) (started : os.Started) (H : Type) (enc : TypeId × Value → H) :
    ReturnsInHanded {} Try.checked os 3 .any (Rows.fnExactPutSpec.pre6 enc Try.prog Try.f3 Rows.fnExactPutRow.domain false) (Rows.fnExactPutSpec.post enc Try.prog Try.f3 false true false false) := by
  refine returnsInHanded_of_change_sized (C := Try.checked) own started (by kernel_rfl) Try.func3
    (ChangeSpec.witness6 (enc := enc) (C := Try.checked) false ⟨#[], #[.agg #[.slice none 0 0, .int .i64 0], .agg #[.int .i64 0, .int .i64 0, .float .f64 0, .string ByteArray.empty, .int .i64 0], .agg #[.int .i64 0, .int .i64 0, .float .f64 0, .string ByteArray.empty, .int .i64 0]], []⟩ 8 (by kernel_rfl) (by kernel_rfl) (by kernel_rfl) (by kernel_rfl)) ?_
  intro W base args ds gs before hval0 hW hcnd hsz0 _
  have hval : ∀ (j : Nat) t v, Try.f3.params[j]? = some t → args[j]? = some v → Value.okWide Try.prog W .any base t v := hval0
  have hW' := hW
  obtain ⟨p, q, hA0, hV, rfl, hfz, hnd⟩ := hW
  have hA : DataW.TrodAll enc Try.prog W 0 (fun _ => true) true Try.f3.params.toList args.toList ds p := hA0
  rw [Try.params3] at hA hval
  obtain ⟨v0, v1, v2, d0, d1, d2, p0, p1, p2, rfl, rfl, rfl, h0, h1, h2⟩ := trodAll_three hA
  obtain ⟨rfl, rfl⟩ := trodVars_none hV
  obtain ⟨cs0, rfl, _⟩ := okWide_struct Try.underlying24 (hval 0 24 v0 rfl rfl)
  obtain ⟨cs1, rfl, _⟩ := okWide_struct Try.underlying27 (hval 1 27 v1 rfl rfl)
  obtain ⟨cs2, rfl, _⟩ := okWide_struct Try.underlying27 (hval 2 27 v2 rfl rfl)
  have lt0 : ∀ x ∈ p0, x.block < W.heap.size := by obtain ⟨m, hm⟩ := h0; exact DataW.trod_lt m _ _ _ hm
  have lt1 : ∀ x ∈ p1, x.block < W.heap.size := by obtain ⟨m, hm⟩ := h1; exact DataW.trod_lt m _ _ _ hm
  have lt2 : ∀ x ∈ p2, x.block < W.heap.size := by obtain ⟨m, hm⟩ := h2; exact DataW.trod_lt m _ _ _ hm
  obtain ⟨⟨ps, tn⟩, ⟨v, hcs, hR⟩, ⟨hgl, hgood⟩, -⟩ : ∃ x : List Pa × Int, (∃ v, cs0.toList = [v, .int .i64 x.2] ∧ RdSl 11 (fun _ p cs => cs = Pa.vals p) W x.1 v) ∧ (x.1.length ≤ 9223372036854775807 ∧ ∀ p ∈ x.1, p.good) ∧ i64 x.2 := by
    obtain ⟨m, hm⟩ := h0
    obtain ⟨-, x, h1, h2, -⟩ := oT.2 (show DataW.trod enc Try.prog W 0 (fun _ => true) true m 24 cs0.toList = some (d0, p0) from hm)
    exact ⟨x, h1, h2⟩
  simp only at hcs hR hgl hgood
  obtain ⟨x1, hc1, g1⟩ : ∃ x : V, cs1.toList = V.vals x ∧ x.good := by
    obtain ⟨m, hm⟩ := h1
    obtain ⟨-, x, h1, h2, -⟩ := oV.2 (show DataW.trod enc Try.prog W 0 (fun _ => true) true m 27 cs1.toList = some (d1, p1) from hm)
    exact ⟨x, h1, h2⟩
  obtain ⟨x2, hc2, g2⟩ : ∃ x : V, cs2.toList = V.vals x ∧ x.good := by
    obtain ⟨m, hm⟩ := h2
    obtain ⟨-, x, h1, h2, -⟩ := oV.2 (show DataW.trod enc Try.prog W 0 (fun _ => true) true m 27 cs2.toList = some (d2, p2) from hm)
    exact ⟨x, h1, h2⟩
  obtain rfl : cs0 = #[v, .int .i64 tn] := by obtain ⟨l⟩ := cs0; simp only at hcs; rw [hcs]
  obtain rfl : cs1 = ⟨V.vals x1⟩ := by obtain ⟨l⟩ := cs1; simp only at hc1; rw [hc1]
  obtain rfl : cs2 = ⟨V.vals x2⟩ := by obtain ⟨l⟩ := cs2; simp only at hc2; rw [hc2]
  obtain ⟨X, s, eX, kX⟩ := flat_slice Pa.hav hR []
  rw [List.nil_append] at eX kX
  have hrk := rOk_of W X (fun g => .raw (.pointer (some ⟨g, 0, none⟩)))
  obtain ⟨hvc, hps⟩ := kX _ _ hrk
  have hmr := mr_of eX (gl := fun g => .raw (.pointer (some ⟨g, 0, none⟩))) (fun g => .raw _)
  have hsim := s_FnExactPut (m := memOf X (fun g => .raw (.pointer (some ⟨g, 0, none⟩)))) (K := fun r _ => r = .ret (.bool true)) (tn := tn) (k := x1.k) (n := x1.n) (f := x1.f) (s := x1.s) (r := x1.r) (k' := x2.k) (n' := x2.n) (f' := x2.f) (s' := x2.s) (r' := x2.r) hps hgl (fun p hp => ⟨(hgood p hp).k.n, (hgood p hp).v.n, (hgood p hp).turn⟩) g1.n (fun _ _ => rfl)
  have vv : ∀ x : V, VR (envOf W X) noPl (.agg [.int .i64 x.k, .int .i64 x.n, .flt x.f, .str x.s, .int .i64 x.r]) (.agg ⟨V.vals x⟩) := fun x => .agg _ _ rfl fun i c y hc hy => by
    rcases i with _ | _ | _ | _ | _ | i <;> simp [V.vals] at hc hy <;> subst hc hy <;> constructor
  have hcall := hsim.calls Try.func3 (by decide) rfl hmr (xs := #[.agg #[v, .int .i64 tn], .agg ⟨V.vals x1⟩, .agg ⟨V.vals x2⟩]) ⟨rfl, fun i c x hc hx => by
    rcases i with _ | _ | _ | i
    · simp at hc hx
      subst hc hx
      exact .agg _ _ rfl fun i c x hc hx => by
        rcases i with _ | _ | i
        · simp at hc hx
          subst hc hx
          exact hvc.1
        · simp at hc hx
          subst hc hx
          constructor
        · simp at hc
    · simp at hc hx
      subst hc hx
      exact vv x1
    · simp at hc hx
      subst hc hx
      exact vv x2
    · simp at hc⟩
  clear hA0 hval0 hsz0
  refine hcall.mono fun e W' he => ?_
  obtain ⟨E', m', hle, hm', hsz, hfr, -, hres⟩ := he
  have bel : Below W.heap.size W W' := by
    have := hm'.bel
    rw [hle.base, hle.w0] at this
    exact this
  have hx : e = .returned (.bool true) := by
    rcases hres with ⟨r, x, rfl, hv, hr⟩ | ⟨v, -, hr⟩
    · cases hr
      cases hv
      rfl
    · cases hr
  subst hx
  exact ⟨_, rfl, _, _, _, [], _, [], hW', trodAll_mk1 (shut_bool Try.underlying4 _), trodAll_cons_mk (Below.trod laidOut (by kernel_rfl) (of_decide_eq_true (by kernel_rfl)) h0 bel lt0) (trodAll_cons_mk (Below.trod laidOut (by kernel_rfl) (of_decide_eq_true (by kernel_rfl)) h1 bel lt1) (trodAll_cons_mk (Below.trod laidOut (by kernel_rfl) (of_decide_eq_true (by kernel_rfl)) h2 bel lt2) trodAll_mk0)), rfl, bel.frame _, fun h => by cases h⟩
theorem over : Rows.fnExactPutRow.holds Try.pinned (OpenSpec.ofChange Rows.fnExactPutSpec) :=
  OpenClaim.holds_of_wide 3 Try.f3 rfl rfl rfl rfl rfl rfl rfl ⟨rfl, rfl, rfl, rfl, rfl⟩ rfl rfl rfl rfl rfl (by kernel_rfl) Try.func3 (by kernel_rfl)
    (of_decide_eq_true (by kernel_rfl)) (by unfold Func.isWrapper; first | (rw [if_pos (by decide +kernel)]; kernel_rfl) | (rw [if_neg (by decide +kernel)]; exact ⟨rfl, rfl⟩))
    (fun os started H enc _ => lifted os started H enc)
theorem proved : Rows.FnExactPutSaid := over
#print axioms proved
end Go.Proofs.Ytgfkbcmdegnneaa.fnExactPut
namespace Go.Proofs.Ytgfkbcmdegnneaa
theorem fnExactPut_holds : Rows.FnExactPutSaid := fnExactPut.proved
end Go.Proofs.Ytgfkbcmdegnneaa
