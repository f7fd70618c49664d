/- The laws' row Binary: for every operator and two values that read as data, with the library's tables laid as the program lays them, the call returns true, and what lay ahead of it reads behind it as it did. Tied to the program's text by the given tie. No other condition. -/
import Derived.Test.YtdonkjepjobhnaaDoorQH
import Derived.Test.YtdonkjepjobhnaaDoorQG
import Derived.Test.YtdonkjepjobhnaaDoorRows
import Derived.Test.YtdonkjepjobhnaaDoorTie
import Derived.Test.YtdonkjepjobhnaaDoorCards
import Derived.WalkKit
import Derived.ProofKit
import Derived.OpenShut
import Derived.ChangeOld
import Derived.ChangeVars
import Derived.Below
import Derived.SizedLaws
import Derived.LaidMore
import Derived.LaidHandle
import Derived.MakeChecks
import Derived.SevenTiedAt
set_option linter.unusedSimpArgs false
set_option linter.unusedVariables false
namespace Go.Proofs.YtdonkjepjobhnaaDoor.fnExactBinary
open Go Go.ChangeShapes Go.WideShapes Go.ChangeAt Go.RowKit Go.Proofs.IM Go.Proofs.YtdonkjepjobhnaaDoor.IM
set_option maxRecDepth 100000
theorem own : ownKnob Tryd.prog.godebug = none := by kernel_rfl
theorem laidOut : laidOutB Tryd.prog = true := by kernel_rfl
abbrev laid : List (String × DataW Unit) := Rows.fnExactBinaryRow.laid
theorem door_met (os : Os) (args : Array Value) : laidMetH Tryd.prog laid ((World.doorLaid Tryd.prog 95 os).forCall (fun _ _ => 0) ⟨#[], args, []⟩).memory :=
  laidMetH_of_parts3 (fuel := 8) (laidMet_of_run' 8 (by kernel_rfl) (by kernel_rfl)) (by kernel_rfl) (by kernel_rfl)
/-- What the condition gives: the table of powers of ten. -/
theorem of_laid {W : World} (h : laidMetH Tryd.prog laid W) : Lib.TabIs Tryd.prog W "internal/strconv.uint64pow10" .u64 Lib.pow10Tab := by
  rw [MakeChecks.laidMetH_plain _ _ _ (by kernel_rfl)] at h
  obtain ⟨ps, ⟨g0, t0, cs0, f0, p0, q0, _, _, _, _, ⟨g1, t1, cs1, f1, p1, q1, _, _, _, _, ⟨g2, t2, cs2, f2, p2, q2, hg2, ht2, hv2, hd2, _, _⟩, _⟩, _⟩, _, _⟩ := h
  exact tab10_of (by kernel_rfl) hg2 ht2 hv2 hd2
theorem lifted (os : Os) (started : os.Started) (H : Type) (enc : TypeId × Value → H) :
    ReturnsInHanded {} Tryd.checked os 6 .any (fun w args => (Rows.fnExactBinarySpec.pre enc Tryd.prog Tryd.f6 Rows.fnExactBinaryRow.domain false w args ∧ laidMetH Tryd.prog laid w) ∧ sizedMet enc Tryd.prog Tryd.f6 (OpenSpec.ofChange Rows.fnExactBinarySpec) false w args)
      (Rows.fnExactBinarySpec.post enc Tryd.prog Tryd.f6 false true false false) := by
  refine returnsInHanded_of_change_and (C := Tryd.checked) (X := fun w _ => laidMetH Tryd.prog laid w) (fun _ _ _ hh h => h.of_heap hh) own started (by kernel_rfl) Tryd.func6
    (ChangeSpec.witness_shaped (enc := enc) (C := Tryd.checked) (os := os) (X := fun w _ => laidMetH Tryd.prog laid w) false (World.doorLaid Tryd.prog 95 os) #[.int .i64 0, .agg #[.int .i64 0, .int .i64 0, .float .f64 0, .string ByteArray.empty, .int .i64 0], .agg #[.int .i64 0, .int .i64 0, .float .f64 0, .string ByteArray.empty, .int .i64 0]] 8 rfl (World.shaped_of_RefB (by kernel_rfl) (by kernel_rfl)) (by kernel_rfl) (by kernel_rfl) (by kernel_rfl) (door_met os _)) ?_
  intro W base args ds gs before hval0 hW _ _ hL _
  have hval : ∀ (j : Nat) t v, Tryd.f6.params[j]? = some t → args[j]? = some v → Value.okWide Tryd.prog W .any base t v := hval0
  have hW' := hW
  obtain ⟨p, q, hA0, hV0, rfl, hfz, hnd⟩ := hW
  obtain ⟨rfl, rfl⟩ := trodVars_none hV0
  have hA : DataW.TrodAll enc Tryd.prog W 0 (fun _ => true) true Tryd.f6.params.toList args.toList ds p := hA0
  rw [Tryd.params6] at hA hval
  obtain ⟨v0, v1, v2, d0, d1, d2, p0, p1, p2, rfl, rfl, rfl, h0, h1, h2⟩ := trodAll_three hA
  obtain ⟨op, rfl⟩ := okWide_int Tryd.underlying3 (hval 0 3 v0 rfl rfl)
  obtain ⟨cs1, rfl, _⟩ := okWide_struct Tryd.underlying35 (hval 1 35 v1 rfl rfl)
  obtain ⟨cs2, rfl, _⟩ := okWide_struct Tryd.underlying35 (hval 2 35 v2 rfl rfl)
  have lt0 : ∀ x ∈ p0, x.block < W.heap.size := by obtain ⟨m, hm⟩ := h0; exact DataW.trod_lt m _ _ _ hm
  have lt1 : ∀ x ∈ p1, x.block < W.heap.size := by obtain ⟨m, hm⟩ := h1; exact DataW.trod_lt m _ _ _ hm
  have lt2 : ∀ x ∈ p2, x.block < W.heap.size := by obtain ⟨m, hm⟩ := h2; exact DataW.trod_lt m _ _ _ hm
  obtain ⟨x1, hc1, g1⟩ : ∃ x : V, cs1.toList = V.vals x ∧ x.good := by
    obtain ⟨m, hm⟩ := h1
    obtain ⟨-, x, h1, h2, -⟩ := oV.2 (show DataW.trod enc Tryd.prog W 0 (fun _ => true) true m 35 cs1.toList = some (d1, p1) from hm)
    exact ⟨x, h1, h2⟩
  obtain ⟨x2, hc2, g2⟩ : ∃ x : V, cs2.toList = V.vals x ∧ x.good := by
    obtain ⟨m, hm⟩ := h2
    obtain ⟨-, x, h1, h2, -⟩ := oV.2 (show DataW.trod enc Tryd.prog W 0 (fun _ => true) true m 35 cs2.toList = some (d2, p2) from hm)
    exact ⟨x, h1, h2⟩
  obtain rfl : cs1 = ⟨V.vals x1⟩ := by obtain ⟨l⟩ := cs1; simp only at hc1; rw [hc1]
  obtain rfl : cs2 = ⟨V.vals x2⟩ := by obtain ⟨l⟩ := cs2; simp only at hc2; rw [hc2]
  have htab := of_laid hL
  have hlt := var_lt g10 htab
  have eX : EntOk W [(4, 0, ⟨[], 1⟩)] [(4, 0, ⟨[], 1⟩)] := ent_there hlt 1
  have hmr := mr_of2 eX (gl := fun g => if g = 4 then .ptr (.ro 0) 0 0 else .raw (.pointer (some ⟨g, 0, none⟩))) (fun g => by
    by_cases e : g = 4
    · subst e
      have := VR.ptr (E := envOf W [(4, 0, ⟨[], 1⟩)]) (L := noPl) (.ro 0) 0 0 (4, 0, 1) rfl
      simpa [adr] using this
    · simp only [if_neg e]; exact .raw _) (fact := fun w => Lib.TabIs Tryd.prog w "internal/strconv.uint64pow10" .u64 Lib.pow10Tab) htab
  have hsim := s_FnExactBinary (m := memOf2 [(4, 0, ⟨[], 1⟩)] (fun g => if g = 4 then .ptr (.ro 0) 0 0 else .raw (.pointer (some ⟨g, 0, none⟩))) (fun w => Lib.TabIs Tryd.prog w "internal/strconv.uint64pow10" .u64 Lib.pow10Tab)) (K := fun r _ => r = .ret (.bool true)) (op := op) (k := x1.k) (n := x1.n) (f := x1.f) (s := x1.s) (r := x1.r) (k' := x2.k) (n' := x2.n) (f' := x2.f) (s' := x2.s) (r' := x2.r) ⟨⟨0, _, rfl, rfl⟩, fun _ h => h⟩ g1.n g2.n g1.f g2.f rfl
  have vv : ∀ x : V, VR (envOf W [(4, 0, ⟨[], 1⟩)]) noPl (.agg [.int .i64 x.k, .int .i64 x.n, .flt x.f, .str x.s, .int .i64 x.r]) (.agg ⟨V.vals x⟩) := fun x => .agg _ _ rfl fun i c y hc hy => by
    rcases i with _ | _ | _ | _ | _ | i <;> simp [V.vals] at hc hy <;> subst hc hy <;> constructor
  have hcall := hsim.calls Tryd.func6 (by decide) rfl hmr (xs := #[.int .i64 op, .agg ⟨V.vals x1⟩, .agg ⟨V.vals x2⟩]) ⟨rfl, fun i c x hc hx => by
    rcases i with _ | _ | _ | i
    · simp at hc hx
      subst hc hx
      constructor
    · simp at hc hx
      subst hc hx
      exact vv x1
    · simp at hc hx
      subst hc hx
      exact vv x2
    · simp at hc⟩
  clear hA0 hval0 hL
  refine hcall.mono fun e W' he => ?_
  obtain ⟨E', m', hle, hm', hsz, hfr, -, hres⟩ := he
  have bel : Below W.heap.size W W' := by
    have := hm'.bel
    rw [hle.base, hle.w0] at this
    exact this
  have hx : e = .returned (.bool true) := by
    rcases hres with ⟨r, x, rfl, hv, hr⟩ | ⟨v, -, hr⟩
    · cases hr
      cases hv
      rfl
    · cases hr
  subst hx
  exact ⟨_, rfl, _, _, _, [], _, [], hW', trodAll_mk1 (shut_bool Tryd.underlying4 _), trodAll_cons_mk (Below.trod laidOut (by kernel_rfl) (of_decide_eq_true (by kernel_rfl)) h0 bel lt0) (trodAll_cons_mk (Below.trod laidOut (by kernel_rfl) (of_decide_eq_true (by kernel_rfl)) h1 bel lt1) (trodAll_cons_mk (Below.trod laidOut (by kernel_rfl) (of_decide_eq_true (by kernel_rfl)) h2 bel lt2) trodAll_mk0)), rfl, bel.frame _, fun h => by cases h⟩
theorem over : Rows.fnExactBinaryRow.holds Tryd.pinned (OpenSpec.ofChange Rows.fnExactBinarySpec) :=
  OpenClaim.holds_of_wide 6 Tryd.f6 rfl rfl rfl rfl rfl rfl rfl ⟨rfl, rfl, rfl, rfl, rfl⟩ rfl rfl rfl rfl rfl (by kernel_rfl) Tryd.func6 (by kernel_rfl)
    (of_decide_eq_true (by kernel_rfl)) (by unfold Func.isWrapper; first | (rw [if_pos (by decide +kernel)]; kernel_rfl) | (rw [if_neg (by decide +kernel)]; exact ⟨rfl, rfl⟩))
    (fun os started H enc _ => lifted os started H enc)
theorem card : Rows.FnExactBinaryCardSaid :=
  Claim7.holds_tied_plain_at .later [] [.data, .data, .data] true (true, "e40f8c54fe192a8726cc8ac02fc1ac2037f7c6b50416461a18b31407e1c9e8fb") true
    over (fun _ h => by cases h) (by kernel_rfl) (fun _ h => by cases h) fnExactBinary_row_tie rfl ⟨rfl, rfl⟩ (by kernel_rfl) rfl
    (fun f fn hf hfn => by
      obtain rfl : f = 6 := Option.some.inj ((show Tryd.prog.funcNamed "loop.example/punch/laws.FnExactBinary" = some 6 by kernel_rfl).symm.trans hf) |>.symm
      obtain rfl : fn = Tryd.f6 := (Option.some.inj (Tryd.func6.symm.trans hfn)).symm
      exact ⟨by kernel_rfl, fun j t ht => by
        rw [Tryd.params6] at ht
        have hm : t ∈ [3, 35, 35] := by simpa using Array.mem_of_getElem? ht
        have hall : ([3, 35, 35].all fun u => !Tryd.prog.wantsStandIn u) = true := by kernel_rfl
        exact (show Tryd.prog.wantsStandIn t = false by simpa using List.all_eq_true.1 hall t hm)⟩)
    (by kernel_rfl)
end Go.Proofs.YtdonkjepjobhnaaDoor.fnExactBinary
namespace Go.Proofs.YtdonkjepjobhnaaDoor
theorem fnExactBinary_holds : Rows.FnExactBinaryCardSaid := fnExactBinary.card
end Go.Proofs.YtdonkjepjobhnaaDoor
