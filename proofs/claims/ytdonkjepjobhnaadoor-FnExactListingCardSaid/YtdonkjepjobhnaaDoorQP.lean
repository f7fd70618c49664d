/- Walks and laws, joined into one text. -/
import Derived.Test.YtdonkjepjobhnaaDoorRows
import Derived.LaidMore
import Derived.LaidHandle
import Derived.KernelRfl
import Derived.Test.YtdonkjepjobhnaaDoorQO
import Derived.Test.YtdonkjepjobhnaaDoorQN
import Derived.Test.YtdonkjepjobhnaaDoorTie
import Derived.Test.YtdonkjepjobhnaaDoorCards
import Derived.WalkKit
import Derived.ProofKit
import Derived.OpenShut
import Derived.ChangeOld
import Derived.ChangeVars
import Derived.Below
import Derived.SizedLaws
import Derived.MakeChecks
import Derived.SevenTiedAt
set_option linter.unusedSimpArgs false
set_option linter.unusedVariables false
set_option linter.unnecessarySimpa false
namespace Go.Proofs.IM
open Go
/-- No number comes twice, nor is in the set acc. -/
def onceB : List Nat → Nat → Bool
  | [], _ => true
  | k :: ks, acc => !(acc.testBit k) && onceB ks (acc ||| 1 <<< k)
theorem onceB_ok : ∀ (ks : List Nat) (acc : Nat), onceB ks acc = true → ks.Nodup ∧ ∀ k ∈ ks, acc.testBit k = false
  | [], _, _ => ⟨List.nodup_nil, fun k hk => by cases hk⟩
  | k :: ks, acc, h => by
    simp only [onceB, Bool.and_eq_true, Bool.not_eq_true'] at h
    obtain ⟨h1, h2⟩ := onceB_ok ks _ h.2
    have h3 : ∀ j ∈ ks, acc.testBit j = false ∧ j ≠ k := fun j hj => by
      have := h2 j hj
      rw [Nat.testBit_or, Nat.one_shiftLeft, Nat.testBit_two_pow, Bool.or_eq_false_iff, decide_eq_false_iff_not] at this
      exact ⟨this.1, fun e => this.2 e.symm⟩
    refine ⟨List.nodup_cons.2 ⟨fun hk => (h3 k hk).2 rfl, h1⟩, fun j hj => ?_⟩
    rcases List.mem_cons.1 hj with rfl | hj
    · exact h.1
    · exact (h3 j hj).1
def placeKey : MemPlace → Nat
  | .cell b off => 2 * (b * 1024 + off)
  | .map b => 2 * b + 1
/-- The places are cells of short rows. -/
def placeOk : MemPlace → Bool
  | .cell _ off => decide (off < 1024)
  | .map _ => true
theorem placeKey_inj {a b : MemPlace} (ha : placeOk a = true) (hb : placeOk b = true) (h : placeKey a = placeKey b) : a = b := by
  cases a <;> cases b <;> simp only [placeKey, placeOk, decide_eq_true_eq] at ha hb h
  · rename_i b o b' o'
    have h1 : b = b' := by omega
    subst h1
    have h2 : o = o' := by omega
    rw [h2]
  · omega
  · omega
  · rename_i b b'
    have : b = b' := by omega
    rw [this]
def placesB (ps : List MemPlace) : Bool := ps.all placeOk && onceB (ps.map placeKey) 0
theorem placesB_ok {ps : List MemPlace} (h : placesB ps = true) : ps.Nodup := by
  simp only [placesB, Bool.and_eq_true] at h
  obtain ⟨h1, h2⟩ := h
  have h3 := (onceB_ok _ _ h2).1
  clear h2
  induction ps with
  | nil => exact List.nodup_nil
  | cons p ps ih =>
    simp only [List.all_cons, Bool.and_eq_true] at h1
    rw [List.map_cons, List.nodup_cons] at h3
    refine List.nodup_cons.2 ⟨fun hp => h3.1 (List.mem_map_of_mem hp), ih h1.2 h3.2⟩
theorem laidMet_quick {P : Program} {w : World} {l : List (String × DataW Unit)} (fuel : Nat) (h : (DataW.laidRun P w fuel (l.map (·.1))).map (·.1) = some l)
    (hr : (DataW.laidRun P w fuel (l.map (·.1))).map (fun x => placesB x.2 && laidRowsB P w x.2) = some true) : laidMet P l w := by
  cases hx : DataW.laidRun P w fuel (l.map (·.1)) with
  | none => simp [hx] at h
  | some x =>
    obtain ⟨l', ps⟩ := x
    simp only [hx, Option.map_some, Option.some.injEq] at h hr
    subst h
    simp only [Bool.and_eq_true] at hr
    exact laidMet_of_run fuel hx (decide_eq_true (placesB_ok hr.1)) hr.2
end Go.Proofs.IM
namespace Go.Proofs.YtdonkjepjobhnaaDoor.IM
open Go Go.Proofs.IM
set_option maxRecDepth 100000
theorem door_run (os : Os) (args : Array Value) : (DataW.laidRun Tryd.prog ((World.doorLaid Tryd.prog 95 os).forCall (fun _ _ => 0) ⟨#[], args, []⟩).memory 8 (Rows.fnExactListingRow.laid.map (·.1))).map (·.1) = some Rows.fnExactListingRow.laid := by kernel_rfl
theorem door_places (os : Os) (args : Array Value) : (DataW.laidRun Tryd.prog ((World.doorLaid Tryd.prog 95 os).forCall (fun _ _ => 0) ⟨#[], args, []⟩).memory 8 (Rows.fnExactListingRow.laid.map (·.1))).map (fun x => placesB x.2 && laidRowsB Tryd.prog ((World.doorLaid Tryd.prog 95 os).forCall (fun _ _ => 0) ⟨#[], args, []⟩).memory x.2) = some true := by kernel_rfl
end Go.Proofs.YtdonkjepjobhnaaDoor.IM
namespace Go.Proofs.YtdonkjepjobhnaaDoor.fnExactListing
open Go Go.ChangeShapes Go.WideShapes Go.ChangeAt Go.RowKit Go.Proofs.IM Go.Proofs.YtdonkjepjobhnaaDoor.IM
set_option maxRecDepth 100000
theorem own : ownKnob Tryd.prog.godebug = none := by kernel_rfl
theorem laidOut : laidOutB Tryd.prog = true := by kernel_rfl
theorem gForms : Tryd.prog.globalNamed "loop.example/punch/impl.forms" = some 0 := by kernel_rfl
theorem tForms : (Tryd.prog.globals[0]?).map (·.type) = some 161 := by kernel_rfl
abbrev laid : List (String × DataW Unit) := Rows.fnExactListingRow.laid
theorem door_met (os : Os) (args : Array Value) : laidMetH Tryd.prog laid ((World.doorLaid Tryd.prog 95 os).forCall (fun _ _ => 0) ⟨#[], args, []⟩).memory :=
  (MakeChecks.laidMetH_plain _ _ _ (by kernel_rfl)).symm ▸ laidMet_quick 8 (door_run os args) (door_places os args)
def formD (r : List Int) : DataW Unit := .agg (r.map fun n => .lit (.int .i64 n))
theorem formD_inj {r r' : List Int} (h : formD r = formD r') : r = r' := by
  simp only [formD, DataW.agg.injEq] at h
  exact List.map_inj_right (fun x y e => by simpa using e) |>.1 h
theorem laid_eq : Rows.laid_loop_example_punch_impl_forms = (.slice (formsTab.map formD) [] : DataW Unit) := by kernel_rfl
theorem tSp : (Tryd.prog.globals[1]?).map (·.type) = some 174 := by kernel_rfl
theorem tabSp_of {W : World} {cs : Array Value} {fuel : Nat} {p : List MemPlace} {t : TypeId} {g : Nat} {d : DataW Unit} (hd' : d = Lib.tabData .u8 Lib.asciiSpaceTab) (hg : Tryd.prog.globalNamed "strings.asciiSpace" = some g) (ht : (Tryd.prog.globals[g]?).map (·.type) = some t) (hv : W.var? Tryd.prog "strings.asciiSpace" = some cs)
    (hd : DataW.trod (fun _ => ()) Tryd.prog W 0 (fun _ => true) false fuel t cs.toList = some (d, p)) : Lib.TabIs Tryd.prog W "strings.asciiSpace" .u8 Lib.asciiSpaceTab := by
  obtain rfl := Option.some.inj (gSp.symm.trans hg)
  obtain rfl := Option.some.inj (tSp.symm.trans ht)
  subst hd'
  have := Lib.cells_of_tab Tryd.underlying174 Tryd.underlying5 (by kernel_rfl) (by kernel_rfl) hd
  unfold Lib.TabIs
  rw [hv, ← this]
/-- What the condition gives: the variable's cell, and the rows behind it; the two tables. -/
theorem of_laid {W : World} (h : laidMetH Tryd.prog laid W) : (∃ v, W.cell? ⟨0, 0, none⟩ = some v ∧ RdSl 4 (fun _ (r : List Int) cs => cs = rI r ∧ r.length = 4) W formsTab v) ∧
    Lib.TabIs Tryd.prog W "strings.asciiSpace" .u8 Lib.asciiSpaceTab ∧ Lib.TabIs Tryd.prog W "internal/strconv.uint64pow10" .u64 Lib.pow10Tab := by
  rw [MakeChecks.laidMetH_plain _ _ _ (by kernel_rfl)] at h
  obtain ⟨ps, ⟨g0, t0, cs0, f0, p0, q0, _, _, _, _, ⟨g1, t1, cs1, f1, p1, q1, _, _, _, _, ⟨g2, t2, cs2, f2, p2, q2, hg2, ht2, hv2, hd2, ⟨g3, t3, cs3, f3, p3, q3, _, _, _, _, ⟨g4, t4, cs4, f4, p4, q4, hg4, ht4, hv4, hd4, ⟨g5, t5, cs5, f5, p5, q5, hg5, ht5, hv5, hd5, _, _⟩, _⟩, _⟩, _⟩, _⟩, _⟩, _, _⟩ := h
  refine ⟨?_, tabSp_of (by kernel_rfl) hg4 ht4 hv4 hd4, tab10_of (by kernel_rfl) hg2 ht2 hv2 hd2⟩
  clear hd4 hd2 hv4 hv2
  obtain rfl := Option.some.inj (gForms.symm.trans hg5)
  obtain rfl := Option.some.inj (tForms.symm.trans ht5)
  obtain ⟨hl, xs, ⟨v, hc, hR⟩, -, hD⟩ := oForms.2 hd5
  have hcell : W.cell? ⟨0, 0, none⟩ = some v := by
    have := World.var?_cell hg5 hv5 0
    obtain ⟨l0⟩ := cs5
    have hc : l0 = [v] := hc
    subst hc
    simpa using this
  obtain ⟨k1, k2⟩ := hD (formsTab.map formD) [] laid_eq
  have : xs = formsTab := by
    apply List.ext_getElem?
    intro j
    rw [List.length_map] at k1
    rcases Nat.lt_or_ge j xs.length with hj | hj
    · have e1 := k2 j xs[j] (formD formsTab[j]) (by simp) (by rw [List.getElem?_map, List.getElem?_eq_getElem (by omega)]; rfl)
      rw [List.getElem?_eq_getElem hj, List.getElem?_eq_getElem (by omega), formD_inj e1]
    · rw [List.getElem?_eq_none hj, List.getElem?_eq_none (by omega)]
  subst this
  exact ⟨v, hcell, hR⟩
theorem var?_below {P : Program} {W W' : World} {n : String} {g : Nat} {cs : Array Value} (hB : Below W.heap.size W W') (hg : P.globalNamed n = some g) (hlt : g < W.heap.size) (h : W.var? P n = some cs) : W'.var? P n = some cs := by
  have e := hB.block g hlt
  unfold World.var? at h ⊢
  rw [hg] at h ⊢
  simp only [Option.bind_some, Option.bind_eq_bind] at h ⊢
  rw [e]; exact h
theorem lifted (os : Os) (started : os.Started) (H : Type) (enc : TypeId × Value → H) :
    ReturnsInHanded {} Tryd.checked os 8 .any (fun w args => (Rows.fnExactListingSpec.pre enc Tryd.prog Tryd.f8 Rows.fnExactListingRow.domain false w args ∧ laidMetH Tryd.prog laid w) ∧ sizedMet enc Tryd.prog Tryd.f8 (OpenSpec.ofChange Rows.fnExactListingSpec) false w args)
      (Rows.fnExactListingSpec.post enc Tryd.prog Tryd.f8 false true false false) := by
  refine returnsInHanded_of_change_and (C := Tryd.checked) (X := fun w _ => laidMetH Tryd.prog laid w) (fun _ _ _ hh h => h.of_heap hh) own started (by kernel_rfl) Tryd.func8
    (ChangeSpec.witness_shaped (enc := enc) (C := Tryd.checked) (os := os) (X := fun w _ => laidMetH Tryd.prog laid w) false (World.doorLaid Tryd.prog 95 os) #[.agg #[.slice none 0 0]] 8 rfl (World.shaped_of_RefB (by kernel_rfl) (by kernel_rfl)) (by kernel_rfl) (by kernel_rfl) (by kernel_rfl) (door_met os _)) ?_
  intro W base args ds gs before hval0 hW _ _ hL _
  have hval : ∀ (j : Nat) t v, Tryd.f8.params[j]? = some t → args[j]? = some v → Value.okWide Tryd.prog W .any base t v := hval0
  have hW' := hW
  obtain ⟨p, q, hA0, hV0, rfl, hfz, hnd⟩ := hW
  have hA : DataW.TrodAll enc Tryd.prog W 0 (fun _ => true) true Tryd.f8.params.toList args.toList ds p := hA0
  have hV : DataW.TrodVars enc Tryd.prog W (fun _ => true) ["loop.example/punch/impl.forms"] gs q := hV0
  rw [Tryd.params8] at hA hval
  obtain ⟨v0, d0, rfl, rfl, h0⟩ := trodAll_one hA
  obtain ⟨g, t, cs, fuel, d, p', rfl, hg, ht, hvar, hd, rfl⟩ := trodVars_one hV
  obtain rfl := Option.some.inj (gForms.symm.trans hg)
  obtain rfl := Option.some.inj (tForms.symm.trans ht)
  obtain ⟨cs0, rfl, _⟩ := okWide_struct Tryd.underlying43 (hval 0 43 v0 rfl rfl)
  have lt0 : ∀ x ∈ p, x.block < W.heap.size := by obtain ⟨m, hm⟩ := h0; exact DataW.trod_lt m _ _ _ hm
  have ltv : ∀ x ∈ p', x.block < W.heap.size := DataW.trod_lt fuel _ _ _ hd
  obtain ⟨ps, ⟨v, hcs, hR⟩, hgl, hgood⟩ : ∃ ps : List Pr, (∃ v, cs0.toList = [v] ∧ RdSl 9 RdP W ps v) ∧ ps.length ≤ 9223372036854775807 ∧ ∀ p ∈ ps, p.good := by
    obtain ⟨m, hm⟩ := h0
    obtain ⟨-, ps, h1, h2, -⟩ := oC.2 (show DataW.trod enc Tryd.prog W 0 (fun _ => true) true m 43 cs0.toList = some (d0, p) from hm)
    exact ⟨ps, h1, h2⟩
  obtain rfl : cs0 = #[v] := by obtain ⟨l⟩ := cs0; simp only at hcs; rw [hcs]
  obtain ⟨⟨vf, hcell, hRf⟩, htS, htT⟩ := of_laid hL
  have hltS := var_lt gSp htS
  have hltT := var_lt g10 htT
  obtain ⟨X, s, eX, kX⟩ := code_slice hR []
  obtain ⟨Y, j, eY, kY⟩ := forms_slice hcell hRf ([] ++ X)
  have eA : EntOk W ([] ++ X ++ Y) ([] ++ X ++ Y) := by
    rw [List.nil_append] at eX eY ⊢
    exact eX.more.app eY
  generalize hZ : [] ++ X ++ Y = Z at *
  have eB : EntOk W (Z ++ [(1, 0, ⟨[], 1⟩)] ++ [(4, 0, ⟨[], 1⟩)]) (Z ++ [(1, 0, ⟨[], 1⟩)] ++ [(4, 0, ⟨[], 1⟩)]) := (eA.more.more.app (ent_there hltS 1)).app (ent_there hltT 1)
  have hrk := rOk_of2 W (Z ++ [(1, 0, ⟨[], 1⟩)] ++ [(4, 0, ⟨[], 1⟩)]) (fun g => if g = 0 then .ptr (.ro j) 0 0 else if g = 1 then .ptr (.ro Z.length) 0 0 else if g = 4 then .ptr (.ro (Z.length + 1)) 0 0 else .raw (.pointer (some ⟨g, 0, none⟩)))
    (fun w => Lib.TabIs Tryd.prog w "strings.asciiSpace" .u8 Lib.asciiSpaceTab ∧ Lib.TabIs Tryd.prog w "internal/strconv.uint64pow10" .u64 Lib.pow10Tab)
  have hrz := hrk.pre.pre
  have hr1 := hrk Z.length 1 0 ⟨[], 1⟩ (by simp)
  have hr4 := hrk (Z.length + 1) 4 0 ⟨[], 1⟩ (by simp)
  subst hZ
  obtain ⟨hvc, hps⟩ := kX _ _ hrz.pre
  obtain ⟨hj, hfo⟩ := kY _ _ hrz
  generalize [] ++ X ++ Y = Z at *
  have hmr := mr_of2 eB (gl := fun g => if g = 0 then .ptr (.ro j) 0 0 else if g = 1 then .ptr (.ro Z.length) 0 0 else if g = 4 then .ptr (.ro (Z.length + 1)) 0 0 else .raw (.pointer (some ⟨g, 0, none⟩))) (fun g => by
    by_cases e : g = 0
    · subst e
      have := VR.ptr (L := noPl) (.ro j) 0 0 (0, 0, 1) hj
      simpa [adr] using this
    · by_cases e1 : g = 1
      · subst e1
        have := VR.ptr (L := noPl) (.ro Z.length) 0 0 (1, 0, 1) hr1.1
        simpa [adr] using this
      · by_cases e2 : g = 4
        · subst e2
          have := VR.ptr (L := noPl) (.ro (Z.length + 1)) 0 0 (4, 0, 1) hr4.1
          simpa [adr] using this
        · simp only [if_neg e, if_neg e1, if_neg e2]; exact .raw _) (fact := fun w => Lib.TabIs Tryd.prog w "strings.asciiSpace" .u8 Lib.asciiSpaceTab ∧ Lib.TabIs Tryd.prog w "internal/strconv.uint64pow10" .u64 Lib.pow10Tab) ⟨htS, htT⟩
  have hsim := s_FnExactListing (K := fun r _ => r = .ret (.bool true)) (hfo rfl) ⟨⟨Z.length + 1, _, rfl, hr4.2⟩, fun _ h => h.2⟩ ⟨⟨Z.length, _, rfl, hr1.2⟩, fun _ h => h.1⟩ rfl hps hgl hgood (fun _ _ => rfl)
  have hcall := hsim.calls Tryd.func8 (by decide) rfl hmr (xs := #[.agg #[v]]) ⟨rfl, fun i c x hc hx => by
    rcases i with _ | i
    · simp at hc hx
      subst hc hx
      exact .agg _ _ rfl fun i c x hc hx => by
        rcases i with _ | i
        · simp at hc hx
          subst hc hx
          exact hvc.1
        · simp at hc
    · simp at hc⟩
  clear hA0 hval0 hV0 hL
  refine hcall.mono fun e W' he => ?_
  obtain ⟨E', m', hle, hm', hsz, hfr, -, hres⟩ := he
  have bel : Below W.heap.size W W' := by
    have := hm'.bel
    rw [hle.base, hle.w0] at this
    exact this
  have hx : e = .returned (.bool true) := by
    rcases hres with ⟨r, x, rfl, hv, hr⟩ | ⟨v, -, hr⟩
    · cases hr
      cases hv
      rfl
    · cases hr
  subst hx
  have h0lt : 0 < W.heap.size := by
    unfold World.cell? at hcell
    split at hcell
    · rename_i hb'; exact (Array.getElem?_eq_some_iff.1 hb').1
    · cases hcell
  obtain ⟨fuel', hd'⟩ := Below.trod laidOut (by kernel_rfl) (of_decide_eq_true (by kernel_rfl)) (v := vf) (⟨fuel, by
    have h1 := World.var?_cell hg hvar 0
    rw [hcell] at h1
    obtain ⟨l0⟩ := cs
    obtain ⟨hl1, -⟩ := oForms.2 hd
    simp only at hl1
    match l0, hl1 with
    | [c], _ =>
      simp at h1
      subst h1
      have : Value.cells vf = #[vf] := by
        rcases hRf with ⟨-, rfl | ⟨a, rfl⟩⟩ | ⟨b, f, c, rfl, -⟩ <;> rfl
      rw [this]
      exact hd⟩ : DataW.Trod enc Tryd.prog W 0 (fun _ => true) true 161 vf d p') bel ltv
  have hv' := trodVars_mk1 (enc := enc) (spare := fun b => decide (b < W.heap.size)) hg ht (var?_below bel hg h0lt hvar) (fuel := fuel') (d := d) (p := p') (by
    have h1 := World.var?_cell hg hvar 0
    rw [hcell] at h1
    obtain ⟨l0⟩ := cs
    obtain ⟨hl1, -⟩ := oForms.2 hd
    simp only at hl1
    match l0, hl1 with
    | [c], _ =>
      simp at h1
      subst h1
      have : Value.cells vf = #[vf] := by
        rcases hRf with ⟨-, rfl | ⟨a, rfl⟩⟩ | ⟨b, f, c, rfl, -⟩ <;> rfl
      rw [this] at hd'
      exact hd')
  exact ⟨_, rfl, _, _, _, [], _, _, hW', trodAll_mk1 (shut_bool Tryd.underlying4 _), trodAll_mk1 (Below.trod laidOut (by kernel_rfl) (of_decide_eq_true (by kernel_rfl)) h0 bel lt0), hv', bel.frame _, fun h => by cases h⟩
theorem over : Rows.fnExactListingRow.holds Tryd.pinned (OpenSpec.ofChange Rows.fnExactListingSpec) :=
  OpenClaim.holds_of_wide 8 Tryd.f8 rfl rfl rfl rfl rfl rfl rfl ⟨rfl, rfl, rfl, rfl, rfl⟩ rfl rfl rfl rfl rfl (by kernel_rfl) Tryd.func8 (by kernel_rfl)
    (of_decide_eq_true (by kernel_rfl)) (by unfold Func.isWrapper; first | (rw [if_pos (by decide +kernel)]; kernel_rfl) | (rw [if_neg (by decide +kernel)]; exact ⟨rfl, rfl⟩))
    (fun os started H enc _ => lifted os started H enc)
theorem card : Rows.FnExactListingCardSaid :=
  Claim7.holds_tied_plain_at .later [] [.data, .data, .data, .listed, .data, .data] true (true, "e40f8c54fe192a8726cc8ac02fc1ac2037f7c6b50416461a18b31407e1c9e8fb") true
    over (fun _ h => by cases h) (by kernel_rfl) (fun _ h => by cases h) fnExactListing_row_tie rfl ⟨rfl, rfl⟩ (by kernel_rfl) rfl
    (fun f fn hf hfn => by
      obtain rfl : f = 8 := Option.some.inj ((show Tryd.prog.funcNamed "loop.example/punch/laws.FnExactListing" = some 8 by kernel_rfl).symm.trans hf) |>.symm
      obtain rfl : fn = Tryd.f8 := (Option.some.inj (Tryd.func8.symm.trans hfn)).symm
      exact ⟨by kernel_rfl, fun j t ht => by
        rw [Tryd.params8] at ht
        have hm : t ∈ [43] := by simpa using Array.mem_of_getElem? ht
        have hall : ([43].all fun u => !Tryd.prog.wantsStandIn u) = true := by kernel_rfl
        exact (show Tryd.prog.wantsStandIn t = false by simpa using List.all_eq_true.1 hall t hm)⟩)
    (by kernel_rfl)
end Go.Proofs.YtdonkjepjobhnaaDoor.fnExactListing
namespace Go.Proofs.YtdonkjepjobhnaaDoor
theorem fnExactListing_holds : Rows.FnExactListingCardSaid := fnExactListing.card
end Go.Proofs.YtdonkjepjobhnaaDoor
