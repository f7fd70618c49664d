/- The laws' row Decode: for every slice of bytes that reads as data, with the forms laid as the program lays them, the call returns true, and bytes and forms read behind it as they did. Tied to the program's text by the given tie. No other condition. -/
import Derived.Test.YtdonkjepjobhnaaDoorQB
import Derived.Test.YtdonkjepjobhnaaDoorQK
import Derived.Test.YtdonkjepjobhnaaDoorRows
import Derived.Test.YtdonkjepjobhnaaDoorTie
import Derived.Test.YtdonkjepjobhnaaDoorCards
import Derived.WalkKit
import Derived.ProofKit
import Derived.OpenShut
import Derived.ChangeOld
import Derived.ChangeVars
import Derived.Below
import Derived.SizedLaws
import Derived.LaidMore
import Derived.LaidHandle
import Derived.MakeChecks
import Derived.SevenTiedAt
set_option linter.unusedSimpArgs false
set_option linter.unusedVariables false
set_option linter.unnecessarySimpa false
namespace Go.Proofs.YtdonkjepjobhnaaDoor.fnExactDecode
open Go Go.ChangeShapes Go.WideShapes Go.ChangeAt Go.RowKit Go.Proofs.IM Go.Proofs.YtdonkjepjobhnaaDoor.IM
set_option maxRecDepth 100000
def u8V (n : Int) : List Value := [.int .u8 n]
def u8A (n : Int) : List AV := [.int .u8 n]
theorem u8_hav (n : Int) : (u8A n).length = 1 ∧ ∀ (E : Env) (i : Nat) (c : AV), (u8A n)[i]? = some c → ∃ v, (u8V n)[i]? = some v ∧ VC E c v := by
  refine ⟨rfl, fun E i c h => ?_⟩
  rcases i with _ | i <;> simp [u8A] at h <;> subst h <;> exact ⟨_, rfl, by constructor, rfl⟩
theorem u8_rows {xs : List Int} (h : ∀ x ∈ xs, 0 ≤ x ∧ x ≤ 255) : xs.map u8A = (xs.map fun n => UInt8.ofNat n.toNat).map bR := by
  rw [List.map_map]
  refine List.map_congr_left fun x hx => ?_
  have := h x hx
  simp only [u8A, bR, Function.comp_apply, UInt8.toNat_ofNat']
  congr 2; omega
theorem oU8 : Opn Tryd.prog 5 1 (fun _ (n : Int) cs => cs = [.int .u8 n]) (fun n => 0 ≤ n ∧ n ≤ 255) (fun n H d => d = .lit (.int .u8 n)) := opn_u8 Tryd.underlying5 (by kernel_rfl)
theorem oBytes : Opn Tryd.prog 22 1 (fun w xs cs => ∃ v, cs = [v] ∧ RdSl 1 (fun _ (n : Int) cs => cs = [.int .u8 n]) w xs v) (fun xs => xs.length ≤ 9223372036854775807 ∧ ∀ x ∈ xs, 0 ≤ x ∧ x ≤ 255)
    (fun xs H d => ∀ (es spare : List (DataW H)), d = .slice es spare → es.length = xs.length ∧ ∀ (j : Nat) (x : Int) (y : DataW H), xs[j]? = some x → es[j]? = some y → y = .lit (.int .u8 x)) := opn_slice Tryd.underlying22 (by kernel_rfl) (by decide) oU8
theorem own : ownKnob Tryd.prog.godebug = none := by kernel_rfl
theorem laidOut : laidOutB Tryd.prog = true := by kernel_rfl
theorem gForms : Tryd.prog.globalNamed "loop.example/punch/impl.forms" = some 0 := by kernel_rfl
theorem tForms : (Tryd.prog.globals[0]?).map (·.type) = some 161 := by kernel_rfl
abbrev laid : List (String × DataW Unit) := Rows.fnExactDecodeRow.laid
theorem door_met (os : Os) (args : Array Value) : laidMetH Tryd.prog laid ((World.doorLaid Tryd.prog 95 os).forCall (fun _ _ => 0) ⟨#[], args, []⟩).memory :=
  laidMetH_of_parts3 (fuel := 8) (laidMet_of_run' 8 (by kernel_rfl) (by kernel_rfl)) (by kernel_rfl) (by kernel_rfl)
def formD (r : List Int) : DataW Unit := .agg (r.map fun n => .lit (.int .i64 n))
theorem formD_inj {r r' : List Int} (h : formD r = formD r') : r = r' := by
  simp only [formD, DataW.agg.injEq] at h
  exact List.map_inj_right (fun x y e => by simpa using e) |>.1 h
theorem laid_eq : Rows.laid_loop_example_punch_impl_forms = (.slice (formsTab.map formD) [] : DataW Unit) := by kernel_rfl
/-- What the condition gives: the variable's cell, and the rows behind it. -/
theorem of_laid {W : World} (h : laidMetH Tryd.prog laid W) : ∃ v, W.cell? ⟨0, 0, none⟩ = some v ∧ RdSl 4 (fun _ (r : List Int) cs => cs = rI r ∧ r.length = 4) W formsTab v := by
  rw [MakeChecks.laidMetH_plain _ _ _ (by kernel_rfl)] at h
  obtain ⟨ps, ⟨g0, t0, cs0, f0, p0, q0, hg0, ht0, hv0, hd0, _, _⟩, _, _⟩ := h
  obtain rfl := Option.some.inj (gForms.symm.trans hg0)
  obtain rfl := Option.some.inj (tForms.symm.trans ht0)
  obtain ⟨hl, xs, ⟨v, hc, hR⟩, -, hD⟩ := oForms.2 hd0
  have hcell : W.cell? ⟨0, 0, none⟩ = some v := by
    have := World.var?_cell hg0 hv0 0
    obtain ⟨l0⟩ := cs0
    have hc : l0 = [v] := hc
    subst hc
    simpa using this
  obtain ⟨k1, k2⟩ := hD (formsTab.map formD) [] laid_eq
  have : xs = formsTab := by
    apply List.ext_getElem?
    intro j
    rw [List.length_map] at k1
    rcases Nat.lt_or_ge j xs.length with hj | hj
    · have e1 := k2 j xs[j] (formD formsTab[j]) (by simp) (by rw [List.getElem?_map, List.getElem?_eq_getElem (by omega)]; rfl)
      rw [List.getElem?_eq_getElem hj, List.getElem?_eq_getElem (by omega), formD_inj e1]
    · rw [List.getElem?_eq_none hj, List.getElem?_eq_none (by omega)]
  subst this
  exact ⟨v, hcell, hR⟩
theorem var?_below {P : Program} {W W' : World} {n : String} {g : Nat} {cs : Array Value} (hB : Below W.heap.size W W') (hg : P.globalNamed n = some g) (hlt : g < W.heap.size) (h : W.var? P n = some cs) : W'.var? P n = some cs := by
  have e := hB.block g hlt
  unfold World.var? at h ⊢
  rw [hg] at h ⊢
  simp only [Option.bind_some, Option.bind_eq_bind] at h ⊢
  rw [e]; exact h
theorem lifted (os : Os) (started : os.Started) (H : Type) (enc : TypeId × Value → H) :
    ReturnsInHanded {} Tryd.checked os 3 .any (fun w args => (Rows.fnExactDecodeSpec.pre enc Tryd.prog Tryd.f3 Rows.fnExactDecodeRow.domain false w args ∧ laidMetH Tryd.prog laid w) ∧ sizedMet enc Tryd.prog Tryd.f3 (OpenSpec.ofChange Rows.fnExactDecodeSpec) false w args)
      (Rows.fnExactDecodeSpec.post enc Tryd.prog Tryd.f3 false true false false) := by
  refine returnsInHanded_of_change_and (C := Tryd.checked) (X := fun w _ => laidMetH Tryd.prog laid w) (fun _ _ _ hh h => h.of_heap hh) own started (by kernel_rfl) Tryd.func3
    (ChangeSpec.witness_shaped (enc := enc) (C := Tryd.checked) (os := os) (X := fun w _ => laidMetH Tryd.prog laid w) false (World.doorLaid Tryd.prog 95 os) #[.slice none 0 0] 8 rfl (World.shaped_of_RefB (by kernel_rfl) (by kernel_rfl)) (by kernel_rfl) (by kernel_rfl) (by kernel_rfl) (door_met os _)) ?_
  intro W base args ds gs before hval0 hW _ _ hL _
  have hval : ∀ (j : Nat) t v, Tryd.f3.params[j]? = some t → args[j]? = some v → Value.okWide Tryd.prog W .any base t v := hval0
  have hW' := hW
  obtain ⟨p, q, hA0, hV0, rfl, hfz, hnd⟩ := hW
  have hA : DataW.TrodAll enc Tryd.prog W 0 (fun _ => true) true Tryd.f3.params.toList args.toList ds p := hA0
  have hV : DataW.TrodVars enc Tryd.prog W (fun _ => true) ["loop.example/punch/impl.forms"] gs q := hV0
  rw [Tryd.params3] at hA hval
  obtain ⟨v0, d0, rfl, rfl, h0⟩ := trodAll_one hA
  obtain ⟨g, t, cs, fuel, d, p', rfl, hg, ht, hvar, hd, rfl⟩ := trodVars_one hV
  obtain rfl := Option.some.inj (gForms.symm.trans hg)
  obtain rfl := Option.some.inj (tForms.symm.trans ht)
  obtain ⟨sa, sl, sc, rfl⟩ := okWide_slice Tryd.underlying22 (hval 0 22 v0 rfl rfl)
  have lt0 : ∀ x ∈ p, x.block < W.heap.size := by obtain ⟨m, hm⟩ := h0; exact DataW.trod_lt m _ _ _ hm
  have ltv : ∀ x ∈ p', x.block < W.heap.size := DataW.trod_lt fuel _ _ _ hd
  obtain ⟨xs, hR, hgood⟩ : ∃ xs : List Int, RdSl 1 (fun _ (n : Int) cs => cs = [.int .u8 n]) W xs (.slice sa sl sc) ∧ ∀ x ∈ xs, 0 ≤ x ∧ x ≤ 255 := by
    obtain ⟨m, hm⟩ := h0
    obtain ⟨-, xs, ⟨v, h1, h2⟩, ⟨_, h3⟩, -⟩ := oBytes.2 (show DataW.trod enc Tryd.prog W 0 (fun _ => true) true m 22 [.slice sa sl sc] = some (d0, p) from hm)
    simp only [List.cons.injEq, and_true] at h1
    subst h1
    exact ⟨xs, h2, h3⟩
  obtain ⟨vf, hcell, hRf⟩ := of_laid hL
  obtain ⟨X, s, eX, kX⟩ := flat_slice u8_hav hR []
  obtain ⟨Y, j, eY, kY⟩ := forms_slice hcell hRf ([] ++ X)
  have eA : EntOk W ([] ++ X ++ Y) ([] ++ X ++ Y) := by
    rw [List.nil_append] at eX eY ⊢
    exact eX.more.app eY
  have hrk := rOk_of W ([] ++ X ++ Y) (fun g => if g = 0 then .ptr (.ro j) 0 0 else .raw (.pointer (some ⟨g, 0, none⟩)))
  obtain ⟨hvc, hps⟩ := kX _ _ hrk.pre
  obtain ⟨hj, hfo⟩ := kY _ _ hrk
  have hmr := mr_of eA (gl := fun g => if g = 0 then .ptr (.ro j) 0 0 else .raw (.pointer (some ⟨g, 0, none⟩))) (fun g => by
    by_cases e : g = 0
    · subst e
      have := VR.ptr (E := envOf W ([] ++ X ++ Y)) (L := noPl) (.ro j) 0 0 (0, 0, 1) hj
      simpa [adr] using this
    · simp only [if_neg e]; exact .raw _)
  have hsim := s_FnExactDecode (m := memOf ([] ++ X ++ Y) (fun g => if g = 0 then .ptr (.ro j) 0 0 else .raw (.pointer (some ⟨g, 0, none⟩)))) (K := fun r _ => r = .ret (.bool true)) (hfo rfl) (bs := xs.map fun n => UInt8.ofNat n.toNat) (by rw [u8_rows hgood] at hps; exact hps) (fun _ _ => rfl)
  have hcall := hsim.calls Tryd.func3 (by decide) rfl hmr (xs := #[.slice sa sl sc]) ⟨rfl, fun i c x hc hx => by
    rcases i with _ | i
    · simp at hc hx
      subst hc hx
      exact hvc.1
    · simp at hc⟩
  clear hA0 hval0 hV0 hL
  refine hcall.mono fun e W' he => ?_
  obtain ⟨E', m', hle, hm', hsz, hfr, -, hres⟩ := he
  have bel : Below W.heap.size W W' := by
    have := hm'.bel
    rw [hle.base, hle.w0] at this
    exact this
  have hx : e = .returned (.bool true) := by
    rcases hres with ⟨r, x, rfl, hv, hr⟩ | ⟨v, -, hr⟩
    · cases hr
      cases hv
      rfl
    · cases hr
  subst hx
  have h0lt : 0 < W.heap.size := by
    unfold World.cell? at hcell
    split at hcell
    · rename_i hb'; exact (Array.getElem?_eq_some_iff.1 hb').1
    · cases hcell
  obtain ⟨fuel', hd'⟩ := Below.trod laidOut (by kernel_rfl) (of_decide_eq_true (by kernel_rfl)) (v := vf) (⟨fuel, by
    have h1 := World.var?_cell hg hvar 0
    rw [hcell] at h1
    obtain ⟨l0⟩ := cs
    obtain ⟨hl1, -⟩ := oForms.2 hd
    simp only at hl1
    match l0, hl1 with
    | [c], _ =>
      simp at h1
      subst h1
      have : Value.cells vf = #[vf] := by
        rcases hRf with ⟨-, rfl | ⟨a, rfl⟩⟩ | ⟨b, f, c, rfl, -⟩ <;> rfl
      rw [this]
      exact hd⟩ : DataW.Trod enc Tryd.prog W 0 (fun _ => true) true 161 vf d p') bel ltv
  have hv' := trodVars_mk1 (enc := enc) (spare := fun b => decide (b < W.heap.size)) hg ht (var?_below bel hg h0lt hvar) (fuel := fuel') (d := d) (p := p') (by
    have h1 := World.var?_cell hg hvar 0
    rw [hcell] at h1
    obtain ⟨l0⟩ := cs
    obtain ⟨hl1, -⟩ := oForms.2 hd
    simp only at hl1
    match l0, hl1 with
    | [c], _ =>
      simp at h1
      subst h1
      have : Value.cells vf = #[vf] := by
        rcases hRf with ⟨-, rfl | ⟨a, rfl⟩⟩ | ⟨b, f, c, rfl, -⟩ <;> rfl
      rw [this] at hd'
      exact hd')
  exact ⟨_, rfl, _, _, _, [], _, _, hW', trodAll_mk1 (shut_bool Tryd.underlying4 _), trodAll_mk1 (Below.trod laidOut (by kernel_rfl) (of_decide_eq_true (by kernel_rfl)) h0 bel lt0), hv', bel.frame _, fun h => by cases h⟩
theorem over : Rows.fnExactDecodeRow.holds Tryd.pinned (OpenSpec.ofChange Rows.fnExactDecodeSpec) :=
  OpenClaim.holds_of_wide 3 Tryd.f3 rfl rfl rfl rfl rfl rfl rfl ⟨rfl, rfl, rfl, rfl, rfl⟩ rfl rfl rfl rfl rfl (by kernel_rfl) Tryd.func3 (by kernel_rfl)
    (of_decide_eq_true (by kernel_rfl)) (by unfold Func.isWrapper; first | (rw [if_pos (by decide +kernel)]; kernel_rfl) | (rw [if_neg (by decide +kernel)]; exact ⟨rfl, rfl⟩))
    (fun os started H enc _ => lifted os started H enc)
theorem card : Rows.FnExactDecodeCardSaid :=
  Claim7.holds_tied_plain_at .later [] [.data] true (true, "e40f8c54fe192a8726cc8ac02fc1ac2037f7c6b50416461a18b31407e1c9e8fb") true
    over (fun _ h => by cases h) (by kernel_rfl) (fun _ h => by cases h) fnExactDecode_row_tie rfl ⟨rfl, rfl⟩ (by kernel_rfl) rfl
    (fun f fn hf hfn => by
      obtain rfl : f = 3 := Option.some.inj ((show Tryd.prog.funcNamed "loop.example/punch/laws.FnExactDecode" = some 3 by kernel_rfl).symm.trans hf) |>.symm
      obtain rfl : fn = Tryd.f3 := (Option.some.inj (Tryd.func3.symm.trans hfn)).symm
      exact ⟨by kernel_rfl, fun j t ht => by
        rw [Tryd.params3] at ht
        have hm : t ∈ [22] := by simpa using Array.mem_of_getElem? ht
        have hall : ([22].all fun u => !Tryd.prog.wantsStandIn u) = true := by kernel_rfl
        exact (show Tryd.prog.wantsStandIn t = false by simpa using List.all_eq_true.1 hall t hm)⟩)
    (by kernel_rfl)
end Go.Proofs.YtdonkjepjobhnaaDoor.fnExactDecode
namespace Go.Proofs.YtdonkjepjobhnaaDoor
theorem fnExactDecode_holds : Rows.FnExactDecodeCardSaid := fnExactDecode.card
end Go.Proofs.YtdonkjepjobhnaaDoor
