/- A region whose order is drawn, by a plan: one order in which its operations are told; the others follow. -/
import Derived.Test.YtdonkjepjobhnaaDoorIP
namespace Go.Proofs.IM
open Go Go.RowKit
set_option linter.unusedVariables false
set_option linter.unusedSimpArgs false
set_option linter.unnecessarySimpa false
/-- What an operation of a plan is: it touches no memory; it reads; or anything, behind which what these have read must stand as it was. -/
inductive PK where
  | pure | read | step (xs : List Nat)
  deriving DecidableEq
abbrev Plan := List (Nat × PK)
def isArith : BinOp → Bool
  | .add | .sub | .mul | .quo => true
  | _ => false
def isFlt : AV → Bool
  | .flt _ => true
  | _ => false
def isInt : AV → Bool
  | .int .. => true
  | _ => false
def okP (m : Mem) (t : Nat → AV) (o : Oper) : Bool := match o.op with
  | .move _ | .assign _ | .pick .. | .fieldAddr .. | .field .. | .extract .. | .nilCheck _ | .unOp .. | .slice .. | .build .. | .indexAddr .. | .index .. => true
  | .binOp op _ x _ _ => !(isFlt (eA m t x) && isArith op)
  | .convert _ _ x => isInt (eA m t x)
  | .call c => match c.callee with
    | .builtin .len => true
    | _ => false
  | _ => false
section
variable {P : Program} {C : Cx} {Ei E : Env} {wi w w' : World} {L : Pl} {l : Loc} {m : Mem} {o : Oper} {a : Act} {next : Act → World → Prop} {Q : Exit → Act → World → Prop} {id : Nat} {K : KS}
theorem aBinK_v (hC : CxOk C) {op : BinOp} {ty ty' : TypeId} {x y : Operand} (hop : o.op = .binOp op ty x y ty') {u v : AV} (hx : VR E L u (a.eval x)) (hy : VR E L v (a.eval y)) (hn : (isFlt u && isArith op) = false) (hK : aBinK C ty op u v l m K) : Val C.P E L l m o a K := by
  have flat : ∀ {z : AV}, aBin op u v = some z → K z l m → Val C.P E L l m o a K := by
    intro z hz hK
    obtain ⟨f1, f2⟩ := aBin_flat hx hz
    have h1 := fun w => aBin_run (P := C.P) (w := w) (ty := ty) hx hy hz
    obtain ⟨r, hr, hv⟩ := h1 default
    refine ⟨z, r, hv, hK, fun w => ?_⟩
    obtain ⟨r', hr', hv'⟩ := h1 w
    have : r' = r := by
      unfold aBin at hz
      split at hz
      · split at hz
        all_goals (split at hz <;> cases hz <;> cases hv <;> cases hv' <;> rfl)
      · split at hz <;> cases hz <;> cases hv <;> cases hv' <;> rfl
      · split at hz
        · split at hz <;> cases hz <;> cases hv <;> cases hv' <;> rfl
        all_goals (cases hz; try (cases hv; cases hv'; rfl))
      · cases hz
    subst this
    exact bin_exec hop f1 f2 hr'
  have nil : ∀ (b : Bool), a.eval x ≠ .nilIface → (∀ cs, a.eval x ≠ .agg cs) → (∀ w, (Op.equal ty (a.eval x) (a.eval y)).run C.P w = .ok b w) →
      binOp .eql ty (a.eval x) (a.eval y) = (do pure (.bool (← Op.equal ty (a.eval x) (a.eval y)))) → binOp .neq ty (a.eval x) (a.eval y) = (do pure (.bool (!(← Op.equal ty (a.eval x) (a.eval y))))) → aNil b op l m K → Val C.P E L l m o a K := by
    intro b f1 f2 hq e1 e2 hK
    unfold aNil at hK
    split at hK
    · exact ⟨_, _, .bool b, hK, fun w => bin_exec hop f1 f2 ((nil_run (op := .eql) (hq w) e1 e2).1 rfl)⟩
    · exact ⟨_, _, .bool (!b), hK, fun w => bin_exec hop f1 f2 ((nil_run (op := .neq) (hq w) e1 e2).2 rfl)⟩
    · exact hK.elim
  have sl : isSl (kd C ty) = true → ∀ (p q : Option Addr) (a1 a2 b1 b2 : Nat), a.eval x = .slice p a1 a2 → a.eval y = .slice q b1 b2 → (p = none ∨ q = none) → aNil (p.isNone && q.isNone) op l m K → Val C.P E L l m o a K := by
    intro hk p q a1 a2 b1 b2 hxv hyv hn hK
    obtain ⟨e, he⟩ := isSl_spec hC hk
    exact nil _ (by simp [hxv]) (by simp [hxv]) (fun w => by rw [hxv, hyv]; exact equal_slice he p q a1 a2 b1 b2 hn) (by rw [hxv, hyv]; rfl) (by rw [hxv, hyv]; rfl) hK
  have pt : isPtr (kd C ty) = true → ∀ (p q : Option Addr), a.eval x = .pointer p → a.eval y = .pointer q → (p = none ∨ q = none) → aNil (p.isNone && q.isNone) op l m K → Val C.P E L l m o a K := by
    intro hk p q hxv hyv hn hK
    obtain ⟨e, he⟩ := isPtr_spec hC hk
    exact nil _ (by simp [hxv]) (by simp [hxv]) (fun w => by rw [hxv, hyv]; exact equal_ptr he p q hn) (by rw [hxv, hyv]; rfl) (by rw [hxv, hyv]; rfl) hK
  unfold aBinK at hK
  split at hK
  · rename_i p q
    split at hK
    · rename_i hf; unfold aFlt at hf; split at hf <;> simp [isFlt, isArith] at hn hf
    · rename_i hf; unfold aFlt at hf; split at hf <;> simp [isFlt, isArith] at hn hf
    · split at hK
      · exact flat (by assumption) hK
      · exact hK.elim
  · generalize hxv : a.eval x = xv at hx; generalize hyv : a.eval y = yv at hy
    cases hx; cases hy
    exact sl hK.1 _ _ _ _ _ _ hxv hyv (.inr rfl) hK.2
  · generalize hxv : a.eval x = xv at hx; generalize hyv : a.eval y = yv at hy
    cases hx; cases hy
    exact sl hK.1 _ _ _ _ _ _ hxv hyv (.inl rfl) hK.2
  · generalize hxv : a.eval x = xv at hx; generalize hyv : a.eval y = yv at hy
    cases hx; cases hy
    exact pt hK.1 _ _ hxv hyv (.inr rfl) hK.2
  · generalize hxv : a.eval x = xv at hx; generalize hyv : a.eval y = yv at hy
    cases hx; cases hy
    exact pt hK.1 _ _ hxv hyv (.inl rfl) hK.2
  · generalize hxv : a.eval x = xv at hx; generalize hyv : a.eval y = yv at hy
    cases hx; cases hy
    exact sl hK.1 _ _ _ _ _ _ hxv hyv (.inl rfl) hK.2
  · generalize hxv : a.eval x = xv at hx; generalize hyv : a.eval y = yv at hy
    cases hx; cases hy
    exact pt hK.1 _ _ hxv hyv (.inl rfl) hK.2
  · generalize hxv : a.eval x = xv at hx; generalize hyv : a.eval y = yv at hy
    cases hx; cases hy
    exact nil _ (by simp [hxv]) (by simp [hxv]) (fun w => by rw [hxv, hyv]; exact equal_bool (isBo_spec hC hK.1) _ _) (by rw [hxv, hyv]; rfl) (by rw [hxv, hyv]; rfl) hK.2
  · obtain ⟨b, hE, hK⟩ := hK
    generalize hxv : a.eval x = xv at hx; generalize hyv : a.eval y = yv at hy
    have hx0 := hx
    have hy0 := hy
    cases hx; cases hy
    unfold aNil at hK
    split at hK
    · exact ⟨_, _, .bool b, hK, fun w => agg_exec hop hxv hyv hE.1 ((agg_run (op := .eql) (hE.2 E L _ _ w hx0 hy0)).1 rfl)⟩
    · exact ⟨_, _, .bool (!b), hK, fun w => agg_exec hop hxv hyv hE.1 ((agg_run (op := .neq) (hE.2 E L _ _ w hx0 hy0)).2 rfl)⟩
    · exact hK.elim
  · split at hK
    · exact flat (by assumption) hK
    · exact hK.elim
theorem aConv_v (hC : CxOk C) {s d : TypeId} {x : Operand} (hop : o.op = .convert s d x) {u : AV} (hx : VR E L u (a.eval x)) (hi : isInt u = true) (hK : aConv C s d u l m K) : Val C.P E L l m o a K := by
  unfold isInt at hi
  split at hi
  · rename_i k n
    generalize hxv : a.eval x = xv at hx
    cases hx
    unfold aConv at hK
    split at hK
    · rename_i Ts Td hTs hTd
      have hOs := hC.T _ _ hTs
      have hOd := hC.T _ _ hTd
      obtain ⟨ds, ks1, ks2⟩ := hOs.undr
      have hus := run_underlying (P := C.P) ks1
      cases hk : Td.kind with
      | int k' =>
        simp only [hk] at hK
        have hud := run_underlying (P := C.P) (hOd.int hk)
        exact ⟨_, _, .int _ _, hK, fun w => by simp [execOp, hop, hxv, convert, hus, hud, Conv.intToInt]⟩
      | flt =>
        simp only [hk] at hK
        have hud := run_underlying (P := C.P) (hOd.flt hk)
        exact ⟨_, _, .flt _, hK, fun w => by simp [execOp, hop, hxv, convert, hus, hud, Conv.intToFloat]⟩
      | str =>
        simp only [hk] at hK
        split at hK
        · obtain ⟨-, hK⟩ := hK
          simp [sliceRows] at hK
        · exact hK.elim
      | _ => simp [hk] at hK
    · exact hK.elim
  · cases hi
theorem aBuild_v (hC : CxOk C) {t : Nat → AV} (hm : ∀ x : Operand, VR E L (eA m t x) (a.eval x)) {ty : TypeId} {T : TI} (hCT : C.T ty = some T) {ps : Array (Nat × Operand)} (hop : o.op = .build ty ps)
    {cs : List AV} (hl : lay (places C T.kind) T.zero (ps.toList.map fun p => (p.1, eA m t p.2)) = some cs) (hagg : T.agg = true) (hK : K (.agg cs) l m) : Val C.P E L l m o a K := by
  have hT := hC.T ty T hCT
  obtain ⟨i, z, h1, h2, h3, h4, h5⟩ := hT.inf
  obtain ⟨g1, g2⟩ := parts_ok (a := a) hm ps
  obtain ⟨ys, f1, f2⟩ := lay_ok (E := E) (L := L) _ (ps.map fun p => (p.1, a.eval p.2)).toList _ _ z.cells (hT.zeros h5) g1 g2 hl
  refine ⟨.agg cs, .agg ys, .agg _ _ f2.1 fun i c v hc hv => (f2.2 i c v hc hv).mono (Env.le.refl E) (noPl_le L), hK, fun w => ?_⟩
  exact build_run hC hCT hop f1 hagg h1 h4 w
/-- The operations that touch no memory. -/
theorem aOp_v (hC : CxOk C) (hR : Rel Ei wi E L l m w) {t : Nat → AV} (ht : ∀ n, VR E L (t n) (a.tmps.getD n undef)) {KP : Value → Mem → Prop} (hp : okP m t o = true) (hK : aOp C id o t l m K KP) : Val C.P E L l m o a K := by
  have hv := ev_ok (a := a) hR.m ht
  unfold aOp at hK
  split at hK
  case h_4 hop => simp [okP, hop] at hp
  case h_5 hop => simp [okP, hop] at hp
  case h_7 hop => simp [okP, hop] at hp
  case h_8 hop => simp [okP, hop] at hp
  case h_9 hop => simp [okP, hop] at hp
  case h_20 hop => simp [okP, hop] at hp
  case h_21 hop => simp [okP, hop] at hp
  case h_22 hop => simp [okP, hop] at hp
  · rename_i x hop; exact aMove_v hR (.inl hop) (hv x) hK
  · rename_i x hop; exact aMove_v hR (.inr hop) (hv x) hK
  · rename_i c x y hop
    split at hK
    · rename_i q hq
      have := hv c
      rw [hq] at this
      exact aPick_v hR hop this (hv x) (hv y) hK.1 hK.2
    · exact hK.elim
  · rename_i ty ps hop
    split at hK
    · rename_i T hT
      split at hK
      · rename_i cs hl; exact aBuild_v hC hv hT hop hl hK.1 hK.2
      · exact hK.elim
    · exact hK.elim
  · rename_i x hop
    split at hK
    · rename_i aa i oo hx
      have := hv x
      rw [hx] at this
      exact aNilCheck_v hR hop this hK
    · exact hK.elim
  · rename_i op ty x y ty' hop
    exact aBinK_v hC hop (hv x) (hv y) (by simp only [okP, hop, Bool.not_eq_true'] at hp; exact hp) hK
  · rename_i op ty x hop
    split at hK
    · rename_i z hz; exact aUn_v hR hop (hv x) hz hK
    · exact hK.elim
  · rename_i s d x hop; exact aConv_v hC hop (hv x) (by simpa [okP, hop] using hp) hK
  · rename_i ty x lo hi hop
    have hlo : LoOk E L a lo ((lo.map (eA m t)).getD (.int .i64 0)) := by
      cases lo with
      | none => rfl
      | some y => exact hv y
    have hhi : HiOk E L a hi (hi.map (eA m t)) := by
      cases hi with
      | none => rfl
      | some y => exact ⟨_, rfl, hv y⟩
    unfold aSlice at hK
    split at hK
    · rename_i s hx
      have := hv x
      rw [hx] at this
      exact aSliceS_v hC hR hop this hlo hhi hK.1 hK.2
    · rename_i aa i n c hx
      have := hv x
      rw [hx] at this
      split at hK
      · rename_i Te hTe; exact aSliceR_v hC hR hop this hlo hhi hTe hK
      · exact hK.elim
    · exact hK.elim
  · rename_i s x f hop
    split at hK
    · rename_i p aa i oo hf hx
      have := hv x
      rw [hx] at this
      exact aFieldAddr_v hC hR hop hf this hK.1 hK.2
    · exact hK.elim
  · rename_i s x f hop
    split at hK
    · rename_i p cs hf hx
      have := hv x
      rw [hx] at this
      split at hK
      · rename_i z hz; exact aField_v hC hR hop hf this hz hK
      · exact hK.elim
    · exact hK.elim
  · rename_i ty x y hop; exact aIndexAddr_v hC hR hop (hv x) (hv y) hK
  · rename_i ty x y hop; exact aIndex_v hC hR hop (hv x) (hv y) hK
  · rename_i x k hop
    split at hK
    · rename_i vs hx
      have := hv x
      rw [hx] at this
      split at hK
      · rename_i z hz; exact aExtract_v hR hop this hz hK
      · exact hK.elim
    · exact hK.elim
  · rename_i c hop
    unfold aCall at hK
    split at hK
    · rename_i f hc; simp [okP, hop, hc] at hp
    · rename_i hc
      split at hK
      · rename_i x ty hx hty
        obtain ⟨y, hy, rfl⟩ : ∃ y, c.args.toList = [y] ∧ eA m t y = x := by
          cases hl : c.args.toList with
          | nil => simp [hl] at hx
          | cons y ys =>
            cases ys with
            | nil => simp [hl] at hx; exact ⟨y, rfl, hx⟩
            | cons _ _ => simp [hl] at hx
        exact aLen_v hC hR hop hc hty hy (hv y) hK
      · exact hK.elim
    · rename_i hc; simp [okP, hop, hc] at hp
    · exact hK.elim
  · exact hK.elim
end
end Go.Proofs.IM
