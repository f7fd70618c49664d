/- Operations, one by one: what runs in the world is what the abstract machine says. -/
import Derived.Test.YtdonkjepjobhnaaDoorIE
namespace Go.Proofs.IM
open Go Go.RowKit
set_option linter.unusedVariables false
set_option linter.unusedSimpArgs false
set_option linter.unnecessarySimpa false
section
variable {P : Program} {Ei E : Env} {wi w w' : World} {L : Pl} {l : Loc} {m : Mem} {o : Oper} {a : Act} {next : Act → World → Prop} {Q : Exit → Act → World → Prop} {id : Nat} {K : KS}
theorem aBox_ok (hR : Rel Ei wi E L l m w) (hid : L id = none) {ty : TypeId} {x : Operand} (hop : o.op = .box ty x) {v : AV} (hx : VR E L v (a.eval x)) {priv : Bool} (hp : v.cells.all AV.pub1 = true)
    (hK : newBlk priv id ⟨[v.cells], v.cells.length⟩ (fun a => .ptr a 0 0) l m K) (hG : Good Ei wi E L id a o.dst K next) : o.wp P a w next Q := by
  have := newBlk_ok (o := o) (a := a) (mk := fun a => .ptr a 0 0) (mk' := fun p => .pointer (some p)) hR hid ty (CR.one (hx.cells hp).1 hp _ rfl) hmk_ptr hG hK
  refine wp_of_run ?_ this
  simp [execOp, hop, Instr.box, newVar, newRow]
theorem aAlloc_ok (hR : Rel Ei wi E L l m w) (hid : L id = none) {ty : TypeId} {T : TI} (hT : TOk P ty T) (hop : o.op = .alloc ty) {priv : Bool}
    (hK : newBlk priv id ⟨[T.zero], T.size⟩ (fun a => .ptr a 0 0) l m K) (hG : Good Ei wi E L id a o.dst K next) : o.wp P a w next Q := by
  obtain ⟨i, z, h1, h2, h3, h4, h5⟩ := hT.inf
  have := newBlk_ok (o := o) (a := a) (mk := fun a => .ptr a 0 0) (mk' := fun p => .pointer (some p)) hR hid ty (CR.one (hT.zeros (E := E) (L := noPl) h5) hT.pub _ hT.len) hmk_ptr hG hK
  refine wp_of_run ?_ this
  simp [execOp, hop, Instr.alloc, newVar, newRow, zeroValue, typeInfo, h1, h4]
theorem aGho_ok (hR : Rel Ei wi E L l m w) {ty : TypeId} (hop : o.op = .alloc ty) (hK : aGho P ty l m K) (hG : Good Ei wi E L id a o.dst K next) : o.wp P a w next Q := by
  obtain ⟨i, z, h1, h4, hK⟩ := hK
  obtain ⟨r1, r2⟩ := hR.newGho z.cells ty i.size
  refine wp_of_run ?_ (hG _ L _ (.pointer (some ⟨w.heap.size, 0, none⟩)) _ _ _ r1 r2 (Pl.le.refl L) (fun _ _ => rfl) (hmk_ptr (p := (w.heap.size, 0, i.size)) (by simp [pos, upd]) rfl) hK)
  simp [execOp, hop, Instr.alloc, newVar, newRow, zeroValue, typeInfo, h1, h4]
/-- 'fill' lays parts as 'lay' does. -/
theorem splice_vrs {cs ys : List AV} {xs zs : Array Value} {off : Nat} (h : VRs E L cs xs) (hy : VRs E L ys zs) (hle : off + ys.length ≤ cs.length) :
    VRs E L (splice cs off ys) (zs.zipIdx.foldl (fun r p => r.setIfInBounds (off + p.2) p.1) xs) := by
  have key : ∀ (zl : List Value) (k : Nat) (xs : Array Value), ((zl.zipIdx k).foldl (fun (r : Array Value) (p : Value × Nat) => r.setIfInBounds (off + p.2) p.1) xs).size = xs.size ∧
      ∀ q, off + k + zl.length ≤ xs.size → ((zl.zipIdx k).foldl (fun (r : Array Value) (p : Value × Nat) => r.setIfInBounds (off + p.2) p.1) xs)[q]? = if off + k ≤ q ∧ q < off + k + zl.length then zl[q - (off + k)]? else xs[q]? := by
    intro zl
    induction zl with
    | nil => intro k xs; refine ⟨rfl, fun q _ => ?_⟩; simp; omega
    | cons z zl ih =>
      intro k xs
      obtain ⟨i1, i2⟩ := ih (k + 1) (xs.setIfInBounds (off + k) z)
      simp only [List.zipIdx_cons, List.foldl_cons]
      refine ⟨by rw [i1]; simp, fun q hq => ?_⟩
      have hb : off + (k + 1) + zl.length ≤ (xs.setIfInBounds (off + k) z).size := by rw [Array.size_setIfInBounds]; simp at hq; omega
      rw [i2 q hb]
      simp only [List.length_cons] at hq ⊢
      by_cases c1 : q = off + k
      · subst c1
        rw [if_neg (by omega), if_pos (by omega)]
        have hlt : off + k < xs.size := by omega
        simp [Array.getElem?_setIfInBounds, hlt]
      · by_cases c2 : off + (k + 1) ≤ q ∧ q < off + (k + 1) + zl.length
        · rw [if_pos c2, if_pos (by omega), show q - (off + k) = (q - (off + (k + 1))) + 1 by omega, List.getElem?_cons_succ]
        · rw [if_neg c2, if_neg (by omega)]
          rw [Array.getElem?_setIfInBounds_ne (by omega)]
  have hfold : zs.zipIdx.foldl (fun r p => r.setIfInBounds (off + p.2) p.1) xs = (zs.toList.zipIdx 0).foldl (fun (r : Array Value) (p : Value × Nat) => r.setIfInBounds (off + p.2) p.1) xs := by
    rw [← Array.foldl_toList]; simp
  rw [hfold]
  obtain ⟨k1, k2⟩ := key zs.toList 0 xs
  have hl : zs.size = ys.length := hy.1.symm
  refine ⟨by rw [k1, ← h.1]; simp [splice]; omega, fun i c v hc hv => ?_⟩
  rw [k2 i (by simp [hl, ← h.1]; omega)] at hv
  simp only [splice, List.append_assoc, List.getElem?_append, List.length_take, List.getElem?_take, List.getElem?_drop] at hc
  rw [show min off cs.length = off by omega] at hc
  simp only [Nat.add_zero, Array.length_toList, Array.getElem?_toList] at hv
  by_cases c1 : i < off
  · rw [if_pos c1, if_pos c1] at hc
    rw [if_neg (by omega)] at hv
    exact h.2 i c v hc hv
  · rw [if_neg c1] at hc
    by_cases c2 : i - off < ys.length
    · rw [if_pos c2] at hc
      rw [if_pos (by omega)] at hv
      exact hy.2 _ c v hc hv
    · rw [if_neg c2, show off + ys.length + (i - off - ys.length) = i by omega] at hc
      rw [if_neg (by omega)] at hv
      exact h.2 i c v hc hv
theorem lay_ok {place : Nat → Option (Nat × Nat)} : ∀ (ps : List (Nat × AV)) (qs : List (Nat × Value)) (cs cs' : List AV) (xs : Array Value), VRs E noPl cs xs → ps.length = qs.length →
    (∀ (j : Nat) (p : Nat × AV) (q : Nat × Value), ps[j]? = some p → qs[j]? = some q → p.1 = q.1 ∧ VR E L p.2 q.2) → lay place cs ps = some cs' →
    ∃ ys, Instr.fill place xs qs = some ys ∧ VRs E noPl cs' ys := by
  intro ps
  induction ps with
  | nil =>
    intro qs cs cs' xs h hl hr hp
    cases qs with
    | nil => simp [lay] at hp; subst hp; exact ⟨xs, rfl, h⟩
    | cons => simp at hl
  | cons p ps ih =>
    intro qs cs cs' xs h hl hr hp
    cases qs with
    | nil => simp at hl
    | cons q qs =>
      obtain ⟨i, v⟩ := p
      obtain ⟨i', x⟩ := q
      obtain ⟨e, hv0⟩ := hr 0 _ _ rfl rfl
      simp only at e hv0
      subst e
      simp only [lay] at hp
      cases hpl : place i with
      | none => simp [hpl] at hp
      | some on =>
        obtain ⟨oo, n⟩ := on
        simp only [hpl] at hp
        split at hp
        · rename_i hc
          have hv := (hv0.cells hc.2.2).1
          have := ih qs (splice cs oo v.cells) cs' (x.cells.zipIdx.foldl (fun r p => r.setIfInBounds (oo + p.2) p.1) xs) (splice_vrs h hv (by omega)) (by simpa using hl) (fun j p q hp hq => hr (j + 1) p q (by simpa using hp) (by simpa using hq)) hp
          obtain ⟨ys, h1, h2⟩ := this
          refine ⟨ys, ?_, h2⟩
          have e1 : x.cells.size = n := by rw [← hv.1]; exact hc.1
          have e2 : ¬ (x.cells.size ≠ n || decide (oo + x.cells.size > xs.size)) = true := by
            have := h.1
            simp [e1]; omega
          simp only [Instr.fill, hpl]
          rw [if_neg (by simpa using e2)]
          exact h1
        · cases hp
theorem parts_ok {t : Nat → AV} (ht : ∀ x : Operand, VR E L (eA m t x) (a.eval x)) (ps : Array (Nat × Operand)) :
    (ps.toList.map fun p => (p.1, eA m t p.2)).length = ((ps.map fun p => (p.1, a.eval p.2)).toList).length ∧
    ∀ (j : Nat) (p : Nat × AV) (q : Nat × Value), (ps.toList.map fun p => (p.1, eA m t p.2))[j]? = some p → (ps.map fun p => (p.1, a.eval p.2)).toList[j]? = some q → p.1 = q.1 ∧ VR E L p.2 q.2 := by
  refine ⟨by simp, fun j p q hp hq => ?_⟩
  simp only [List.getElem?_map, Array.getElem?_toList, Array.toList_map, Option.map_eq_some_iff] at hp hq
  obtain ⟨u, hu, rfl⟩ := hp
  obtain ⟨u', hu', rfl⟩ := hq
  rw [hu] at hu'
  cases hu'
  exact ⟨rfl, ht _⟩
theorem eval_parts {t : Nat → AV} (ps : Array (Nat × Operand)) : (ps.map fun (i, x) => (i, a.eval x)) = ps.map fun p => (p.1, a.eval p.2) := rfl
theorem run_underlying_st {ty : TypeId} {T : TI} (hT : TOk P ty T) {fs : List (Nat × TypeId)} (hk : T.kind = .st fs) : ∃ fl : Array Field, (∀ w, (underlying ty).run P w = .ok (.struct fl) w) ∧ fl.toList.map (fun f => (f.offset, f.type)) = fs := by
  obtain ⟨fl, h1, h2⟩ := hT.st hk
  exact ⟨fl, fun w => run_underlying h1 w, h2⟩
theorem mapM_places {C : Cx} (hC : CxOk C) (w : World) : ∀ (fl : List Field) (acc : List (Nat × Nat)), (∀ f ∈ fl, (C.T f.type).isSome = true) →
    (fl.mapM fun f => (do pure (f.offset, ← sizeOf f.type) : Sem (Nat × Nat))).run C.P w = .ok (fl.map fun f => (f.offset, ((C.T f.type).map TI.size).getD 0)) w := by
  intro fl acc h
  induction fl with
  | nil => simp
  | cons f fl ih =>
    have h1 := h f (by simp)
    cases hT : C.T f.type with
    | none => simp [hT] at h1
    | some T =>
      have := ih (fun g hg => h g (by simp [hg]))
      rw [List.mapM_cons]
      simp only [Sem.run_bind, (hC.T _ _ hT).szr, Result.andThen_ok, Sem.run_pure, this, List.map_cons, hT, Option.map_some, Option.getD_some]
theorem build_run {C : Cx} (hC : CxOk C) {ty : TypeId} {T : TI} (hCT : C.T ty = some T) {ps : Array (Nat × Operand)} (hop : o.op = .build ty ps) {i : TypeInfo} {z : Value} {ys : Array Value}
    (f1 : Instr.fill (places C T.kind) z.cells (ps.map fun p => (p.1, a.eval p.2)).toList = some ys) (hagg : T.agg = true) (h1 : C.P.info? ty = some i) (h4 : i.zero = some z) (w : World) : (execOp a.eval o).run C.P w = .ok (.value (.agg ys)) w := by
  have hT := hC.T ty T hCT
  have hall := hC.known ty T hCT
  have hz : (zeroValue ty).run C.P w = .ok z w := by simp [zeroValue, typeInfo, h1, h4]
  unfold TI.agg at hagg
  cases hk : T.kind with
  | st fs =>
    rw [hk] at hall
    unfold TK.known at hall
    obtain ⟨fl, u1, u2⟩ := run_underlying_st hT hk
    have hm := mapM_places hC w fl.toList [] (fun f hf => by
      simp only [List.all_eq_true] at hall
      exact hall (f.offset, f.type) (by rw [← u2]; exact List.mem_map.2 ⟨f, hf, rfl⟩))
    have hpl : (fun i => ((fl.toList.map fun f => (f.offset, ((C.T f.type).map TI.size).getD 0)).toArray)[i]?) = places C T.kind := by
      funext i
      rw [hk]
      simp only [places, ← u2, List.getElem?_map, List.getElem?_toArray, Array.getElem?_toList]
      cases hf : fl[i]? with
      | none => simp
      | some f =>
        have : (C.T f.type).isSome = true := by
          simp only [List.all_eq_true] at hall
          exact hall (f.offset, f.type) (by rw [← u2]; exact List.mem_map.2 ⟨f, by simpa using Array.mem_of_getElem? hf, rfl⟩)
        cases hT' : C.T f.type with
        | none => simp [hT'] at this
        | some T' => simp [hT']
    have hmA : (fl.mapM fun f => (do pure (f.offset, ← sizeOf f.type) : Sem (Nat × Nat))).run C.P w = .ok (fl.toList.map fun f => (f.offset, ((C.T f.type).map TI.size).getD 0)).toArray w := by
      have e : fl = fl.toList.toArray := rfl
      rw [e, List.mapM_toArray]
      simp only [Sem.run_map, hm, Result.andThen_ok]
    simp only [execOp, hop, Instr.build, Sem.run_bind, hz, Result.andThen_ok, u1, hmA, hpl, eval_parts]
    rw [f1]
    simp
  | arr n e =>
    have u1 := hT.arr hk
    rw [hk] at hall
    unfold TK.known at hall
    cases hTe : C.T e with
    | none => simp [hTe] at hall
    | some Te =>
      have hpl : (fun i => some (i * Te.size, Te.size)) = places C T.kind := by
        funext i; simp [hk, places, hTe]
      simp only [execOp, hop, Instr.build, Sem.run_bind, hz, Result.andThen_ok, run_underlying u1, (hC.T _ _ hTe).szr, eval_parts]
      rw [hpl, f1]
      simp
  | _ => simp [hk] at hagg
theorem aBuild_ok {C : Cx} (hC : CxOk C) (hR : Rel Ei wi E L l m w) {t : Nat → AV} (ht : ∀ x : Operand, VR E L (eA m t x) (a.eval x)) {ty : TypeId} {T : TI} (hCT : C.T ty = some T) {ps : Array (Nat × Operand)} (hop : o.op = .build ty ps)
    {cs : List AV} (hl : lay (places C T.kind) T.zero (ps.toList.map fun p => (p.1, eA m t p.2)) = some cs) (hagg : T.agg = true) (hK : K (.agg cs) l m) (hG : Good Ei wi E L id a o.dst K next) : o.wp C.P a w next Q := by
  have hT := hC.T ty T hCT
  obtain ⟨i, z, h1, h2, h3, h4, h5⟩ := hT.inf
  obtain ⟨g1, g2⟩ := parts_ok (a := a) ht ps
  obtain ⟨ys, f1, f2⟩ := lay_ok (E := E) (L := L) _ (ps.map fun p => (p.1, a.eval p.2)).toList _ _ z.cells (hT.zeros h5) g1 g2 hl
  exact hG.here hR (v := .agg cs) (x := .agg ys) (.agg _ _ f2.1 fun i c v hc hv => (f2.2 i c v hc hv).mono (Env.le.refl E) (noPl_le L)) (build_run hC hCT hop f1 hagg h1 h4 w) hK
end
end Go.Proofs.IM
