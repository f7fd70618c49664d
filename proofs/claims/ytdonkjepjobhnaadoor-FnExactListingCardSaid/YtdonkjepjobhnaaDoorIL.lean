/- All operations at once: what 'aOp' says is what the world does. -/
import Derived.Test.YtdonkjepjobhnaaDoorIK
namespace Go.Proofs.IM
open Go Go.RowKit
set_option linter.unusedVariables false
set_option linter.unusedSimpArgs false
set_option linter.unnecessarySimpa false
section
variable {P : Program} {C : Cx} {Ei E : Env} {wi w w' : World} {L : Pl} {l : Loc} {m : Mem} {o : Oper} {a : Act} {next : Act → World → Prop} {Q : Exit → Act → World → Prop} {id : Nat} {K : KS}
theorem VR.one' {v : AV} {x : Value} (h : VR E L v x) (hp : v.pub1 = true) : x.oneCell' = true := h.one hp
theorem rows_one {rs : List (List AV)} {sz : Nat} {news : List Value} (h : CR E rs sz (news.toArray[·]?)) (hl : news.length = rs.length * sz) (hz : 0 < sz) (hp : (rs.all fun r => r.all AV.pub1) = true) : ∀ v ∈ news, v.oneCell' = true := by
  intro v hv
  obtain ⟨k, hk, rfl⟩ := List.mem_iff_getElem.1 hv
  have hi : k / sz < rs.length := Nat.div_lt_of_lt_mul (by rw [Nat.mul_comm, ← hl]; exact hk)
  have hr : rs[k / sz]? = some rs[k / sz] := by simp [hi]
  have hlen := (h _ _ hr).1
  have ho : rs[k / sz][k % sz]? = some (rs[k / sz][k % sz]'(by rw [hlen]; exact Nat.mod_lt _ hz)) := by simp [hlen, Nat.mod_lt _ hz]
  obtain ⟨x, hx, hvx⟩ := (h _ _ hr).2 _ _ ho
  rw [Nat.mul_comm, Nat.div_add_mod] at hx
  have : news[k] = x := by
    have h2 : news.toArray[k]? = some news[k] := by simp [hk]
    have h3 : news.toArray[k]? = some x := hx
    rw [h2] at h3; cases h3; rfl
  rw [this]
  exact hvx.1.one' hvx.2
theorem src_rows (hR : Rel Ei wi E L l m w) {v : AV} {x : Value} (hx : VR E L v x) {xs : List (List AV)} (hs : sliceRows l m v = some xs) {Te : TI} (hz : 0 < Te.size)
    (hp : (xs.all fun r => r.length == Te.size && r.all AV.pub1) = true) : ∃ news, Src P E Te.size w x xs news := by
  have hp1 : (xs.all fun r => r.all AV.pub1) = true := by
    simp only [List.all_eq_true, Bool.and_eq_true] at hp ⊢
    exact fun r hr => (hp r hr).2
  unfold sliceRows at hs
  split at hs
  · rename_i aa i n c
    obtain ⟨B, p, ys, b1, p1, p2, b2, b3, b4, x1, x2, x3⟩ := rows_get hR.rs hs
    have e : ys.length = n * Te.size ∧ CR E xs Te.size (ys[·]?) := by
      cases xs with
      | nil =>
        have : n = 0 := by simpa using b4.symm
        subst this
        exact ⟨by rw [x1]; simp, fun i row h => by simp at h⟩
      | cons r rs =>
        have h1 := (x3 0 r rfl).1
        simp only [List.all_cons, Bool.and_eq_true, beq_iff_eq] at hp
        have h2 : B.sz = Te.size := h1.symm.trans hp.1.1
        rw [h2] at x1 x3
        exact ⟨x1, x3⟩
    obtain ⟨x1, x3⟩ := e
    cases hx with
    | sl _ _ _ _ q hq =>
      rw [p1] at hq; cases hq
      have hl : ∀ w', w'.heap = w.heap → (Builtin.firstCells Te.size xs.length (.slice (some (adr p i 0)) n c)).run P w' = .ok ys.toArray w' := by
        intro w' hw
        refine run_firstCells_some w' Te.size xs.length (adr p i 0) n c ys (by rw [x1, b4]) fun j v hj => ?_
        have := x2 j v hj
        simpa [World.cell?, hw] using this
      refine ⟨ys, fun w => by simp [Builtin.lenOf, b4], hl w rfl, hl w.drew rfl, x3.toArr, by rw [x1, b4], ?_⟩
      exact rows_one x3.toArr (by rw [x1, b4]) hz hp1
  · cases hs
    cases hx
    exact ⟨[], fun w => by simp [Builtin.lenOf], by simp [Builtin.firstCells], by simp [Builtin.firstCells], fun i row h => by simp at h, by simp, by simp⟩
  · rename_i aq
    cases hs
    cases hx
    · have hl : ∀ w' : World, (Builtin.firstCells Te.size 0 (.slice (some aq) 0 0)).run P w' = .ok #[] w' := fun w' => run_firstCells_some w' Te.size 0 aq 0 0 [] (by simp) (fun j v hj => by simp at hj)
      exact ⟨[], fun w => by simp [Builtin.lenOf], hl w, hl w.drew, fun i row h => by simp at h, by simp, by simp⟩
  · cases hs
theorem src_str (s : ByteArray) : Src P E 1 w (.string s) (bytesRows s) (s.data.toList.map fun b => .int .u8 b.toNat) := by
  have hl : (bytesRows s).length = s.size := by simp [bytesRows]
  have hf : ∀ w, (Builtin.firstCells 1 (bytesRows s).length (.string s)).run P w = .ok (s.data.toList.map fun b => Value.int .u8 b.toNat).toArray w := by
    intro w
    have hx : (s.extract 0 (bytesRows s).length).data = s.data := by
      rw [hl]; simp
    simp only [Builtin.firstCells, Sem.run_pure, hx]
    congr 1
    apply Array.ext'
    simp
  refine ⟨fun w => by simp [Builtin.lenOf, hl], hf w, hf _, fun i row hi => ?_, by simp [bytesRows], by simp [Value.oneCell']⟩
  simp only [bytesRows, List.getElem?_map, Option.map_eq_some_iff] at hi
  obtain ⟨b, hb, rfl⟩ := hi
  refine ⟨rfl, fun oo v ho => ?_⟩
  have h00 : oo = 0 := by have := (List.getElem?_eq_some_iff.1 ho).1; simpa using this
  subst h00
  simp at ho
  subst ho
  exact ⟨_, by simpa using ⟨b, by simpa using hb, rfl⟩, .int _ _, rfl⟩
theorem args_ok {t : Nat → AV} (ht : ∀ x : Operand, VR E L (eA m t x) (a.eval x)) (xs : Array Operand) (hp : (xs.toList.map (eA m t)).all AV.pub = true) : VRs E noPl (xs.toList.map (eA m t)) (xs.map a.eval) := by
  refine ⟨by simp, fun i c v hc hv => ?_⟩
  simp only [List.all_eq_true] at hp
  have hpc := hp c (List.mem_of_getElem? hc)
  simp only [List.getElem?_map, Array.getElem?_toList, Option.map_eq_some_iff, Array.getElem?_map] at hc hv
  obtain ⟨x, hx, rfl⟩ := hc
  obtain ⟨y, hy, rfl⟩ := hv
  rw [hx] at hy; cases hy
  exact (ht x).pub hpc noPl
/-- Behind a call: the caller's own variables are as they were. -/
theorem Rel.called (h : Rel Ei wi E L l m w) {E' : Env} {m' : Mem} (hE : E.le E') (hm : MR E' m' w') (hsz : w.heap.size ≤ w'.heap.size) (hfr : ∀ b, b < w.heap.size → (∀ j s, E.h j ≠ some (b, s)) → w'.heap[b]? = w.heap[b]?)
    (hown : ∀ j b s, E'.h j = some (b, s) → w.heap.size ≤ b ∨ E.h j = some (b, s)) : Rel Ei wi E' L l m' w' where
  m := hm
  l := by
    refine ⟨fun j B hj => ?_, h.l.dom, fun j b s hj => by rw [hE.base]; exact h.l.lb j b s hj, h.l.inj, fun j k b s s' hj hk => ?_⟩
    · obtain ⟨b, hb, ha⟩ := h.l.at_ j B hj
      exact ⟨b, hb, (ha.same (hfr b ha.lt fun k s hk => h.l.far j k b _ s hb hk)).mono hE⟩
    · rcases hown k b s' hk with h1 | h1
      · have := h.l.l_lt hj; omega
      · exact h.l.far j k b s s' hj h1
  e := by
    refine ⟨h.e.le.trans hE, Nat.le_trans h.e.sz hsz, fun b hb hn => ?_, fun j b s hj => ?_, h.e.ownl⟩
    · rw [hfr b (Nat.lt_of_lt_of_le hb h.e.sz) fun j s hj => ?_]
      · exact h.e.fr b hb hn
      · rcases h.e.ownh j b s hj with h1 | h1
        · omega
        · exact hn j s h1
    · rcases hown j b s hj with h1 | h1
      · left; have := h.e.sz; omega
      · exact h.e.ownh j b s h1
/-- What a panic hands on. -/
def GoodP (Ei : Env) (wi : World) (a : Act) (KP : Value → Mem → Prop) (Q : Exit → Act → World → Prop) : Prop :=
  ∀ E' L' v l' m' w', Rel Ei wi E' L' l' m' w' → KP v m' → Q (.panic [{ v, recovered := false }]) a w'
theorem aCall_ok (hR : Rel Ei wi E L l m w) {t : Nat → AV} (ht : ∀ x : Operand, VR E L (eA m t x) (a.eval x)) {c : Call} (hop : o.op = .call c) {f : FuncId} (hc : c.callee = .value (.func f)) {KP : Value → Mem → Prop}
    (hp : (c.args.toList.map (eA m t)).all AV.pub = true) (hK : Sim P f (c.args.toList.map (eA m t)) m (callK K l KP)) (hG : Good Ei wi E L id a o.dst K next) (hP : GoodP Ei wi a KP Q) : o.wp P a w next Q := by
  have hev : a.eval (.func f) = .func (.func f) #[] #[] := rfl
  have hex : (execOp a.eval o).run P w = (callFunc f (c.args.map a.eval)).run P w := by
    simp only [execOp, hop, resolve, hc, hev, Sem.run_bind]
    simp [Deferred.ofValue, invoke]
  rcases hK E w (c.args.map a.eval) hR.m (args_ok ht c.args hp) with ⟨hf, hK⟩ | ⟨r, x, hr, hv, hk⟩
  · have hrun : (callFunc f (c.args.map a.eval)).run P w = .ok (.enter f (c.args.map a.eval)) w := by
      unfold callable at hf
      cases hfn : P.funcs[f]? with
      | none => simp [hfn] at hf
      | some fn =>
        simp only [hfn, Bool.and_eq_true, Bool.not_eq_true'] at hf
        obtain ⟨b1, b2⟩ := hf
        have b3 : fn.body.isNone = false := by
          cases hb : fn.body <;> simp [hb] at b1 ⊢
        simp only [callFunc, Sem.run_bind, run_program, Result.andThen_ok, hfn, b2, b3, Bool.false_eq_true, if_false, Sem.run_pure]
    unfold Oper.wp
    rw [hex, hrun]
    show Calls P f _ w _
    refine hK.mono fun e w' h => ?_
    obtain ⟨E', m', hE, hm, hsz, hfr, hown, h⟩ := h
    have hR' := hR.called hE hm hsz hfr hown
    rcases h with ⟨r, x, rfl, hr, hk⟩ | ⟨v, rfl, hk⟩
    · exact hG E' L r x l m' w' hR' hE (Pl.le.refl L) (fun _ _ => rfl) (hr.mono (Env.le.refl _) (noPl_le L)) hk
    · exact hP E' L v l m' w' hR' hk
  · exact hG.here hR (hv.mono (Env.le.refl _) (noPl_le L)) (hex.trans hr) hk
theorem elm_spec' (hC : CxOk C) {s : TypeId} {Te : TI} (h : elm C s = some Te) : ∃ el, C.P.underlying s = some (.slice el) ∧ TOk C.P el Te := elm_spec hC h
theorem aApp_ok (hC : CxOk C) (hR : Rel Ei wi E L l m w) {c : Call} (hop : o.op = .call c) (hc : c.callee = .builtin .append) {t u : TypeId} (hty : c.argTypes.toList = [t, u]) {y x : Operand} (hxs : c.args.toList = [y, x]) {s v : AV} (hs : VR E L s (a.eval y)) (hx : VR E L v (a.eval x))
    (hK : aApp C t u s v l m K) (hG : Good Ei wi E L id a o.dst K next) : o.wp C.P a w next Q := by
  have e1 : c.argTypes = #[t, u] := by rw [← Array.toArray_toList (xs := c.argTypes), hty]
  have e2 : c.args = #[y, x] := by rw [← Array.toArray_toList (xs := c.args), hxs]
  have hrun : ∀ {r w'}, (Builtin.append_ #[t, u] o.type #[a.eval y, a.eval x]).run C.P w = .ok r w' → (execOp a.eval o).run C.P w = .ok (.value r) w' := by
    intro r w' hv
    simp [execOp, hop, resolve, hc, invoke, builtin, e1, e2, hv]
  unfold aApp at hK
  split at hK
  · rename_i Te hTe
    obtain ⟨h0, hK⟩ := hK
    obtain ⟨el, u1, u2⟩ := elm_spec hC hTe
    split at hK
    · rename_i hu
      subst hu
      split at hK
      · rename_i xs hsr
        obtain ⟨hall, hK⟩ := hK
        obtain ⟨news, hsrc⟩ := src_rows (P := C.P) hR hx hsr h0 hall
        exact aAppend_ok hR u1 u2 u1 (.inl ⟨_, rfl⟩) h0 hsrc hs hrun hK hG
      · exact hK.elim
    · obtain ⟨k1, k2, k3, hK⟩ := hK
      split at hK
      · rename_i q
        generalize hxv : a.eval x = xv at hx hrun
        cases hx
        exact aAppend_ok hR u1 u2 (kd_str hC k1) (.inr rfl) h0 (by rw [k3]; exact src_str q) hs hrun hK hG
      · exact hK.elim
  · exact hK.elim
theorem aPanic_ok (hR : Rel Ei wi E L l m w) {x : Operand} (hop : o.op = .panic x) {ty : TypeId} {v : Value} (hx : VR E L (.raw (.iface ty v)) (a.eval x)) {KP : Value → Mem → Prop} (hK : KP (.iface ty v) m) (hP : GoodP Ei wi a KP Q) : o.wp P a w next Q := by
  generalize hxv : a.eval x = xv at hx
  cases hx
  unfold Oper.wp
  have : (execOp a.eval o).run P w = .halt (.panic (.iface ty v)) w := by
    simp [execOp, hop, hxv, Instr.panic, goPanic]
  rw [this]
  exact hP E L _ l m w hR hK
/-- **All operations.** -/
theorem aOp_ok (hC : CxOk C) (hR : Rel Ei wi E L l m w) (hid : L id = none) {t : Nat → AV} (ht : ∀ n, VR E L (t n) (a.tmps.getD n undef)) {KP : Value → Mem → Prop} (hK : aOp C id o t l m K KP) (hG : Good Ei wi E L id a o.dst K next) (hP : GoodP Ei wi a KP Q) : o.wp C.P a w next Q := by
  have hv := ev_ok (a := a) hR.m ht
  unfold aOp at hK
  split at hK
  · rename_i x hop; exact (aMove_v hR (.inl hop) (hv x) hK).ok hR hG
  · rename_i x hop; exact (aMove_v hR (.inr hop) (hv x) hK).ok hR hG
  · rename_i c x y hop
    split at hK
    · rename_i q hq
      have := hv c
      rw [hq] at this
      exact (aPick_v hR hop this (hv x) (hv y) hK.1 hK.2).ok hR hG
    · exact hK.elim
  · rename_i ty x hop; exact aBox_ok hR hid hop (hv x) hK.1 hK.2 hG
  · rename_i ty hop
    split at hK
    · rename_i T hT; exact aAlloc_ok hR hid (hC.T _ _ hT) hop hK hG
    · exact aGho_ok hR hop hK hG
  · rename_i ty ps hop
    split at hK
    · rename_i T hT
      split at hK
      · rename_i cs hl; exact aBuild_ok hC hR hv hT hop hl hK.1 hK.2 hG
      · exact hK.elim
    · exact hK.elim
  · rename_i ty n ps hop; exact aBuildSlice_ok hC hR hid hv hop hK hG
  · rename_i ty x hop
    split at hK
    · rename_i T hT; exact aLoad_ok (hC.T _ _ hT) hR hop (hv x) hK hG
    · exact hK.elim
  · rename_i ty x y hop
    split at hK
    · rename_i T hT; exact aStore_ok (hC.T _ _ hT) hR hop (hv x) (hv y) hK hG
    · exact hK.elim
  · rename_i x hop
    split at hK
    · rename_i aa i oo hx
      have := hv x
      rw [hx] at this
      exact (aNilCheck_v hR hop this hK).ok hR hG
    · exact hK.elim
  · rename_i op ty x y ty' hop; exact aBinK_ok hC hR hop (hv x) (hv y) hK hG
  · rename_i op ty x hop
    split at hK
    · rename_i z hz; exact (aUn_v hR hop (hv x) hz hK).ok hR hG
    · exact hK.elim
  · rename_i s d x hop; exact aConv_ok hC hR hop (hv x) hK hG
  · rename_i ty x lo hi hop
    have hlo : LoOk E L a lo ((lo.map (eA m t)).getD (.int .i64 0)) := by
      cases lo with
      | none => rfl
      | some y => exact hv y
    have hhi : HiOk E L a hi (hi.map (eA m t)) := by
      cases hi with
      | none => rfl
      | some y => exact ⟨_, rfl, hv y⟩
    unfold aSlice at hK
    split at hK
    · rename_i s hx
      have := hv x
      rw [hx] at this
      exact (aSliceS_v hC hR hop this hlo hhi hK.1 hK.2).ok hR hG
    · rename_i aa i n c hx
      have := hv x
      rw [hx] at this
      split at hK
      · rename_i Te hTe; exact (aSliceR_v hC hR hop this hlo hhi hTe hK).ok hR hG
      · exact hK.elim
    · exact hK.elim
  · rename_i s x f hop
    split at hK
    · rename_i p aa i oo hf hx
      have := hv x
      rw [hx] at this
      exact (aFieldAddr_v hC hR hop hf this hK.1 hK.2).ok hR hG
    · exact hK.elim
  · rename_i s x f hop
    split at hK
    · rename_i p cs hf hx
      have := hv x
      rw [hx] at this
      split at hK
      · rename_i z hz; exact (aField_v hC hR hop hf this hz hK).ok hR hG
      · exact hK.elim
    · exact hK.elim
  · rename_i ty x y hop; exact (aIndexAddr_v hC hR hop (hv x) (hv y) hK).ok hR hG
  · rename_i ty x y hop; exact (aIndex_v hC hR hop (hv x) (hv y) hK).ok hR hG
  · rename_i x k hop
    split at hK
    · rename_i vs hx
      have := hv x
      rw [hx] at this
      split at hK
      · rename_i z hz; exact (aExtract_v hR hop this hz hK).ok hR hG
      · exact hK.elim
    · exact hK.elim
  · rename_i ty x y hop
    split at hK
    · rename_i Te hTe; exact aMake_ok hC hR hop hTe (hv x) (hv y) hK hG
    · exact hK.elim
  · rename_i ty x hop
    split at hK
    · rename_i hx
      have := hv x
      rw [hx] at this
      exact (aMakeIface_v hC hR hop this hK.1 hK.2).ok hR hG
    · exact hK.elim
  · rename_i x hop
    split at hK
    · rename_i ty z hx
      have := hv x
      rw [hx] at this
      exact aPanic_ok hR hop this hK hP
    · exact hK.elim
  · rename_i c hop
    unfold aCall at hK
    split at hK
    · rename_i f hc; exact aCall_ok hR hv hop hc hK.1 hK.2 hG hP
    · rename_i hc
      split at hK
      · rename_i x ty hx hty
        obtain ⟨y, hy, rfl⟩ : ∃ y, c.args.toList = [y] ∧ eA m t y = x := by
          cases hl : c.args.toList with
          | nil => simp [hl] at hx
          | cons y ys =>
            cases ys with
            | nil => simp [hl] at hx; exact ⟨y, rfl, hx⟩
            | cons _ _ => simp [hl] at hx
        exact (aLen_v hC hR hop hc hty hy (hv y) hK).ok hR hG
      · exact hK.elim
    · rename_i hc
      split at hK
      · rename_i s x ty ty' hx hty
        obtain ⟨y, z, hy, rfl, rfl⟩ : ∃ y z, c.args.toList = [y, z] ∧ eA m t y = s ∧ eA m t z = x := by
          cases hl : c.args.toList with
          | nil => simp [hl] at hx
          | cons y ys =>
            cases ys with
            | nil => simp [hl] at hx
            | cons z zs =>
              cases zs with
              | nil => simp [hl] at hx; exact ⟨y, z, rfl, hx⟩
              | cons _ _ => simp [hl] at hx
        exact aApp_ok hC hR hop hc hty hy (hv y) (hv z) hK hG
      · exact hK.elim
    · exact hK.elim
  · exact hK.elim
end
end Go.Proofs.IM
