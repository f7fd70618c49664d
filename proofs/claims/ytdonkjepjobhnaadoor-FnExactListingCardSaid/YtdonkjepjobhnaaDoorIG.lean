/- Operations, one by one, the second half. -/
import Derived.Test.YtdonkjepjobhnaaDoorIF
namespace Go.Proofs.IM
open Go Go.RowKit
set_option linter.unusedVariables false
set_option linter.unusedSimpArgs false
set_option linter.unnecessarySimpa false
section
variable {P : Program} {C : Cx} {Ei E : Env} {wi w w' : World} {L : Pl} {l : Loc} {m : Mem} {o : Oper} {a : Act} {next : Act → World → Prop} {Q : Exit → Act → World → Prop} {id : Nat} {K : KS}
/-- A value that hangs on no world: it and what follows hold; the operation yields it everywhere. -/
def Val (P : Program) (E : Env) (L : Pl) (l : Loc) (m : Mem) (o : Oper) (a : Act) (K : KS) : Prop := ∃ v x, VR E L v x ∧ K v l m ∧ ∀ w, (execOp a.eval o).run P w = .ok (.value x) w
theorem Val.ok (h : Val P E L l m o a K) (hR : Rel Ei wi E L l m w) (hG : Good Ei wi E L id a o.dst K next) : o.wp P a w next Q := by
  obtain ⟨v, x, hv, hK, hr⟩ := h
  exact hG.here hR hv (hr w) hK
theorem aMove_v (hR : Rel Ei wi E L l m w) {x : Operand} (hop : o.op = .move x ∨ o.op = .assign x) {v : AV} (hx : VR E L v (a.eval x)) (hK : K v l m) : Val P E L l m o a K :=
  ⟨_, _, hx, hK, fun w => (by rcases hop with hop | hop <;> simp [execOp, hop])⟩
theorem aPick_v (hR : Rel Ei wi E L l m w) {c x y : Operand} (hop : o.op = .pick c x y) {q : Bool} {u v : AV} (hc : VR E L (.bool q) (a.eval c)) (hx : VR E L u (a.eval x)) (hy : VR E L v (a.eval y))
    (h1 : q = true → K u l m) (h2 : q = false → K v l m) : Val P E L l m o a K := by
  generalize hcv : a.eval c = cv at hc
  cases hc
  cases q with
  | true => exact ⟨_, _, hx, (h1 rfl), fun w => (by simp [execOp, hop, hcv, asBool])⟩
  | false => exact ⟨_, _, hy, (h2 rfl), fun w => (by simp [execOp, hop, hcv, asBool])⟩
theorem aNilCheck_v (hR : Rel Ei wi E L l m w) {x : Operand} (hop : o.op = .nilCheck x) {aa : AA} {i oo : Nat} (hx : VR E L (.ptr aa i oo) (a.eval x)) (hK : K (.ptr aa i oo) l m) : Val P E L l m o a K := by
  have hx0 := hx
  generalize hcv : a.eval x = cv at hx
  cases hx
  exact ⟨_, _, hx0, hK, fun w => (by simp [execOp, hop, hcv])⟩
theorem fld_spec (hC : CxOk C) {s : TypeId} {f : Nat} {p : Nat × TI} (h : fld C s f = some p) : ∃ (fl : Array Field) (fd : Field), (∀ w, (underlying s).run C.P w = .ok (.struct fl) w) ∧ fl[f]? = some fd ∧ fd.offset = p.1 ∧ TOk C.P fd.type p.2 := by
  unfold fld kd at h
  cases hs : C.T s with
  | none => simp [hs] at h
  | some T =>
    simp only [hs, Option.map_some] at h
    cases hk : T.kind with
    | st fs =>
      simp only [hk] at h
      obtain ⟨fl, u1, u2⟩ := run_underlying_st (hC.T _ _ hs) hk
      cases hf : fs[f]? with
      | none => simp [hf] at h
      | some q =>
        simp only [hf, Option.bind_some] at h
        cases hq : C.T q.2 with
        | none => simp [hq] at h
        | some T' =>
          simp only [hq, Option.map_some, Option.some.injEq] at h
          subst h
          rw [← u2] at hf
          simp only [List.getElem?_map, Array.getElem?_toList, Option.map_eq_some_iff] at hf
          obtain ⟨fd, h1, rfl⟩ := hf
          exact ⟨fl, fd, u1, h1, rfl, hC.T _ _ hq⟩
    | _ => simp [hk] at h
theorem aFieldAddr_v (hC : CxOk C) (hR : Rel Ei wi E L l m w) {s : TypeId} {x : Operand} {f : Nat} (hop : o.op = .fieldAddr s x f) {p : Nat × TI} (hf : fld C s f = some p) {aa : AA} {i oo : Nat} (hx : VR E L (.ptr aa i oo) (a.eval x))
    (hz : p.2.size ≠ 0) (hK : K (.ptr aa i (oo + p.1)) l m) : Val C.P E L l m o a K := by
  obtain ⟨fl, fd, h1, h2, h3, h4⟩ := fld_spec hC hf
  generalize hcv : a.eval x = cv at hx
  cases hx with
  | ptr _ _ _ q hq =>
    refine ⟨_, _, (VR.ptr aa i (oo + p.1) q hq), hK, fun w => ?_⟩
    simp [execOp, hop, hcv, Instr.fieldAt, h1, h2, Instr.sureAddr, fieldPlace, h4.szr, hz, adr_add, h3]
theorem part_val {ty : TypeId} {T : TI} (hT : TOk P ty T) {cs : List AV} {vs : Array Value} (h : VRs E L cs vs) {off : Nat} {v : AV} (hp : part? T cs off = some v) : ∃ x, (∀ w, (part ty vs off).run P w = .ok x w) ∧ VR E L v x := by
  unfold part? at hp
  split at hp
  · rename_i hle
    cases hA : T.agg with
    | true =>
      rw [hA, if_pos rfl] at hp
      cases hp
      refine ⟨.agg (vs.extract off (off + T.size)), fun w => by simp [part, hT.isAgg, hA, hT.szr], .agg _ _ (by have := h.1; simp; omega) fun i c u hc hu => ?_⟩
      simp only [List.getElem?_take, List.getElem?_drop] at hc
      rw [Array.getElem?_extract] at hu
      split at hc
      · split at hu
        · exact h.2 _ _ _ hc hu
        · cases hu
      · cases hc
    | false =>
      rw [hA, if_neg (by decide)] at hp
      have hlt := (List.getElem?_eq_some_iff.1 hp).1
      have hv : vs[off]? = some (vs[off]'(by rw [← h.1]; exact hlt)) := by simp [← h.1, hlt]
      exact ⟨_, fun w => by simp [part, hT.isAgg, hA, hv], h.2 _ _ _ hp hv⟩
  · cases hp
theorem aField_v (hC : CxOk C) (hR : Rel Ei wi E L l m w) {s : TypeId} {x : Operand} {f : Nat} (hop : o.op = .field s x f) {p : Nat × TI} (hf : fld C s f = some p) {cs : List AV} (hx : VR E L (.agg cs) (a.eval x))
    {v : AV} (hv : part? p.2 cs p.1 = some v) (hK : K v l m) : Val C.P E L l m o a K := by
  obtain ⟨fl, fd, h1, h2, h3, h4⟩ := fld_spec hC hf
  generalize hcv : a.eval x = cv at hx
  cases hx with
  | agg _ vs hl h =>
    obtain ⟨y, hy, hvy⟩ := part_val h4 ⟨hl, h⟩ hv
    refine ⟨_, _, hvy, hK, fun w => ?_⟩
    rw [← h3] at hy
    simp [execOp, hop, hcv, Instr.field, h1, h2, asAgg, hy]
theorem elm_spec (hC : CxOk C) {s : TypeId} {Te : TI} (h : elm C s = some Te) : ∃ el, C.P.underlying s = some (.slice el) ∧ TOk C.P el Te := by
  unfold elm kd at h
  cases hs : C.T s with
  | none => simp [hs] at h
  | some T =>
    simp only [hs, Option.map_some] at h
    cases hk : T.kind with
    | sl el => simp only [hk] at h; exact ⟨el, (hC.T _ _ hs).sl hk, hC.T _ _ h⟩
    | _ => simp [hk] at h
theorem kd_arr (hC : CxOk C) {s : TypeId} {n : Nat} {el : TypeId} (h : kd C s = some (.arr n el)) : C.P.underlying s = some (.array n el) := by
  unfold kd at h
  cases hs : C.T s with
  | none => simp [hs] at h
  | some T => simp only [hs, Option.map_some, Option.some.injEq] at h; exact (hC.T _ _ hs).arr h
theorem kd_str (hC : CxOk C) {s : TypeId} (h : kd C s = some .str) : C.P.underlying s = some .string := by
  unfold kd at h
  cases hs : C.T s with
  | none => simp [hs] at h
  | some T => simp only [hs, Option.map_some, Option.some.injEq] at h; exact (hC.T _ _ hs).str h
theorem kd_sl (hC : CxOk C) {s : TypeId} {el : TypeId} (h : kd C s = some (.sl el)) : C.P.underlying s = some (.slice el) := by
  unfold kd at h
  cases hs : C.T s with
  | none => simp [hs] at h
  | some T => simp only [hs, Option.map_some, Option.some.injEq] at h; exact (hC.T _ _ hs).sl h
theorem adr_row (p : Nat × Nat × Nat) (i k sz : Nat) (h : p.2.2 = sz) : (adr p i 0).add (k * sz) = adr p (i + k) 0 := by
  rw [adr_add]
  simp [adr, h, Nat.add_mul, Nat.add_assoc]
theorem aIndexAddr_v (hC : CxOk C) (hR : Rel Ei wi E L l m w) {ty : TypeId} {x y : Operand} (hop : o.op = .indexAddr ty x y) {u v : AV} (hx : VR E L u (a.eval x)) (hy : VR E L v (a.eval y)) (hK : aIndexAddr C ty u v l m K) : Val C.P E L l m o a K := by
  unfold aIndexAddr at hK
  split at hK
  · rename_i k j
    generalize hyv : a.eval y = yv at hy
    cases hy
    split at hK
    · rename_i aa i n c
      split at hK
      · rename_i Te hTe
        split at hK
        · rename_i B hB
          obtain ⟨hz, ⟨h0, h1⟩, hK⟩ := hK
          obtain ⟨el, e1, e2⟩ := elm_spec hC hTe
          obtain ⟨p, p1, p2, p3⟩ := hR.blk hB
          generalize hxv : a.eval x = xv at hx
          cases hx with
          | sl _ _ _ _ q hq =>
            rw [p1] at hq; cases hq
            refine ⟨_, _, (VR.ptr aa (i + j.toNat) 0 p p1), hK, fun w => ?_⟩
            simp [execOp, hop, hxv, hyv, Instr.indexAt, asIntOf, run_underlying e1, h0, h1, e2.szr, adr_row p i j.toNat Te.size (p2.trans hz)]
        · exact hK.elim
      · exact hK.elim
    · rename_i aa i oo
      split at hK
      · rename_i n el hk
        split at hK
        · rename_i Te hTe
          obtain ⟨⟨h0, h1⟩, hK⟩ := hK
          generalize hxv : a.eval x = xv at hx
          cases hx with
          | ptr _ _ _ q hq =>
            refine ⟨_, _, (VR.ptr aa i (oo + j.toNat * Te.size) q hq), hK, fun w => ?_⟩
            simp [execOp, hop, hxv, hyv, Instr.indexAt, asIntOf, Instr.sureAddr, run_underlying (kd_arr hC hk), h0, h1, (hC.T _ _ hTe).szr, adr_add]
        · exact hK.elim
      · exact hK.elim
    · exact hK.elim
  · exact hK.elim
theorem aIndex_v (hC : CxOk C) (hR : Rel Ei wi E L l m w) {ty : TypeId} {x y : Operand} (hop : o.op = .index ty x y) {u v : AV} (hx : VR E L u (a.eval x)) (hy : VR E L v (a.eval y)) (hK : aIndex C ty u v l m K) : Val C.P E L l m o a K := by
  unfold aIndex at hK
  split at hK
  · rename_i k j
    generalize hyv : a.eval y = yv at hy
    cases hy
    split at hK
    · rename_i s
      obtain ⟨hk, ⟨h0, h1⟩, hK⟩ := hK
      generalize hxv : a.eval x = xv at hx
      cases hx
      refine ⟨_, _, (.int .u8 (bti s j)), hK, fun w => ?_⟩
      have hlt : j.toNat < s.size := by omega
      simp [execOp, hop, hxv, hyv, Instr.index, asIntOf, run_underlying (kd_str hC hk), h0, ByteArray.getElem?_lt' s _ hlt, bti, hlt]
    · rename_i cs
      split at hK
      · rename_i n el hk
        split at hK
        · rename_i Te hTe
          obtain ⟨⟨h0, h1⟩, hK⟩ := hK
          split at hK
          · rename_i v hv
            generalize hxv : a.eval x = xv at hx
            cases hx with
            | agg _ vs hl h =>
              obtain ⟨z, hz, hvz⟩ := part_val (hC.T _ _ hTe) ⟨hl, h⟩ hv
              refine ⟨_, _, hvz, hK, fun w => ?_⟩
              simp [execOp, hop, hxv, hyv, Instr.index, asIntOf, run_underlying (kd_arr hC hk), h0, h1, (hC.T _ _ hTe).szr, hz]
          · exact hK.elim
        · exact hK.elim
      · exact hK.elim
    · exact hK.elim
  · exact hK.elim
theorem aExtract_v (hR : Rel Ei wi E L l m w) {x : Operand} {k : Nat} (hop : o.op = .extract x k) {vs : List AV} (hx : VR E L (.tup vs) (a.eval x)) {v : AV} (hv : vs[k]? = some v) (hK : K v l m) : Val P E L l m o a K := by
  generalize hxv : a.eval x = xv at hx
  cases hx with
  | tup _ us hl h =>
    have hlt := (List.getElem?_eq_some_iff.1 hv).1
    have hu : us[k]? = some (us[k]'(by omega)) := by simp [show k < us.size by omega]
    exact ⟨_, _, (h k _ _ hv hu), hK, fun w => (by simp [execOp, hop, hxv, Instr.extract, hu])⟩
theorem aUn_v (hR : Rel Ei wi E L l m w) {op : UnOp} {ty : TypeId} {x : Operand} (hop : o.op = .unOp op ty x) {u v : AV} (hx : VR E L u (a.eval x)) (hv : aUn op u = some v) (hK : K v l m) : Val P E L l m o a K := by
  generalize hxv : a.eval x = xv at hx
  unfold aUn at hv
  split at hv
  all_goals cases hv
  all_goals cases hx
  · exact ⟨_, _, (.int _ _), hK, fun w => (by simp [execOp, hop, hxv, Op.unary, Op.intArith])⟩
  · exact ⟨_, _, (.int _ _), hK, fun w => (by simp [execOp, hop, hxv, Op.unary, Op.intBits])⟩
  · exact ⟨_, _, (.flt _), hK, fun w => (by simp [execOp, hop, hxv, Op.unary])⟩
  · exact ⟨_, _, (.bool _), hK, fun w => (by simp [execOp, hop, hxv, Op.unary])⟩
theorem aMakeIface_v (hC : CxOk C) (hR : Rel Ei wi E L l m w) {ty : TypeId} {x : Operand} (hop : o.op = .makeInterface ty x) (hx : VR E L (.agg []) (a.eval x)) (hk : kd C ty = some (.st [])) (hK : K (.raw (.iface ty (.agg #[]))) l m) : Val C.P E L l m o a K := by
  generalize hxv : a.eval x = xv at hx
  cases hx with
  | agg _ vs hl h =>
    have : vs = #[] := by
      apply Array.eq_empty_of_size_eq_zero
      simpa using hl.symm
    subst this
    unfold kd at hk
    cases hs : C.T ty with
    | none => simp [hs] at hk
    | some T =>
      simp only [hs, Option.map_some, Option.some.injEq] at hk
      obtain ⟨fl, u1, -⟩ := run_underlying_st (hC.T _ _ hs) hk
      exact ⟨_, _, (.raw _), hK, fun w => (by simp [execOp, hop, hxv, Instr.makeInterface, u1])⟩
theorem aLen_v (hC : CxOk C) (hR : Rel Ei wi E L l m w) {c : Call} (hop : o.op = .call c) (hc : c.callee = .builtin .len) {ty : TypeId} (hty : c.argTypes.toList = [ty]) {x : Operand} (hxs : c.args.toList = [x]) {u : AV} (hx : VR E L u (a.eval x))
    (hK : aLen C ty u l m K) : Val C.P E L l m o a K := by
  have e1 : c.argTypes = #[ty] := by rw [← Array.toArray_toList (xs := c.argTypes), hty]
  have e2 : c.args = #[x] := by rw [← Array.toArray_toList (xs := c.args), hxs]
  have hrun : ∀ (w : World) (v : Value), (Builtin.len_ #[ty] o.type #[a.eval x]).run C.P w = .ok v w → (execOp a.eval o).run C.P w = .ok (.value v) w := by
    intro w v hv
    simp [execOp, hop, resolve, hc, invoke, builtin, e1, e2, hv]
  unfold aLen at hK
  split at hK
  · rename_i el hk
    have hu := run_underlying (P := C.P) (kd_sl hC hk)
    generalize hxv : a.eval x = xv at hx hrun
    split at hK
    · cases hx
      exact ⟨_, _, (.int _ _), hK, fun w => (hrun w _ (by simp [Builtin.len_, hu, goInt]))⟩
    · cases hx
      exact ⟨_, _, (.int _ _), hK, fun w => (hrun w _ (by simp [Builtin.len_, hu, goInt]))⟩
    · cases hx
      exact ⟨_, _, (.int _ _), hK, fun w => (hrun w _ (by simp [Builtin.len_, hu, goInt]))⟩
    · exact hK.elim
  · rename_i hk
    have hu := run_underlying (P := C.P) (kd_str hC hk)
    generalize hxv : a.eval x = xv at hx hrun
    split at hK
    · cases hx
      exact ⟨_, _, (.int _ _), hK, fun w => (hrun w _ (by simp [Builtin.len_, hu, goInt]))⟩
    · exact hK.elim
  · rename_i n el hk
    have hu := run_underlying (P := C.P) (kd_arr hC hk)
    exact ⟨_, _, (.int _ _), hK, fun w => (hrun w _ (by simp [Builtin.len_, hu, goInt]))⟩
  · exact hK.elim
end
end Go.Proofs.IM
