/- Each operation does in the world what 'aOp' says of the abstract state. -/
import Derived.Test.YtdonkjepjobhnaaDoorID
namespace Go.Proofs.IM
open Go Go.RowKit
set_option linter.unusedVariables false
set_option linter.unusedSimpArgs false
set_option linter.unnecessarySimpa false
section types
variable {P : Program} {t : TypeId} {T : TI} {E : Env} {L : Pl}
theorem TOk.inf (h : TOk P t T) : ∃ i z, P.info? t = some i ∧ i.size = T.size ∧ i.bytes = T.bytes ∧ i.zero = some z ∧ z.cells.toList.map of1 = T.zero := by
  have := h.info
  cases hi : P.info? t with
  | none => simp [hi] at this
  | some i =>
    simp only [hi, Option.map_some, Option.some.injEq, Prod.mk.injEq] at this
    obtain ⟨h1, h2, h3⟩ := this
    cases hz : i.zero with
    | none => simp [hz] at h3
    | some z => exact ⟨i, z, rfl, h1, h2, hz, by simpa [hz] using h3⟩
theorem TOk.zeros (h : TOk P t T) {z : Value} (hz : z.cells.toList.map of1 = T.zero) : VRs E L T.zero z.cells := by
  refine ⟨by rw [← hz]; simp, fun i c v hc hv => ?_⟩
  rw [← hz] at hc
  simp only [List.getElem?_map, Array.getElem?_toList, hv, Option.map_some, Option.some.injEq] at hc
  subst hc
  exact VR.of1 E L v
theorem TOk.szr (h : TOk P t T) (w : World) : (sizeOf t).run P w = .ok T.size w := by
  obtain ⟨i, z, h1, h2, -⟩ := h.inf
  simp [sizeOf, typeInfo, h1, h2]
theorem TOk.undr (h : TOk P t T) : ∃ d, P.underlying t = some d ∧ kindOf d = T.kind := by
  have := h.und
  cases hd : P.underlying t with
  | none => simp [hd] at this
  | some d => exact ⟨d, rfl, by simpa [hd] using this⟩
theorem TOk.st (h : TOk P t T) {fs : List (Nat × TypeId)} (hk : T.kind = .st fs) : ∃ fl : Array Field, P.underlying t = some (.struct fl) ∧ fl.toList.map (fun f => (f.offset, f.type)) = fs := by
  obtain ⟨d, h1, h2⟩ := h.undr
  rw [hk] at h2
  unfold kindOf at h2
  split at h2 <;> try cases h2
  exact ⟨_, h1, rfl⟩
theorem TOk.arr (h : TOk P t T) {n : Nat} {e : TypeId} (hk : T.kind = .arr n e) : P.underlying t = some (.array n e) := by
  obtain ⟨d, h1, h2⟩ := h.undr
  rw [hk] at h2
  unfold kindOf at h2
  split at h2 <;> try cases h2
  exact h1
theorem TOk.sl (h : TOk P t T) {e : TypeId} (hk : T.kind = .sl e) : P.underlying t = some (.slice e) := by
  obtain ⟨d, h1, h2⟩ := h.undr
  rw [hk] at h2
  unfold kindOf at h2
  split at h2 <;> try cases h2
  exact h1
theorem TOk.int (h : TOk P t T) {k : IntKind} (hk : T.kind = .int k) : P.underlying t = some (.int k) := by
  obtain ⟨d, h1, h2⟩ := h.undr
  rw [hk] at h2
  unfold kindOf at h2
  split at h2 <;> try cases h2
  exact h1
theorem TOk.flt (h : TOk P t T) (hk : T.kind = .flt) : P.underlying t = some (.float .f64) := by
  obtain ⟨d, h1, h2⟩ := h.undr
  rw [hk] at h2
  unfold kindOf at h2
  split at h2 <;> try cases h2
  exact h1
theorem TOk.str (h : TOk P t T) (hk : T.kind = .str) : P.underlying t = some .string := by
  obtain ⟨d, h1, h2⟩ := h.undr
  rw [hk] at h2
  unfold kindOf at h2
  split at h2 <;> try cases h2
  exact h1
theorem TOk.isAgg (h : TOk P t T) (w : World) : (Go.isAgg t).run P w = .ok T.agg w := by
  obtain ⟨d, h1, h2⟩ := h.undr
  unfold TI.agg
  rw [← h2]
  cases d with
  | float k => cases k <;> simp [Go.isAgg, run_underlying h1, kindOf]
  | _ => simp [Go.isAgg, run_underlying h1, kindOf]
theorem VR.cells {v : AV} {x : Value} (h : VR E L v x) (hp : v.cells.all AV.pub1 = true) : VRs E noPl v.cells x.cells ∧ ∀ u ∈ x.cells.toList, u.oneCell' = true := by
  have key : ∀ {u : AV} {y : Value}, VR E L u y → u.pub1 = true → y.cells = #[y] := by
    intro u y hu hp
    cases hu <;> first | rfl | (simp [AV.pub1] at hp)
  cases v with
  | agg cs =>
    cases h with
    | agg _ vs hl h =>
      simp only [AV.cells, List.all_eq_true] at hp
      refine ⟨⟨hl, fun i c y hc hy => (h i c y hc hy).pub1 (hp c (List.mem_of_getElem? hc)) noPl⟩, fun u hu => ?_⟩
      obtain ⟨i, hi, rfl⟩ := List.mem_iff_getElem.1 hu
      have hi' : i < vs.size := by simpa [Value.cells] using hi
      have hc : cs[i]? = some (cs[i]'(by omega)) := by simp [show i < cs.length by omega]
      have hv : vs[i]? = some vs[i] := by simp [hi']
      simpa [Value.cells] using (h i _ _ hc hv).one (hp _ (List.mem_of_getElem? hc))
  | _ =>
    have hp' := hp
    simp only [AV.cells, List.all_cons, List.all_nil, Bool.and_true] at hp'
    rw [key h hp']
    refine ⟨⟨rfl, fun i c y hc hy => ?_⟩, fun u hu => ?_⟩
    · have : i = 0 := by have := (List.getElem?_eq_some_iff.1 hc).1; simp [AV.cells] at this; omega
      subst this
      simp [AV.cells] at hc hy
      subst hc; subst hy
      exact h.pub1 hp' noPl
    · simp at hu; subst hu; exact h.one hp'
end types
section
variable {C : Cx} {Ei E : Env} {wi w w' : World} {L : Pl} {l : Loc} {m : Mem} {o : Oper} {a : Act} {next : Act → World → Prop} {Q : Exit → Act → World → Prop} {id : Nat} {K : KS}
theorem wp_of_run {P : Program} {x : Value} (h : (execOp a.eval o).run P w = .ok (.value x) w') (hn : next (a.put o.dst x) w') : o.wp P a w next Q := by
  unfold Oper.wp; rw [h]; exact hn
theorem wp_of_skip {P : Program} (h : (execOp a.eval o).run P w = .ok .skip w') (hn : next (a.put o.dst undef) w') : o.wp P a w next Q := by
  unfold Oper.wp; rw [h]; exact hn
/-- What the operation hands on. -/
def Good (Ei : Env) (wi : World) (E : Env) (L : Pl) (id : Nat) (a : Act) (d : Option Tmp) (K : KS) (next : Act → World → Prop) : Prop :=
  ∀ E' L' v x l' m' w', Rel Ei wi E' L' l' m' w' → E.le E' → L.le L' → (∀ j, j ≠ id → L' j = L j) → VR E' L' v x → K v l' m' → next (a.put d x) w'
theorem Good.here (hG : Good Ei wi E L id a o.dst K next) (hR : Rel Ei wi E L l m w) {P : Program} {v : AV} {x : Value} (hv : VR E L v x) (h : (execOp a.eval o).run P w = .ok (.value x) w) (hK : K v l m) : o.wp P a w next Q :=
  wp_of_run h (hG E L v x l m w hR (Env.le.refl E) (Pl.le.refl L) (fun _ _ => rfl) hv hK)
theorem ev_ok {t : Nat → AV} (hm : MR E m w) (ht : ∀ n, VR E L (t n) (a.tmps.getD n undef)) (x : Operand) : VR E L (eA m t x) (a.eval x) := by
  cases x with
  | tmp n => exact ht n
  | const v => exact VR.ofV E L v
  | global g => exact (hm.gl g).mono (Env.le.refl E) (noPl_le L)
  | func f => exact .undef _
/-- New memory. -/
theorem newBlk_ok (hR : Rel Ei wi E L l m w) (hd : L id = none) {B : Blk} {cs : Array Value} (ty : TypeId) (hB : CR E B.rows B.sz (cs[·]?)) {mk : AA → AV} {mk' : Addr → Value} {priv : Bool}
    (hmk : ∀ {E' : Env} {L' : Pl} {aa : AA} {p : Nat × Nat × Nat}, pos E' L' aa = some p → p.2.1 = 0 → VR E' L' (mk aa) (mk' ⟨p.1, 0, none⟩))
    (hG : Good Ei wi E L id a o.dst K next) (hK : newBlk priv id B mk l m K) : next (a.put o.dst (mk' ⟨w.heap.size, 0, none⟩)) (w.alloc (.cells cs ty)) := by
  unfold newBlk at hK
  cases priv with
  | true =>
    rw [if_pos rfl] at hK
    obtain ⟨h1, h2⟩ := hR.newLc cs ty B hB id hd
    exact hG _ _ _ _ _ _ _ h1 (Env.le.refl E) h2 (fun j hj => by simp [upd, hj]) (hmk (p := (w.heap.size, 0, B.sz)) (by simp [pos, upd]) rfl) hK
  | false =>
    rw [if_neg (by decide)] at hK
    obtain ⟨h1, h2⟩ := hR.newHp cs ty B hB
    exact hG _ _ _ _ _ _ _ h1 h2 (Pl.le.refl L) (fun j hj => rfl) (hmk (p := (w.heap.size, 0, B.sz)) (by simp [pos, upd]) rfl) hK
theorem hmk_ptr {E' : Env} {L' : Pl} {aa : AA} {p : Nat × Nat × Nat} (h : pos E' L' aa = some p) (h0 : p.2.1 = 0) : VR E' L' (.ptr aa 0 0) (.pointer (some ⟨p.1, 0, none⟩)) := by
  have := VR.ptr (E := E') (L := L') aa 0 0 p h
  simpa [adr, h0] using this
theorem hmk_sl (n c : Nat) {E' : Env} {L' : Pl} {aa : AA} {p : Nat × Nat × Nat} (h : pos E' L' aa = some p) (h0 : p.2.1 = 0) : VR E' L' (.sl aa 0 n c) (.slice (some ⟨p.1, 0, none⟩) n c) := by
  have := VR.sl (E := E') (L := L') aa 0 n c p h
  simpa [adr, h0] using this
theorem part_ok {P : Program} {ty : TypeId} {T : TI} (hT : TOk P ty T) {rows : List (List AV)} {sz i oo : Nat} {r : List AV} {v : AV} {p : Nat × Nat × Nat} (hz : p.2.2 = sz)
    (hc : CR E rows sz (fun k => w.cell? ⟨p.1, p.2.1 + k, none⟩)) (hi : rows[i]? = some r) (hp : part? T r oo = some v) :
    ∃ x, (Instr.loadAt ty (.pointer (some (adr p i oo)))).run P w = .ok x w ∧ VR E noPl v x ∧ v.pub2 = true := by
  unfold part? at hp
  split at hp
  · rename_i hle
    obtain ⟨xs, h1, h2, h3⟩ := hc.part hi oo T.size hle
    have hadd : ∀ j, (adr p i oo).add j = ⟨p.1, p.2.1 + (i * sz + (oo + j)), none⟩ := fun j => by rw [adr_add]; simp [adr, hz, Nat.add_assoc]
    cases hA : T.agg with
    | true =>
      rw [hA, if_pos rfl] at hp
      cases hp
      have hl := run_loadCells_list (P := P) w (adr p i oo) xs (fun j v hj => by rw [hadd]; exact h2 j v hj)
      rw [h1] at hl
      refine ⟨.agg xs.toArray, ?_, ⟨.agg _ _ (by simp [h1]; omega) fun j c u hc' hu => (h3 j c u hc' (by simpa using hu)).1, by
        simp only [AV.pub2, List.all_eq_true]
        intro c hc
        obtain ⟨j, hj, rfl⟩ := List.mem_iff_getElem.1 hc
        have hjx : j < xs.length := by rw [h1]; simp at hj; omega
        exact (h3 j _ xs[j] (List.getElem?_eq_getElem hj) (by simp [hjx])).2⟩⟩
      simp [Instr.loadAt, Instr.sureAddr, loadVar, hT.isAgg, hA, hT.szr, hl]
    | false =>
      rw [hA, if_neg (by decide)] at hp
      obtain ⟨x, hx, hv⟩ := (hc i r hi).2 oo v hp
      refine ⟨x, ?_, hv.1, by
        have := hv.2
        cases v <;> first | exact this | (simp [AV.pub1] at this)⟩
      have : w.cell? (adr p i oo) = some x := by
        have e : adr p i oo = ⟨p.1, p.2.1 + (i * sz + oo), none⟩ := by simp [adr, hz, Nat.add_assoc]
        rw [e]; exact hx
      simp [Instr.loadAt, Instr.sureAddr, loadVar, hT.isAgg, hA, this]
  · cases hp
theorem aLoad_ok {P : Program} {ty : TypeId} {T : TI} (hT : TOk P ty T) (hR : Rel Ei wi E L l m w) {x : Operand} (hop : o.op = .load ty x) {v : AV} (hx : VR E L v (a.eval x)) (hK : aLoad T v l m K)
    (hG : Good Ei wi E L id a o.dst K next) : o.wp P a w next Q := by
  unfold aLoad at hK
  split at hK
  · rename_i aa i oo
    unfold row? at hK
    cases hb : blk? l m aa with
    | none => simp [hb] at hK
    | some B =>
      simp only [hb, Option.bind_some] at hK
      cases hr : B.rows[i]? with
      | none => simp [hr] at hK
      | some r =>
        simp only [hr] at hK
        cases hp : part? T r oo with
        | none => simp [hp] at hK
        | some u =>
          simp only [hp] at hK
          obtain ⟨p, h1, h2, h3⟩ := hR.blk hb
          generalize hav : a.eval x = xv at hx
          cases hx with
          | ptr _ _ _ p' hp' =>
            rw [h1] at hp'
            cases hp'
            obtain ⟨y, hy, hv, -⟩ := part_ok (P := P) hT h2 h3 hr hp
            refine hG.here hR (hv.mono (Env.le.refl E) (noPl_le L)) ?_ hK
            simp only [execOp, hop, hav, Sem.run_bind, hy, Result.andThen_ok, Sem.run_pure]
  · exact hK.elim
theorem aStore_ok {P : Program} {ty : TypeId} {T : TI} (hT : TOk P ty T) (hR : Rel Ei wi E L l m w) {x y : Operand} (hop : o.op = .store ty x y) {v u : AV} (hx : VR E L v (a.eval x)) (hy : VR E L u (a.eval y)) (hK : aStore T v u l m K)
    (hG : Good Ei wi E L id a o.dst K next) : o.wp P a w next Q := by
  unfold aStore at hK
  split at hK
  · rename_i aa i oo
    cases hb : blk? l m aa with
    | none => simp [hb] at hK
    | some B =>
      simp only [hb] at hK
      cases hr : B.rows[i]? with
      | none => simp [hr] at hK
      | some r =>
        simp only [hr] at hK
        obtain ⟨hlen, hpub, hle, hK⟩ := hK
        split at hK
        · rename_i q hs
          obtain ⟨l', m'⟩ := q
          obtain ⟨b, cs, ct, h1, h2, h3, h4⟩ := hR.write hb hs rfl (by intro e; rw [e] at hr; simp at hr)
          obtain ⟨hcs, hone⟩ := hy.cells hpub
          generalize hav : a.eval x = xv at hx
          cases hx with
          | ptr _ _ _ p' hp' =>
            rw [h1] at hp'
            cases hp'
            have hvl : (a.eval y).cells.toList.length = T.size := by simp [← hcs.1, hlen]
            obtain ⟨c1, c2⟩ := h3.splice (vs := (a.eval y).cells.toList) hr (by simpa using hcs) hpub (by rw [hlen]; exact hle)
            have hst := run_storeCells_at P b (i * B.sz + oo) ct (a.eval y).cells.toList 0 cs w h2 (by simpa using c2) hone
            refine wp_of_skip ?_ (hG E L .undef undef l' m' _ (h4 _ c1) (Env.le.refl E) (Pl.le.refl L) (fun _ _ => rfl) (.undef _) hK)
            have hsz : (a.eval y).cells.size = T.size := by simpa using hvl
            simp only [Nat.add_zero] at hst
            simp [execOp, hop, hav, Instr.storeAt, Instr.sureAddr, storeVar, hT.szr, hsz, adr, hst]
        · exact hK.elim
  · exact hK.elim
end
end Go.Proofs.IM
