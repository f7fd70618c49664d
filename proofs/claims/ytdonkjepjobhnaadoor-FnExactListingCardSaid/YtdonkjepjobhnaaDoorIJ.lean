/- New rows, append, calls; and all operations at once. -/
import Derived.Test.YtdonkjepjobhnaaDoorII
namespace Go.Proofs.IM
open Go Go.RowKit
set_option linter.unusedVariables false
set_option linter.unusedSimpArgs false
set_option linter.unnecessarySimpa false
section
variable {P : Program} {C : Cx} {Ei E : Env} {wi w w' : World} {L : Pl} {l : Loc} {m : Mem} {o : Oper} {a : Act} {next : Act → World → Prop} {Q : Exit → Act → World → Prop} {id : Nat} {K : KS}
theorem newHp_ok (hR : Rel Ei wi E L l m w) {B : Blk} {cs : Array Value} (ty : TypeId) (hB : CR E B.rows B.sz (cs[·]?)) {v : AV} {x : Value} (hv : ∀ {E' : Env} {p : Nat × Nat × Nat}, pos E' L (.hp m.hp.length) = some p → p.2.1 = 0 → p.1 = w.heap.size → VR E' L v x)
    (hG : Good Ei wi E L id a o.dst K next) (hK : K v l (m.push B)) : next (a.put o.dst x) (w.alloc (.cells cs ty)) := by
  obtain ⟨h1, h2⟩ := hR.newHp cs ty B hB
  exact hG _ _ _ _ _ _ _ h1 h2 (Pl.le.refl L) (fun j hj => rfl) (hv (p := (w.heap.size, 0, B.sz)) (by simp [pos, upd]) rfl rfl) hK
theorem zeroCells_eq (z : Array Value) (n : Nat) : ((Array.range (n * z.size)).map (z[· % z.size]!)) = Builtin.zeroCells z n := rfl
theorem aMake_ok (hC : CxOk C) (hR : Rel Ei wi E L l m w) {ty : TypeId} {x y : Operand} (hop : o.op = .makeSlice ty x y) {Te : TI} (hTe : elm C ty = some Te) {u v : AV} (hx : VR E L u (a.eval x)) (hy : VR E L v (a.eval y)) (hK : aMake Te u v l m K)
    (hG : Good Ei wi E L id a o.dst K next) : o.wp C.P a w next Q := by
  obtain ⟨el, e1, e2⟩ := elm_spec hC hTe
  obtain ⟨i, z, h1, h2, h3, h4, h5⟩ := e2.inf
  have hu := run_underlying (P := C.P) e1
  have hz := e2.zeros (E := E) (L := noPl) h5
  have hzs : z.cells.size = Te.size := by rw [← hz.1, e2.len]
  unfold aMake at hK
  split at hK
  · rename_i k n k' n'
    obtain ⟨⟨g0, g1, g2⟩, rfl, g3, hK⟩ := hK
    generalize hxv : a.eval x = xv at hx
    generalize hyv : a.eval y = yv at hy
    cases hx; cases hy
    have hB : CR E (List.replicate n'.toNat Te.zero) Te.size ((Builtin.zeroCells z.cells n'.toNat)[·]?) := by
      rw [← e2.len]
      exact CR.zeros hz e2.pub (by omega) _
    refine wp_of_run ?_ (newHp_ok (o := o) (a := a) (B := ⟨List.replicate n'.toNat Te.zero, Te.size⟩) (x := .slice (some ⟨w.heap.size, 0, none⟩) n'.toNat n'.toNat) hR el hB (fun {E'} {p} hp h0 hb => ?_) hG hK)
    · have hw : IntKind.i64.wrap n' = n' := IntWalk.i64_in _ (by omega)
      have hb : ¬ (n' < 0) := by omega
      have hbb : ¬ ((Te.bytes : Int) * n' > 281474976710656) := by omega
      by_cases hn : n'.toNat * Te.size = 0
      · have hn0 : n'.toNat = 0 := by
          rcases Nat.mul_eq_zero.1 hn with h | h
          · exact h
          · omega
        have : n' = 0 := by omega
        subst this
        simp [execOp, hop, hxv, hyv, Instr.makeSlice, hu, asInt, asIntOf, typeInfo, h1, h3, hw, sizeOf, h2, newRow, Builtin.zeroCells]
        congr 1
        simp [show Array.range 0 = (#[] : Array Nat) from rfl]
      · simp [execOp, hop, hxv, hyv, Instr.makeSlice, hu, asInt, asIntOf, typeInfo, h1, h3, hw, hb, hbb, sizeOf, h2, newRow, zeroValue, h4, hn, Builtin.zeroCells, hzs]
    · have := VR.sl (E := E') (L := L) (.hp m.hp.length) 0 n'.toNat n'.toNat p hp
      simpa [adr, h0, hb] using this
  · exact hK.elim
theorem flat_get {sz : Nat} : ∀ (rows : List (List AV)), (∀ r ∈ rows, r.length = sz) → ∀ (i o : Nat) (row : List AV), rows[i]? = some row → o < sz → rows.flatten[i * sz + o]? = row[o]? := by
  intro rows
  induction rows with
  | nil => intro _ i o row h; simp at h
  | cons r rows ih =>
    intro hl i o row h ho
    have hr := hl r (by simp)
    cases i with
    | zero =>
      simp at h
      subst h
      simp only [List.flatten_cons, Nat.zero_mul, Nat.zero_add]
      rw [List.getElem?_append_left (by omega)]
    | succ i =>
      simp only [List.flatten_cons]
      rw [Nat.add_mul, List.getElem?_append_right (by omega), hr, show i * sz + 1 * sz + o - sz = i * sz + o by omega]
      exact ih (fun r h => hl r (by simp [h])) i o row (by simpa using h) ho
theorem CR.flat {rows : List (List AV)} {sz : Nat} {ys : Array Value} (hp : ∀ r ∈ rows, r.all AV.pub1 = true) (hl : ∀ r ∈ rows, r.length = sz) (h : VRs E noPl rows.flatten ys) : CR E rows sz (ys[·]?) := by
  intro i row hi
  have hr := hl row (List.mem_of_getElem? hi)
  refine ⟨hr, fun o v ho => ?_⟩
  have ho' := (List.getElem?_eq_some_iff.1 ho).1
  have hf := flat_get rows hl i o row hi (by omega)
  rw [ho] at hf
  have hlt := (List.getElem?_eq_some_iff.1 hf).1
  have hy : ys[i * sz + o]? = some (ys[i * sz + o]'(by rw [← h.1]; exact hlt)) := by simp [← h.1, hlt]
  exact ⟨_, hy, h.2 _ _ _ hf hy, (List.all_eq_true.1 (hp row (List.mem_of_getElem? hi))) v (List.mem_of_getElem? ho)⟩
theorem lay_rows {sz : Nat} : ∀ (ps : List (Nat × AV)) (k : Nat) (pre rest : List AV), pre.length = k * sz → rest.length = ps.length * sz → ps.map Prod.fst = List.range' k ps.length → (∀ p ∈ ps, p.2.cells.length = sz ∧ p.2.cells.all AV.pub1 = true) →
    lay (fun i => some (i * sz, sz)) (pre ++ rest) ps = some (pre ++ (ps.map fun p => p.2.cells).flatten) := by
  intro ps
  induction ps with
  | nil => intro k pre rest h1 h2 _ _; simp at h2; subst h2; simp [lay]
  | cons p ps ih =>
    intro k pre rest h1 h2 h3 h4
    obtain ⟨i, v⟩ := p
    simp only [List.map_cons, List.length_cons, List.range'_succ, List.cons.injEq] at h3
    obtain ⟨rfl, h3⟩ := h3
    obtain ⟨c1, c2⟩ := h4 (i, v) (by simp)
    simp only at c1 c2
    have hm : (ps.length + 1) * sz = ps.length * sz + sz := by rw [Nat.add_mul, Nat.one_mul]
    simp only [List.length_cons] at h2
    simp only [lay]
    rw [if_pos ⟨c1, by simp; omega, c2⟩]
    have hs : splice (pre ++ rest) (i * sz) v.cells = (pre ++ v.cells) ++ rest.drop sz := by
      unfold splice
      rw [← h1, List.take_left, c1, List.drop_append, List.append_assoc]
      simp
    rw [hs, ih (i + 1) (pre ++ v.cells) (rest.drop sz) (by rw [List.length_append, h1, c1, Nat.add_mul, Nat.one_mul]) (by simp; omega) h3 (fun p hp => h4 p (by simp [hp]))]
    simp
theorem zeros_flat {z : List AV} {zs : Array Value} (h : VRs E noPl z zs) (hp : z.all AV.pub1 = true) (hz : 0 < zs.size) (n : Nat) : VRs E noPl (List.replicate n z).flatten (Builtin.zeroCells zs n) := by
  have hc := CR.zeros h hp hz n
  refine ⟨by simp [Builtin.zeroCells, h.1, List.length_flatten, List.map_replicate, List.sum_replicate_nat], fun i c v hc' hv => ?_⟩
  have hlt := (List.getElem?_eq_some_iff.1 hc').1
  simp only [List.length_flatten, List.map_replicate, List.sum_replicate_nat] at hlt
  have hzl : 0 < z.length := by rw [h.1]; exact hz
  have hi : i / z.length < n := Nat.div_lt_of_lt_mul (by rw [Nat.mul_comm]; exact hlt)
  have hrow : (List.replicate n z)[i / z.length]? = some z := by simp [List.getElem?_replicate, hi]
  have hf := flat_get (List.replicate n z) (fun r hr => by simp [List.mem_replicate] at hr; rw [hr.2]) (i / z.length) (i % z.length) z hrow (Nat.mod_lt _ hzl)
  have hdm : i / z.length * z.length + i % z.length = i := by rw [Nat.mul_comm]; exact Nat.div_add_mod i z.length
  rw [hdm, hc'] at hf
  obtain ⟨x, hx, hvx⟩ := (hc _ _ hrow).2 _ _ hf.symm
  rw [hdm] at hx
  have hx2 : (Builtin.zeroCells zs n)[i]? = some x := hx
  have : x = v := by rw [hv] at hx2; cases hx2; rfl
  exact this ▸ hvx.1
theorem aBuildSlice_ok (hC : CxOk C) (hR : Rel Ei wi E L l m w) (hid : L id = none) {t : Nat → AV} (ht : ∀ x : Operand, VR E L (eA m t x) (a.eval x)) {priv : Bool} {ty : TypeId} {n : Nat} {ps : Array (Nat × Operand)} (hop : o.op = .buildSlice ty n ps)
    (hK : aBuildSlice C priv id ty n (ps.toList.map fun p => (p.1, eA m t p.2)) l m K) (hG : Good Ei wi E L id a o.dst K next) : o.wp C.P a w next Q := by
  unfold aBuildSlice at hK
  split at hK
  · rename_i Te hTe
    obtain ⟨g1, g2, g3, g4, hK⟩ := hK
    obtain ⟨el, e1, e2⟩ := elm_spec hC hTe
    obtain ⟨i, z, h1, h2, h3, h4, h5⟩ := e2.inf
    have hu := run_underlying (P := C.P) e1
    have hz := e2.zeros (E := E) (L := noPl) h5
    have hzs : z.cells.size = Te.size := by rw [← hz.1, e2.len]
    obtain ⟨q1, q2⟩ := parts_ok (a := a) ht ps
    have hall : ∀ p ∈ ps.toList.map (fun p => (p.1, eA m t p.2)), p.2.cells.length = Te.size ∧ p.2.cells.all AV.pub1 = true := by
      intro p hp
      simp only [List.all_eq_true] at g4
      have := g4 p hp
      simpa using this
    have hlen : (ps.toList.map fun p => (p.1, eA m t p.2)).length = n := by
      have := congrArg List.length g3
      simpa using this
    have hlay := lay_rows (sz := Te.size) (ps.toList.map fun p => (p.1, eA m t p.2)) 0 [] (List.replicate n Te.zero).flatten (by simp) (by simp only [List.length_flatten, List.map_replicate, List.sum_replicate_nat, e2.len, hlen]) (by rw [g3, List.range_eq_range', hlen]) hall
    obtain ⟨ys, f1, f2⟩ := lay_ok (E := E) (L := L) _ (ps.map fun p => (p.1, a.eval p.2)).toList _ _ (Builtin.zeroCells z.cells n) (by simpa using zeros_flat hz e2.pub (by omega) n) q1 q2 hlay
    have hB : CR E ((ps.toList.map fun p => (p.1, eA m t p.2)).map fun p => p.2.cells) Te.size (ys[·]?) := CR.flat (fun r hr => by
      obtain ⟨p, hp, rfl⟩ := List.mem_map.1 hr
      exact (hall p hp).2) (fun r hr => by
      obtain ⟨p, hp, rfl⟩ := List.mem_map.1 hr
      exact (hall p hp).1) (by simpa using f2)
    have := newBlk_ok (o := o) (a := a) (mk := fun a => .sl a 0 n n) (mk' := fun p => .slice (some p) n n) (B := ⟨(ps.toList.map fun p => (p.1, eA m t p.2)).map fun p => p.2.cells, Te.size⟩) hR hid el hB (hmk_sl n n) hG hK
    refine wp_of_run ?_ this
    have hcap : ¬ (n * Te.size > 2 ^ 24) := by omega
    have hzz : (Array.range (n * Te.size)).map (z.cells[· % z.cells.size]!) = Builtin.zeroCells z.cells n := by
      simp only [Builtin.zeroCells, hzs]
    by_cases hn : n * Te.size = 0
    · have hn0 : n = 0 := by
        rcases Nat.mul_eq_zero.1 hn with h | h
        · exact h
        · omega
      have hz0 : (Array.range (n * Te.size)).map ((#[] : Array Value)[· % (#[] : Array Value).size]!) = Builtin.zeroCells z.cells n := by
        subst hn0; simp [Builtin.zeroCells]
      simp only [execOp, hop, Instr.buildSlice, Sem.run_bind, hu, Result.andThen_ok, sizeOf, typeInfo, run_program, h1, Sem.run_pure, h2, hcap, if_false]
      rw [if_pos hn]
      simp only [Sem.run_bind, Sem.run_pure, Result.andThen_ok, hz0, eval_parts, f1, newRow, run_newObj]
      rfl
    · simp only [execOp, hop, Instr.buildSlice, Sem.run_bind, hu, Result.andThen_ok, sizeOf, typeInfo, run_program, h1, Sem.run_pure, h2, hcap, if_false]
      rw [if_neg hn]
      simp only [Sem.run_bind, zeroValue, typeInfo, run_program, h1, h4, Sem.run_pure, Result.andThen_ok, hzz, eval_parts, f1, newRow, run_newObj]
      rfl
  · exact hK.elim
end
end Go.Proofs.IM
