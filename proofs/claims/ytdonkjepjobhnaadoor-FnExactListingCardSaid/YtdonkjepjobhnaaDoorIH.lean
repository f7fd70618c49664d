/- Operations, one by one, the third part: slices, conversions, sums, new rows, append. -/
import Derived.Test.YtdonkjepjobhnaaDoorIG
namespace Go.Proofs.IM
open Go Go.RowKit
set_option linter.unusedVariables false
set_option linter.unusedSimpArgs false
set_option linter.unnecessarySimpa false
section
variable {P : Program} {C : Cx} {Ei E : Env} {wi w w' : World} {L : Pl} {l : Loc} {m : Mem} {o : Oper} {a : Act} {next : Act → World → Prop} {Q : Exit → Act → World → Prop} {id : Nat} {K : KS}
def LoOk (E : Env) (L : Pl) (a : Act) (lo : Option Operand) (u : AV) : Prop := match lo with
  | some y => VR E L u (a.eval y)
  | none => u = .int .i64 0
def HiOk (E : Env) (L : Pl) (a : Act) (hi : Option Operand) (v : Option AV) : Prop := match hi with
  | some y => ∃ v', v = some v' ∧ VR E L v' (a.eval y)
  | none => v = none
theorem aSliceS_v (hC : CxOk C) (hR : Rel Ei wi E L l m w) {ty : TypeId} {x : Operand} {lo hi : Option Operand} (hop : o.op = .slice ty x lo hi none) {s : ByteArray} (hx : VR E L (.str s) (a.eval x)) {u : AV} {v : Option AV}
    (hlo : LoOk E L a lo u) (hhi : HiOk E L a hi v) (hk : kd C ty = some .str) (hK : aSliceS s u v l m K) : Val C.P E L l m o a K := by
  generalize hxv : a.eval x = xv at hx
  cases hx
  have hu := run_underlying (P := C.P) (kd_str hC hk)
  unfold aSliceS at hK
  split at hK
  · rename_i k n k' n'
    obtain ⟨⟨h0, h1, h2⟩, hK⟩ := hK
    cases hi with
    | none => simp [HiOk] at hhi
    | some y =>
      obtain ⟨v', e, hv'⟩ := hhi
      cases e
      generalize hyv : a.eval y = yv at hv'
      cases hv'
      cases lo with
      | none =>
        simp only [LoOk, AV.int.injEq] at hlo
        obtain ⟨rfl, rfl⟩ := hlo
        refine ⟨_, _, (.str _), hK, fun w => ?_⟩
        have e2 : n' ≤ (s.size : Int) := h2
        have e3 : (0 : Int) ≤ n' := h1
        simp [execOp, hop, hxv, hyv, Instr.sliceAt, Instr.slice, hu, Instr.sliceBounds, run_sliceBound, e3, e2]
      | some z =>
        simp only [LoOk] at hlo
        generalize hzv : a.eval z = zv at hlo
        cases hlo
        refine ⟨_, _, (.str _), hK, fun w => ?_⟩
        have e3 : (0 : Int) ≤ n' := by omega
        have e4 : n ≤ ((n'.toNat : Nat) : Int) := by omega
        have hb := run_sliceBound (P := C.P) (w := w) k n n'.toNat .sliceB h0 e4
        simp [execOp, hop, hxv, hyv, hzv, Instr.sliceAt, Instr.slice, hu, Instr.sliceBounds, run_sliceBound, e3, h2, hb]
  · rename_i k n
    obtain ⟨⟨h0, h1⟩, hK⟩ := hK
    cases hi with
    | some y => obtain ⟨v', e, -⟩ := hhi; cases e
    | none =>
      clear hhi
      cases lo with
      | none =>
        simp only [LoOk, AV.int.injEq] at hlo
        obtain ⟨rfl, rfl⟩ := hlo
        refine ⟨_, _, (.str _), hK, fun w => ?_⟩
        simp [execOp, hop, hxv, Instr.sliceAt, Instr.slice, hu, Instr.sliceBounds]
      | some z =>
        simp only [LoOk] at hlo
        generalize hzv : a.eval z = zv at hlo
        cases hlo
        refine ⟨_, _, (.str _), hK, fun w => ?_⟩
        simp [execOp, hop, hxv, hzv, Instr.sliceAt, Instr.slice, hu, Instr.sliceBounds, run_sliceBound, h0, h1]
  · exact hK.elim
theorem aSliceR_v (hC : CxOk C) (hR : Rel Ei wi E L l m w) {ty : TypeId} {x : Operand} {lo hi : Option Operand} (hop : o.op = .slice ty x lo hi none) {aa : AA} {i n c : Nat} (hx : VR E L (.sl aa i n c) (a.eval x)) {u : AV} {v : Option AV}
    (hlo : LoOk E L a lo u) (hhi : HiOk E L a hi v) {Te : TI} (hTe : elm C ty = some Te) (hK : aSliceR Te aa i n c u v l m K) : Val C.P E L l m o a K := by
  generalize hxv : a.eval x = xv at hx
  obtain ⟨el, e1, e2⟩ := elm_spec hC hTe
  have hu := run_underlying (P := C.P) e1
  unfold aSliceR at hK
  split at hK
  · rename_i B hB
    obtain ⟨hz, hK⟩ := hK
    obtain ⟨p, p1, p2, p3⟩ := hR.blk hB
    cases hx with
    | sl _ _ _ _ q hq =>
      rw [p1] at hq; cases hq
      have hres : ∀ (k nn : Nat), VR E L (.sl aa (if c = k then i else i + k) nn (c - k)) (.slice (some (if c = k then adr p i 0 else (adr p i 0).add (k * Te.size))) nn (c - k)) := by
        intro k nn
        split
        · exact .sl _ _ _ _ p p1
        · rw [adr_row p i k Te.size (p2.trans hz)]; exact .sl _ _ _ _ p p1
      split at hK
      · rename_i k z k' z'
        obtain ⟨⟨h0, h1, h2⟩, hK⟩ := hK
        cases hi with
        | none => simp [HiOk] at hhi
        | some y =>
          obtain ⟨v', e, hv'⟩ := hhi
          cases e
          generalize hyv : a.eval y = yv at hv'
          cases hv'
          refine ⟨_, _, (hres z.toNat (z'.toNat - z.toNat)), hK, fun w => ?_⟩
          cases lo with
          | none =>
            simp only [LoOk, AV.int.injEq] at hlo
            obtain ⟨rfl, rfl⟩ := hlo
            simp [execOp, hop, hxv, hyv, Instr.sliceAt, Instr.slice, hu, Instr.sliceBounds, run_sliceBound, h1, h2, e2.szr]
            split <;> rfl
          | some zz =>
            simp only [LoOk] at hlo
            generalize hzv : a.eval zz = zv at hlo
            cases hlo
            have e3 : (0 : Int) ≤ z' := by omega
            have e4 : z ≤ ((z'.toNat : Nat) : Int) := by omega
            have hb := run_sliceBound (P := C.P) (w := w) k z z'.toNat .sliceB h0 e4
            simp [execOp, hop, hxv, hyv, hzv, Instr.sliceAt, Instr.slice, hu, Instr.sliceBounds, run_sliceBound, e3, h2, hb, e2.szr]
            split <;> rfl
      · rename_i k z
        obtain ⟨⟨h0, h1⟩, hK⟩ := hK
        cases hi with
        | some y => obtain ⟨v', e, -⟩ := hhi; cases e
        | none =>
          clear hhi
          refine ⟨_, _, (hres z.toNat (n - z.toNat)), hK, fun w => ?_⟩
          cases lo with
          | none =>
            simp only [LoOk, AV.int.injEq] at hlo
            obtain ⟨rfl, rfl⟩ := hlo
            simp [execOp, hop, hxv, Instr.sliceAt, Instr.slice, hu, Instr.sliceBounds, e2.szr]
            split <;> rfl
          | some zz =>
            simp only [LoOk] at hlo
            generalize hzv : a.eval zz = zv at hlo
            cases hlo
            simp [execOp, hop, hxv, hzv, Instr.sliceAt, Instr.slice, hu, Instr.sliceBounds, run_sliceBound, h0, h1, e2.szr]
            split <;> rfl
      · exact hK.elim
  · exact hK.elim
theorem bytes_rows : ∀ (rs : List (List AV)) (bs : List UInt8) (xs : List Value), bytes? rs = some bs → CR E rs 1 (xs.toArray[·]?) → xs.length = rs.length →
    ∃ ns : List Int, xs = ns.map (Value.int .u8) ∧ ns.map (fun n => UInt8.ofNat n.toNat) = bs := by
  intro rs
  induction rs with
  | nil => intro bs xs h hc hl; simp [bytes?] at h; subst h; exact ⟨[], by simpa using hl, rfl⟩
  | cons r rs ih =>
    intro bs xs h hc hl
    cases xs with
    | nil => simp at hl
    | cons x xs =>
      unfold bytes? at h
      split at h
      · rename_i heq; cases heq
      · rename_i n r' heq
        cases heq
        simp only [Option.map_eq_some_iff] at h
        obtain ⟨bs', hb, rfl⟩ := h
        obtain ⟨-, hc0⟩ := hc 0 _ rfl
        obtain ⟨y, hy, hv⟩ := hc0 0 _ rfl
        simp at hy
        subst hy
        obtain ⟨hv, -⟩ := hv
        cases hv
        obtain ⟨ns, h1, h2⟩ := ih bs' xs hb (fun i row hi => by
          have h1 := hc (i + 1) row (by simpa using hi)
          refine ⟨h1.1, fun o v ho => ?_⟩
          obtain ⟨z, hz, hv⟩ := h1.2 o v ho
          refine ⟨z, ?_, hv⟩
          rw [show (i + 1) * 1 + o = (i * 1 + o) + 1 by omega] at hz
          simpa using hz) (by simpa using hl)
        exact ⟨n :: ns, by simp [h1], by simp [h2]⟩
      · cases h
theorem foldl_push (ns : List Int) : ∀ s : ByteArray, ns.foldl (fun r n => r.push (UInt8.ofNat n.toNat)) s = ⟨s.data ++ (ns.map fun n => UInt8.ofNat n.toNat).toArray⟩ := by
  induction ns with
  | nil => intro s; simp
  | cons n ns ih =>
    intro s
    simp only [List.foldl_cons, ih]
    apply ByteArray.ext
    simp [ByteArray.push]
/-- What is known can be read, in this world. -/
def RS (E : Env) (L : Pl) (l : Loc) (m : Mem) (w : World) : Prop := ∀ (a : AA) (B : Blk), blk? l m a = some B → ∃ p, pos E L a = some p ∧ p.2.2 = B.sz ∧ CR E B.rows B.sz (fun k => w.cell? ⟨p.1, p.2.1 + k, none⟩)
theorem Rel.rs (h : Rel Ei wi E L l m w) : RS E L l m w := fun _ _ hb => h.blk hb
theorem rows_get (hR : RS E L l m w) {aa : AA} {i n : Nat} {rs : List (List AV)} (h : rows? l m aa i n = some rs) :
    ∃ (B : Blk) (p : Nat × Nat × Nat) (xs : List Value), blk? l m aa = some B ∧ pos E L aa = some p ∧ p.2.2 = B.sz ∧ i + n ≤ B.rows.length ∧ rs = (B.rows.drop i).take n ∧ rs.length = n ∧ xs.length = n * B.sz ∧ (∀ (j : Nat) (v : Value), xs[j]? = some v → w.cell? ((adr p i 0).add j) = some v) ∧ CR E rs B.sz (xs[·]?) := by
  unfold rows? at h
  cases hb : blk? l m aa with
  | none => simp [hb] at h
  | some B =>
    simp only [hb, Option.bind_some] at h
    split at h
    · rename_i hle
      cases h
      obtain ⟨p, p1, p2, p3⟩ := hR _ _ hb
      obtain ⟨xs, h1, h2, h3⟩ := p3.rows_ i n hle
      refine ⟨B, p, xs, rfl, p1, p2, hle, rfl, by simp; omega, h1, fun j v hj => ?_, h3⟩
      rw [adr_add]
      have := h2 j v hj
      simpa [adr, p2, Nat.add_assoc] using this
    · cases h
theorem aConv_ok (hC : CxOk C) (hR : Rel Ei wi E L l m w) {s d : TypeId} {x : Operand} (hop : o.op = .convert s d x) {u : AV} (hx : VR E L u (a.eval x)) (hK : aConv C s d u l m K) (hG : Good Ei wi E L id a o.dst K next) : o.wp C.P a w next Q := by
  unfold aConv at hK
  split at hK
  · rename_i Ts Td hTs hTd
    have hOs := hC.T _ _ hTs
    have hOd := hC.T _ _ hTd
    obtain ⟨ds, ks1, ks2⟩ := hOs.undr
    have hus := run_underlying (P := C.P) ks1
    generalize hxv : a.eval x = xv at hx
    split at hK
    · rename_i k k' n hk
      have hud := run_underlying (P := C.P) (hOd.int hk)
      cases hx
      refine hG.here hR (.int _ _) ?_ hK
      simp [execOp, hop, hxv, convert, hus, hud, Conv.intToInt]
    · rename_i k b hk
      have hud := run_underlying (P := C.P) (hOd.int hk)
      cases hx
      have hrun : (execOp a.eval o).run C.P w = ((Conv.floatToInt .f64 b k).run C.P w).andThen fun v w' => .ok (.value v) w' := by
        simp [execOp, hop, hxv, convert, hus, hud]
      have hany : (∀ q, K (.int k (k.wrap ((q : Nat) : Int))) l m) → ((Conv.floatToInt .f64 b k).run C.P w = .ok (.int k (k.wrap (((Question.floatToInt .f64 b k).cut (w.tape w.drawn (.floatToInt .f64 b k)) : Nat) : Int))) w.drew) → o.wp C.P a w next Q := by
        intro hK hr
        exact wp_of_run (w' := w.drew) (by rw [hrun, hr]; rfl) (hG E L _ _ l m _ (hR.same (w' := w.drew) ⟨rfl, rfl, rfl, rfl⟩) (Env.le.refl E) (Pl.le.refl L) (fun _ _ => rfl) (.int _ _) (hK _))
      split at hK
      · rename_i n hn
        split at hK
        · rename_i hr
          refine hG.here hR (.int _ _) ?_ hK
          rw [hrun]
          simp [Conv.floatToInt, hn, hr]
        · rename_i hr
          refine hany hK ?_
          simp [Conv.floatToInt, hn, hr, Question.forced]
      · rename_i hn
        refine hany hK ?_
        simp [Conv.floatToInt, hn, Question.forced]
    · rename_i k n hk
      have hud := run_underlying (P := C.P) (hOd.flt hk)
      cases hx
      refine hG.here hR (.flt _) ?_ hK
      simp [execOp, hop, hxv, convert, hus, hud, Conv.intToFloat]
    · rename_i b hk
      have hud := run_underlying (P := C.P) (hOd.flt hk)
      cases hx
      refine hG.here hR (.flt _) ?_ hK
      simp [execOp, hop, hxv, convert, hus, hud, Conv.floatToFloat]
    · rename_i q hk
      have hud := run_underlying (P := C.P) (hOd.str hk)
      cases hx
      refine hG.here hR (.str _) ?_ hK
      simp [execOp, hop, hxv, convert, hus, hud]
    · rename_i hk hn
      have hud := run_underlying (P := C.P) (hOd.str hk)
      split at hK
      · rename_i e hks
        obtain ⟨hke, hK⟩ := hK
        cases hTe : C.T e with
        | none => simp [hTe] at hke
        | some Te =>
          simp only [hTe, Option.map_some, Option.some.injEq] at hke
          have hue := (hC.T _ _ hTe).int hke
          have hus' := hOs.sl hks
          split at hK
          · rename_i bs hbs
            refine hG.here hR (.str _) ?_ hK
            have hrun : ∀ (aa : Option Addr) (nn c : Nat), xv = .slice aa nn c → (execOp a.eval o).run C.P w = ((Conv.bytesToString xv).run C.P w).andThen fun v w' => .ok (.value v) w' := by
              intro aa nn c e
              subst e
              simp only [execOp, hop, hxv, Sem.run_bind, run_convert_bytes_string w s d _ aa nn c hus' hue (hOd.str hk), Sem.run_pure]
            obtain ⟨rs, hs, hb1⟩ := Option.bind_eq_some_iff.1 hbs
            clear hbs
            have hbs := hb1
            clear hb1
            · unfold sliceRows at hs
              split at hs
              · rename_i aa i nn c
                obtain ⟨B, p, xs, b1, p1, p2, b2, b3, b4, x1, x2, x3⟩ := rows_get hR.rs hs
                cases hx with
                | sl _ _ _ _ q hq =>
                  rw [p1] at hq; cases hq
                  rw [hrun _ _ _ rfl]
                  have hsz : B.sz = 1 ∨ rs = [] := by
                    cases rs with
                    | nil => exact .inr rfl
                    | cons r rs =>
                      unfold bytes? at hbs
                      split at hbs
                      · rename_i heq; cases heq
                      · rename_i n r' heq
                        cases heq
                        exact .inl (x3 0 _ rfl).1.symm
                      · cases hbs
                  have hns : ∃ ns : List Int, xs = ns.map (Value.int .u8) ∧ ns.map (fun n => UInt8.ofNat n.toNat) = bs := by
                    rcases hsz with e | e
                    · rw [e] at x1 x3
                      exact bytes_rows rs bs xs hbs (by simpa using x3) (by omega)
                    · subst e
                      simp [bytes?] at hbs
                      subst hbs
                      have : nn = 0 := by simpa using b4.symm
                      subst this
                      exact ⟨[], by simpa using x1, rfl⟩
                  obtain ⟨ns, n1, n2⟩ := hns
                  have hlen : xs.length = nn := by
                    rcases hsz with e | e
                    · rw [e] at x1; omega
                    · subst e; have : nn = 0 := by simpa using b4.symm
                      subst this; simpa using x1
                  have hl := run_loadCells_list (P := C.P) w (adr p i 0) xs x2
                  rw [hlen, n1] at hl
                  rw [run_bytesToString w _ nn c ns hl, foldl_push, n2]
                  simp
              · cases hs
                simp [bytes?] at hbs
                subst hbs
                cases hx
                rw [hrun _ _ _ rfl]
                simp [Conv.bytesToString]
                rfl
              · rename_i aq
                cases hs
                simp [bytes?] at hbs
                subst hbs
                cases hx
                · rw [hrun _ _ _ rfl]
                  have hl := run_loadCells_list (P := C.P) w aq [] (fun j v hj => by simp at hj)
                  rw [run_bytesToString w aq 0 0 [] (by simpa using hl)]
                  simp
                  rfl
              · cases hs
          · exact hK.elim
      · exact hK.elim
    · exact hK.elim
  · exact hK.elim
end
end Go.Proofs.IM
