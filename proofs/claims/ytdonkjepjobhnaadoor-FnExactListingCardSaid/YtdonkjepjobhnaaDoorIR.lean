/- Plans for drawn regions: what they ask, and that it is enough. -/
import Derived.Test.YtdonkjepjobhnaaDoorIQ
import Derived.Test.YtdonkjepjobhnaaDoorIS
namespace Go.Proofs.IM
open Go Go.RowKit
set_option linter.unusedVariables false
set_option linter.unusedSimpArgs false
set_option linter.unnecessarySimpa false
theorem pos_det {E : Env} {L L' : Pl} {a : AA} {p q : Nat × Nat × Nat} (ha : ∀ j, a ≠ .lc j) (h : pos E L a = some p) (h' : pos E L' a = some q) : p = q := by
  cases a with
  | lc j => exact (ha j rfl).elim
  | ro j => rw [show pos E L (.ro j) = E.r j from rfl] at h; rw [show pos E L' (.ro j) = E.r j from rfl] at h'; rw [h] at h'; cases h'; rfl
  | hp j =>
    simp only [pos, Option.map_eq_some_iff] at h h'
    obtain ⟨x, hx, rfl⟩ := h
    obtain ⟨y, hy, rfl⟩ := h'
    rw [hx] at hy; cases hy; rfl
theorem VR.det1 {E : Env} {L L' : Pl} {v : AV} {x y : Value} (hp : v.pub1 = true) (h : VR E L v x) (h' : VR E L' v y) : x = y := by
  cases h with
  | int k n => cases h'; rfl
  | bool b => cases h'; rfl
  | str s => cases h'; rfl
  | flt n => cases h'; rfl
  | nilp => cases h'; rfl
  | nils => cases h'; rfl
  | emp a => cases h'; rfl
  | ptr a i o p hpp =>
    cases h' with
    | ptr _ _ _ q hq => rw [pos_det (fun j e => by subst e; simp [AV.pub1] at hp) hpp hq]
  | sl a i n c p hpp =>
    cases h' with
    | sl _ _ _ _ q hq => rw [pos_det (fun j e => by subst e; simp [AV.pub1] at hp) hpp hq]
  | agg cs vs hl h => simp [AV.pub1] at hp
  | tup cs vs hl h => simp [AV.pub1] at hp
  | raw v => simp [AV.pub1] at hp
  | undef v => simp [AV.pub1] at hp
theorem VR.det2 {E : Env} {L L' : Pl} {v : AV} {x y : Value} (hp : v.pub2 = true) (h : VR E L v x) (h' : VR E L' v y) : x = y := by
  have h0 := h
  cases h with
  | agg cs vs hl hc =>
    cases h' with
    | agg _ us hl' hc' =>
      congr 1
      apply Array.ext (by omega)
      intro i hi hi'
      simp only [AV.pub2, List.all_eq_true] at hp
      have hcs : cs[i]? = some (cs[i]'(by omega)) := by simp [show i < cs.length by omega]
      exact (hc i _ _ hcs (by simp [hi])).det1 (hp _ (List.mem_of_getElem? hcs)) (hc' i _ _ hcs (by simp [hi']))
  | _ => exact h0.det1 (by simpa [AV.pub2] using hp) h'
/-- A row that has been read: where it lies, and what is known of it. -/
structure Rd where
  idx : Nat
  E : Env
  p : Nat × Nat × Nat
  B : Blk
def RB (q : Rd) (w : World) : Prop := ∃ E', q.E.le E' ∧ CR E' q.B.rows q.B.sz (fun k => w.cell? ⟨q.p.1, q.p.2.1 + k, none⟩)
section
variable {P : Program} {C : Cx} {Ei E : Env} {wi w w' : World} {L : Pl} {l : Loc} {m : Mem} {o : Oper} {a : Act} {next : Act → World → Prop} {Q : Exit → Act → World → Prop} {id : Nat} {K : KS}
/-- A load, in every world in which its row reads as it does. -/
theorem aLoad_r {ty : TypeId} {T : TI} (hT : TOk P ty T) (hR : Rel Ei wi E L l m w) {x : Operand} (hop : o.op = .load ty x) {v : AV} (hx : VR E L v (a.eval x)) (hK : aLoad T v l m K) :
    ∃ (aa : AA) (i oo : Nat) (B : Blk) (p : Nat × Nat × Nat) (u : AV) (y : Value), v = .ptr aa i oo ∧ blk? l m aa = some B ∧ pos E L aa = some p ∧ p.2.2 = B.sz ∧ VR E L u y ∧ K u l m ∧
      ∀ idx w', RB ⟨idx, E, p, B⟩ w' → (execOp a.eval o).run P w' = .ok (.value y) w' := by
  unfold aLoad at hK
  split at hK
  · rename_i aa i oo
    unfold row? at hK
    cases hb : blk? l m aa with
    | none => simp [hb] at hK
    | some B =>
      simp only [hb, Option.bind_some] at hK
      cases hr : B.rows[i]? with
      | none => simp [hr] at hK
      | some r =>
        simp only [hr] at hK
        cases hp : part? T r oo with
        | none => simp [hp] at hK
        | some u =>
          simp only [hp] at hK
          obtain ⟨p, h1, h2, h3⟩ := hR.blk hb
          obtain ⟨y, hy, hv, hpub⟩ := part_ok (P := P) hT h2 h3 hr hp
          refine ⟨aa, i, oo, B, p, u, y, rfl, hb, h1, h2, hv.mono (Env.le.refl E) (noPl_le L), hK, fun idx w' hrb => ?_⟩
          obtain ⟨E', hE, hc⟩ := hrb
          obtain ⟨y', hy', hv', -⟩ := part_ok (P := P) (w := w') hT h2 hc hr hp
          have : y' = y := (VR.det2 hpub (hv.mono hE (Pl.le.refl _)) hv').symm
          subst this
          generalize hav : a.eval x = xv at hx
          cases hx with
          | ptr _ _ _ p' hp' =>
            rw [h1] at hp'; cases hp'
            simp only [execOp, hop, hav, Sem.run_bind, hy', Result.andThen_ok, Sem.run_pure]
  · exact hK.elim
/-- Bytes turned into a string, in every world in which their rows read as they do. -/
theorem aConv_r (hC : CxOk C) (hR : Rel Ei wi E L l m w) {s d : TypeId} {x : Operand} (hop : o.op = .convert s d x) {aa : AA} {i n c : Nat} (hx : VR E L (.sl aa i n c) (a.eval x)) (hK : aConv C s d (.sl aa i n c) l m K) :
    ∃ (B : Blk) (p : Nat × Nat × Nat) (u : AV) (y : Value), blk? l m aa = some B ∧ pos E L aa = some p ∧ p.2.2 = B.sz ∧ VR E L u y ∧ K u l m ∧ ∀ idx w', RB ⟨idx, E, p, B⟩ w' → (execOp a.eval o).run C.P w' = .ok (.value y) w' := by
  have hK0 := hK
  unfold aConv at hK
  split at hK
  · rename_i Ts Td hTs hTd
    have hOs := hC.T _ _ hTs
    have hOd := hC.T _ _ hTd
    cases hk : Td.kind with
    | str =>
      simp only [hk] at hK
      cases hks : Ts.kind with
      | sl e =>
        simp only [hks] at hK
        obtain ⟨hke, hK⟩ := hK
        cases hTe : C.T e with
        | none => simp [hTe] at hke
        | some Te =>
          simp only [hTe, Option.map_some, Option.some.injEq] at hke
          have hue := (hC.T _ _ hTe).int hke
          have hus' := hOs.sl hks
          cases hsr : sliceRows l m (.sl aa i n c) with
          | none => simp [hsr] at hK
          | some rs =>
            simp only [hsr, Option.bind_some] at hK
            cases hbs : bytes? rs with
            | none => simp [hbs] at hK
            | some bs =>
              simp only [hbs] at hK
              have hrs : rows? l m aa i n = some rs := hsr
              unfold rows? at hrs
              cases hb : blk? l m aa with
              | none => simp [hb] at hrs
              | some B =>
                simp only [hb, Option.bind_some] at hrs
                split at hrs
                · rename_i hle
                  cases hrs
                  obtain ⟨p, p1, p2, p3⟩ := hR.blk hb
                  refine ⟨B, p, .str ⟨bs.toArray⟩, .string ⟨bs.toArray⟩, rfl, p1, p2, .str _, hK, fun idx w' hrb => ?_⟩
                  obtain ⟨E', hE, hc⟩ := hrb
                  obtain ⟨xs, x1, x2, x3⟩ := CR.rows_ hc i n hle
                  have hns : ∃ ns : List Int, xs = ns.map (Value.int .u8) ∧ ns.map (fun n => UInt8.ofNat n.toNat) = bs ∧ xs.length = n := by
                    cases hrs : (B.rows.drop i).take n with
                    | nil =>
                      have hn : n = 0 := by
                        have := congrArg List.length hrs
                        simp at this; omega
                      subst hn
                      rw [hrs] at hbs
                      simp [bytes?] at hbs
                      subst hbs
                      have : xs = [] := by simpa using x1
                      subst this
                      exact ⟨[], rfl, rfl, rfl⟩
                    | cons r rr =>
                      have hsz : B.sz = 1 := by
                        rw [hrs] at hbs x3
                        unfold bytes? at hbs
                        split at hbs
                        · rename_i heq; cases heq
                        · rename_i q r' heq
                          cases heq
                          exact (x3 0 _ rfl).1.symm
                        · cases hbs
                      rw [hsz] at x1 x3
                      obtain ⟨ns, n1, n2⟩ := bytes_rows _ bs xs hbs (by simpa using x3) (by simp; omega)
                      exact ⟨ns, n1, n2, by omega⟩
                  obtain ⟨ns, n1, n2, n3⟩ := hns
                  have hcell : ∀ j v, xs[j]? = some v → w'.cell? ((adr p i 0).add j) = some v := fun j v hj => by
                    rw [adr_add]
                    have := x2 j v hj
                    simpa [adr, p2, Nat.add_assoc] using this
                  have hl := run_loadCells_list (P := C.P) w' (adr p i 0) xs hcell
                  rw [n3, n1] at hl
                  generalize hav : a.eval x = xv at hx
                  cases hx with
                  | sl _ _ _ _ q hq =>
                    rw [p1] at hq; cases hq
                    simp only [execOp, hop, hav, Sem.run_bind, run_convert_bytes_string w' s d _ _ n c hus' hue (hOd.str hk), Sem.run_pure]
                    rw [run_bytesToString w' _ n c ns hl, foldl_push, n2]
                    simp
                · cases hrs
      | _ => simp [hks] at hK
    | _ => simp [hk] at hK
  · exact hK.elim
end
/-- Which row a reading operation reads. -/
def rdA (m : Mem) (t : Nat → AV) (o : Oper) : Option AA := match o.op with
  | .load _ x => match eA m t x with
    | .ptr a _ _ => some a
    | _ => none
  | .convert _ _ x => match eA m t x with
    | .sl a _ _ _ => some a
    | _ => none
  | _ => none
abbrev Tk := List (Nat × AA × Blk)
def keepAll (xs : List Nat) : Tk → Loc → Mem → Prop
  | [], _, _ => True
  | q :: r, l, m => (if xs.contains q.1 then blk? l m q.2.1 = some q.2.2 else True) ∧ keepAll xs r l m
def pNext (nx : St → Mem → Prop) (xs : List Nat) (tk : Tk) : Nat → St → Mem → Prop := fun _ st m => keepAll xs tk st.l m ∧ nx st m
/-- An operation's guard: both ways. -/
def gCase (ops : Array Oper) (t : Nat → AV) (o : Oper) (yes no : (Nat → AV) → Prop) : Prop := match o.guard with
  | none => yes t
  | some (j, b) => match gval ops t j with
    | some (d, .bool q) => (q = b → yes (upd t d (.bool b))) ∧ (q = !b → no (upd t d (.bool !b)))
    | some (_, .tup _) => no t
    | _ => False
def aPure (C : Cx) (ops : Array Oper) (o : Oper) (i : Nat) (st : St) (m : Mem) (nx : St → Mem → Prop) (KP : Value → Mem → Prop) : Prop :=
  gCase ops st.t o (fun t => okP m t o = true ∧ aOp C (st.c + i) o t st.l m (Ks (pNext nx [] []) i o.dst ⟨t, st.l, st.c⟩) KP) (fun t => nx ⟨putT t o.dst noA, st.l, st.c⟩ m)
def aRead (C : Cx) (ops : Array Oper) (o : Oper) (i : Nat) (st : St) (m : Mem) (tk : Tk) (nx : Tk → St → Mem → Prop) (KP : Value → Mem → Prop) : Prop :=
  gCase ops st.t o (fun t => match rdA m t o with
    | some a => match blk? st.l m a with
      | some B => aOp C (st.c + i) o t st.l m (Ks (pNext (nx ((i, a, B) :: tk)) [] []) i o.dst ⟨t, st.l, st.c⟩) KP
      | none => False
    | none => False) (fun t => nx tk ⟨putT t o.dst noA, st.l, st.c⟩ m)
/-- What a plan asks; behind it comes EN. -/
def aPlan (C : Cx) (ops : Array Oper) (EN : Tk → St → Mem → Prop) (KP : Value → Mem → Prop) : Plan → Tk → St → Mem → Prop
  | [], tk, st, m => EN tk st m
  | (i, k) :: pl, tk, st, m => match ops[i]? with
    | some o => match k with
      | .pure => aPure C ops o i st m (aPlan C ops EN KP pl tk) KP
      | .read => aRead C ops o i st m tk (aPlan C ops EN KP pl) KP
      | .step xs => aStep C ops o i st m (pNext (aPlan C ops EN KP pl tk) xs tk) KP
    | none => False
/-- A plan that fits its region: en is asked of its end, rest are the operations behind it. -/
def planOk (ops : Array Oper) (en : Array Bool → Bool) (rest : Plan) : Plan → Array Bool → Bool
  | [], listed => en listed
  | (i, k) :: pl, listed => (match ops[i]? with
      | some o => match k with
        | .pure => Region.free .any ops listed i && (Region.ready .any ops listed).contains i
        | .read => Region.free .any ops listed i && (Region.ready .any ops listed).contains i && (pl ++ rest).all fun q => match q.2 with
          | .step xs => anc .any ops ops.size q.1 i || xs.contains i
          | _ => true
        | .step _ => Region.ready .any ops listed == [i]
      | none => false) && planOk ops en rest pl (listed.setIfInBounds i true)
def planAll (ops : Array Oper) (pl : Plan) : Bool :=
  planOk ops (fun listed => (Region.ready .any ops listed).isEmpty) [] pl (Array.replicate ops.size false) && decide ((pl.map Prod.fst).Nodup) && (List.range ops.size).all (fun j => (pl.map Prod.fst).contains j) && Region.noSelect ops && (pl.length == ops.size)
/-- Several orders of what is left. -/
inductive PT where
  | done
  | step (i : Nat) (xs : List Nat) (r : PT)
  | fork (i : Nat) (xs : List Nat) (r : PT) (j : Nat) (ys : List Nat) (s : PT)
def PT.size : PT → Nat
  | .done => 0
  | .step _ _ r => r.size + 1
  | .fork _ _ r _ _ s => max r.size s.size + 1
def aPT1 (C : Cx) (ops : Array Oper) (KP : Value → Mem → Prop) (i : Nat) (xs : List Nat) (tk : Tk) (nx : St → Mem → Prop) (st : St) (m : Mem) : Prop := match ops[i]? with
  | some o => aStep C ops o i st m (pNext nx xs tk) KP
  | none => False
def aPT (C : Cx) (ops : Array Oper) (KN : St → Mem → Prop) (KP : Value → Mem → Prop) : PT → Tk → St → Mem → Prop
  | .done, _, st, m => KN ⟨st.t, st.l, st.c + ops.size⟩ m
  | .step i xs r, tk, st, m => aPT1 C ops KP i xs tk (aPT C ops KN KP r tk) st m
  | .fork i xs r j ys s, tk, st, m => aPT1 C ops KP i xs tk (aPT C ops KN KP r tk) st m ∧ aPT1 C ops KP j ys tk (aPT C ops KN KP s tk) st m
def ptOk (ops : Array Oper) (pf : Plan) : PT → Array Bool → Bool
  | .done, listed => (Region.ready .any ops listed).isEmpty
  | .step i xs r, listed => Region.ready .any ops listed == [i] && pf.contains (i, .step xs) && ptOk ops pf r (listed.setIfInBounds i true)
  | .fork i xs r j ys s, listed => Region.ready .any ops listed == [i, j] && pf.contains (i, .step xs) && pf.contains (j, .step ys) && ptOk ops pf r (listed.setIfInBounds i true) && ptOk ops pf s (listed.setIfInBounds j true)
def planAllF (ops : Array Oper) (pl rest : Plan) (T : PT) : Bool :=
  planOk ops (ptOk ops (pl ++ rest) T) rest pl (Array.replicate ops.size false) && decide (((pl ++ rest).map Prod.fst).Nodup) && (List.range ops.size).all (fun j => ((pl ++ rest).map Prod.fst).contains j) && Region.noSelect ops && decide (pl.length + T.size ≤ ops.size)
section
variable {C : Cx} {Ei : Env} {wi : World} {N : Fm} {Q : Exit → Act → World → Prop} {KP : Value → Mem → Prop} {ops : Array Oper}
theorem gCase_ok {E : Env} {L : Pl} {st : St} {m : Mem} {a : Act} {w : World} (hS : SR Ei wi N E L st m a w) {o : Oper} {yes no : (Nat → AV) → Prop} (h : gCase ops st.t o yes no) :
    (Region.wanted o (yielded ops a.tmps) = true ∧ ∃ t, SR Ei wi N E L ⟨t, st.l, st.c⟩ m a w ∧ yes t) ∨ (Region.wanted o (yielded ops a.tmps) = false ∧ ∃ t, SR Ei wi N E L ⟨t, st.l, st.c⟩ m a w ∧ no t) := by
  unfold gCase at h
  cases hg : o.guard with
  | none =>
    simp only [hg] at h
    exact .inl ⟨by simp [Region.wanted, hg], st.t, hS, h⟩
  | some jb =>
    obtain ⟨j, b⟩ := jb
    simp only [hg] at h
    cases hgv : gval ops st.t j with
    | none => simp [hgv] at h
    | some dv =>
      obtain ⟨d, v⟩ := dv
      simp only [hgv] at h
      have hy : ∃ oj, ops[j]? = some oj ∧ oj.dst = some d ∧ st.t d = v := by
        unfold gval at hgv
        cases ho : ops[j]? with
        | none => simp [ho] at hgv
        | some oj =>
          simp only [ho, Option.bind_some, Option.map_eq_some_iff, Prod.mk.injEq] at hgv
          obtain ⟨d', h1, rfl, h3⟩ := hgv
          exact ⟨oj, rfl, h1, h3⟩
      obtain ⟨oj, h1, h2, h3⟩ := hy
      have hvr := hS.t d
      rw [h3] at hvr
      have hyd : yielded ops a.tmps j = match a.tmps[d]? with | some (.bool b) => some b | _ => none := by
        simp only [yielded, h1, h2, Option.bind_some]
        rfl
      split at h
      · rename_i t heq
        cases heq
        have htm : a.tmps[d]? = some (.bool t) := by
          rw [Array.getD_eq_getD_getElem?] at hvr
          cases hh : a.tmps[d]? with
          | none => rw [hh] at hvr; simp [undef] at hvr; cases hvr
          | some x => rw [hh] at hvr; simp at hvr; cases hvr; rfl
        rw [htm] at hyd
        simp only at hyd
        by_cases htb : t = b
        · subst htb
          exact .inl ⟨by simp [Region.wanted, hg, hyd], _, hS.setT h3, h.1 rfl⟩
        · have hne : t = !b := by cases t <;> cases b <;> simp_all
          refine .inr ⟨by simp [Region.wanted, hg, hyd, htb], ?_⟩
          subst hne
          exact ⟨_, hS.setT h3, h.2 rfl⟩
      · rename_i vs heq
        cases heq
        have hnb : yielded ops a.tmps j = none := by
          rw [hyd]
          rw [Array.getD_eq_getD_getElem?] at hvr
          cases hh : a.tmps[d]? with
          | none => rfl
          | some x => rw [hh] at hvr; simp at hvr; cases hvr; rfl
        exact .inr ⟨by simp [Region.wanted, hg, hnb], st.t, hS, h⟩
      · exact h.elim
theorem aStep_g {o : Oper} {i : Nat} {st : St} {m : Mem} {next : Nat → St → Mem → Prop} (h : aStep C ops o i st m next KP) :
    gCase ops st.t o (fun t => aOp C (st.c + i) o t st.l m (Ks next i o.dst ⟨t, st.l, st.c⟩) KP) (fun t => next (i + 1) ⟨putT t o.dst noA, st.l, st.c⟩ m) := by
  unfold aStep at h
  unfold gCase
  cases hg : o.guard with
  | none => simp only [hg] at h; exact h
  | some jb =>
    obtain ⟨j, b⟩ := jb
    simp only [hg] at h ⊢
    cases hgv : gval ops st.t j with
    | none => simp [hgv] at h
    | some dv =>
      obtain ⟨d, v⟩ := dv
      simp only [hgv] at h ⊢
      cases v <;> exact h
theorem noA_ok (E : Env) (L : Pl) : VR E L noA undef := .tup [] #[] rfl (fun i c v hc => by simp at hc)
/-- The ids of new variables that are still free. -/
def Fq (L : Pl) (ops : Array Oper) (c : Nat) (listed : Array Bool) : Prop := (∀ j, c + ops.size ≤ j → L j = none) ∧ ∀ i, listed.getD i true = false → L (c + i) = none
def Gp (pf : Plan) (T : List Rd) (j : Nat) (w w' : World) : Prop := ∀ k, (j, k) ∈ pf → match k with
  | .step xs => ∀ q ∈ T, xs.contains q.idx = true → RB q w → RB q w'
  | _ => w' = w
def TT (E : Env) (L : Pl) (l : Loc) (m : Mem) (T : List Rd) (tk : Tk) : Prop := T.map (fun q => (q.idx, q.B)) = tk.map (fun q => (q.1, q.2.2)) ∧
  ∀ (n : Nat) (q : Rd) (r : Nat × AA × Blk), T[n]? = some q → tk[n]? = some r → q.E.le E ∧ pos E L r.2.1 = some q.p ∧ q.p.2.2 = q.B.sz
theorem keepAll_spec {xs : List Nat} : ∀ (tk : Tk) {l : Loc} {m : Mem}, keepAll xs tk l m → ∀ r ∈ tk, xs.contains r.1 = true → blk? l m r.2.1 = some r.2.2
  | [], _, _, _, r, hr, _ => by simp at hr
  | q :: tk, l, m, h, r, hr, hx => by
    obtain ⟨h1, h2⟩ := h
    rcases List.mem_cons.1 hr with e | e
    · subst e; rwa [if_pos hx] at h1
    · exact keepAll_spec tk h2 r e hx
theorem kind_one {pf : Plan} (hnd : (pf.map Prod.fst).Nodup) {i : Nat} {k k' : PK} (h : (i, k) ∈ pf) (h' : (i, k') ∈ pf) : k = k' := by
  induction pf with
  | nil => cases h
  | cons p pf ih =>
    simp only [List.map_cons, List.nodup_cons] at hnd
    rcases List.mem_cons.1 h with e | e <;> rcases List.mem_cons.1 h' with e' | e'
    · rw [← e'] at e; cases e; rfl
    · exact (hnd.1 (List.mem_map.2 ⟨(i, k'), e', by rw [← e]⟩)).elim
    · exact (hnd.1 (List.mem_map.2 ⟨(i, k), e, by rw [← e']⟩)).elim
    · exact ih hnd.2 e e'
theorem Gp.self {pf : Plan} {T : List Rd} (i : Nat) (w : World) : Gp pf T i w w := fun k hk => by
  cases k with
  | pure => rfl
  | read => rfl
  | step xs => exact fun q hq hx hb => hb
theorem set_false {listed : Array Bool} {i j : Nat} (h : (listed.setIfInBounds i true).getD j true = false) : listed.getD j true = false ∧ j ≠ i := by
  simp only [Array.getD_eq_getD_getElem?, Array.getElem?_setIfInBounds] at h ⊢
  by_cases e : i = j
  · subst e
    simp only [if_true] at h
    split at h <;> simp at h
  · rw [if_neg e] at h; exact ⟨h, Ne.symm e⟩
theorem unlisted' {listed : Array Bool} {i : Nat} (h : (Region.ready .any ops listed).contains i = true) : listed.getD i true = false := by
  have : i ∈ Region.ready .any ops listed := by simpa using h
  exact (mem_ready.1 this).1
theorem Fq.set {L L' : Pl} {c i : Nat} {listed : Array Bool} (h : Fq L ops c listed) (hi : i < ops.size) (hL : ∀ j, j ≠ c + i → L' j = L j) : Fq L' ops c (listed.setIfInBounds i true) :=
  ⟨fun j hj => (hL j (by omega)).trans (h.1 j hj), fun j hj => (hL _ (by have := (set_false hj).2; omega)).trans (h.2 j (set_false hj).1)⟩
theorem TT.mono {E E' : Env} {L L' : Pl} {l l' : Loc} {m m' : Mem} {T : List Rd} {tk : Tk} (h : TT E L l m T tk) (hE : E.le E') (hL : L.le L') : TT E' L' l' m' T tk :=
  ⟨h.1, fun n q r hq hr => ⟨(h.2 n q r hq hr).1.trans hE, pos_mono hE hL (h.2 n q r hq hr).2.1, (h.2 n q r hq hr).2.2⟩⟩
theorem TT.get {E : Env} {L : Pl} {l : Loc} {m : Mem} {T : List Rd} {tk : Tk} (h : TT E L l m T tk) {q : Rd} (hq : q ∈ T) : ∃ r ∈ tk, q.idx = r.1 ∧ q.B = r.2.2 ∧ q.E.le E ∧ pos E L r.2.1 = some q.p ∧ q.p.2.2 = q.B.sz := by
  obtain ⟨n, hn⟩ := List.mem_iff_getElem?.1 hq
  have h1 := congrArg (fun x => x[n]?) h.1
  simp only [List.getElem?_map, hn, Option.map_some] at h1
  cases hr : tk[n]? with
  | none => rw [hr] at h1; cases h1
  | some r =>
    rw [hr] at h1
    simp only [Option.map_some, Option.some.injEq, Prod.mk.injEq] at h1
    obtain ⟨g1, g2, g3⟩ := h.2 n q r hn hr
    exact ⟨r, List.mem_of_getElem? hr, h1.1, h1.2, g1, g2, g3⟩
/-- What has been read stands as it was. -/
theorem kept {E E' : Env} {L L' : Pl} {l : Loc} {m : Mem} {w' : World} {T : List Rd} {tk : Tk} {xs : List Nat} {l' : Loc} {m' : Mem} (h : TT E L l m T tk) (hE : E.le E') (hL : L.le L') (hr : Rel Ei wi E' L' l' m' w') (hk : keepAll xs tk l' m') {q : Rd} (hq : q ∈ T) (hx : xs.contains q.idx = true) : RB q w' := by
  obtain ⟨r, hr1, h1, h2, h3, h4, h5⟩ := h.get hq
  have := keepAll_spec tk hk r hr1 (by rw [← h1]; exact hx)
  obtain ⟨p, p1, p2, p3⟩ := hr.blk this
  rw [pos_mono hE hL h4] at p1
  cases p1
  exact ⟨E', h3.trans hE, by rw [h2]; exact p3⟩
/-- One operation of a plan, behind which what has been read must stand. -/
theorem step_one (hC : CxOk C) {X : Act → World → Prop}
    (hP : ∀ E L v l m a w, Rel Ei wi E L l m w → N.held a → KP v m → Q (.panic [{ v, recovered := false }]) a w)
    {pf : Plan} (hnd : (pf.map Prod.fst).Nodup) {T : List Rd} {i : Nat} {xs : List Nat} {tk : Tk} {o : Oper} {listed : Array Bool} {E : Env} {L : Pl} {st : St} {m : Mem} {a : Act} {w : World} {nx : St → Mem → Prop}
    (hoi : ops[i]? = some o) (hdi : dstOk N o = true) (hpf : (i, PK.step xs) ∈ pf) (hmem : i ∈ Region.ready .any ops listed) (hS : SR Ei wi N E L st m a w) (hF : Fq L ops st.c listed) (hT : TT E L st.l m T tk)
    (h : aStep C ops o i st m (pNext nx xs tk) KP)
    (ih : ∀ E' L' st' m' a' w', SR Ei wi N E' L' st' m' a' w' → Fq L' ops st'.c (listed.setIfInBounds i true) → TT E' L' st'.l m' T tk → nx st' m' → X a' w') :
    wpOp C.P ops Q i (fun a' w' => Gp pf T i w w' ∧ X a' w') a w := by
  have hil : i < ops.size := (Array.getElem?_eq_some_iff.1 hoi).1
  have hun := unlisted' (i := i) (by simpa using hmem)
  unfold wpOp
  simp only [hoi]
  rcases gCase_ok hS (aStep_g h) with ⟨hw, t, hS', hop⟩ | ⟨hw, t, hS', hno⟩
  · rw [if_pos hw]
    refine .inl (aOp_ok hC hS'.r (hF.2 i hun) hS'.t hop (fun E' L' v x l' m' w' hr hE hL hLj hv hk => ⟨fun k hk' => ?_, ?_⟩) (fun E' L' v l' m' w' hr hk => hP E' L' v l' m' a w' hr hS'.d hk))
    · cases kind_one hnd hpf hk'
      exact fun q hq hx _ => kept hT hE hL hr hk.1 hq hx
    · exact ih E' L' _ m' _ w' (hS'.put hdi hr hE hL hv) (hF.set hil hLj) (hT.mono hE hL) hk.2
  · rw [if_neg (by simp [hw])]
    refine ⟨Gp.self i w, ?_⟩
    exact ih E L _ m _ w (hS'.put hdi hS'.r (Env.le.refl E) (Pl.le.refl L) (noA_ok E L)) (hF.set hil fun _ _ => rfl) (hT.mono (Env.le.refl E) (Pl.le.refl L)) hno.2
/-- Several orders of steps. -/
theorem pt_ok (hC : CxOk C) {KN : St → Mem → Prop} (hN : ∀ E L st m a w, SR Ei wi N E L st m a w → Fr L st.c → KN st m → Q .normal a w)
    (hP : ∀ E L v l m a w, Rel Ei wi E L l m w → N.held a → KP v m → Q (.panic [{ v, recovered := false }]) a w)
    (hd : ops.toList.all (dstOk N) = true) {pf : Plan} (hnd : (pf.map Prod.fst).Nodup) {R : List Rd} {tk : Tk} :
    ∀ (T : PT) (fuel : Nat) (listed : Array Bool) (E : Env) (L : Pl) (st : St) (m : Mem) (a : Act) (w : World), T.size ≤ fuel → ptOk ops pf T listed = true → Cl .any ops listed →
      SR Ei wi N E L st m a w → Fq L ops st.c listed → TT E L st.l m R tk → aPT C ops KN KP T tk st m → wpAnyG C.P .any ops Q (Gp pf R) fuel listed a w := by
  have hdo : ∀ i o, ops[i]? = some o → dstOk N o = true := fun i o hoi => (List.all_eq_true.1 hd) o (by rw [← Array.getElem?_toList] at hoi; exact List.mem_of_getElem? hoi)
  intro T
  induction T with
  | done =>
    intro fuel listed E L st m a w _ ho _ hS hF _ h
    have hr : Region.ready .any ops listed = [] := by simpa [ptOk] using ho
    exact wpAnyG_done hr (hN E L ⟨st.t, st.l, st.c + ops.size⟩ m a w ⟨hS.r, hS.t, hS.d, hS.n⟩ hF.1 h) fuel
  | step i xs r ih =>
    intro fuel listed E L st m a w hs ho hcl hS hF hT h
    simp only [ptOk, Bool.and_eq_true, beq_iff_eq] at ho
    obtain ⟨⟨hr, hc⟩, ho⟩ := ho
    have hpf : (i, PK.step xs) ∈ pf := by simpa using hc
    simp only [PT.size] at hs
    obtain ⟨fuel, rfl⟩ : ∃ n, fuel = n + 1 := ⟨fuel - 1, by omega⟩
    simp only [aPT, aPT1] at h
    cases hoi : ops[i]? with
    | none => simp [hoi] at h
    | some o =>
      simp only [hoi] at h
      have hmem : i ∈ Region.ready .any ops listed := by simp [hr]
      exact wpAnyG_one hr (step_one hC hP hnd hoi (hdo i o hoi) hpf hmem hS hF hT h fun E' L' st' m' a' w' hS' hF' hT' h' => ih fuel _ E' L' st' m' a' w' (by omega) ho (hcl.set hmem) hS' hF' hT' h')
  | fork i xs r j ys s ih1 ih2 =>
    intro fuel listed E L st m a w hs ho hcl hS hF hT h
    simp only [ptOk, Bool.and_eq_true, beq_iff_eq] at ho
    obtain ⟨⟨⟨⟨hr, hc1⟩, hc2⟩, ho1⟩, ho2⟩ := ho
    have hpf1 : (i, PK.step xs) ∈ pf := by simpa using hc1
    have hpf2 : (j, PK.step ys) ∈ pf := by simpa using hc2
    simp only [PT.size] at hs
    obtain ⟨fuel, rfl⟩ : ∃ n, fuel = n + 1 := ⟨fuel - 1, by omega⟩
    simp only [aPT, aPT1] at h
    obtain ⟨h1, h2⟩ := h
    refine ⟨fun h0 => (by rw [hr] at h0; cases h0), fun q hq => ?_⟩
    have hq' := hq
    rw [hr] at hq'
    simp only [List.mem_cons, List.not_mem_nil, or_false] at hq'
    rcases hq' with rfl | rfl
    · cases hoi : ops[q]? with
      | none => simp [hoi] at h1
      | some o =>
        simp only [hoi] at h1
        exact step_one hC hP hnd hoi (hdo q o hoi) hpf1 hq hS hF hT h1 fun E' L' st' m' a' w' hS' hF' hT' h' => ih1 fuel _ E' L' st' m' a' w' (by omega) ho1 (hcl.set hq) hS' hF' hT' h'
    · cases hoi : ops[q]? with
      | none => simp [hoi] at h2
      | some o =>
        simp only [hoi] at h2
        exact step_one hC hP hnd hoi (hdo q o hoi) hpf2 hq hS hF hT h2 fun E' L' st' m' a' w' hS' hF' hT' h' => ih2 fuel _ E' L' st' m' a' w' (by omega) ho2 (hcl.set hq) hS' hF' hT' h'
/-- A plan tells every order. -/
theorem plan_ok (hC : CxOk C) {EN : Tk → St → Mem → Prop} {en : Array Bool → Bool} {rest : Plan} {n : Nat}
    (hP : ∀ E L v l m a w, Rel Ei wi E L l m w → N.held a → KP v m → Q (.panic [{ v, recovered := false }]) a w)
    (hQ : ∀ c (a : Act) (o : Oper) v w, dstOk N o = true → Q (.panic c) (a.put o.dst v) w → Q (.panic c) a w) (hs : Region.noSelect ops = true) (hd : ops.toList.all (dstOk N) = true) {pf : Plan} (hnd : (pf.map Prod.fst).Nodup) (hrest : ∀ p ∈ rest, p ∈ pf)
    (hE : ∀ (listed : Array Bool) (tk : Tk) (T : List Rd) (E : Env) (L : Pl) (st : St) (m : Mem) (a : Act) (w : World), en listed = true → Cl .any ops listed → SR Ei wi N E L st m a w → Fq L ops st.c listed → TT E L st.l m T tk → EN tk st m → wpAnyG C.P .any ops Q (Gp pf T) n listed a w) :
    ∀ (pl : Plan) (listed : Array Bool) (tk : Tk) (T : List Rd) (E : Env) (L : Pl) (st : St) (m : Mem) (a : Act) (w : World), planOk ops en rest pl listed = true → (∀ p ∈ pl, p ∈ pf) → Cl .any ops listed →
      (∀ j, listed.getD j true = false → j ∈ (pl ++ rest).map Prod.fst) → SR Ei wi N E L st m a w → Fq L ops st.c listed → TT E L st.l m T tk → aPlan C ops EN KP pl tk st m → wpAnyG C.P .any ops Q (Gp pf T) (pl.length + n) listed a w := by
  intro pl
  induction pl with
  | nil =>
    intro listed tk T E L st m a w ho _ hcl _ hS hF hT h
    simp only [List.length_nil, Nat.zero_add]
    exact hE listed tk T E L st m a w ho hcl hS hF hT h
  | cons p pl ih =>
    obtain ⟨i, k⟩ := p
    intro listed tk T E L st m a w ho hsub hcl hcov hS hF hT h
    simp only [planOk, Bool.and_eq_true] at ho
    obtain ⟨ho1, ho2⟩ := ho
    rw [List.length_cons, show pl.length + 1 + n = (pl.length + n) + 1 by omega]
    simp only [aPlan] at h
    cases hoi : ops[i]? with
    | none => simp [hoi] at h
    | some o =>
      simp only [hoi] at h ho1
      have hil : i < ops.size := (Array.getElem?_eq_some_iff.1 hoi).1
      have hdi : dstOk N o = true := (List.all_eq_true.1 hd) o (by rw [← Array.getElem?_toList] at hoi; exact List.mem_of_getElem? hoi)
      have hpf : (i, k) ∈ pf := hsub _ (List.mem_cons_self ..)
      have hsub' : ∀ p ∈ pl, p ∈ pf := fun p hp => hsub p (List.mem_cons_of_mem _ hp)
      have hcov' : ∀ j, (listed.setIfInBounds i true).getD j true = false → j ∈ (pl ++ rest).map Prod.fst := fun j hj => by
        have := hcov j (set_false hj).1
        simp only [List.cons_append, List.map_cons, List.mem_cons] at this
        rcases this with e | e
        · exact ((set_false hj).2 e).elim
        · exact e
      cases k with
      | pure =>
        simp only [Bool.and_eq_true] at ho1
        obtain ⟨hfree, hrdy⟩ := ho1
        have hmem : i ∈ Region.ready .any ops listed := by simpa using hrdy
        have fin : ∀ (t : Nat → AV) (v : AV) (x : Value), SR Ei wi N E L ⟨t, st.l, st.c⟩ m a w → VR E L v x → YieldsIf C.P ops (fun _ => True) o x a → aPlan C ops EN KP pl tk ⟨putT t o.dst v, st.l, st.c⟩ m → wpAnyG C.P .any ops Q (Gp pf T) (pl.length + n + 1) listed a w := by
          intro t v x hS hv hy h
          refine wpAnyG_take (S := fun _ => True) hoi hs hfree hrdy hcl (fun c a w => hQ c a o _ w hdi) (Gp.self i) (fun _ _ _ _ _ _ _ _ => trivial) hy trivial ?_
          exact ih _ tk T E L _ m _ w ho2 hsub' (hcl.set hmem) hcov' (hS.put hdi hS.r (Env.le.refl E) (Pl.le.refl L) hv) (hF.set hil fun _ _ => rfl) (hT.mono (Env.le.refl E) (Pl.le.refl L)) h
        rcases gCase_ok hS h with ⟨hw, t, hS', hok, hop⟩ | ⟨hw, t, hS', hno⟩
        · obtain ⟨v, x, hv, hk, hrun⟩ := aOp_v hC hS'.r hS'.t hok hop
          exact fin t v x hS' hv (.inl ⟨hw, fun w _ => hrun w⟩) hk.2
        · exact fin t noA undef hS' (noA_ok E L) (.inr ⟨hw, rfl⟩) hno
      | read =>
        simp only [Bool.and_eq_true] at ho1
        obtain ⟨⟨hfree, hrdy⟩, hlater⟩ := ho1
        have hmem : i ∈ Region.ready .any ops listed := by simpa using hrdy
        rcases gCase_ok hS h with ⟨hw, t, hS', hop⟩ | ⟨hw, t, hS', hno⟩
        · -- the row is read
          have got : ∃ (aa : AA) (B : Blk) (p : Nat × Nat × Nat) (u : AV) (y : Value), pos E L aa = some p ∧ p.2.2 = B.sz ∧ blk? st.l m aa = some B ∧ VR E L u y ∧ aPlan C ops EN KP pl ((i, aa, B) :: tk) ⟨putT t o.dst u, st.l, st.c⟩ m ∧
              ∀ w', RB ⟨i, E, p, B⟩ w' → (execOp a.eval o).run C.P w' = .ok (.value y) w' := by
            have hev := ev_ok (a := a) hS'.r.m hS'.t
            unfold rdA at hop
            split at hop
            · rename_i aa hrd
              split at hop
              · rename_i B hB
                split at hrd
                · rename_i ty x hopp
                  split at hrd
                  · rename_i a' i' o' hx
                    cases hrd
                    unfold aOp at hop
                    simp only [hopp] at hop
                    split at hop
                    · rename_i Ty hTy
                      have hvx := hev x
                      rw [hx] at hvx hop
                      obtain ⟨aa2, i2, o2, B2, p, u, y, e1, e2, e3, e4, e5, e6, e7⟩ := aLoad_r (hC.T _ _ hTy) hS'.r hopp hvx hop
                      cases e1
                      rw [hB] at e2; cases e2
                      exact ⟨_, _, p, u, y, e3, e4, hB, e5, e6.2, fun w' h' => e7 i w' h'⟩
                    · exact hop.elim
                  · cases hrd
                · rename_i s d x hopp
                  split at hrd
                  · rename_i a' i' n' c' hx
                    cases hrd
                    unfold aOp at hop
                    simp only [hopp] at hop
                    have hvx := hev x
                    rw [hx] at hvx hop
                    obtain ⟨B2, p, u, y, e2, e3, e4, e5, e6, e7⟩ := aConv_r hC hS'.r hopp hvx hop
                    rw [hB] at e2; cases e2
                    exact ⟨_, _, p, u, y, e3, e4, hB, e5, e6.2, fun w' h' => e7 i w' h'⟩
                  · cases hrd
                · cases hrd
              · exact hop.elim
            · exact hop.elim
          obtain ⟨aa, B, p, u, y, g1, g2, g3, g4, g5, g6⟩ := got
          have hrb : RB ⟨i, E, p, B⟩ w := by
            obtain ⟨p', p1, p2, p3⟩ := hS'.r.blk g3
            rw [g1] at p1; cases p1
            exact ⟨E, Env.le.refl E, p3⟩
          refine wpAnyG_mono (G' := Gp pf (⟨i, E, p, B⟩ :: T)) (fun j w1 w2 hg k hk => ?_) _ _ _ _ ?_
          · have := hg k hk
            cases k with
            | pure => exact this
            | read => exact this
            | step xs => exact fun q hq => this q (List.mem_cons_of_mem _ hq)
          refine wpAnyG_take (S := RB ⟨i, E, p, B⟩) hoi hs hfree hrdy hcl (fun c a w => hQ c a o _ w hdi) (Gp.self i) (fun j w1 w2 hj hji han hg hb => ?_) (.inl ⟨hw, fun w' h' => g6 w' h'⟩) hrb ?_
          · have hjm := hcov j hj
            simp only [List.cons_append, List.map_cons, List.mem_cons] at hjm
            rcases hjm with e | e
            · exact (hji e).elim
            · obtain ⟨⟨j', k⟩, hjk, e⟩ := List.mem_map.1 e
              have e : j' = j := e
              subst e
              have := hg k ((List.mem_append.1 hjk).elim (fun e => hsub' _ e) (fun e => hrest _ e))
              cases k with
              | pure => have this : w2 = w1 := this; rw [this]; exact hb
              | read => have this : w2 = w1 := this; rw [this]; exact hb
              | step xs =>
                have hl := (List.all_eq_true.1 hlater) _ hjk
                simp only [Bool.or_eq_true] at hl
                rcases hl with e | e
                · rw [han] at e; cases e
                · exact this ⟨i, E, p, B⟩ (List.mem_cons_self ..) e hb
          · refine ih _ ((i, aa, B) :: tk) (⟨i, E, p, B⟩ :: T) E L _ m _ w ho2 hsub' (hcl.set hmem) hcov' (hS'.put hdi hS'.r (Env.le.refl E) (Pl.le.refl L) g4) (hF.set hil fun _ _ => rfl) ⟨by simp [hT.1], fun n q r hq hr => ?_⟩ g5
            cases n with
            | zero => simp at hq hr; subst hq; subst hr; exact ⟨Env.le.refl E, g1, g2⟩
            | succ n => exact hT.2 n q r (by simpa using hq) (by simpa using hr)
        · refine wpAnyG_take (S := fun _ => True) hoi hs hfree hrdy hcl (fun c a w => hQ c a o _ w hdi) (Gp.self i) (fun _ _ _ _ _ _ _ _ => trivial) (.inr ⟨hw, rfl⟩) trivial ?_
          exact ih _ tk T E L _ m _ w ho2 hsub' (hcl.set hmem) hcov' (hS'.put hdi hS'.r (Env.le.refl E) (Pl.le.refl L) (noA_ok E L)) (hF.set hil fun _ _ => rfl) (hT.mono (Env.le.refl E) (Pl.le.refl L)) hno
      | step xs =>
        have hrdy : Region.ready .any ops listed = [i] := by simpa using ho1
        have hmem : i ∈ Region.ready .any ops listed := by simp [hrdy]
        have hun := unlisted' (i := i) (by simpa using hmem)
        refine wpAnyG_one hrdy ?_
        unfold wpOp
        simp only [hoi]
        rcases gCase_ok hS (aStep_g h) with ⟨hw, t, hS', hop⟩ | ⟨hw, t, hS', hno⟩
        · rw [if_pos hw]
          refine .inl (aOp_ok hC hS'.r (hF.2 i hun) hS'.t hop (fun E' L' v x l' m' w' hr hE hL hLj hv hk => ⟨fun k hk' => ?_, ?_⟩) (fun E' L' v l' m' w' hr hk => hP E' L' v l' m' a w' hr hS'.d hk))
          · cases kind_one hnd hpf hk'
            exact fun q hq hx _ => kept hT hE hL hr hk.1 hq hx
          · exact ih _ tk T E' L' _ m' _ w' ho2 hsub' (hcl.set hmem) hcov' (hS'.put hdi hr hE hL hv) (hF.set hil hLj) (hT.mono hE hL) hk.2
        · rw [if_neg (by simp [hw])]
          refine ⟨Gp.self i w, ?_⟩
          exact ih _ tk T E L _ m _ w ho2 hsub' (hcl.set hmem) hcov' (hS'.put hdi hS'.r (Env.le.refl E) (Pl.le.refl L) (noA_ok E L)) (hF.set hil fun _ _ => rfl) (hT.mono (Env.le.refl E) (Pl.le.refl L)) hno.2
end
end Go.Proofs.IM
