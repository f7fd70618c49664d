/- Code: what 'aCode' asks of the abstract state is enough in the world. -/
import Derived.Test.YtdonkjepjobhnaaDoorIR
namespace Go.Proofs.IM
open Go Go.RowKit
set_option linter.unusedVariables false
set_option linter.unusedSimpArgs false
set_option linter.unnecessarySimpa false
/-- A region whose order is drawn. -/
def aDraw (C : Cx) (ops : Array Oper) (KN : St → Mem → Prop) (KP : Value → Mem → Prop) (st : St) (m : Mem) : Prop := (∃ pl : Plan, planAll ops pl = true ∧ aPlan C ops (fun _ st m => KN ⟨st.t, st.l, st.c + ops.size⟩ m) KP pl [] st m) ∨ ∃ (pl rest : Plan) (T : PT), planAllF ops pl rest T = true ∧ aPlan C ops (aPT C ops KN KP T) KP pl [] st m
def aCode (C : Cx) : Code → (St → Mem → Prop) → (Nat → St → Mem → Prop) → (St → Mem → Prop) → (Value → Mem → Prop) → St → Mem → Prop
  | .skip, KN, _, _, _, st, m => KN st m
  | .region _ ops draw, KN, _, _, KP, st, m => if draw then aDraw C ops KN KP st m else aOps C ops KN KP ops.toList 0 st m
  | .seq x y, KN, KX, KR, KP, st, m => aCode C x (aCode C y KN KX KR KP) KX KR KP st m
  | .cond c x y, KN, KX, KR, KP, st, m => match eA m st.t c with
    | .bool t => (t = true → aCode C x KN KX KR KP (setc st c true) m) ∧ (t = false → aCode C y KN KX KR KP (setc st c false) m)
    | _ => False
  | .block id b, KN, KX, KR, KP, st, m => aCode C b KN (aExit id KN KX) KR KP st m
  | .loop b, _, KX, KR, KP, st, m => ∃ n, aRounds (fun KN' => aCode C b KN' KX KR KP) n st m
  | .exit id, _, KX, _, _, st, m => KX id st m
  | .ret, _, _, KR, _, st, m => KR st m
  | _, _, _, _, _, _, _ => False
def codeOk (n : Fm) : Code → Bool
  | .region _ ops _ => ops.toList.all (dstOk n)
  | .seq x y => codeOk n x && codeOk n y
  | .cond _ x y => codeOk n x && codeOk n y
  | .block _ b => codeOk n b
  | .loop b => codeOk n b
  | _ => true
section
variable {C : Cx} {Ei : Env} {wi : World} {N : Fm} {Q : Exit → Act → World → Prop} {KP : Value → Mem → Prop}
theorem aOps_ok (hC : CxOk C) (ops : Array Oper) {KN : St → Mem → Prop} (hN : ∀ E L st m a w, SR Ei wi N E L st m a w → Fr L st.c → KN st m → Q .normal a w)
    (hP : ∀ E L v l m a w, Rel Ei wi E L l m w → N.held a → KP v m → Q (.panic [{ v, recovered := false }]) a w) :
    ∀ (rest : List Oper) (i : Nat) (E : Env) (L : Pl) (st : St) (m : Mem) (a : Act) (w : World), rest.all (dstOk N) = true → SR Ei wi N E L st m a w → Fr L (st.c + i) → aOps C ops KN KP rest i st m → wpList C.P ops Q rest a w := by
  intro rest
  induction rest with
  | nil =>
    intro i E L st m a w _ hR hF h
    exact hN E L ⟨st.t, st.l, st.c + i⟩ m a w ⟨hR.r, hR.t, hR.d, hR.n⟩ hF h
  | cons o rest ih =>
    intro i E L st m a w hd hR hF h
    simp only [List.all_cons, Bool.and_eq_true] at hd
    obtain ⟨hd1, hd2⟩ := hd
    -- the operation is carried out, from a state of the same frame
    have go : ∀ (t : Nat → AV), SR Ei wi N E L ⟨t, st.l, st.c⟩ m a w → aOp C (st.c + i) o t st.l m (Ks (aOps C ops KN KP rest) i o.dst ⟨t, st.l, st.c⟩) KP → o.wp C.P a w (wpList C.P ops Q rest) Q := by
      intro t hR h
      refine aOp_ok hC hR.r (hF _ (Nat.le_refl _)) hR.t h (fun E' L' v x l' m' w' hr hE hL hLj hv hk => ?_) (fun E' L' v l' m' w' hr hk => hP E' L' v l' m' a w' hr hR.d hk)
      refine ih (i + 1) E' L' _ m' _ w' hd2 (hR.put hd1 hr hE hL hv) (fun j hj => ?_) hk
      have hj' : st.c + (i + 1) ≤ j := hj
      rw [hLj j (by omega)]
      exact hF j (by omega)
    have skip : ∀ (t : Nat → AV), SR Ei wi N E L ⟨t, st.l, st.c⟩ m a w → aOps C ops KN KP rest (i + 1) ⟨putT t o.dst noA, st.l, st.c⟩ m → wpList C.P ops Q rest (a.put o.dst undef) w := by
      intro t hR h
      exact ih (i + 1) E L _ m _ w hd2 (hR.put hd1 hR.r (Env.le.refl E) (Pl.le.refl L) (.tup [] #[] rfl (fun i c v hc => by simp at hc))) (fun j hj => hF j (by have : st.c + (i + 1) ≤ j := hj; omega)) h
    simp only [aOps, aStep] at h
    unfold wpList
    cases hg : o.guard with
    | none =>
      simp only [hg] at h
      rw [if_pos (by simp [Region.wanted, hg])]
      exact .inl (go st.t hR h)
    | some jb =>
      obtain ⟨j, b⟩ := jb
      simp only [hg] at h
      cases hgv : gval ops st.t j with
      | none => simp [hgv] at h
      | some dv =>
        obtain ⟨d, v⟩ := dv
        simp only [hgv] at h
        have hy : ∃ oj, ops[j]? = some oj ∧ oj.dst = some d ∧ st.t d = v := by
          unfold gval at hgv
          cases ho : ops[j]? with
          | none => simp [ho] at hgv
          | some oj =>
            simp only [ho, Option.bind_some, Option.map_eq_some_iff, Prod.mk.injEq] at hgv
            obtain ⟨d', h1, rfl, h3⟩ := hgv
            exact ⟨oj, rfl, h1, h3⟩
        obtain ⟨oj, h1, h2, h3⟩ := hy
        have hvr := hR.t d
        rw [h3] at hvr
        have hyd : yielded ops a.tmps j = match a.tmps[d]? with | some (.bool b) => some b | _ => none := by
          simp only [yielded, h1, h2, Option.bind_some]
          rfl
        split at h
        · rename_i t heq
          cases heq
          have htm : a.tmps[d]? = some (.bool t) := by
            rw [Array.getD_eq_getD_getElem?] at hvr
            cases hh : a.tmps[d]? with
            | none => rw [hh] at hvr; simp [undef] at hvr; cases hvr
            | some x => rw [hh] at hvr; simp at hvr; cases hvr; rfl
          rw [htm] at hyd
          simp only at hyd
          by_cases htb : t = b
          · subst htb
            rw [if_pos (by simp [Region.wanted, hg, hyd])]
            exact .inl (go _ (hR.setT h3) (h.1 rfl))
          · have hne : t = !b := by cases t <;> cases b <;> simp_all
            rw [if_neg (by simp [Region.wanted, hg, hyd, htb])]
            subst hne
            exact skip _ (hR.setT h3) (h.2 rfl)
        · rename_i vs heq
          cases heq
          have hnb : yielded ops a.tmps j = none := by
            rw [hyd]
            rw [Array.getD_eq_getD_getElem?] at hvr
            cases hh : a.tmps[d]? with
            | none => rfl
            | some x => rw [hh] at hvr; simp at hvr; cases hvr; rfl
          rw [if_neg (by simp [Region.wanted, hg, hnb])]
          exact skip st.t hR h
        · exact h.elim
theorem aDraw_ok (hC : CxOk C) {ops : Array Oper} {id : Nat} {KN : St → Mem → Prop} (hN : ∀ E L st m a w, SR Ei wi N E L st m a w → Fr L st.c → KN st m → Q .normal a w)
    (hP : ∀ E L v l m a w, Rel Ei wi E L l m w → N.held a → KP v m → Q (.panic [{ v, recovered := false }]) a w)
    (hQ : ∀ c (a : Act) (o : Oper) v w, dstOk N o = true → Q (.panic c) (a.put o.dst v) w → Q (.panic c) a w) (hd : ops.toList.all (dstOk N) = true)
    {E : Env} {L : Pl} {st : St} {m : Mem} {a : Act} {w : World} (hS : SR Ei wi N E L st m a w) (hF : Fr L st.c) (h : aDraw C ops KN KP st m) : (Code.region id ops true).wp C.P Q a w := by
  refine wp_region_any hC.mixed ?_
  have gt : ∀ j, (Array.replicate ops.size false).getD j true = false → j < ops.size := fun j hj => by
    rw [Array.getD_eq_getD_getElem?, Array.getElem?_replicate] at hj
    split at hj
    · assumption
    · simp at hj
  have gf : ∀ j, (Array.replicate ops.size false).getD j false = false := fun j => by
    rw [Array.getD_eq_getD_getElem?, Array.getElem?_replicate]
    split <;> rfl
  rcases h with ⟨pl, hok, h⟩ | ⟨pl, rest, T, hok, h⟩
  · simp only [planAll, Bool.and_eq_true, decide_eq_true_eq] at hok
    obtain ⟨⟨⟨⟨h1, h2⟩, h3⟩, h4⟩, h5⟩ := hok
    have hlen : pl.length = ops.size := by simpa using h5
    have hcov : ∀ j, j < ops.size → j ∈ pl.map Prod.fst := fun j hj => by
      have := (List.all_eq_true.1 h3) j (by simpa using hj)
      simpa using this
    have := plan_ok (n := 0) hC hP hQ h4 hd h2 (fun p hp => by cases hp) (fun listed tk T E L st m a w ho _ hS hF _ h => by
        have hr : Region.ready .any ops listed = [] := by simpa using ho
        exact wpAnyG_done hr (hN E L ⟨st.t, st.l, st.c + ops.size⟩ m a w ⟨hS.r, hS.t, hS.d, hS.n⟩ hF.1 h) 0) pl (Array.replicate ops.size false) [] [] E L st m a { w with drawn := w.drawn + 1 } h1 (fun p hp => hp) (fun j hj => (by rw [gf j] at hj; cases hj)) (fun j hj => (by rw [List.append_nil]; exact hcov j (gt j hj)))
      ⟨hS.r.same ⟨rfl, rfl, rfl, rfl⟩, hS.t, hS.d, hS.n⟩ ⟨fun j hj => hF j (by omega), fun i hi => hF _ (by omega)⟩ ⟨rfl, fun n q r hq hr => by simp at hq⟩ h
    rw [Nat.add_zero, hlen] at this
    exact wpAny_of_G _ _ _ _ this
  · simp only [planAllF, Bool.and_eq_true, decide_eq_true_eq] at hok
    obtain ⟨⟨⟨⟨h1, h2⟩, h3⟩, h4⟩, h5⟩ := hok
    have hcov : ∀ j, j < ops.size → j ∈ (pl ++ rest).map Prod.fst := fun j hj => by
      have := (List.all_eq_true.1 h3) j (by simpa using hj)
      simpa only [List.contains_iff_mem] using this
    have := plan_ok (n := ops.size - pl.length) hC hP hQ h4 hd h2 (fun p hp => List.mem_append_right _ hp) (fun listed tk R E L st m a w ho hcl hS hF hT h =>
        pt_ok hC hN hP hd h2 T _ listed E L st m a w (by omega) ho hcl hS hF hT h) pl (Array.replicate ops.size false) [] [] E L st m a { w with drawn := w.drawn + 1 } h1 (fun p hp => List.mem_append_left _ hp) (fun j hj => (by rw [gf j] at hj; cases hj)) (fun j hj => hcov j (gt j hj))
      ⟨hS.r.same ⟨rfl, rfl, rfl, rfl⟩, hS.t, hS.d, hS.n⟩ ⟨fun j hj => hF j (by omega), fun i hi => hF _ (by omega)⟩ ⟨rfl, fun n q r hq hr => by simp at hq⟩ h
    rw [show pl.length + (ops.size - pl.length) = ops.size by omega] at this
    exact wpAny_of_G _ _ _ _ this
/-- **Code.** -/
theorem aCode_ok (hC : CxOk C) (c : Code) :
    ∀ {Q : Exit → Act → World → Prop} {KN : St → Mem → Prop} {KX : Nat → St → Mem → Prop} {KR : St → Mem → Prop},
    (∀ c (a : Act) (o : Oper) v w, dstOk N o = true → Q (.panic c) (a.put o.dst v) w → Q (.panic c) a w) →
    (∀ E L v l m a w, Rel Ei wi E L l m w → N.held a → KP v m → Q (.panic [{ v, recovered := false }]) a w) →
    (∀ E L st m a w, SR Ei wi N E L st m a w → Fr L st.c → KN st m → Q .normal a w) →
    (∀ id E L st m a w, SR Ei wi N E L st m a w → Fr L st.c → KX id st m → Q (.exit id) a w) →
    (∀ E L st m a w, SR Ei wi N E L st m a w → Fr L st.c → KR st m → Q .ret a w) →
    ∀ (E : Env) (L : Pl) (st : St) (m : Mem) (a : Act) (w : World), codeOk N c = true → SR Ei wi N E L st m a w → Fr L st.c → aCode C c KN KX KR KP st m → c.wp C.P Q a w := by
  induction c with
  | skip => intro Q KN KX KR hQ hP hN hX hR E L st m a w hk hS hF h; exact wp_skip (hN E L st m a w hS hF h)
  | region id ops draw =>
    intro Q KN KX KR hQ hP hN hX hR E L st m a w hk hS hF h
    simp only [aCode] at h
    cases draw with
    | true =>
      rw [if_pos rfl] at h
      exact aDraw_ok hC hN hP hQ hk hS hF h
    | false =>
      rw [if_neg (by decide)] at h
      exact wp_region_list (aOps_ok hC ops hN hP ops.toList 0 E L st m a w hk hS hF h)
  | seq x y ihx ihy =>
    intro Q KN KX KR hQ hP hN hX hR E L st m a w hk hS hF h
    simp only [codeOk, Bool.and_eq_true] at hk
    exact wp_seq (ihx (Q := Exit.then (y.wp C.P Q) Q) hQ hP (fun E L st m a w hS hF h => ihy hQ hP hN hX hR E L st m a w hk.2 hS hF h) hX hR E L st m a w hk.1 hS hF h)
  | cond c x y ihx ihy =>
    intro Q KN KX KR hQ hP hN hX hR E L st m a w hk hS hF h
    simp only [codeOk, Bool.and_eq_true] at hk
    simp only [aCode] at h
    have hv := ev_ok (a := a) hS.r.m hS.t c
    split at h
    · rename_i t ht
      rw [ht] at hv
      generalize hcv : a.eval c = cv at hv
      cases hv
      have hset : ∀ b, t = b → SR Ei wi N E L (setc st c b) m a w ∧ Fr L (setc st c b).c := by
        intro b e
        subst e
        unfold setc
        split
        · exact ⟨hS.setT ht, hF⟩
        · exact ⟨hS, hF⟩
      refine wp_cond_split hcv (fun e => ?_) (fun e => ?_)
      · exact ihx hQ hP hN hX hR E L _ m a w hk.1 (hset _ e).1 (hset _ e).2 (h.1 e)
      · exact ihy hQ hP hN hX hR E L _ m a w hk.2 (hset _ e).1 (hset _ e).2 (h.2 e)
    · exact h.elim
  | block id b ih =>
    intro Q KN KX KR hQ hP hN hX hR E L st m a w hk hS hF h
    refine wp_block (ih (Q := Exit.inBlock id Q) hQ hP hN (fun j E L st m a w hS hF h => ?_) hR E L st m a w hk hS hF h)
    simp only [Exit.inBlock]
    unfold aExit at h
    split at h
    · rename_i e; rw [if_pos e]; exact hN E L st m a w hS hF h
    · rename_i e; rw [if_neg e]; exact hX j E L st m a w hS hF h
  | loop b ih =>
    intro Q KN KX KR hQ hP hN hX hR E L st m a w hk hS hF h
    obtain ⟨n, h⟩ := h
    refine wp_loop_rounds n ?_
    have key : ∀ n E L st m a w, SR Ei wi N E L st m a w → Fr L st.c → aRounds (fun KN' => aCode C b KN' KX KR KP) n st m → Code.rounds C.P b Q n a w := by
      intro n
      induction n with
      | zero => intro E L st m a w hS hF h; exact h.elim
      | succ n ihn =>
        intro E L st m a w hS hF h
        rw [rounds_succ]
        exact ih (Q := Exit.then (Code.rounds C.P b Q n) Q) hQ hP (fun E L st m a w hS hF h => ihn E L st m a w hS hF h) hX hR E L st m a w hk hS hF h
    exact key n E L st m a w hS hF h
  | exit id => intro Q KN KX KR hQ hP hN hX hR E L st m a w hk hS hF h; exact wp_exit (hX id E L st m a w hS hF h)
  | ret => intro Q KN KX KR hQ hP hN hX hR E L st m a w hk hS hF h; exact wp_ret (hR E L st m a w hS hF h)
  | _ => intro Q KN KX KR hQ hP hN hX hR E L st m a w hk hS hF h; exact h.elim
end
def aRes1 (C : Cx) (st : St) (m : Mem) : ResultVar → Option AV
  | .tmp t => some (st.t t)
  | .cell d ty => match C.T ty, st.t d with
    | some T, .ptr a i o => (row? st.l m a i).bind fun r => part? T r o
    | _, _ => none
def aRess (C : Cx) (st : St) (m : Mem) : List ResultVar → Option (List AV)
  | [] => some []
  | r :: rs => match aRes1 C st m r, aRess C st m rs with
    | some v, some vs => some (v :: vs)
    | _, _ => none
def aRes (C : Cx) (rs : Array ResultVar) (st : St) (m : Mem) : Option AV := match aRess C st m rs.toList with
  | some [v] => some v
  | some vs => some (.tup vs)
  | none => none
/-- Where the code of a function ends. -/
def aRet (C : Cx) (rs : Array ResultVar) (K : AR → Mem → Prop) (st : St) (m : Mem) : Prop := match aRes C rs st m with
  | some v => v.pub = true ∧ K (.ret v) m
  | none => False
def aPan (K : AR → Mem → Prop) (v : Value) (m : Mem) : Prop := K (.pan v) m
def noX (_ : Nat) (_ : St) (_ : Mem) : Prop := False
def st0 (args : List AV) : St := ⟨fun n => args.getD n noA, fun _ => none, 0⟩
section
variable {C : Cx} {E : Env} {L : Pl} {Ei : Env} {wi : World} {N : Fm}
def resOne (tmps : Array Value) : ResultVar → Sem Value
  | .tmp t => pure (tmps.getD t undef)
  | .cell a t => do loadVar t (← asAddr (tmps.getD a undef))
theorem results_eq (fn : Func) (tmps : Array Value) : results fn tmps = (do let vs ← fn.results.mapM (resOne tmps); pure (if h : vs.size = 1 then vs[0] else .tuple vs)) := rfl
theorem aRess_ok (hC : CxOk C) {st : St} {m : Mem} {a : Act} {w : World} (hS : SR Ei wi N E L st m a w) : ∀ (rs : List ResultVar) (vs : List AV), aRess C st m rs = some vs →
    ∃ xs : List Value, (rs.mapM (resOne a.tmps)).run C.P w = .ok xs w ∧ VRs E L vs xs.toArray := by
  intro rs
  induction rs with
  | nil => intro vs h; cases h; exact ⟨[], rfl, rfl, fun i c v hc => by simp at hc⟩
  | cons r rs ih =>
    intro vs h
    simp only [aRess] at h
    split at h
    · rename_i v us hv hus
      cases h
      obtain ⟨xs, h1, h2⟩ := ih us hus
      have one : ∃ x, (resOne a.tmps r).run C.P w = .ok x w ∧ VR E L v x := by
        cases r with
        | tmp t => simp only [aRes1, Option.some.injEq] at hv; subst hv; exact ⟨_, rfl, hS.t t⟩
        | cell d ty =>
          simp only [aRes1] at hv
          split at hv
          · rename_i T aa i oo hT hd
            have hvr := hS.t d
            rw [hd] at hvr
            generalize htm : a.tmps.getD d undef = x at hvr
            cases hvr with
            | ptr _ _ _ p hp =>
              obtain ⟨r, hr, hpart⟩ := Option.bind_eq_some_iff.1 hv
              obtain ⟨B, hB, hrow⟩ := Option.bind_eq_some_iff.1 hr
              obtain ⟨q, q1, q2, q3⟩ := hS.r.blk hB
              rw [hp] at q1; cases q1
              obtain ⟨y, hy, hvy, -⟩ := part_ok (P := C.P) (hC.T _ _ hT) q2 q3 hrow hpart
              refine ⟨y, ?_, hvy.mono (Env.le.refl _) (noPl_le L)⟩
              simp only [resOne, htm]
              simpa [Instr.loadAt, Instr.sureAddr, asAddr] using hy
          · cases hv
      obtain ⟨x, h3, h4⟩ := one
      refine ⟨x :: xs, ?_, by simp [h2.1], fun i c u hc hu => ?_⟩
      · rw [List.mapM_cons]
        simp only [Sem.run_bind, h1, Sem.run_pure, h3, Result.andThen_ok]
      · cases i with
        | zero => simp at hc hu; subst hc; subst hu; exact h4
        | succ i => exact h2.2 i c u (by simpa using hc) (by simpa using hu)
    · cases h
theorem aRet_ok (hC : CxOk C) {fn : Func} {K : AR → Mem → Prop} {E0 : Env} {w0 : World} {st : St} {m : Mem} {a : Act} {w : World} (hS : SR E0 w0 N E L st m a w) (h : aRet C fn.results K st m) :
    N.held a ∧ ∃ v, (results fn a.tmps).run C.P w = .ok v w ∧ SimEnd E0 w0 K (.returned v) w := by
  refine ⟨hS.d, ?_⟩
  unfold aRet at h
  split at h
  · rename_i v hv
    obtain ⟨hp, hK⟩ := h
    unfold aRes at hv
    cases hr : aRess C st m fn.results.toList with
    | none => simp [hr] at hv
    | some vs =>
      obtain ⟨xs, h1, h2⟩ := aRess_ok hC hS fn.results.toList vs hr
      have hmA : (fn.results.mapM (resOne a.tmps)).run C.P w = .ok xs.toArray w := by
        have e : fn.results = fn.results.toList.toArray := rfl
        rw [e, List.mapM_toArray]
        simp only [Sem.run_map, h1, Result.andThen_ok]
      have hres : ∀ x, (if h : xs.toArray.size = 1 then xs.toArray[0] else .tuple xs.toArray) = x → (results fn a.tmps).run C.P w = .ok x w := by
        intro x hx
        rw [results_eq]
        simp only [Sem.run_bind, hmA, Result.andThen_ok, Sem.run_pure]
        rw [← hx]
      have done : ∀ x, VR E L v x → SimEnd E0 w0 K (.returned x) w := fun x hvx =>
        ⟨E, m, hS.r.e.le, hS.r.m, hS.r.e.sz, hS.r.e.fr, fun j b s hj => hS.r.e.ownh j b s hj, .inl ⟨v, x, rfl, hvx.pub hp noPl, hK⟩⟩
      rw [hr] at hv
      split at hv
      · rename_i u heq
        cases heq
        cases hv
        have hl : xs.length = 1 := by simpa using h2.1.symm
        obtain ⟨x, rfl⟩ : ∃ x, xs = [x] := by
          cases xs with
          | nil => simp at hl
          | cons x xs => cases xs with
            | nil => exact ⟨x, rfl⟩
            | cons => simp at hl
        exact ⟨x, hres x rfl, done x (h2.2 0 _ _ rfl rfl)⟩
      · rename_i us hne heq
        cases heq
        cases hv
        have hl : ¬ xs.toArray.size = 1 := by
          intro hl
          rw [← h2.1] at hl
          cases vs with
          | nil => simp at hl
          | cons u us => cases us with
            | nil => exact hne u rfl
            | cons => simp at hl
        exact ⟨.tuple xs.toArray, hres _ (by rw [dif_neg hl]), done _ (.tup _ _ h2.1 h2.2)⟩
      · cases hv
  · exact h.elim
/-- **A function's contract out of its code.** -/
theorem sim_of_code (hC : CxOk C) {f : FuncId} {fn : Func} {c : Code} (hf : C.P.funcs[f]? = some fn) (hb : fn.body = some c) (hname : (fn.name == "runtime.NumGoroutine") = false) (hk : codeOk ⟨fn.ntmps, [], []⟩ c = true) {args : List AV} {m : Mem} {K : AR → Mem → Prop}
    (h : aCode C c (aRet C fn.results K) noX (aRet C fn.results K) (aPan K) (st0 args) m) : Sim C.P f args m K := by
  intro E w xs hm hx
  refine .inl ⟨by simp [callable, hf, hb, hname], calls_of_wp hf hb ?_⟩
  have hrel : Rel E w E noPl (fun _ => none) m w := ⟨hm, ⟨fun j B hj => by simp at hj, fun j _ => rfl, fun j b s hj => by simp [noPl] at hj, fun j j' b s s' hj => by simp [noPl] at hj, fun j k b s s' hj => by simp [noPl] at hj⟩,
    ⟨Env.le.refl E, Nat.le_refl _, fun b _ _ => rfl, fun j b s hj => .inr hj, fun j b s hj => by simp [noPl] at hj⟩⟩
  have hS : SR E w ⟨fn.ntmps, [], []⟩ E noPl (st0 args) m { tmps := xs ++ Array.replicate (fn.ntmps - xs.size) undef, defers := [] } w := by
    refine ⟨hrel, fun n => ?_, ⟨rfl, fun p hp => by cases hp⟩, by simp; omega⟩
    simp only [st0, Array.getD_eq_getD_getElem?, Array.getElem?_append, Array.getElem?_replicate, List.getD_eq_getElem?_getD]
    by_cases hn : n < xs.size
    · rw [if_pos hn]
      have h1 : args[n]? = some (args[n]'(by rw [hx.1]; exact hn)) := by simp [hx.1, hn]
      have h2 : xs[n]? = some xs[n] := by simp [hn]
      rw [h1, h2]
      exact hx.2 n _ _ h1 h2
    · rw [if_neg hn, List.getElem?_eq_none (by rw [hx.1]; omega)]
      have : ((if n - xs.size < fn.ntmps - xs.size then some undef else none).getD undef) = undef := by split <;> rfl
      rw [this]
      exact .tup [] #[] rfl (fun i c v hc => by simp at hc)
  refine aCode_ok (KN := aRet C fn.results K) (KX := noX) (KR := aRet C fn.results K) (KP := aPan K) hC c (fun c a o v w _ h => ?_) (fun E' L v l m a w' hr hd hk => ?_) (fun E' L st m a w' hS _ h => let ⟨h1, h2⟩ := aRet_ok hC hS h; ⟨h1.1, h2⟩) (fun id E' L st m a w' hS _ h => h.elim) (fun E' L st m a w' hS _ h => let ⟨h1, h2⟩ := aRet_ok hC hS h; ⟨h1.1, h2⟩) E noPl (st0 args) m _ w hk hS (fun j _ => rfl) h
  · cases hd : o.dst <;> rw [hd] at h <;> exact h
  exact ⟨hd.1, E', m, hr.e.le, hr.m, hr.e.sz, hr.e.fr, fun j b s hj => hr.e.ownh j b s hj, .inr ⟨v, rfl, hk⟩⟩
end
end Go.Proofs.IM
