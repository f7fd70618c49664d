/- Operations, one by one, the last part: sums, new rows, append, calls; and all of them at once. -/
import Derived.Test.YtdonkjepjobhnaaDoorIH
namespace Go.Proofs.IM
open Go Go.RowKit
set_option linter.unusedVariables false
set_option linter.unusedSimpArgs false
set_option linter.unnecessarySimpa false
section
variable {P : Program} {C : Cx} {Ei E : Env} {wi w w' : World} {L : Pl} {l : Loc} {m : Mem} {o : Oper} {a : Act} {next : Act → World → Prop} {Q : Exit → Act → World → Prop} {id : Nat} {K : KS}
theorem eqGuard_flat (op : BinOp) (t : TypeId) (x y : Operand) (u v : Value) (h1 : u ≠ .nilIface) (h2 : ∀ cs, u ≠ .agg cs) (w : World) : (eqGuard op t x y u v).run P w = .ok () w := by
  cases u <;> first
    | exact (h1 rfl).elim
    | exact (h2 _ rfl).elim
    | (unfold eqGuard; cases op <;> rfl)
theorem str_add (w : World) (s q : ByteArray) (hs : s.size + q.size ≤ 9223372036854775807) : (Op.stringOp .add s q).run P w = .ok (.string (s ++ q)) w := by
  have : ¬ ((s.size + q.size : Nat) : Int) > IntKind.i64.max := by
    show ¬ _ > (9223372036854775807 : Int)
    omega
  simp only [Op.stringOp]
  rw [if_neg this]
  rfl
theorem aBin_run {op : BinOp} {ty : TypeId} {u v z : AV} {x y : Value} (hx : VR E L u x) (hy : VR E L v y) (h : aBin op u v = some z) : ∃ r, (binOp op ty x y).run P w = .ok r w ∧ VR E L z r := by
  unfold aBin at h
  split at h
  · cases hx; cases hy
    split at h
    all_goals first
      | (split at h
         · cases h
           first
             | (rename_i hk; subst hk; refine ⟨_, ?_, by first | exact VR.int _ _ | exact VR.bool _⟩; simp [binOp, Op.intArith, Op.intBits, Op.intCmp]; done)
             | (rename_i hk; obtain ⟨hk, hb⟩ := hk; subst hk; refine ⟨_, ?_, VR.int _ _⟩; simp [binOp, Op.intDiv, hb]; done)
             | (rename_i hk; refine ⟨_, ?_, VR.int _ _⟩; have hk2 := Int.not_lt.2 hk; simp [binOp, Op.shift, hk2]; done)
         · cases h)
  · cases hx; cases hy
    split at h <;> cases h <;> exact ⟨_, by simp [binOp, Op.floatCmp], .bool _⟩
  · cases hx; cases hy
    split at h
    · split at h
      · rename_i hs
        have hr := str_add (P := P) w _ _ hs
        cases h
        exact ⟨_, by rw [binOp_string_add]; exact hr, .str _⟩
      · cases h
    · cases h; exact ⟨_, by simp [binOp, Op.stringOp], .bool _⟩
    · cases h; exact ⟨_, by simp [binOp, Op.stringOp], .bool _⟩
    · cases h; exact ⟨_, by simp [binOp, Op.stringOp], .bool _⟩
    · cases h; exact ⟨_, by simp [binOp, Op.stringOp], .bool _⟩
    · cases h
  · cases h
theorem aBin_flat {op : BinOp} {u v z : AV} {x : Value} (hx : VR E L u x) (h : aBin op u v = some z) : x ≠ .nilIface ∧ ∀ cs, x ≠ .agg cs := by
  unfold aBin at h
  split at h
  · cases hx; exact ⟨by simp, by simp⟩
  · cases hx; exact ⟨by simp, by simp⟩
  · cases hx; exact ⟨by simp, by simp⟩
  · cases h
theorem bin_exec {op : BinOp} {ty ty' : TypeId} {x y : Operand} (hop : o.op = .binOp op ty x y ty') (h1 : a.eval x ≠ .nilIface) (h2 : ∀ cs, a.eval x ≠ .agg cs) {r : Value} {w' : World} (h : (binOp op ty (a.eval x) (a.eval y)).run P w = .ok r w') :
    (execOp a.eval o).run P w = .ok (.value r) w' := by
  simp [execOp, hop, eqGuard_flat op ty x y _ _ h1 h2, h]
theorem nan_cut (x y t : Nat) : isNaN64 ((Question.nanBits .f64 x y).cut t) := by
  simp only [Question.cut, isNaN64]
  have h := Nat.mod_lt (t / 2) (show 0 < 2 ^ 52 - 1 by decide)
  generalize t / 2 % (2 ^ 52 - 1) = k at h ⊢
  rcases Nat.mod_two_eq_zero_or_one t with e | e <;> rw [e] <;> omega
theorem isSl_spec (hC : CxOk C) {ty : TypeId} (h : isSl (kd C ty) = true) : ∃ e, C.P.underlying ty = some (.slice e) := by
  unfold isSl at h
  split at h
  · rename_i e hk; exact ⟨e, kd_sl hC hk⟩
  · cases h
theorem isPtr_spec (hC : CxOk C) {ty : TypeId} (h : isPtr (kd C ty) = true) : ∃ e, C.P.underlying ty = some (.pointer e) := by
  unfold isPtr at h
  split at h
  · rename_i hk
    unfold kd at hk
    cases hs : C.T ty with
    | none => simp [hs] at hk
    | some T =>
      simp only [hs, Option.map_some, Option.some.injEq] at hk
      obtain ⟨d, h1, h2⟩ := (hC.T _ _ hs).undr
      rw [hk] at h2
      unfold kindOf at h2
      split at h2 <;> try cases h2
      exact ⟨_, h1⟩
  · cases h
theorem isBo_spec (hC : CxOk C) {ty : TypeId} (h : isBo (kd C ty) = true) : C.P.underlying ty = some .bool := by
  unfold isBo at h
  split at h
  · rename_i hk
    unfold kd at hk
    cases hs : C.T ty with
    | none => simp [hs] at hk
    | some T =>
      simp only [hs, Option.map_some, Option.some.injEq] at hk
      obtain ⟨d, h1, h2⟩ := (hC.T _ _ hs).undr
      rw [hk] at h2
      unfold kindOf at h2
      split at h2 <;> try cases h2
      exact h1
  · cases h
theorem nil_run {op : BinOp} {ty : TypeId} {x y : Value} {b : Bool} (hq : (Op.equal ty x y).run P w = .ok b w) (e1 : binOp .eql ty x y = (do pure (.bool (← Op.equal ty x y)))) (e2 : binOp .neq ty x y = (do pure (.bool (!(← Op.equal ty x y))))) :
    (op = .eql → (binOp op ty x y).run P w = .ok (.bool b) w) ∧ (op = .neq → (binOp op ty x y).run P w = .ok (.bool !b) w) := by
  constructor
  · rintro rfl; rw [e1]; simp [hq]
  · rintro rfl; rw [e2]; simp [hq]
theorem aNil_ok (hR : Rel Ei wi E L l m w) {op : BinOp} {ty ty' : TypeId} {x y : Operand} (hop : o.op = .binOp op ty x y ty') {b : Bool} (f1 : a.eval x ≠ .nilIface) (f2 : ∀ cs, a.eval x ≠ .agg cs) (hq : (Op.equal ty (a.eval x) (a.eval y)).run P w = .ok b w)
    (e1 : binOp .eql ty (a.eval x) (a.eval y) = (do pure (.bool (← Op.equal ty (a.eval x) (a.eval y))))) (e2 : binOp .neq ty (a.eval x) (a.eval y) = (do pure (.bool (!(← Op.equal ty (a.eval x) (a.eval y)))))) (hK : aNil b op l m K)
    (hG : Good Ei wi E L id a o.dst K next) : o.wp P a w next Q := by
  obtain ⟨n1, n2⟩ := nil_run (op := op) hq e1 e2
  unfold aNil at hK
  split at hK
  · exact hG.here hR (.bool b) (bin_exec hop f1 f2 (n1 rfl)) hK
  · exact hG.here hR (.bool (!b)) (bin_exec hop f1 f2 (n2 rfl)) hK
  · exact hK.elim
theorem equal_slice {ty e : TypeId} (h : P.underlying ty = some (.slice e)) (x y : Option Addr) (a1 a2 b1 b2 : Nat) (hn : x = none ∨ y = none) : (Op.equal ty (.slice x a1 a2) (.slice y b1 b2)).run P w = .ok (x.isNone && y.isNone) w := by
  unfold Op.equal Op.maxDepth
  rw [show (10000 : Nat) = 9999 + 1 from rfl, Op.equalIn]
  cases x <;> cases y <;> simp [run_underlying h] at hn ⊢
theorem equal_ptr {ty e : TypeId} (h : P.underlying ty = some (.pointer e)) (x y : Option Addr) (hn : x = none ∨ y = none) : (Op.equal ty (.pointer x) (.pointer y)).run P w = .ok (x.isNone && y.isNone) w := by
  unfold Op.equal Op.maxDepth
  rw [show (10000 : Nat) = 9999 + 1 from rfl, Op.equalIn]
  cases x <;> cases y <;> simp [run_underlying h] at hn ⊢
theorem equal_bool {ty : TypeId} (h : P.underlying ty = some .bool) (p q : Bool) : (Op.equal ty (.bool p) (.bool q)).run P w = .ok (p == q) w := by
  unfold Op.equal Op.maxDepth
  rw [show (10000 : Nat) = 9999 + 1 from rfl, Op.equalIn]
  simp [run_underlying h]
theorem agg_exec {op : BinOp} {ty ty' : TypeId} {x y : Operand} (hop : o.op = .binOp op ty x y ty') {xs ys : Array Value} (hx : a.eval x = .agg xs) (hy : a.eval y = .agg ys) (hg : P.eqGuardType P.depth ty = false) {r : Value} {w' : World} (h : (binOp op ty (.agg xs) (.agg ys)).run P w = .ok r w') :
    (execOp a.eval o).run P w = .ok (.value r) w' := by
  simp [execOp, hop, hx, hy, run_eqGuard_agg w op ty x y xs ys hg, h]
theorem agg_run {op : BinOp} {ty : TypeId} {xs ys : Array Value} {b : Bool} (hq : (Op.equal ty (.agg xs) (.agg ys)).run P w = .ok b w) :
    (op = .eql → (binOp op ty (.agg xs) (.agg ys)).run P w = .ok (.bool b) w) ∧ (op = .neq → (binOp op ty (.agg xs) (.agg ys)).run P w = .ok (.bool !b) w) := by
  constructor
  · rintro rfl; simp only [binOp]; simp [hq]
  · rintro rfl; simp only [binOp]; simp [hq]
theorem aBinK_ok (hC : CxOk C) (hR : Rel Ei wi E L l m w) {op : BinOp} {ty ty' : TypeId} {x y : Operand} (hop : o.op = .binOp op ty x y ty') {u v : AV} (hx : VR E L u (a.eval x)) (hy : VR E L v (a.eval y)) (hK : aBinK C ty op u v l m K)
    (hG : Good Ei wi E L id a o.dst K next) : o.wp C.P a w next Q := by
  have flat : ∀ {z : AV}, aBin op u v = some z → K z l m → o.wp C.P a w next Q := by
    intro z hz hK
    obtain ⟨r, hr, hv⟩ := aBin_run (P := C.P) (w := w) (ty := ty) hx hy hz
    obtain ⟨f1, f2⟩ := aBin_flat hx hz
    exact hG.here hR hv (bin_exec hop f1 f2 hr) hK
  have sl : isSl (kd C ty) = true → ∀ (p q : Option Addr) (a1 a2 b1 b2 : Nat), a.eval x = .slice p a1 a2 → a.eval y = .slice q b1 b2 → (p = none ∨ q = none) → aNil (p.isNone && q.isNone) op l m K → o.wp C.P a w next Q := by
    intro hk p q a1 a2 b1 b2 hxv hyv hn hK
    obtain ⟨e, he⟩ := isSl_spec hC hk
    exact aNil_ok hR hop (by simp [hxv]) (by simp [hxv]) (by rw [hxv, hyv]; exact equal_slice he p q a1 a2 b1 b2 hn) (by rw [hxv, hyv]; rfl) (by rw [hxv, hyv]; rfl) hK hG
  have pt : isPtr (kd C ty) = true → ∀ (p q : Option Addr), a.eval x = .pointer p → a.eval y = .pointer q → (p = none ∨ q = none) → aNil (p.isNone && q.isNone) op l m K → o.wp C.P a w next Q := by
    intro hk p q hxv hyv hn hK
    obtain ⟨e, he⟩ := isPtr_spec hC hk
    exact aNil_ok hR hop (by simp [hxv]) (by simp [hxv]) (by rw [hxv, hyv]; exact equal_ptr he p q hn) (by rw [hxv, hyv]; rfl) (by rw [hxv, hyv]; rfl) hK hG
  unfold aBinK at hK
  split at hK
  · rename_i p q
    split at hK
    · rename_i r hf
      generalize hxv : a.eval x = xv at hx
      generalize hyv : a.eval y = yv at hy
      cases hx; cases hy
      refine hG.here hR (.flt r) (bin_exec hop (by simp [hxv]) (by simp [hxv]) ?_) hK
      rw [hxv, hyv]
      unfold aFlt at hf
      split at hf <;> simp only [Option.some.injEq, reduceCtorEq] at hf <;> simp [binOp, Op.floatArith, hf]
    · rename_i hf
      generalize hxv : a.eval x = xv at hx
      generalize hyv : a.eval y = yv at hy
      cases hx; cases hy
      have hr : (binOp op ty (.float .f64 p) (.float .f64 q)).run C.P w = .ok (.float .f64 ((Question.nanBits .f64 p q).cut (w.tape w.drawn (.nanBits .f64 p q)))) w.drew := by
        unfold aFlt at hf
        split at hf <;> simp only [Option.some.injEq, reduceCtorEq] at hf <;> simp [binOp, Op.floatArith, Question.forced, hf]
      exact wp_of_run (w' := w.drew) (bin_exec hop (by simp [hxv]) (by simp [hxv]) (by rw [hxv, hyv]; exact hr)) (hG E L _ _ l m _ (hR.same (w' := w.drew) ⟨rfl, rfl, rfl, rfl⟩) (Env.le.refl E) (Pl.le.refl L) (fun _ _ => rfl) (.flt _) (hK _ (nan_cut p q _)))
    · split at hK
      · exact flat (by assumption) hK
      · exact hK.elim
  · generalize hxv : a.eval x = xv at hx; generalize hyv : a.eval y = yv at hy
    cases hx; cases hy
    exact sl hK.1 _ _ _ _ _ _ hxv hyv (.inr rfl) hK.2
  · generalize hxv : a.eval x = xv at hx; generalize hyv : a.eval y = yv at hy
    cases hx; cases hy
    exact sl hK.1 _ _ _ _ _ _ hxv hyv (.inl rfl) hK.2
  · generalize hxv : a.eval x = xv at hx; generalize hyv : a.eval y = yv at hy
    cases hx; cases hy
    exact pt hK.1 _ _ hxv hyv (.inr rfl) hK.2
  · generalize hxv : a.eval x = xv at hx; generalize hyv : a.eval y = yv at hy
    cases hx; cases hy
    exact pt hK.1 _ _ hxv hyv (.inl rfl) hK.2
  · generalize hxv : a.eval x = xv at hx; generalize hyv : a.eval y = yv at hy
    cases hx; cases hy
    exact sl hK.1 _ _ _ _ _ _ hxv hyv (.inl rfl) hK.2
  · generalize hxv : a.eval x = xv at hx; generalize hyv : a.eval y = yv at hy
    cases hx; cases hy
    exact pt hK.1 _ _ hxv hyv (.inl rfl) hK.2
  · generalize hxv : a.eval x = xv at hx; generalize hyv : a.eval y = yv at hy
    cases hx; cases hy
    exact aNil_ok hR hop (by simp [hxv]) (by simp [hxv]) (by rw [hxv, hyv]; exact equal_bool (isBo_spec hC hK.1) _ _) (by rw [hxv, hyv]; rfl) (by rw [hxv, hyv]; rfl) hK.2 hG
  · obtain ⟨b, hE, hK⟩ := hK
    generalize hxv : a.eval x = xv at hx; generalize hyv : a.eval y = yv at hy
    have hx0 := hx
    have hy0 := hy
    cases hx; cases hy
    obtain ⟨n1, n2⟩ := agg_run (op := op) (hE.2 E L _ _ w hx0 hy0)
    unfold aNil at hK
    split at hK
    · exact hG.here hR (.bool b) (agg_exec hop hxv hyv hE.1 (n1 rfl)) hK
    · exact hG.here hR (.bool (!b)) (agg_exec hop hxv hyv hE.1 (n2 rfl)) hK
    · exact hK.elim
  · split at hK
    · exact flat (by assumption) hK
    · exact hK.elim
end
end Go.Proofs.IM
