/- For walking with the abstract machine: entry, loops, memory that only grows, rows that are read. -/
import Derived.Test.YtdonkjepjobhnaaDoorIO
namespace Go.Proofs.IM
open Go
set_option linter.unusedVariables false
abbrev noL : Loc := fun _ => none
structure Mem.le (m m' : Mem) : Prop where
  ro : m'.ro = m.ro
  gl : m'.gl = m.gl
  hp : ∀ (j : Nat) (B : Blk), m.hp[j]? = some B → m'.hp[j]? = some B
theorem Mem.le.refl (m : Mem) : m.le m := ⟨rfl, rfl, fun _ _ h => h⟩
theorem Mem.le.trans {m m' m'' : Mem} (a : m.le m') (b : m'.le m'') : m.le m'' := ⟨b.ro.trans a.ro, b.gl.trans a.gl, fun j B h => b.hp j B (a.hp j B h)⟩
theorem Mem.le.len {m m' : Mem} (a : m.le m') : m.hp.length ≤ m'.hp.length := by
  rcases Nat.eq_zero_or_pos m.hp.length with e | e
  · omega
  · have := a.hp (m.hp.length - 1) m.hp[m.hp.length - 1] (by simp [e])
    have := (List.getElem?_eq_some_iff.1 this).1
    omega
theorem Mem.le.push (m : Mem) (B : Blk) : m.le (m.push B) := ⟨rfl, rfl, fun j B' h => by
  have := (List.getElem?_eq_some_iff.1 h).1
  simp only [Mem.push, List.getElem?_append_left this, h]⟩
theorem blk?_pub {l l' : Loc} {m : Mem} {a : AA} (ha : ∀ j, a ≠ .lc j) : blk? l m a = blk? l' m a := by
  cases a with
  | lc j => exact (ha j rfl).elim
  | _ => rfl
theorem blk?_mono {l : Loc} {m m' : Mem} (hm : m.le m') {a : AA} {B : Blk} (h : blk? l m a = some B) : blk? l m' a = some B := by
  cases a with
  | ro j => simpa [blk?, hm.ro] using h
  | hp j => exact hm.hp j B h
  | lc j => exact h
/-- A slice value, and what it reads as; z is the size of an element. -/
def SlR (m : Mem) (z : Nat) (s : AV) (rs : List (List AV)) : Prop := match s with
  | .nils => rs = []
  | .emp _ => rs = []
  | .sl a i n c => (∀ j, a ≠ .lc j) ∧ ∃ B, blk? noL m a = some B ∧ B.sz = z ∧ i + n ≤ B.rows.length ∧ (B.rows.drop i).take n = rs
  | _ => False
theorem SlR.mono {m m' : Mem} (hm : m.le m') {z : Nat} {s : AV} {rs : List (List AV)} (h : SlR m z s rs) : SlR m' z s rs := by
  cases s with
  | sl a i n c => obtain ⟨h1, B, h2, h3⟩ := h; exact ⟨h1, B, blk?_mono hm h2, h3⟩
  | nils => exact h
  | emp _ => exact h
  | _ => exact h
theorem SlR.pub {m : Mem} {z : Nat} {s : AV} {rs : List (List AV)} (h : SlR m z s rs) : s.pub1 = true := by
  cases s with
  | sl a i n c =>
    cases a with
    | lc j => exact (h.1 j rfl).elim
    | _ => rfl
  | nils => rfl
  | emp _ => rfl
  | _ => exact h.elim
theorem SlR.pub2 {m : Mem} {z : Nat} {s : AV} {rs : List (List AV)} (h : SlR m z s rs) : s.pub2 = true := by
  cases s with
  | sl a i n c =>
    cases a with
    | lc j => exact (h.1 j rfl).elim
    | _ => rfl
  | nils => rfl
  | emp _ => rfl
  | _ => exact h.elim
theorem SlR.pub0 {m : Mem} {z : Nat} {s : AV} {rs : List (List AV)} (h : SlR m z s rs) : AV.pub s = true := by
  cases s with
  | sl a i n c =>
    cases a with
    | lc j => exact (h.1 j rfl).elim
    | _ => rfl
  | nils => rfl
  | emp _ => rfl
  | _ => exact h.elim
theorem SlR.cells {m : Mem} {z : Nat} {s : AV} {rs : List (List AV)} (h : SlR m z s rs) : s.cells = [s] := by
  cases s with
  | sl a i n c => rfl
  | nils => rfl
  | emp _ => rfl
  | _ => exact h.elim
theorem SlR.facts {m : Mem} {z : Nat} {s : AV} {rs : List (List AV)} (h : SlR m z s rs) : s.pub1 = true ∧ s.pub2 = true ∧ AV.pub s = true ∧ s.cells = [s] := ⟨h.pub, h.pub2, h.pub0, h.cells⟩
theorem SlR.rows {m : Mem} {z : Nat} {s : AV} {rs : List (List AV)} (h : SlR m z s rs) (l : Loc) : sliceRows l m s = some rs := by
  cases s with
  | sl a i n c =>
    obtain ⟨h1, B, h2, h3, h4, h5⟩ := h
    simp only [sliceRows, rows?]
    rw [blk?_pub (l' := noL) h1, h2]
    simp [h4, h5]
  | nils => cases h; rfl
  | emp _ => cases h; rfl
  | _ => exact h.elim
theorem SlR.len {C : Cx} {ty e : TypeId} {m : Mem} {z : Nat} {s : AV} {rs : List (List AV)} (h : SlR m z s rs) (ht : kd C ty = some (.sl e)) {l : Loc} {K : KS} : aLen C ty s l m K = K (.int .i64 rs.length) l m := by
  cases s with
  | sl a i n c =>
    obtain ⟨h1, B, h2, h3, h4, h5⟩ := h
    have : rs.length = n := by subst h5; simp; omega
    simp [aLen, ht, this]
  | nils => cases h; simp [aLen, ht]
  | emp _ => cases h; simp [aLen, ht]
  | _ => exact h.elim
theorem row_lc {l : Loc} {m : Mem} {j i : Nat} : row? l m (.lc j) i = (l j).bind (·.rows[i]?) := rfl
theorem row_hp {l : Loc} {m : Mem} {j i : Nat} : row? l m (.hp j) i = (m.hp[j]?).bind (·.rows[i]?) := rfl
theorem row_ro {l : Loc} {m : Mem} {j i : Nat} : row? l m (.ro j) i = (m.ro j).bind (·.rows[i]?) := rfl
theorem SlR.len' {m : Mem} {z : Nat} {s : AV} {rs : List (List AV)} (h : SlR m z s rs) (C : Cx) (ty : TypeId) (l : Loc) (K : KS) (ht : isSl (kd C ty) = true) : aLen C ty s l m K = K (.int .i64 rs.length) l m := by
  unfold isSl at ht
  split at ht
  · exact h.len (by assumption)
  · cases ht
theorem len_sl {C : Cx} {ty : TypeId} {a : AA} {i n c : Nat} {l : Loc} {m : Mem} {K : KS} (ht : isSl (kd C ty) = true) : aLen C ty (.sl a i n c) l m K = K (.int .i64 n) l m := by
  unfold isSl at ht
  split at ht
  · simp [aLen, *]
  · cases ht
theorem len_nils {C : Cx} {ty : TypeId} {l : Loc} {m : Mem} {K : KS} (ht : isSl (kd C ty) = true) : aLen C ty .nils l m K = K (.int .i64 0) l m := by
  unfold isSl at ht
  split at ht
  · simp [aLen, *]
  · cases ht
theorem len_str {C : Cx} {ty : TypeId} {s : ByteArray} {l : Loc} {m : Mem} {K : KS} (ht : kd C ty = some .str) : aLen C ty (.str s) l m K = K (.int .i64 s.size) l m := by simp [aLen, ht]
/-- A slice that has an element is no nil. -/
theorem SlR.some_ {m : Mem} {z : Nat} {s : AV} {rs : List (List AV)} (h : SlR m z s rs) {j : Nat} (hj : j < rs.length) :
    ∃ (a : AA) (i c : Nat) (B : Blk), s = .sl a i rs.length c ∧ (∀ l, blk? l m a = some B) ∧ B.sz = z ∧ (∀ (l : Loc) (j : Nat) (hj : j < rs.length), row? l m a (i + j) = some rs[j]) := by
  cases s with
  | sl a i n c =>
    obtain ⟨h1, B, h2, h3, h4, h5⟩ := h
    have hn : rs.length = n := by subst h5; simp; omega
    have hb : ∀ l, blk? l m a = some B := fun l => by rw [blk?_pub (l' := noL) h1, h2]
    refine ⟨a, i, c, B, by rw [hn], hb, h3, fun l j hj => ?_⟩
    subst h5
    have : i + j < B.rows.length := by omega
    simp [row?, hb, this]
  | nils => cases h; simp at hj
  | emp _ => cases h; simp at hj
  | _ => exact h.elim
/-- The address of an element. -/
theorem SlR.at_ {C : Cx} {ty : TypeId} {T : TI} {m : Mem} {s : AV} {rs : List (List AV)} (h : SlR m T.size s rs) (ht : elm C ty = some T) {k : IntKind} {j : Int} (hj : 0 ≤ j ∧ j < rs.length) {l : Loc} {K : KS}
    (hK : ∀ a i, row? l m a i = some (rs[j.toNat]'(by omega)) → K (.ptr a i 0) l m) : aIndexAddr C ty s (.int k j) l m K := by
  cases s with
  | sl a i n c =>
    obtain ⟨h1, B, h2, h3, h4, h5⟩ := h
    have hn : rs.length = n := by subst h5; simp; omega
    have hb : blk? l m a = some B := by rw [blk?_pub (l' := noL) h1, h2]
    simp only [aIndexAddr, ht, hb]
    refine ⟨h3, by omega, hK _ _ ?_⟩
    subst h5
    have : i + j.toNat < B.rows.length := by omega
    simp [row?, hb, this]
  | nils => cases h; simp at hj; omega
  | emp _ => cases h; simp at hj; omega
  | _ => exact h.elim
theorem loop_ok {B : (St → Mem → Prop) → St → Mem → Prop} (Inv : Nat → St → Mem → Prop) (k : Nat) {st : St} {m : Mem} (h0 : Inv k st m)
    (hs : ∀ k st m KN, Inv k st m → (∀ k' st' m', k' < k → Inv k' st' m' → KN st' m') → B KN st m) : ∃ n, aRounds B n st m := by
  have key : ∀ n k st m, k < n → Inv k st m → aRounds B n st m := by
    intro n
    induction n with
    | zero => intro k st m hk; omega
    | succ n ih => intro k st m hk h; exact hs k st m _ h fun k' st' m' hk' h' => ih k' st' m' (by omega) h'
  exact ⟨k + 1, key _ k st m (by omega) h0⟩
theorem loop_ {C : Cx} {b : Code} {KN0 KR : St → Mem → Prop} {KX : Nat → St → Mem → Prop} {KP : Value → Mem → Prop} (Inv : Nat → (Nat → AV) → Loc → Nat → Mem → Prop) (k : Nat) {t : Nat → AV} {l : Loc} {c : Nat} {m : Mem} (h0 : Inv k t l c m)
    (hs : ∀ (k : Nat) (t : Nat → AV) (l : Loc) (c : Nat) (m : Mem) (KN : St → Mem → Prop), Inv k t l c m → (∀ k' t' l' c' m', k' < k → Inv k' t' l' c' m' → KN ⟨t', l', c'⟩ m') → aCode C b KN KX KR KP ⟨t, l, c⟩ m) : aCode C (.loop b) KN0 KX KR KP ⟨t, l, c⟩ m :=
  loop_ok (fun k st m => Inv k st.t st.l st.c m) k h0 fun k st m KN h hk => hs k st.t st.l st.c m KN h fun k' t' l' c' m' h1 h2 => hk k' ⟨t', l', c'⟩ m' h1 h2
def aResL (C : Cx) (rs : List ResultVar) (st : St) (m : Mem) : Option AV := match aRess C st m rs with
  | some [v] => some v
  | some vs => some (.tup vs)
  | none => none
def aRetL (C : Cx) (rs : List ResultVar) (K : AR → Mem → Prop) (st : St) (m : Mem) : Prop := match aResL C rs st m with
  | some v => v.pub = true ∧ K (.ret v) m
  | none => False
theorem entry {C : Cx} (hC : CxOk C) {f : FuncId} {fn : Func} {c : Code} (hf : C.P.funcs[f]? = some fn) (hb : fn.body = some c) {rs : List ResultVar} (hr : fn.results = ⟨rs⟩) (hname : (fn.name == "runtime.NumGoroutine") = false) (hk : codeOk ⟨fn.ntmps, [], []⟩ c = true) {args : List AV} {m : Mem} {K : AR → Mem → Prop}
    (h : aCode C c (aRetL C rs K) noX (aRetL C rs K) (aPan K) ⟨fun n => args.getD n noA, noL, 0⟩ m) : Sim C.P f args m K := by
  refine sim_of_code hC hf hb hname hk ?_
  have e : aRet C fn.results K = aRetL C rs K := by funext st m; simp only [aRet, aRetL, aRes, aResL, hr]; rfl
  rw [e]; exact h
theorem pub_int {k : IntKind} {n : Int} : AV.pub (.int k n) = true := rfl
theorem pub1_int {k : IntKind} {n : Int} : AV.pub1 (.int k n) = true := rfl
theorem pub2_int {k : IntKind} {n : Int} : AV.pub2 (.int k n) = true := rfl
theorem cells_int {k : IntKind} {n : Int} : AV.cells (.int k n) = [.int k n] := rfl
theorem pub_bool {b : Bool} : AV.pub (.bool b) = true := rfl
theorem pub1_bool {b : Bool} : AV.pub1 (.bool b) = true := rfl
theorem pub2_bool {b : Bool} : AV.pub2 (.bool b) = true := rfl
theorem cells_bool {b : Bool} : AV.cells (.bool b) = [.bool b] := rfl
theorem pub_str {s : ByteArray} : AV.pub (.str s) = true := rfl
theorem pub1_str {s : ByteArray} : AV.pub1 (.str s) = true := rfl
theorem pub2_str {s : ByteArray} : AV.pub2 (.str s) = true := rfl
theorem cells_str {s : ByteArray} : AV.cells (.str s) = [.str s] := rfl
theorem pub_flt {n : Nat} : AV.pub (.flt n) = true := rfl
theorem pub1_flt {n : Nat} : AV.pub1 (.flt n) = true := rfl
theorem pub2_flt {n : Nat} : AV.pub2 (.flt n) = true := rfl
theorem cells_flt {n : Nat} : AV.cells (.flt n) = [.flt n] := rfl
theorem pub_nilp  : AV.pub (.nilp) = true := rfl
theorem pub1_nilp  : AV.pub1 (.nilp) = true := rfl
theorem pub2_nilp  : AV.pub2 (.nilp) = true := rfl
theorem cells_nilp  : AV.cells (.nilp) = [.nilp] := rfl
theorem pub_nils  : AV.pub (.nils) = true := rfl
theorem pub1_nils  : AV.pub1 (.nils) = true := rfl
theorem pub2_nils  : AV.pub2 (.nils) = true := rfl
theorem cells_nils  : AV.cells (.nils) = [.nils] := rfl
theorem pub_ptrR {j i o : Nat} : AV.pub (.ptr (.ro j) i o) = true := rfl
theorem pub1_ptrR {j i o : Nat} : AV.pub1 (.ptr (.ro j) i o) = true := rfl
theorem pub2_ptrR {j i o : Nat} : AV.pub2 (.ptr (.ro j) i o) = true := rfl
theorem cells_ptrR {j i o : Nat} : AV.cells (.ptr (.ro j) i o) = [.ptr (.ro j) i o] := rfl
theorem pub_ptrH {j i o : Nat} : AV.pub (.ptr (.hp j) i o) = true := rfl
theorem pub1_ptrH {j i o : Nat} : AV.pub1 (.ptr (.hp j) i o) = true := rfl
theorem pub2_ptrH {j i o : Nat} : AV.pub2 (.ptr (.hp j) i o) = true := rfl
theorem cells_ptrH {j i o : Nat} : AV.cells (.ptr (.hp j) i o) = [.ptr (.hp j) i o] := rfl
theorem pub_slR {j i n c : Nat} : AV.pub (.sl (.ro j) i n c) = true := rfl
theorem pub1_slR {j i n c : Nat} : AV.pub1 (.sl (.ro j) i n c) = true := rfl
theorem pub2_slR {j i n c : Nat} : AV.pub2 (.sl (.ro j) i n c) = true := rfl
theorem cells_slR {j i n c : Nat} : AV.cells (.sl (.ro j) i n c) = [.sl (.ro j) i n c] := rfl
theorem pub_slH {j i n c : Nat} : AV.pub (.sl (.hp j) i n c) = true := rfl
theorem pub1_slH {j i n c : Nat} : AV.pub1 (.sl (.hp j) i n c) = true := rfl
theorem pub2_slH {j i n c : Nat} : AV.pub2 (.sl (.hp j) i n c) = true := rfl
theorem cells_slH {j i n c : Nat} : AV.cells (.sl (.hp j) i n c) = [.sl (.hp j) i n c] := rfl
theorem cells_agg {cs : List AV} : AV.cells (.agg cs) = cs := rfl
theorem pub_agg {cs : List AV} : AV.pub (.agg cs) = cs.all AV.pub1 := rfl
theorem pub2_agg {cs : List AV} : AV.pub2 (.agg cs) = cs.all AV.pub1 := rfl
theorem pub_tup {cs : List AV} : AV.pub (.tup cs) = cs.all AV.pub3 := rfl
theorem pub3_eq {v : AV} : v.pub3 = (v.pub2 || v.free) := rfl
theorem pub2_undef : AV.pub2 .undef = false := rfl
theorem free_undef : AV.free .undef = true := rfl
theorem pub2_raw {v : Value} : AV.pub2 (.raw v) = false := rfl
theorem free_raw {v : Value} : AV.free (.raw v) = true := rfl
section
variable {C : Cx} {ty : TypeId} {T : TI} {l : Loc} {m : Mem} {K : KS} {op : BinOp}
theorem load_ptr {a : AA} {i o : Nat} : aLoad T (.ptr a i o) l m K = someK (row? l m a i) fun r => someK (part? T r o) fun v => K v l m := by
  simp only [aLoad, someK]
  cases row? l m a i with
  | none => rfl
  | some r => dsimp only; cases part? T r o <;> rfl
theorem store_ptr {a : AA} {i o : Nat} {y : AV} : aStore T (.ptr a i o) y l m K = someK (blk? l m a) fun B => someK B.rows[i]? fun r => y.cells.length = T.size ∧ y.cells.all AV.pub1 = true ∧ o + T.size ≤ r.length ∧ someK (setBlk l m a ⟨B.rows.set i (splice r o y.cells), B.sz⟩) fun p => K .undef p.1 p.2 := by
  simp only [aStore, someK]
  cases blk? l m a with
  | none => rfl
  | some B =>
    dsimp only
    cases B.rows[i]? with
    | none => rfl
    | some r => dsimp only; cases setBlk l m a ⟨B.rows.set i (splice r o y.cells), B.sz⟩ <;> rfl
theorem ix_sl {a : AA} {i n c : Nat} {k : IntKind} {j : Int} : aIndexAddr C ty (.sl a i n c) (.int k j) l m K = someK (elm C ty) fun Te => someK (blk? l m a) fun B => B.sz = Te.size ∧ (0 ≤ j ∧ j < n) ∧ K (.ptr a (i + j.toNat) 0) l m := by
  simp only [aIndexAddr, someK]
  cases elm C ty with
  | none => rfl
  | some Te => dsimp only; cases blk? l m a <;> rfl
def arrK (x : Option TK) (f : Nat → TypeId → Prop) : Prop := match x with
  | some (.arr n e) => f n e
  | _ => False
theorem arrK_arr {n : Nat} {e : TypeId} {f : Nat → TypeId → Prop} : arrK (some (.arr n e)) f = f n e := rfl
theorem ix_ptr {a : AA} {i o : Nat} {k : IntKind} {j : Int} : aIndexAddr C ty (.ptr a i o) (.int k j) l m K = arrK (kd C ty) fun n el => someK (C.T el) fun Te => (0 ≤ j ∧ j < n) ∧ K (.ptr a i (o + j.toNat * Te.size)) l m := by
  simp only [aIndexAddr, someK, arrK]
  cases kd C ty with
  | none => rfl
  | some T => cases T <;> try rfl
              rename_i n el
              dsimp only; cases C.T el <;> rfl
theorem ix_str {s : ByteArray} {k : IntKind} {j : Int} : aIndex C ty (.str s) (.int k j) l m K = (kd C ty = some .str ∧ (0 ≤ j ∧ j < s.size) ∧ K (.int .u8 (bti s j)) l m) := rfl
theorem ix_agg {cs : List AV} {k : IntKind} {j : Int} : aIndex C ty (.agg cs) (.int k j) l m K = arrK (kd C ty) fun n el => someK (C.T el) fun Te => (0 ≤ j ∧ j < n) ∧ someK (part? Te cs (j.toNat * Te.size)) fun v => K v l m := by
  simp only [aIndex, someK, arrK]
  cases kd C ty with
  | none => rfl
  | some T => cases T <;> try rfl
              rename_i n el
              dsimp only
              cases C.T el with
              | none => rfl
              | some Te => dsimp only; cases part? Te cs (j.toNat * Te.size) <;> rfl
theorem len_arr {n : Nat} {e : TypeId} {x : AV} (h : kd C ty = some (.arr n e)) : aLen C ty x l m K = K (.int .i64 n) l m := by simp [aLen, h]
theorem blk_ro {j : Nat} : blk? l m (.ro j) = m.ro j := rfl
theorem blk_hp {j : Nat} : blk? l m (.hp j) = m.hp[j]? := rfl
theorem blk_lc {j : Nat} : blk? l m (.lc j) = l j := rfl
theorem set_hp {j : Nat} {B : Blk} : setBlk l m (.hp j) B = some (l, { m with hp := m.hp.set j B }) := rfl
theorem set_lc {j : Nat} {B : Blk} : setBlk l m (.lc j) B = some (upd l j (some B), m) := rfl
theorem bin_int {k k' : IntKind} {a b : Int} : aBinK C ty op (.int k a) (.int k' b) l m K = someK (aBin op (.int k a) (.int k' b)) fun z => K z l m := by
  simp only [aBinK, someK]; cases aBin op (.int k a) (.int k' b) <;> rfl
theorem bin_str {a b : ByteArray} : aBinK C ty op (.str a) (.str b) l m K = someK (aBin op (.str a) (.str b)) fun z => K z l m := by
  simp only [aBinK, someK]; cases aBin op (.str a) (.str b) <;> rfl
theorem bin_bool {p q : Bool} : aBinK C ty op (.bool p) (.bool q) l m K = (isBo (kd C ty) = true ∧ aNil (p == q) op l m K) := rfl
def nanK (r : Option Nat) (K : KS) (l : Loc) (m : Mem) : Prop := match r with
  | some r => K (.flt r) l m
  | none => ∀ q, isNaN64 q → K (.flt q) l m
theorem nanK_some {r : Nat} : nanK (some r) K l m = K (.flt r) l m := rfl
def fltK (x : Option (Option Nat)) (y : Option AV) (K : KS) (l : Loc) (m : Mem) : Prop := match x with
  | some r => nanK r K l m
  | none => someK y fun z => K z l m
theorem fltK_some {r : Option Nat} {y : Option AV} : fltK (some r) y K l m = nanK r K l m := rfl
theorem fltK_none {y : Option AV} : fltK none y K l m = someK y fun z => K z l m := rfl
theorem bin_flt {a b : Nat} : aBinK C ty op (.flt a) (.flt b) l m K = fltK (aFlt op a b) (aBin op (.flt a) (.flt b)) K l m := by
  simp only [aBinK, fltK, nanK, someK]
  cases aFlt op a b with
  | none => dsimp only; cases aBin op (.flt a) (.flt b) <;> rfl
  | some r => cases r <;> rfl
theorem bin_slN {a : AA} {i n c : Nat} : aBinK C ty op (.sl a i n c) .nils l m K = (isSl (kd C ty) = true ∧ aNil false op l m K) := rfl
theorem bin_Nsl {a : AA} {i n c : Nat} : aBinK C ty op .nils (.sl a i n c) l m K = (isSl (kd C ty) = true ∧ aNil false op l m K) := rfl
theorem bin_ptN {a : AA} {i o : Nat} : aBinK C ty op (.ptr a i o) .nilp l m K = (isPtr (kd C ty) = true ∧ aNil false op l m K) := rfl
theorem bin_Npt {a : AA} {i o : Nat} : aBinK C ty op .nilp (.ptr a i o) l m K = (isPtr (kd C ty) = true ∧ aNil false op l m K) := rfl
theorem bin_NN : aBinK C ty op .nils .nils l m K = (isSl (kd C ty) = true ∧ aNil true op l m K) := rfl
theorem bin_PP : aBinK C ty op .nilp .nilp l m K = (isPtr (kd C ty) = true ∧ aNil true op l m K) := rfl
end
@[congr] theorem someK_congr {α : Type} {x y : Option α} {f : α → Prop} (h : x = y) : someK x f = someK y f := by rw [h]
@[congr] theorem ptrK_congr {x y : AV} {f : AA → Nat → Nat → Prop} (h : x = y) : ptrK x f = ptrK y f := by rw [h]
@[congr] theorem aggK_congr {x y : AV} {f : List AV → Prop} (h : x = y) : aggK x f = aggK y f := by rw [h]
@[congr] theorem tupK_congr {x y : AV} {f : List AV → Prop} (h : x = y) : tupK x f = tupK y f := by rw [h]
@[congr] theorem pickK_congr {x y : AV} {p q : Prop} (h : x = y) : pickK x p q = pickK y p q := by rw [h]
@[congr] theorem condK_congr {x y : AV} {p q : Prop} (h : x = y) : condK x p q = condK y p q := by rw [h]
@[congr] theorem arrK_congr {x y : Option TK} {f : Nat → TypeId → Prop} (h : x = y) : arrK x f = arrK y f := by rw [h]
@[congr] theorem gK_congr {x y : Option (Nat × AV)} {t : Nat → AV} {b : Bool} {p q : (Nat → AV) → Prop} (h : x = y) : gK x t b p q = gK y t b p q := by rw [h]
@[congr] theorem newBlk_congr {p q : Bool} {id : Nat} {B : Blk} {f : AA → AV} {l : Loc} {m : Mem} {K : KS} (h : p = q) : newBlk p id B f l m K = newBlk q id B f l m K := by rw [h]
@[congr] theorem rdK_congr {x y : Option AA} {l : Loc} {m : Mem} {f : AA → Blk → Prop} (h : x = y) : rdK x l m f = rdK y l m f := by rw [h]
theorem newBlk_t {id : Nat} {B : Blk} {f : AA → AV} {l : Loc} {m : Mem} {K : KS} : newBlk true id B f l m K = K (f (.lc id)) (upd l id (some B)) m := rfl
theorem newBlk_f {id : Nat} {B : Blk} {f : AA → AV} {l : Loc} {m : Mem} {K : KS} : newBlk false id B f l m K = K (f (.hp m.hp.length)) l (m.push B) := rfl
theorem upd_upd {α : Type} {f : Nat → α} {d : Nat} {v w : α} : upd (upd f d v) d w = upd f d w := by funext n; simp only [upd]; split <;> rfl
theorem bI {a b : Prop} [Decidable a] : (decide a = true → b) = (a → b) := by simp
end Go.Proofs.IM
