/- The abstract machine's rules as equations, for evaluation by rewriting. No condition. -/
import Derived.Test.YtdonkjepjobhnaaDoorIN
namespace Go.Proofs.IM
open Go
set_option linter.unusedVariables false
section
variable {C : Cx} {KN : St → Mem → Prop} {KX : Nat → St → Mem → Prop} {KR : St → Mem → Prop} {KP : Value → Mem → Prop} {st : St} {m : Mem} {t : Nat → AV} {l : Loc} {c : Nat} {K : KS}
def someK {α : Type} (x : Option α) (f : α → Prop) : Prop := match x with
  | some a => f a
  | none => False
theorem someK_some {α : Type} {a : α} {f : α → Prop} : someK (some a) f = f a := rfl
theorem c_skip : aCode C .skip KN KX KR KP st m = KN st m := rfl
theorem c_seq {x y : Code} : aCode C (.seq x y) KN KX KR KP st m = aCode C x (aCode C y KN KX KR KP) KX KR KP st m := rfl
theorem c_reg {id : Nat} {os : List Oper} : aCode C (.region id os.toArray false) KN KX KR KP st m = aOps C os.toArray KN KP os 0 st m := rfl
theorem c_regd {id : Nat} {ops : Array Oper} : aCode C (.region id ops true) KN KX KR KP st m = aDraw C ops KN KP st m := rfl
theorem c_block {id : Nat} {b : Code} : aCode C (.block id b) KN KX KR KP st m = aCode C b KN (aExit id KN KX) KR KP st m := rfl
theorem c_exit {id : Nat} : aCode C (.exit id) KN KX KR KP st m = KX id st m := rfl
theorem c_ret : aCode C .ret KN KX KR KP st m = KR st m := rfl
def condK (b : AV) (p q : Prop) : Prop := match b with
  | .bool t => (t = true → p) ∧ (t = false → q)
  | _ => False
theorem c_cond {d : Nat} {x y : Code} : aCode C (.cond (.tmp d) x y) KN KX KR KP ⟨t, l, c⟩ m = condK (t d) (aCode C x KN KX KR KP ⟨upd t d (.bool true), l, c⟩ m) (aCode C y KN KX KR KP ⟨upd t d (.bool false), l, c⟩ m) := by
  simp only [aCode, eA, condK, setc]
  cases t d <;> rfl
theorem ite_conj {c p q : Prop} [Decidable c] : (if c then p else q) = ((c → p) ∧ (¬c → q)) := by by_cases h : c <;> simp [h]
theorem condK_bool {b : Bool} {p q : Prop} : condK (.bool b) p q = if b = true then p else q := by cases b <;> simp [condK]
theorem condK_true {p q : Prop} : condK (.bool true) p q = p := by simp [condK]
theorem condK_false {p q : Prop} : condK (.bool false) p q = q := by simp [condK]
theorem x_here {id : Nat} : aExit id KN KX id st m = KN st m := by simp [aExit]
theorem x_far {id j : Nat} (h : (j == id) = false) : aExit id KN KX j st m = KX j st m := by
  have : j ≠ id := by simpa using h
  simp [aExit, this]
variable {ops : Array Oper} {rest : List Oper} {i : Nat} {o : Oper}
theorem o_nil : aOps C ops KN KP [] i ⟨t, l, c⟩ m = KN ⟨t, l, c + i⟩ m := rfl
/-- The rest of a region, behind an operation that sets d. -/
def oK (C : Cx) (ops : Array Oper) (KN : St → Mem → Prop) (KP : Value → Mem → Prop) (rest : List Oper) (i : Nat) (d : Option Nat) (t : Nat → AV) (c : Nat) : KS := fun v l m => aOps C ops KN KP rest (i + 1) ⟨putT t d v, l, c⟩ m
theorem oK_some {d : Nat} {v : AV} : oK C ops KN KP rest i (some d) t c v l m = aOps C ops KN KP rest (i + 1) ⟨upd t d v, l, c⟩ m := rfl
theorem oK_none {v : AV} : oK C ops KN KP rest i none t c v l m = aOps C ops KN KP rest (i + 1) ⟨t, l, c⟩ m := rfl
section
variable {d : Option Nat} {ty : TypeId} {pos : String} {af : Array Edge} {id : Nat}
/-- One operation. -/
def aOp1 (C : Cx) (id : Nat) (d : Option Tmp) (op : Op) (t : Nat → AV) (l : Loc) (m : Mem) (K : KS) (KP : Value → Mem → Prop) : Prop := aOp C id ⟨d, op, 0, "", #[], none⟩ t l m K KP
theorem o_any {op : Op} : aOps C ops KN KP (⟨d, op, ty, pos, af, none⟩ :: rest) i ⟨t, l, c⟩ m = aOp1 C (c + i) d op t l m (oK C ops KN KP rest i d t c) KP := rfl
theorem a_move {x : Nat} : aOp1 C id d (.move (.tmp x)) t l m K KP = K (t x) l m := rfl
theorem a_assign {x : Operand} : aOp1 C id d (.assign x) t l m K KP = K (eA m t x) l m := rfl
theorem a_moveC {x : Operand} : aOp1 C id d (.move x) t l m K KP = K (eA m t x) l m := rfl
theorem a_box {e : TypeId} {x : Operand} : aOp1 C id d (.box e x) t l m K KP = ((eA m t x).cells.all AV.pub1 = true ∧ newBlk (!isOdd C d) (id) ⟨[(eA m t x).cells], (eA m t x).cells.length⟩ (fun a => .ptr a 0 0) l m (K)) := rfl
def allocK (P : Program) (e : TypeId) (l : Loc) (m : Mem) (K : KS) (x : Option TI) (f : TI → Prop) : Prop := match x with
  | some T => f T
  | none => aGho P e l m K
theorem allocK_some {P : Program} {e : TypeId} {l : Loc} {m : Mem} {K : KS} {T : TI} {f : TI → Prop} : allocK P e l m K (some T) f = f T := rfl
theorem allocK_none {P : Program} {e : TypeId} {l : Loc} {m : Mem} {K : KS} {f : TI → Prop} : allocK P e l m K none f = aGho P e l m K := rfl
theorem a_alloc {e : TypeId} : aOp1 C id d (.alloc e) t l m K KP = allocK C.P e l m K (C.T e) (fun T => newBlk (!isOdd C d) (id) ⟨[T.zero], T.size⟩ (fun a => .ptr a 0 0) l m (K)) := by
  simp only [aOp1, aOp, allocK]; cases C.T e <;> rfl
theorem a_load {e : TypeId} {x : Operand} : aOp1 C id d (.load e x) t l m K KP = someK (C.T e) (fun T => aLoad T (eA m t x) l m (K)) := by
  simp only [aOp1, aOp, someK]; cases C.T e <;> rfl
theorem a_store {e : TypeId} {x y : Operand} : aOp1 C id d (.store e x y) t l m K KP = someK (C.T e) (fun T => aStore T (eA m t x) (eA m t y) l m (K)) := by
  simp only [aOp1, aOp, someK]; cases C.T e <;> rfl
def ptrK (x : AV) (f : AA → Nat → Nat → Prop) : Prop := match x with
  | .ptr a i o => f a i o
  | _ => False
theorem a_nilCheck {x : Operand} : aOp1 C id d (.nilCheck x) t l m K KP = ptrK (eA m t x) (fun a i' o' => K (.ptr a i' o') l m) := rfl
theorem a_fieldAddr {e : TypeId} {x : Operand} {f : Nat} : aOp1 C id d (.fieldAddr e x f) t l m K KP = someK (fld C e f) (fun p => ptrK (eA m t x) (fun a i' o' => p.2.size ≠ 0 ∧ K (.ptr a i' (o' + p.1)) l m)) := by
  simp only [aOp1, aOp, someK, ptrK]
  cases fld C e f <;> cases eA m t x <;> rfl
theorem a_bin {op : BinOp} {e e' : TypeId} {x y : Operand} : aOp1 C id d (.binOp op e x y e') t l m K KP = aBinK C e op (eA m t x) (eA m t y) l m (K) := rfl
theorem a_un {op : UnOp} {e : TypeId} {x : Operand} : aOp1 C id d (.unOp op e x) t l m K KP = someK (aUn op (eA m t x)) (fun v => K v l m) := by
  simp only [aOp1, aOp, someK]; cases aUn op (eA m t x) <;> rfl
theorem a_conv {s e : TypeId} {x : Operand} : aOp1 C id d (.convert s e x) t l m K KP = aConv C s e (eA m t x) l m (K) := rfl
theorem a_call {f : FuncId} {as : Array Operand} {ts : Array TypeId} : aOp1 C id d (.call ⟨.value (.func f), as, ts⟩) t l m K KP = ((as.toList.map (eA m t)).all AV.pub = true ∧ Sim C.P f (as.toList.map (eA m t)) m (callK (K) l KP)) := rfl
theorem a_len {x : Operand} {e : TypeId} : aOp1 C id d (.call ⟨.builtin .len, #[x], #[e]⟩) t l m K KP = aLen C e (eA m t x) l m (K) := rfl
theorem a_app {x y : Operand} {e e' : TypeId} : aOp1 C id d (.call ⟨.builtin .append, #[x, y], #[e, e']⟩) t l m K KP = aApp C e e' (eA m t x) (eA m t y) l m (K) := rfl
def pickK (x : AV) (p q : Prop) : Prop := match x with
  | .bool b => (b = true → p) ∧ (b = false → q)
  | _ => False
def aggK (x : AV) (f : List AV → Prop) : Prop := match x with
  | .agg cs => f cs
  | _ => False
def tupK (x : AV) (f : List AV → Prop) : Prop := match x with
  | .tup cs => f cs
  | _ => False
theorem a_pick {x y z : Operand} : aOp1 C id d (.pick x y z) t l m K KP = pickK (eA m t x) (K (eA m t y) l m) (K (eA m t z) l m) := by
  simp only [aOp1, aOp, pickK]; cases eA m t x <;> rfl
theorem a_build {e : TypeId} {ps : List (Nat × Operand)} : aOp1 C id d (.build e ps.toArray) t l m K KP = someK (C.T e) (fun T => someK (lay (places C T.kind) T.zero (ps.map fun p => (p.1, eA m t p.2))) fun cs => T.agg = true ∧ K (.agg cs) l m) := by
  simp only [aOp1, aOp, someK]
  cases C.T e with
  | none => rfl
  | some T => dsimp only; cases lay (places C T.kind) T.zero (ps.map fun p => (p.1, eA m t p.2)) <;> rfl
theorem a_buildSlice {e : TypeId} {n : Nat} {ps : List (Nat × Operand)} : aOp1 C id d (.buildSlice e n ps.toArray) t l m K KP = aBuildSlice C (isOdd C d) (id) e n (ps.map fun p => (p.1, eA m t p.2)) l m (K) := rfl
theorem a_slice {e : TypeId} {x : Operand} {lo hi : Option Operand} : aOp1 C id d (.slice e x lo hi none) t l m K KP = aSlice C e (eA m t x) ((lo.map (eA m t)).getD (.int .i64 0)) (hi.map (eA m t)) l m (K) := rfl
theorem a_field {e : TypeId} {x : Operand} {f : Nat} : aOp1 C id d (.field e x f) t l m K KP = someK (fld C e f) (fun p => aggK (eA m t x) fun cs => someK (part? p.2 cs p.1) fun v => K v l m) := by
  simp only [aOp1, aOp, someK, aggK]
  cases fld C e f with
  | none => rfl
  | some p =>
    cases eA m t x <;> try rfl
    rename_i cs
    dsimp only; cases part? p.2 cs p.1 <;> rfl
theorem a_indexAddr {e : TypeId} {x y : Operand} : aOp1 C id d (.indexAddr e x y) t l m K KP = aIndexAddr C e (eA m t x) (eA m t y) l m (K) := rfl
theorem a_index {e : TypeId} {x y : Operand} : aOp1 C id d (.index e x y) t l m K KP = aIndex C e (eA m t x) (eA m t y) l m (K) := rfl
theorem a_extract {x : Operand} {k : Nat} : aOp1 C id d (.extract x k) t l m K KP = tupK (eA m t x) (fun vs => someK vs[k]? fun v => K v l m) := by
  simp only [aOp1, aOp, someK, tupK]
  cases eA m t x <;> try rfl
  rename_i vs
  dsimp only; cases vs[k]? <;> rfl
def mkIK (x : AV) (k : Option TK) (p : Prop) : Prop := match x with
  | .agg [] => k = some (.st []) ∧ p
  | _ => False
def panK (x : AV) (f : Value → Prop) : Prop := match x with
  | .raw (.iface ty v) => f (.iface ty v)
  | _ => False
theorem a_mkI {e : TypeId} {x : Operand} : aOp1 C id d (.makeInterface e x) t l m K KP = mkIK (eA m t x) (kd C e) (K (.raw (.iface e (.agg #[]))) l m) := rfl
theorem mkIK_nil {k : Option TK} {p : Prop} : mkIK (.agg []) k p = (k = some (.st []) ∧ p) := rfl
theorem a_panic {x : Operand} : aOp1 C id d (.panic x) t l m K KP = panK (eA m t x) (fun v => KP v m) := rfl
theorem panK_raw {ty : TypeId} {v : Value} {f : Value → Prop} : panK (.raw (.iface ty v)) f = f (.iface ty v) := rfl
theorem bin_agg_ {ty : TypeId} {op : BinOp} {cs ds : List AV} {b : Bool} (h : AggEq C.P ty cs ds b) (hk : aNil b op l m K) : aBinK C ty op (.agg cs) (.agg ds) l m K := ⟨b, h, hk⟩
theorem a_makeSlice {e : TypeId} {x y : Operand} : aOp1 C id d (.makeSlice e x y) t l m K KP = someK (elm C e) (fun Te => aMake Te (eA m t x) (eA m t y) l m (K)) := by
  simp only [aOp1, aOp, someK]; cases elm C e <;> rfl
/-- An operation with a guard. -/
def gK (x : Option (Nat × AV)) (t : Nat → AV) (b : Bool) (yes no : (Nat → AV) → Prop) : Prop := match x with
  | some (d, .bool q) => (q = b → yes (upd t d (.bool b))) ∧ (q = !b → no (upd t d (.bool !b)))
  | some (_, .tup _) => no t
  | _ => False
theorem gval_l {os : List Oper} {j : Nat} : gval os.toArray t j = (os[j]?).bind fun o => o.dst.map fun d => (d, t d) := by simp [gval]
theorem gval_some {os : List Oper} {j : Nat} {o : Oper} {d : Nat} (h : os[j]? = some o) (hd : o.dst = some d) : gval os.toArray t j = some (d, t d) := by
  simp [gval, h, hd]
section
variable {tk : Tk} {pl : Plan} {xs : List Nat} {j : Nat} {b : Bool} {op : Op} {EN : Tk → St → Mem → Prop}
/-- What a plan asks next. -/
def pK (C : Cx) (ops : Array Oper) (EN : Tk → St → Mem → Prop) (KP : Value → Mem → Prop) (pl : Plan) (tk : Tk) (xs : List Nat) (tk' : Tk) (d : Option Nat) (t : Nat → AV) (c : Nat) : KS := fun v l m => keepAll xs tk' l m ∧ aPlan C ops EN KP pl tk ⟨putT t d v, l, c⟩ m
theorem pK_some {d : Nat} {v : AV} {tk' : Tk} : pK C ops EN KP pl tk xs tk' (some d) t c v l m = (keepAll xs tk' l m ∧ aPlan C ops EN KP pl tk ⟨upd t d v, l, c⟩ m) := rfl
theorem pK_none {v : AV} {tk' : Tk} : pK C ops EN KP pl tk xs tk' none t c v l m = (keepAll xs tk' l m ∧ aPlan C ops EN KP pl tk ⟨t, l, c⟩ m) := rfl
theorem keep_nil : keepAll xs [] l m = True := rfl
theorem keep_cons {q : Nat} {a : AA} {B : Blk} : keepAll xs ((q, a, B) :: tk) l m = ((if xs.contains q then blk? l m a = some B else True) ∧ keepAll xs tk l m) := rfl
theorem p_nil : aPlan C ops EN KP [] tk ⟨t, l, c⟩ m = EN tk ⟨t, l, c⟩ m := rfl
def pOne (C : Cx) (ops : Array Oper) (EN : Tk → St → Mem → Prop) (KP : Value → Mem → Prop) (i : Nat) (k : PK) (o : Oper) (pl : Plan) (tk : Tk) (t : Nat → AV) (l : Loc) (c : Nat) (m : Mem) : Prop := match k with
  | .pure => aPure C ops o i ⟨t, l, c⟩ m (aPlan C ops EN KP pl tk) KP
  | .read => aRead C ops o i ⟨t, l, c⟩ m tk (aPlan C ops EN KP pl) KP
  | .step xs => aStep C ops o i ⟨t, l, c⟩ m (pNext (aPlan C ops EN KP pl tk) xs tk) KP
theorem p_cons {k : PK} : aPlan C ops EN KP ((i, k) :: pl) tk ⟨t, l, c⟩ m = someK ops[i]? (fun o => pOne C ops EN KP i k o pl tk t l c m) := by
  simp only [aPlan, someK, pOne]
  cases ops[i]? with
  | none => rfl
  | some o => cases k <;> rfl
theorem p_pure : pOne C ops EN KP i .pure ⟨d, op, ty, pos, af, none⟩ pl tk t l c m = (okP m t ⟨d, op, 0, "", #[], none⟩ = true ∧ aOp1 C (c + i) d op t l m (pK C ops EN KP pl tk [] [] d t c) KP) := rfl
/-- Of a reading operation: where it reads. -/
def rdK (x : Option AA) (l : Loc) (m : Mem) (f : AA → Blk → Prop) : Prop := match x with
  | some a => match blk? l m a with
    | some B => f a B
    | none => False
  | none => False
theorem rdK_some {a : AA} {f : AA → Blk → Prop} : rdK (some a) l m f = someK (blk? l m a) (f a) := by
  simp only [rdK, someK]; cases blk? l m a <;> rfl
theorem p_read : pOne C ops EN KP i .read ⟨d, op, ty, pos, af, none⟩ pl tk t l c m = rdK (rdA m t ⟨d, op, 0, "", #[], none⟩) l m (fun a B => aOp1 C (c + i) d op t l m (pK C ops EN KP pl ((i, a, B) :: tk) [] [] d t c) KP) := by
  simp only [pOne, aRead, gCase, rdK]
  have e : rdA m t ⟨d, op, ty, pos, af, none⟩ = rdA m t ⟨d, op, 0, "", #[], none⟩ := rfl
  rw [e]
  cases rdA m t ⟨d, op, 0, "", #[], none⟩ with
  | none => rfl
  | some a => dsimp only; cases blk? l m a <;> rfl
theorem p_step : pOne C ops EN KP i (.step xs) ⟨d, op, ty, pos, af, none⟩ pl tk t l c m = aOp1 C (c + i) d op t l m (pK C ops EN KP pl tk xs tk d t c) KP := rfl
theorem p_pureG : pOne C ops EN KP i .pure ⟨d, op, ty, pos, af, some (j, b)⟩ pl tk t l c m = gK (gval ops t j) t b (fun t => pOne C ops EN KP i .pure ⟨d, op, ty, pos, af, none⟩ pl tk t l c m) (fun t => aPlan C ops EN KP pl tk ⟨putT t d noA, l, c⟩ m) := by
  simp only [pOne, aPure, gCase, gK]
  cases gval ops t j with
  | none => rfl
  | some p => obtain ⟨d', v⟩ := p; cases v <;> rfl
theorem p_readG : pOne C ops EN KP i .read ⟨d, op, ty, pos, af, some (j, b)⟩ pl tk t l c m = gK (gval ops t j) t b (fun t => pOne C ops EN KP i .read ⟨d, op, ty, pos, af, none⟩ pl tk t l c m) (fun t => aPlan C ops EN KP pl tk ⟨putT t d noA, l, c⟩ m) := by
  simp only [pOne, aRead, gCase, gK]
  cases gval ops t j with
  | none => rfl
  | some p => obtain ⟨d', v⟩ := p; cases v <;> rfl
theorem p_stepG : pOne C ops EN KP i (.step xs) ⟨d, op, ty, pos, af, some (j, b)⟩ pl tk t l c m = gK (gval ops t j) t b (fun t => pOne C ops EN KP i (.step xs) ⟨d, op, ty, pos, af, none⟩ pl tk t l c m) (fun t => keepAll xs tk l m ∧ aPlan C ops EN KP pl tk ⟨putT t d noA, l, c⟩ m) := by
  simp only [pOne, aStep, gK]
  cases gval ops t j with
  | none => rfl
  | some p => obtain ⟨d', v⟩ := p; cases v <;> rfl
/-- What a tree of orders asks next. -/
def ptK (C : Cx) (ops : Array Oper) (KN : St → Mem → Prop) (KP : Value → Mem → Prop) (r : PT) (tk : Tk) (xs : List Nat) (d : Option Nat) (t : Nat → AV) (c : Nat) : KS := fun v l m => keepAll xs tk l m ∧ aPT C ops KN KP r tk ⟨putT t d v, l, c⟩ m
theorem ptK_some {r : PT} {d : Nat} {v : AV} : ptK C ops KN KP r tk xs (some d) t c v l m = (keepAll xs tk l m ∧ aPT C ops KN KP r tk ⟨upd t d v, l, c⟩ m) := rfl
theorem ptK_none {r : PT} {v : AV} : ptK C ops KN KP r tk xs none t c v l m = (keepAll xs tk l m ∧ aPT C ops KN KP r tk ⟨t, l, c⟩ m) := rfl
def ptOne (C : Cx) (ops : Array Oper) (KN : St → Mem → Prop) (KP : Value → Mem → Prop) (i : Nat) (xs : List Nat) (o : Oper) (r : PT) (tk : Tk) (t : Nat → AV) (l : Loc) (c : Nat) (m : Mem) : Prop := aStep C ops o i ⟨t, l, c⟩ m (pNext (aPT C ops KN KP r tk) xs tk) KP
theorem pt_done : aPT C ops KN KP .done tk ⟨t, l, c⟩ m = KN ⟨t, l, c + ops.size⟩ m := rfl
theorem pt_one {i : Nat} {r : PT} : aPT1 C ops KP i xs tk (aPT C ops KN KP r tk) ⟨t, l, c⟩ m = someK ops[i]? (fun o => ptOne C ops KN KP i xs o r tk t l c m) := by
  simp only [aPT1, someK, ptOne]
  cases ops[i]? <;> rfl
theorem pt_step {i : Nat} {r : PT} : aPT C ops KN KP (.step i xs r) tk ⟨t, l, c⟩ m = someK ops[i]? (fun o => ptOne C ops KN KP i xs o r tk t l c m) := pt_one
theorem pt_fork {i j : Nat} {ys : List Nat} {r s : PT} : aPT C ops KN KP (.fork i xs r j ys s) tk ⟨t, l, c⟩ m = (someK ops[i]? (fun o => ptOne C ops KN KP i xs o r tk t l c m) ∧ someK ops[j]? (fun o => ptOne C ops KN KP j ys o s tk t l c m)) := by
  rw [← pt_one, ← pt_one]; rfl
theorem pt_op {r : PT} : ptOne C ops KN KP i xs ⟨d, op, ty, pos, af, none⟩ r tk t l c m = aOp1 C (c + i) d op t l m (ptK C ops KN KP r tk xs d t c) KP := rfl
theorem drawF_ {os : List Oper} (pl rest : Plan) (T : PT) (hok : planAllF os.toArray pl rest T = true) (h : aPlan C os.toArray (aPT C os.toArray KN KP T) KP pl [] ⟨t, l, c⟩ m) : aDraw C os.toArray KN KP ⟨t, l, c⟩ m := .inr ⟨pl, rest, T, hok, h⟩
theorem draw_ {os : List Oper} (pl : Plan) (hok : planAll os.toArray pl = true) (h : aPlan C os.toArray (fun _ st m => KN ⟨st.t, st.l, st.c + os.toArray.size⟩ m) KP pl [] ⟨t, l, c⟩ m) : aDraw C os.toArray KN KP ⟨t, l, c⟩ m := .inl ⟨pl, hok, h⟩
end
theorem o_guard {op : Op} {j : Nat} {b : Bool} : aOps C ops KN KP (⟨d, op, ty, pos, af, some (j, b)⟩ :: rest) i ⟨t, l, c⟩ m =
    gK (gval ops t j) t b (fun t => aOps C ops KN KP (⟨d, op, ty, pos, af, none⟩ :: rest) i ⟨t, l, c⟩ m) (fun t => aOps C ops KN KP rest (i + 1) ⟨putT t d noA, l, c⟩ m) := by
  simp only [aOps, aStep, gK]
  cases gval ops t j with
  | none => rfl
  | some p => obtain ⟨d', v⟩ := p; cases v <;> rfl
end
theorem ptrK_ptr {a : AA} {i o : Nat} {f : AA → Nat → Nat → Prop} : ptrK (.ptr a i o) f = f a i o := rfl
theorem upd_same {α : Type} {f : Nat → α} {d : Nat} {v : α} : upd f d v d = v := by simp [upd]
theorem upd_far {α : Type} {f : Nat → α} {d n : Nat} {v : α} (h : (n == d) = false) : upd f d v n = f n := by
  have : n ≠ d := by simpa using h
  simp [upd, this]
theorem pickK_bool {b : Bool} {p q : Prop} : pickK (.bool b) p q = if b = true then p else q := by cases b <;> simp [pickK]
theorem aggK_agg {cs : List AV} {f : List AV → Prop} : aggK (.agg cs) f = f cs := rfl
theorem tupK_tup {cs : List AV} {f : List AV → Prop} : tupK (.tup cs) f = f cs := rfl
theorem gK_tup {d : Nat} {vs : List AV} {b : Bool} {yes no : (Nat → AV) → Prop} : gK (some (d, .tup vs)) t b yes no = no t := rfl
theorem gK_noA {d : Nat} {b : Bool} {yes no : (Nat → AV) → Prop} : gK (some (d, noA)) t b yes no = no t := rfl
theorem bytes_nil : (ByteArray.mk #[]).toList = [] := by rw [ByteArray.toList, ByteArray.toList.loop]; rfl
theorem gK_bool {d : Nat} {q b : Bool} {yes no : (Nat → AV) → Prop} : gK (some (d, .bool q)) t b yes no = if q = b then yes (upd t d (.bool b)) else no (upd t d (.bool !b)) := by cases q <;> cases b <;> simp [gK]
theorem callK_ret {v : AV} : callK K l KP (.ret v) m = K v l m := rfl
theorem callK_pan {v : Value} : callK K l KP (.pan v) m = KP v m := rfl
end
end Go.Proofs.IM
