/- What a call comes to, told over abstract values ('Sim'), and what each operation and each piece of code asks for it ('aOp', 'aOps', 'aCode'). Definitions alone; no condition. -/
import Derived.Test.YtdonkjepjobhnaaDoorIB
namespace Go.Proofs.IM
open Go
set_option linter.unusedVariables false
def VRs (E : Env) (L : Pl) (cs : List AV) (xs : Array Value) : Prop := cs.length = xs.size ∧ ∀ (i : Nat) (c : AV) (v : Value), cs[i]? = some c → xs[i]? = some v → VR E L c v
/-- How a call ends. -/
def SimEnd (E : Env) (w : World) (K : AR → Mem → Prop) (e : Ending) (w' : World) : Prop :=
  ∃ E' m', E.le E' ∧ MR E' m' w' ∧ w.heap.size ≤ w'.heap.size ∧
      (∀ b, b < w.heap.size → (∀ j s, E.h j ≠ some (b, s)) → w'.heap[b]? = w.heap[b]?) ∧ (∀ j b s, E'.h j = some (b, s) → w.heap.size ≤ b ∨ E.h j = some (b, s)) ∧
      ((∃ r x, e = .returned x ∧ VR E' noPl r x ∧ K (.ret r) m') ∨ (∃ v, e = .panicked [{ v, recovered := false }] ∧ K (.pan v) m'))
/-- The function that a call names has a body: the call is entered. -/
def callable (P : Program) (f : FuncId) : Bool := match P.funcs[f]? with
  | some fn => fn.body.isSome && !(fn.name == "runtime.NumGoroutine")
  | none => false
/-- Function f, called with these arguments in whatever world the memory m lies in, returns (or panics) as K says; nothing else that was there is changed. (Or the model answers the call itself.) -/
def Sim (P : Program) (f : FuncId) (args : List AV) (m : Mem) (K : AR → Mem → Prop) : Prop :=
  ∀ (E : Env) (w : World) (xs : Array Value), MR E m w → VRs E noPl args xs →
    (callable P f = true ∧ Calls P f xs w (SimEnd E w K)) ∨ (∃ r x, (callFunc f xs).run P w = .ok (.value x) w ∧ VR E noPl r x ∧ K (.ret r) m)
def kindOf : TypeDesc → TK
  | .struct fs => .st (fs.toList.map fun f => (f.offset, f.type))
  | .array n e => .arr n e
  | .slice e => .sl e
  | .int k => .int k
  | .float .f64 => .flt
  | .string => .str
  | .pointer _ => .ptr
  | .bool => .bo
  | _ => .one
/-- What the context says of a type is what the program says. -/
structure TOk (P : Program) (t : TypeId) (T : TI) : Prop where
  info : (P.info? t).map (fun i => (i.size, i.bytes, i.zero.map fun z => z.cells.toList.map of1)) = some (T.size, T.bytes, some T.zero)
  und : (P.underlying t).map kindOf = some T.kind
  pub : T.zero.all AV.pub1 = true
  len : T.zero.length = T.size
  one : T.agg = false → T.size = 1
def TK.known (C : Cx) : TK → Bool
  | .st fs => fs.all fun f => (C.T f.2).isSome
  | .arr _ e => (C.T e).isSome
  | _ => true
structure CxOk (C : Cx) : Prop where
  T : ∀ t T, C.T t = some T → TOk C.P t T
  known : ∀ t T, C.T t = some T → T.kind.known C = true
  mixed : C.P.follows .mixedOrders = true
abbrev KS := AV → Loc → Mem → Prop
def callK (K : KS) (l : Loc) (KP : Value → Mem → Prop) : AR → Mem → Prop
  | .ret v, m => K v l m
  | .pan v, m => KP v m
/-- New memory: private, or on the heap. -/
def newBlk (priv : Bool) (id : Nat) (B : Blk) (mk : AA → AV) (l : Loc) (m : Mem) (K : KS) : Prop :=
  if priv then K (mk (.lc id)) (upd l id (some B)) m else K (mk (.hp m.hp.length)) l (m.push B)
def isOdd (C : Cx) (d : Option Tmp) : Bool := match d with | some d => C.odd.contains d | none => false
def sliceRows (l : Loc) (m : Mem) : AV → Option (List (List AV))
  | .sl a i n _ => rows? l m a i n
  | .nils => some []
  | .emp _ => some []
  | _ => none
def i64max : Int := 9223372036854775807
def aAppend (Te : TI) (s : AV) (xs : List (List AV)) (l : Loc) (m : Mem) (K : KS) : Prop :=
  match s with
  | .nils =>
    if xs.length = 0 then K .nils l m
    else xs.length * Te.bytes ≤ 140737488355328 ∧ (xs.length : Int) ≤ i64max ∧ ∀ c, xs.length ≤ c → (c : Int) ≤ i64max → K (.sl (.hp m.hp.length) 0 xs.length c) l (m.push ⟨xs ++ List.replicate (c - xs.length) Te.zero, Te.size⟩)
  | .sl a i n cap =>
    match blk? l m a with
    | some B =>
      B.sz = Te.size ∧ i + n ≤ B.rows.length ∧
      if n + xs.length ≤ cap then
        if xs.length = 0 then K (.sl a i n cap) l m
        else i + n + xs.length ≤ B.rows.length ∧
          match setBlk l m a ⟨splice B.rows (i + n) xs, B.sz⟩ with
          | some (l', m') => K (.sl a i (n + xs.length) cap) l' m'
          | none => False
      else xs.length ≠ 0 ∧ (n + xs.length) * Te.bytes ≤ 140737488355328 ∧ ((n + xs.length : Nat) : Int) ≤ i64max ∧ ∀ c, n + xs.length ≤ c → (c : Int) ≤ i64max →
        K (.sl (.hp m.hp.length) 0 (n + xs.length) c) l (m.push ⟨(B.rows.drop i).take n ++ xs ++ List.replicate (c - (n + xs.length)) Te.zero, Te.size⟩)
    | none => False
  | _ => False
def bytesRows (s : ByteArray) : List (List AV) := s.data.toList.map fun b => [.int .u8 b.toNat]
def aConv (C : Cx) (s d : TypeId) (x : AV) (l : Loc) (m : Mem) (K : KS) : Prop :=
  match C.T s, C.T d with
  | some Ts, some Td =>
    match Td.kind, x with
    | .int k, .int _ n => K (.int k (k.wrap n)) l m
    | .int k, .flt b =>
      match (FloatKind.f64.decode b).toInt .zero with
      | some n => if k.min ≤ n ∧ n ≤ k.max then K (.int k n) l m else ∀ q, K (.int k (k.wrap ((q : Nat) : Int))) l m
      | none => ∀ q, K (.int k (k.wrap ((q : Nat) : Int))) l m
    | .flt, .int _ n => K (.flt (FloatKind.f64.nearest n)) l m
    | .flt, .flt b => K (.flt b) l m
    | .str, .str s => K (.str s) l m
    | .str, x =>
      match Ts.kind with
      | .sl e =>
        (C.T e).map TI.kind = some (.int .u8) ∧
        match (sliceRows l m x).bind bytes? with
        | some bs => K (.str ⟨bs.toArray⟩) l m
        | none => False
      | _ => False
    | _, _ => False
  | _, _ => False
def isNaN64 (b : Nat) : Prop := 9218868437227405312 < b % 9223372036854775808 ∧ b < 18446744073709551616
def kd (C : Cx) (t : TypeId) : Option TK := (C.T t).map TI.kind
/-- A part of the cells, as a value of this type. -/
def part? (T : TI) (cs : List AV) (o : Nat) : Option AV :=
  if o + T.size ≤ cs.length then (if T.agg then some (.agg ((cs.drop o).take T.size)) else cs[o]?) else none
/-- Where the parts of a struct or an array lie. -/
def places (C : Cx) : TK → Nat → Option (Nat × Nat)
  | .st fs, i => (fs[i]?).bind fun f => (C.T f.2).map fun T' => (f.1, T'.size)
  | .arr _ el, i => (C.T el).map fun Te => (i * Te.size, Te.size)
  | _, _ => none
def fld (C : Cx) (s : TypeId) (f : Nat) : Option (Nat × TI) :=
  match kd C s with
  | some (.st fs) => (fs[f]?).bind fun p => (C.T p.2).map fun T' => (p.1, T')
  | _ => none
def elm (C : Cx) (s : TypeId) : Option TI :=
  match kd C s with
  | some (.sl el) => C.T el
  | _ => none
def aLoad (T : TI) (x : AV) (l : Loc) (m : Mem) (K : KS) : Prop :=
  match x with
  | .ptr a i o => match row? l m a i with
    | some r => match part? T r o with
      | some v => K v l m
      | none => False
    | none => False
  | _ => False
def aStore (T : TI) (x y : AV) (l : Loc) (m : Mem) (K : KS) : Prop :=
  match x with
  | .ptr a i o => match blk? l m a with
    | some B => match B.rows[i]? with
      | some r => y.cells.length = T.size ∧ y.cells.all AV.pub1 = true ∧ o + T.size ≤ r.length ∧
        match setBlk l m a ⟨B.rows.set i (splice r o y.cells), B.sz⟩ with
        | some p => K .undef p.1 p.2
        | none => False
      | none => False
    | none => False
  | _ => False
def aNil (b : Bool) (op : BinOp) (l : Loc) (m : Mem) (K : KS) : Prop :=
  match op with
  | .eql => K (.bool b) l m
  | .neq => K (.bool !b) l m
  | _ => False
def isSl : Option TK → Bool
  | some (.sl _) => true
  | _ => false
def isPtr : Option TK → Bool
  | some .ptr => true
  | _ => false
def isBo : Option TK → Bool
  | some .bo => true
  | _ => false
/-- Two structs are compared: what comes of it, wherever they lie. -/
def AggEq (P : Program) (ty : TypeId) (cs ds : List AV) (b : Bool) : Prop := P.eqGuardType P.depth ty = false ∧ ∀ (E : Env) (L : Pl) (xs ys : Array Value) (w : World), VR E L (.agg cs) (.agg xs) → VR E L (.agg ds) (.agg ys) → (Op.equal ty (.agg xs) (.agg ys)).run P w = .ok b w
def aBinK (C : Cx) (ty : TypeId) (op : BinOp) (x y : AV) (l : Loc) (m : Mem) (K : KS) : Prop :=
  match x, y with
  | .flt a, .flt b => match aFlt op a b with
    | some (some r) => K (.flt r) l m
    | some none => ∀ q, isNaN64 q → K (.flt q) l m
    | none => match aBin op (.flt a) (.flt b) with
      | some v => K v l m
      | none => False
  | .sl .., .nils => isSl (kd C ty) = true ∧ aNil false op l m K
  | .nils, .sl .. => isSl (kd C ty) = true ∧ aNil false op l m K
  | .ptr .., .nilp => isPtr (kd C ty) = true ∧ aNil false op l m K
  | .nilp, .ptr .. => isPtr (kd C ty) = true ∧ aNil false op l m K
  | .nils, .nils => isSl (kd C ty) = true ∧ aNil true op l m K
  | .nilp, .nilp => isPtr (kd C ty) = true ∧ aNil true op l m K
  | .bool p, .bool q => isBo (kd C ty) = true ∧ aNil (p == q) op l m K
  | .agg cs, .agg ds => ∃ b, AggEq C.P ty cs ds b ∧ aNil b op l m K
  | u, v => match aBin op u v with
    | some z => K z l m
    | none => False
def aSliceS (s : ByteArray) (lo : AV) (hi : Option AV) (l : Loc) (m : Mem) (K : KS) : Prop :=
  match lo, hi with
  | .int _ a, some (.int _ b) => (0 ≤ a ∧ a ≤ b ∧ b ≤ s.size) ∧ K (.str (s.extract a.toNat b.toNat)) l m
  | .int _ a, none => (0 ≤ a ∧ a ≤ s.size) ∧ K (.str (s.extract a.toNat s.size)) l m
  | _, _ => False
def aSliceR (Te : TI) (aa : AA) (i n c : Nat) (lo : AV) (hi : Option AV) (l : Loc) (m : Mem) (K : KS) : Prop :=
  match blk? l m aa with
  | some B => B.sz = Te.size ∧
    match lo, hi with
    | .int _ a, some (.int _ b) => (0 ≤ a ∧ a ≤ b ∧ b ≤ c) ∧ K (.sl aa (if c = a.toNat then i else i + a.toNat) (b.toNat - a.toNat) (c - a.toNat)) l m
    | .int _ a, none => (0 ≤ a ∧ a ≤ n) ∧ K (.sl aa (if c = a.toNat then i else i + a.toNat) (n - a.toNat) (c - a.toNat)) l m
    | _, _ => False
  | none => False
def aSlice (C : Cx) (ty : TypeId) (x lo : AV) (hi : Option AV) (l : Loc) (m : Mem) (K : KS) : Prop :=
  match x with
  | .str s => kd C ty = some .str ∧ aSliceS s lo hi l m K
  | .sl aa i n c => match elm C ty with
    | some Te => aSliceR Te aa i n c lo hi l m K
    | none => False
  | _ => False
def aIndexAddr (C : Cx) (ty : TypeId) (x ix : AV) (l : Loc) (m : Mem) (K : KS) : Prop :=
  match ix with
  | .int _ j => match x with
    | .sl a i n _ => match elm C ty with
      | some Te => match blk? l m a with
        | some B => B.sz = Te.size ∧ (0 ≤ j ∧ j < n) ∧ K (.ptr a (i + j.toNat) 0) l m
        | none => False
      | none => False
    | .ptr a i o => match kd C ty with
      | some (.arr n el) => match C.T el with
        | some Te => (0 ≤ j ∧ j < n) ∧ K (.ptr a i (o + j.toNat * Te.size)) l m
        | none => False
      | _ => False
    | _ => False
  | _ => False
def aIndex (C : Cx) (ty : TypeId) (x ix : AV) (l : Loc) (m : Mem) (K : KS) : Prop :=
  match ix with
  | .int _ j => match x with
    | .str s => kd C ty = some .str ∧ (0 ≤ j ∧ j < s.size) ∧ K (.int .u8 (bti s j)) l m
    | .agg cs => match kd C ty with
      | some (.arr n el) => match C.T el with
        | some Te => (0 ≤ j ∧ j < n) ∧ match part? Te cs (j.toNat * Te.size) with
          | some v => K v l m
          | none => False
        | none => False
      | _ => False
    | _ => False
  | _ => False
def aMake (Te : TI) (a b : AV) (l : Loc) (m : Mem) (K : KS) : Prop :=
  match a, b with
  | .int _ n, .int _ n' => (0 ≤ n ∧ n ≤ 281474976710656 ∧ Te.bytes * n ≤ 281474976710656) ∧ n' = n ∧ 0 < Te.size ∧ K (.sl (.hp m.hp.length) 0 n.toNat n.toNat) l (m.push ⟨List.replicate n.toNat Te.zero, Te.size⟩)
  | _, _ => False
def aLen (C : Cx) (ty : TypeId) (x : AV) (l : Loc) (m : Mem) (K : KS) : Prop :=
  match kd C ty with
  | some (.sl _) => match x with
    | .sl _ _ n _ => K (.int .i64 n) l m
    | .nils => K (.int .i64 0) l m
    | .emp _ => K (.int .i64 0) l m
    | _ => False
  | some .str => match x with
    | .str s => K (.int .i64 s.size) l m
    | _ => False
  | some (.arr n _) => K (.int .i64 n) l m
  | _ => False
def aApp (C : Cx) (ty ty' : TypeId) (s x : AV) (l : Loc) (m : Mem) (K : KS) : Prop :=
  match elm C ty with
  | some Te => 0 < Te.size ∧
    if ty' = ty then match sliceRows l m x with
      | some xs => (xs.all fun r => r.length == Te.size && r.all AV.pub1) = true ∧ aAppend Te s xs l m K
      | none => False
    else kd C ty' = some .str ∧ Te.kind = .int .u8 ∧ Te.size = 1 ∧ match x with
      | .str q => aAppend Te s (bytesRows q) l m K
      | _ => False
  | none => False
def aCall (C : Cx) (c : Call) (args : List AV) (l : Loc) (m : Mem) (K : KS) (KP : Value → Mem → Prop) : Prop :=
  match c.callee with
  | .value (.func f) => args.all AV.pub = true ∧ Sim C.P f args m (callK K l KP)
  | .builtin .len => match args, c.argTypes.toList with
    | [x], [ty] => aLen C ty x l m K
    | _, _ => False
  | .builtin .append => match args, c.argTypes.toList with
    | [s, x], [ty, ty'] => aApp C ty ty' s x l m K
    | _, _ => False
  | _ => False
def aBuildSlice (C : Cx) (priv : Bool) (id : Nat) (ty : TypeId) (n : Nat) (ps : List (Nat × AV)) (l : Loc) (m : Mem) (K : KS) : Prop :=
  match elm C ty with
  | some Te => n * Te.size ≤ 16777216 ∧ 0 < Te.size ∧ ps.map Prod.fst = List.range n ∧ (ps.all fun p => p.2.cells.length == Te.size && p.2.cells.all AV.pub1) = true ∧
      newBlk priv id ⟨ps.map fun p => p.2.cells, Te.size⟩ (fun a => .sl a 0 n n) l m K
  | none => False
/-- A variable of a type that the context leaves out: what lies there is known exactly. -/
def aGho (P : Program) (ty : TypeId) (l : Loc) (m : Mem) (K : KS) : Prop :=
  ∃ i z, P.info? ty = some i ∧ i.zero = some z ∧ K (.ptr (.hp m.hp.length) 0 0) l ((m.push ⟨[], i.size⟩).wg ⟨[m.hp.length], fun os => ∃ b, os = [(b, .cells z.cells ty (0, 0))]⟩)
def aOp (C : Cx) (id : Nat) (o : Oper) (t : Nat → AV) (l : Loc) (m : Mem) (K : KS) (KP : Value → Mem → Prop) : Prop :=
  match o.op with
  | .move x => K (eA m t x) l m
  | .assign x => K (eA m t x) l m
  | .pick c a b => match eA m t c with
    | .bool q => (q = true → K (eA m t a) l m) ∧ (q = false → K (eA m t b) l m)
    | _ => False
  | .box _ x => (eA m t x).cells.all AV.pub1 = true ∧ newBlk (!isOdd C o.dst) id ⟨[(eA m t x).cells], (eA m t x).cells.length⟩ (fun a => .ptr a 0 0) l m K
  | .alloc ty => match C.T ty with
    | some T => newBlk (!isOdd C o.dst) id ⟨[T.zero], T.size⟩ (fun a => .ptr a 0 0) l m K
    | none => aGho C.P ty l m K
  | .build ty ps => match C.T ty with
    | some T => match lay (places C T.kind) T.zero (ps.toList.map fun p => (p.1, eA m t p.2)) with
      | some cs => T.agg = true ∧ K (.agg cs) l m
      | none => False
    | none => False
  | .buildSlice ty n ps => aBuildSlice C (isOdd C o.dst) id ty n (ps.toList.map fun p => (p.1, eA m t p.2)) l m K
  | .load ty x => match C.T ty with
    | some T => aLoad T (eA m t x) l m K
    | none => False
  | .store ty x y => match C.T ty with
    | some T => aStore T (eA m t x) (eA m t y) l m K
    | none => False
  | .nilCheck x => match eA m t x with
    | .ptr a i o' => K (.ptr a i o') l m
    | _ => False
  | .binOp op ty x y _ => aBinK C ty op (eA m t x) (eA m t y) l m K
  | .unOp op _ x => match aUn op (eA m t x) with
    | some v => K v l m
    | none => False
  | .convert s d x => aConv C s d (eA m t x) l m K
  | .slice ty x lo hi none => aSlice C ty (eA m t x) ((lo.map (eA m t)).getD (.int .i64 0)) (hi.map (eA m t)) l m K
  | .fieldAddr s x f => match fld C s f, eA m t x with
    | some p, .ptr a i o' => p.2.size ≠ 0 ∧ K (.ptr a i (o' + p.1)) l m
    | _, _ => False
  | .field s x f => match fld C s f, eA m t x with
    | some p, .agg cs => match part? p.2 cs p.1 with
      | some v => K v l m
      | none => False
    | _, _ => False
  | .indexAddr ty x ix => aIndexAddr C ty (eA m t x) (eA m t ix) l m K
  | .index ty x ix => aIndex C ty (eA m t x) (eA m t ix) l m K
  | .extract x k => match eA m t x with
    | .tup vs => match vs[k]? with
      | some v => K v l m
      | none => False
    | _ => False
  | .makeSlice ty a b => match elm C ty with
    | some Te => aMake Te (eA m t a) (eA m t b) l m K
    | none => False
  | .makeInterface ty x => match eA m t x with
    | .agg [] => kd C ty = some (.st []) ∧ K (.raw (.iface ty (.agg #[]))) l m
    | _ => False
  | .panic x => match eA m t x with
    | .raw (.iface ty v) => KP (.iface ty v) m
    | _ => False
  | .call c => aCall C c (c.args.toList.map (eA m t)) l m K KP
  | _ => False
/-- Behind an operation: its temporary is set. -/
def Ks (next : Nat → St → Mem → Prop) (i : Nat) (d : Option Tmp) (st : St) : KS := fun v l m => next (i + 1) ⟨putT st.t d v, l, st.c⟩ m
def noA : AV := .tup []
def gval (ops : Array Oper) (t : Nat → AV) (j : Nat) : Option (Nat × AV) := (ops[j]?).bind fun o => o.dst.map fun d => (d, t d)
/-- One operation with its guard. -/
def aStep (C : Cx) (ops : Array Oper) (o : Oper) (i : Nat) (st : St) (m : Mem) (next : Nat → St → Mem → Prop) (KP : Value → Mem → Prop) : Prop :=
  match o.guard with
  | none => aOp C (st.c + i) o st.t st.l m (Ks next i o.dst st) KP
  | some (j, b) =>
    match gval ops st.t j with
    | some (d, .bool t) => (t = b → aOp C (st.c + i) o (upd st.t d (.bool b)) st.l m (Ks next i o.dst ⟨upd st.t d (.bool b), st.l, st.c⟩) KP) ∧
        (t = !b → next (i + 1) ⟨putT (upd st.t d (.bool !b)) o.dst noA, st.l, st.c⟩ m)
    | some (_, .tup _) => next (i + 1) ⟨putT st.t o.dst noA, st.l, st.c⟩ m
    | _ => False
def aOps (C : Cx) (ops : Array Oper) (KN : St → Mem → Prop) (KP : Value → Mem → Prop) : List Oper → Nat → St → Mem → Prop
  | [], i, st, m => KN ⟨st.t, st.l, st.c + i⟩ m
  | o :: rest, i, st, m => aStep C ops o i st m (aOps C ops KN KP rest) KP
def aRounds (B : (St → Mem → Prop) → St → Mem → Prop) : Nat → St → Mem → Prop
  | 0, _, _ => False
  | n + 1, st, m => B (aRounds B n) st m
def aExit (id : Nat) (KN : St → Mem → Prop) (KX : Nat → St → Mem → Prop) : Nat → St → Mem → Prop := fun j => if j = id then KN else KX j
end Go.Proofs.IM
