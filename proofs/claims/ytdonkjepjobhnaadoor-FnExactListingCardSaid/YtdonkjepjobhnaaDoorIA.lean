/- An abstract machine for the given code: abstract values, abstract memory, and what each operation does to them. Definitions alone; no condition. -/
import Derived.WalkKit
import Derived.OrdersHeld
namespace Go.Proofs.IM
open Go
set_option linter.unusedVariables false
/-- Whose memory: read alone (it came in), the call's own heap rows, or a variable that the running function alone sees. -/
inductive AA where
  | ro (j : Nat) | hp (j : Nat) | lc (j : Nat)
inductive AV where
  | int (k : IntKind) (n : Int)
  | bool (b : Bool)
  | str (s : ByteArray)
  | flt (n : Nat)
  | ptr (a : AA) (i o : Nat)
  | nilp
  | sl (a : AA) (i n c : Nat)
  | nils
  | emp (a : Addr)
  | agg (cs : List AV)
  | tup (vs : List AV)
  | raw (v : Value)
  | undef
def AV.cells : AV → List AV
  | .agg cs => cs
  | v => [v]
/-- One cell's value that holds no address of a private variable. -/
def AV.pub1 : AV → Bool
  | .int .. | .bool _ | .str _ | .flt _ | .nilp | .nils | .emp _ => true
  | .ptr (.ro _) .. | .ptr (.hp _) .. | .sl (.ro _) .. | .sl (.hp _) .. => true
  | _ => false
def AV.pub2 : AV → Bool
  | .agg cs => cs.all AV.pub1
  | v => v.pub1
def AV.free : AV → Bool
  | .undef => true
  | .raw _ => true
  | _ => false
def AV.pub3 (v : AV) : Bool := v.pub2 || v.free
def AV.pub : AV → Bool
  | .tup vs => vs.all AV.pub3
  | v => v.pub2
structure Blk where
  rows : List (List AV)
  sz : Nat
/-- Rows of one's own of which the machine itself knows nothing, and what is known of the blocks in which they lie. -/
structure Gho where
  rows : List Nat
  pr : List (Nat × Obj) → Prop
def Gho.none : Gho := ⟨[], fun _ => True⟩
/-- What the package variables' addresses are, what is known of the world as it was at first, and of rows that are exactly so. -/
structure Gl where
  f : Nat → AV
  fact : World → Prop
  gst : Gho
instance : CoeFun Gl (fun _ => Nat → AV) := ⟨Gl.f⟩
structure Mem where
  ro : Nat → Option Blk
  gl : Gl
  hp : List Blk
def Mem.wg (m : Mem) (g : Gho) : Mem := { m with gl := { m.gl with gst := g } }
abbrev Loc := Nat → Option Blk
structure St where
  t : Nat → AV
  l : Loc
  c : Nat
def upd {α : Type} (f : Nat → α) (d : Nat) (v : α) : Nat → α := fun t => if t = d then v else f t
def putT (t : Nat → AV) (d : Option Nat) (v : AV) : Nat → AV :=
  match d with
  | some d => upd t d v
  | none => t
/-- What is known of a type. -/
inductive TK where
  | st (fs : List (Nat × TypeId)) | arr (n : Nat) (e : TypeId) | sl (e : TypeId) | int (k : IntKind) | flt | str | ptr | bo | one
structure TI where
  kind : TK
  size : Nat
  bytes : Nat
  zero : List AV
def TI.agg (T : TI) : Bool := match T.kind with | .st _ | .arr _ _ => true | _ => false
/-- The constants of the code. -/
def of1 : Value → AV
  | .int k n => .int k n
  | .bool b => .bool b
  | .string s => .str s
  | .float .f64 b => .flt b
  | .pointer none => .nilp
  | .slice none 0 0 => .nils
  | _ => .undef
def ofV : Value → AV
  | .agg cs => .agg (cs.toList.map of1)
  | v => of1 v
structure Cx where
  P : Program
  T : TypeId → Option TI
  /-- the temporaries whose new memory is not as by default (variables: private; slices: heap) -/
  odd : List Nat
def eA (m : Mem) (t : Nat → AV) : Operand → AV
  | .tmp n => t n
  | .const v => ofV v
  | .global g => m.gl g
  | .func _ => .undef
def blk? (l : Loc) (m : Mem) (a : AA) : Option Blk :=
  match a with
  | .ro j => m.ro j
  | .hp j => m.hp[j]?
  | .lc j => l j
def row? (l : Loc) (m : Mem) (a : AA) (i : Nat) : Option (List AV) := (blk? l m a).bind (·.rows[i]?)
/-- The rows i .. i + n - 1. -/
def rows? (l : Loc) (m : Mem) (a : AA) (i n : Nat) : Option (List (List AV)) :=
  (blk? l m a).bind fun B => if i + n ≤ B.rows.length then some ((B.rows.drop i).take n) else none
def splice {α : Type} (r : List α) (o : Nat) (cs : List α) : List α := r.take o ++ cs ++ r.drop (o + cs.length)
def Mem.push (m : Mem) (B : Blk) : Mem := { m with hp := m.hp ++ [B] }
def setBlk (l : Loc) (m : Mem) (a : AA) (B : Blk) : Option (Loc × Mem) :=
  match a with
  | .ro _ => none
  | .hp j => some (l, { m with hp := m.hp.set j B })
  | .lc j => some (upd l j (some B), m)
/-- The answer of a call. -/
inductive AR where
  | ret (v : AV) | pan (v : Value)
def bti (s : ByteArray) (i : Int) : Int := if h : i.toNat < s.size then ((s[i.toNat]'h).toNat : Int) else 0
/-- Comparisons and sums of scalars. -/
def aBin (op : BinOp) (x y : AV) : Option AV :=
  match x, y with
  | .int k a, .int k' b =>
    match op with
    | .shl => if 0 ≤ b then some (.int k (k.wrap (a * 2 ^ (min b.toNat k.bits)))) else none
    | .shr => if 0 ≤ b then some (.int k (a.fdiv (2 ^ (min b.toNat k.bits)))) else none
    | .add => if k = k' then some (.int k (k.wrap (a + b))) else none
    | .sub => if k = k' then some (.int k (k.wrap (a - b))) else none
    | .mul => if k = k' then some (.int k (k.wrap (a * b))) else none
    | .quo => if k = k' ∧ b ≠ 0 then some (.int k (k.wrap (a.tdiv b))) else none
    | .rem => if k = k' ∧ b ≠ 0 then some (.int k (a.tmod b)) else none
    | .and => if k = k' then some (.int k (k.wrap (BitVec.ofInt k.bits a &&& BitVec.ofInt k.bits b).toNat)) else none
    | .or => if k = k' then some (.int k (k.wrap (BitVec.ofInt k.bits a ||| BitVec.ofInt k.bits b).toNat)) else none
    | .xor => if k = k' then some (.int k (k.wrap (BitVec.ofInt k.bits a ^^^ BitVec.ofInt k.bits b).toNat)) else none
    | .andNot => if k = k' then some (.int k (k.wrap (BitVec.ofInt k.bits a &&& ~~~ BitVec.ofInt k.bits b).toNat)) else none
    | .eql => if k = k' then some (.bool (a == b)) else none
    | .neq => if k = k' then some (.bool (a != b)) else none
    | .lss => if k = k' then some (.bool (decide (a < b))) else none
    | .leq => if k = k' then some (.bool (decide (a ≤ b))) else none
    | .gtr => if k = k' then some (.bool (decide (b < a))) else none
    | .geq => if k = k' then some (.bool (decide (b ≤ a))) else none
  | .flt a, .flt b =>
    match op with
    | .eql => some (.bool (FloatKind.f64.format.order a b == some .eq))
    | .neq => some (.bool (FloatKind.f64.format.order a b != some .eq))
    | .lss => some (.bool (FloatKind.f64.format.order a b == some .lt))
    | .leq => some (.bool (FloatKind.f64.format.order a b == some .lt || FloatKind.f64.format.order a b == some .eq))
    | .gtr => some (.bool (FloatKind.f64.format.order a b == some .gt))
    | .geq => some (.bool (FloatKind.f64.format.order a b == some .gt || FloatKind.f64.format.order a b == some .eq))
    | _ => none
  | .str a, .str b =>
    match op with
    | .add => if a.size + b.size ≤ 9223372036854775807 then some (.str (a ++ b)) else none
    | .eql => some (.bool (a.toList == b.toList))
    | .neq => some (.bool (!(a.toList == b.toList)))
    | .lss => some (.bool (Op.bytesLess a.toList b.toList))
    | .gtr => some (.bool (!(Op.bytesLess a.toList b.toList || a.toList == b.toList)))
    | _ => none
  | _, _ => none
/-- Sums of floats: the word, or none: a NaN, whichever. -/
def aFlt (op : BinOp) (a b : Nat) : Option (Option Nat) :=
  match op with
  | .add => some (FloatKind.f64.format.add a b)
  | .sub => some (FloatKind.f64.format.sub a b)
  | .mul => some (FloatKind.f64.format.mul a b)
  | .quo => some (FloatKind.f64.format.div a b)
  | _ => none
def aUn (op : UnOp) (x : AV) : Option AV :=
  match op, x with
  | .neg, .int k n => some (.int k (k.wrap (0 - n)))
  | .xor, .int k n => some (.int k (k.wrap (BitVec.ofInt k.bits (if k.signed then -1 else k.max) ^^^ BitVec.ofInt k.bits n).toNat))
  | .neg, .flt b => some (.flt (Op.negFloat .f64 b))
  | .not, .bool b => some (.bool (!b))
  | _, _ => none
/-- Parts laid over cells, as 'fill' lays them. -/
def lay (place : Nat → Option (Nat × Nat)) : List AV → List (Nat × AV) → Option (List AV)
  | cs, [] => some cs
  | cs, (i, v) :: r =>
    match place i with
    | some (o, n) => if v.cells.length = n ∧ o + n ≤ cs.length ∧ v.cells.all AV.pub1 = true then lay place (splice cs o v.cells) r else none
    | none => none
def bytes? : List (List AV) → Option (List UInt8)
  | [] => some []
  | [.int .u8 n] :: r => (bytes? r).map (UInt8.ofNat n.toNat :: ·)
  | _ => none
end Go.Proofs.IM
