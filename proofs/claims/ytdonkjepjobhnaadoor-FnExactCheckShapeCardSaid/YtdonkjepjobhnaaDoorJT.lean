/- From what reads as data to the abstract machine's memory: what comes in lies in rows that are read alone. -/
import Derived.Test.YtdonkjepjobhnaaDoorJS
import Derived.ProofKit
import Derived.OpenShut
import Derived.Deep.Slices
import Derived.Deep.Fields
import Derived.Shelf.Abstract
namespace Go.Proofs.IM
open Go Go.RowKit Go.ChangeShapes Go.WideShapes Go.Deep
set_option linter.unusedVariables false
/-- Whatever reads as data of type t has z cells, and these are what R says of some a that is good. -/
def Opn {α : Type} (P : Program) (t : TypeId) (z : Nat) (R : World → α → List Value → Prop) (G : α → Prop) (D : α → (H : Type) → DataW H → Prop) : Prop :=
  P.cellsOf t = z ∧ ∀ {H : Type} {enc : TypeId × Value → H} {w : World} {base : Nat} {held : Bool} {fuel : Nat} {cs : List Value} {x : DataW H × List MemPlace},
    DataW.trod enc P w base (fun _ => true) held fuel t cs = some x → cs.length = z ∧ ∃ a, R w a cs ∧ G a ∧ D a H x.1
def anyD {α : Type} : α → (H : Type) → DataW H → Prop := fun _ _ _ => True
section
variable {P : Program} {t e : TypeId}
theorem opn_i64 (ht : P.underlying t = some (.int .i64)) (hz : P.cellsOf t = 1) : Opn P t 1 (fun _ (n : Int) cs => cs = [.int .i64 n]) i64 (fun n H d => d = .lit (.int .i64 n)) := by
  refine ⟨hz, fun {H enc w base held fuel cs x} h => ?_⟩
  obtain ⟨n, rfl, h2, hw⟩ := DataW.trod_int ht h
  refine ⟨rfl, n, rfl, by simpa [Lit.wf, IntKind.min, IntKind.max, IntKind.signed, IntKind.bits] using hw, by rw [h2]⟩
theorem opn_u8 (ht : P.underlying t = some (.int .u8)) (hz : P.cellsOf t = 1) : Opn P t 1 (fun _ (n : Int) cs => cs = [.int .u8 n]) (fun n => 0 ≤ n ∧ n ≤ 255) (fun n H d => d = .lit (.int .u8 n)) := by
  refine ⟨hz, fun {H enc w base held fuel cs x} h => ?_⟩
  obtain ⟨n, rfl, h2, hw⟩ := DataW.trod_int ht h
  refine ⟨rfl, n, rfl, by simpa [Lit.wf, IntKind.min, IntKind.max, IntKind.signed, IntKind.bits] using hw, by rw [h2]⟩
theorem opn_bool (ht : P.underlying t = some .bool) (hz : P.cellsOf t = 1) : Opn P t 1 (fun _ (b : Bool) cs => cs = [.bool b]) (fun _ => True) anyD := by
  refine ⟨hz, fun {H enc w base held fuel cs x} h => ?_⟩
  obtain ⟨b, rfl, _⟩ := DataW.trod_bool ht h
  exact ⟨rfl, b, rfl, trivial, trivial⟩
theorem opn_str (ht : P.underlying t = some .string) (hz : P.cellsOf t = 1) : Opn P t 1 (fun _ (s : ByteArray) cs => cs = [.string s]) (fun s => s.size ≤ 9223372036854775807) anyD := by
  refine ⟨hz, fun {H enc w base held fuel cs x} h => ?_⟩
  obtain ⟨s, rfl, _, hs⟩ := DataW.trod_string ht h
  exact ⟨rfl, s, rfl, hs, trivial⟩
theorem opn_flt (ht : P.underlying t = some (.float .f64)) (hz : P.cellsOf t = 1) : Opn P t 1 (fun _ (b : Nat) cs => cs = [.float .f64 b]) (fun b => b < 18446744073709551616) anyD := by
  refine ⟨hz, fun {H enc w base held fuel cs x} h => ?_⟩
  cases fuel with
  | zero => simp [DataW.trod] at h
  | succ n =>
    unfold DataW.trod at h
    rw [ht] at h
    split at h <;> simp_all
    rename_i k1 k2 b1 e1
    subst e1
    exact ⟨by simpa [Lit.wf] using h.1.2, trivial⟩
/-- A slice's one cell, and what it reads as. -/
def RdSl {α : Type} (z : Nat) (R : World → α → List Value → Prop) (w : World) (xs : List α) (v : Value) : Prop :=
  (xs = [] ∧ (v = .slice none 0 0 ∨ ∃ a, v = .slice (some a) 0 0)) ∨
  ∃ b f c, v = .slice (some ⟨b, f, none⟩) xs.length c ∧ b < w.heap.size ∧ ∀ (j : Nat) (p : α), xs[j]? = some p → ∃ c', c'.length = z ∧ R w p c' ∧ ∀ (i : Nat) (u : Value), c'[i]? = some u → w.cell? ⟨b, f + j * z + i, none⟩ = some u
theorem opn_slice {α : Type} {z : Nat} {R : World → α → List Value → Prop} {G : α → Prop} {D : α → (H : Type) → DataW H → Prop} (ht : P.underlying t = some (.slice e)) (hc : P.cellsOf t = 1) (hz : 0 < z) (he : Opn P e z R G D) :
    Opn P t 1 (fun w xs cs => ∃ v, cs = [v] ∧ RdSl z R w xs v) (fun xs => xs.length ≤ 9223372036854775807 ∧ ∀ x ∈ xs, G x)
      (fun xs H d => ∀ (es spare : List (DataW H)), d = .slice es spare → es.length = xs.length ∧ ∀ (j : Nat) (x : α) (y : DataW H), xs[j]? = some x → es[j]? = some y → D x H y) := by
  refine ⟨hc, fun {H enc w base held fuel cs x} h => ?_⟩
  obtain ⟨hez, he⟩ := he
  rcases open_slice ht h with ⟨rfl, rfl⟩ | ⟨a, len, cap, m, n, Dt, Pl, rfl, hb, hl, hm, hmm, rfl, hi⟩
  · exact ⟨rfl, [], ⟨_, rfl, .inl ⟨rfl, .inl rfl⟩⟩, ⟨by simp, fun x hx => by simp at hx⟩, fun es spare h => by cases h⟩
  · simp only [if_true] at hmm
    subst hmm
    simp only [maxLen] at hm
    by_cases h0 : m = 0
    · have hl0 : len = 0 := by omega
      subst h0 hl0
      refine ⟨rfl, [], ⟨_, rfl, .inl ⟨rfl, .inr ⟨a, rfl⟩⟩⟩, ⟨by simp, fun x hx => by simp at hx⟩, fun es spare h => ?_⟩
      simp only [DataW.slice.injEq] at h
      obtain ⟨rfl, -⟩ := h
      exact ⟨rfl, fun j x y hx => by simp at hx⟩
    · obtain ⟨cs0, hc0, -⟩ := hi 0 (by omega)
      obtain ⟨-, hl0, hat0⟩ := World.cells?_some hc0
      have hcell : ∃ u, w.cell? a = some u := by
        have h1 := hat0 0 (by omega)
        simp only [Nat.zero_mul, Addr.add, if_true] at h1
        rw [h1]
        exact ⟨cs0[0]'(by omega), by simp⟩
      have hsp : a.spot = none ∧ a.block < w.heap.size := by
        obtain ⟨u, hu⟩ := hcell
        unfold World.cell? at hu
        split at hu
        · rename_i c ty fr hb'
          split at hu
          · cases hu
          · rename_i hs
            refine ⟨by simpa using hs, (Array.getElem?_eq_some_iff.1 hb').1⟩
        · cases hu
      obtain ⟨b, f, sp⟩ := a
      obtain ⟨rfl, hbl⟩ := hsp
      have add_ : ∀ f n, Addr.add ⟨b, f, none⟩ n = ⟨b, f + n, none⟩ := by
        intro f n
        unfold Addr.add
        split
        · rename_i e0; subst e0; rfl
        · rfl
      have key : ∀ l, l ≤ len → ∃ xs : List α, xs.length = l ∧ (∀ x ∈ xs, G x) ∧ (∀ (j : Nat) (p : α), xs[j]? = some p → D p H (Dt j) ∧ ∃ c', c'.length = z ∧ R w p c' ∧ ∀ (i : Nat) (u : Value), c'[i]? = some u → w.cell? ⟨b, f + j * z + i, none⟩ = some u) := by
        intro l
        induction l with
        | zero => exact fun _ => ⟨[], rfl, fun x hx => by simp at hx, fun j p hj => by simp at hj⟩
        | succ l ih =>
          intro hl'
          obtain ⟨xs, h1, h2, h3⟩ := ih (by omega)
          obtain ⟨cs', hc', ht'⟩ := hi l (by omega)
          obtain ⟨q1, q, hR, hG, hD⟩ := he ht'
          obtain ⟨-, hcl, hat⟩ := World.cells?_some hc'
          refine ⟨xs ++ [q], by simp [h1], fun x hx => ?_, fun j p hj => ?_⟩
          · rcases List.mem_append.1 hx with hx | hx
            · exact h2 x hx
            · rw [List.mem_singleton.1 hx]; exact hG
          · rcases Nat.lt_or_ge j xs.length with hlt | hge
            · rw [List.getElem?_append_left hlt] at hj
              exact h3 j p hj
            · rw [List.getElem?_append_right hge] at hj
              have hj0 : j - xs.length = 0 := by
                rcases Nat.eq_zero_or_pos (j - xs.length) with h0 | h0
                · exact h0
                · rw [List.getElem?_eq_none (by simp; omega)] at hj; cases hj
              rw [hj0] at hj
              simp only [List.getElem?_cons_zero, Option.some.injEq] at hj
              subst hj
              obtain rfl : j = l := by omega
              refine ⟨hD, cs', q1, hR, fun i u hu => ?_⟩
              have hilt : i < P.cellsOf e := by
                rcases Nat.lt_or_ge i cs'.length with h0 | h0
                · omega
                · rw [List.getElem?_eq_none h0] at hu; cases hu
              have := hat i hilt
              rw [add_, add_, hu, hez] at this
              exact this
      obtain ⟨xs, h1, h2, h3⟩ := key len (Nat.le_refl _)
      refine ⟨rfl, xs, ⟨_, rfl, .inr ⟨b, f, m, by rw [h1], hbl, fun j p hj => (h3 j p hj).2⟩⟩, ⟨by omega, h2⟩, fun es spare hs => ?_⟩
      simp only [DataW.slice.injEq] at hs
      obtain ⟨rfl, -⟩ := hs
      refine ⟨by simp [h1], fun j x y hx hy => ?_⟩
      have hjl : j < len := by have := (List.getElem?_eq_some_iff.1 hx).1; omega
      rw [List.getElem?_map, List.getElem?_range hjl] at hy
      simp only [Option.map_some, Option.some.injEq] at hy
      subst hy
      exact (h3 j x hx).1
/-- A field of a struct that reads as data. -/
theorem fld_opn {α : Type} {z : Nat} {R : World → α → List Value → Prop} {G : α → Prop} {D : α → (H : Type) → DataW H → Prop} {H : Type} {enc : TypeId × Value → H} {w : World} {base : Nat} {held : Bool} {n : Nat} {cs : List Value} {ys : List (DataW H × List MemPlace)} {fs : Array Field}
    (hyl : ys.length = fs.size) (hf : ∀ (i : Nat) (f : Field), fs[i]? = some f → DataW.trod enc P w base (fun _ => true) held n f.type ((cs.drop f.offset).take (P.cellsOf f.type)) = ys[i]?) (i : Nat) (f : Field) (hi : fs[i]? = some f)
    (ho : Opn P f.type z R G D) : ∃ x, R w x ((cs.drop f.offset).take z) ∧ G x := by
  have h1 := hf i f hi
  have hlt : i < ys.length := by rw [hyl]; exact (Array.getElem?_eq_some_iff.1 hi).1
  rw [List.getElem?_eq_getElem hlt, ho.1] at h1
  obtain ⟨-, x, hR, hG, -⟩ := ho.2 h1
  exact ⟨x, hR, hG⟩
end
theorem take1 {cs : List Value} {o : Nat} {v : Value} (h : (cs.drop o).take 1 = [v]) : cs[o]? = some v := by
  have : ((cs.drop o).take 1)[0]? = some v := by rw [h]; rfl
  simpa using this
theorem list_ext_n {cs ds : List Value} (hl : cs.length = ds.length) (h : ∀ i, i < ds.length → cs[i]? = ds[i]?) : cs = ds := by
  apply List.ext_getElem?
  intro i
  rcases Nat.lt_or_ge i ds.length with h1 | h1
  · exact h i h1
  · rw [List.getElem?_eq_none h1, List.getElem?_eq_none (by omega)]
/-! ### the machine's memory -/
abbrev RoT := List (Nat × Nat × Blk)
/-- The rows of the table lie where it says. -/
def ROk (E : Env) (m : Mem) (L : RoT) : Prop := ∀ (j b f : Nat) (B : Blk), L[j]? = some (b, f, B) → E.r j = some (b, f, B.sz) ∧ m.ro j = some B
theorem ROk.pre {E : Env} {m : Mem} {L X : RoT} (h : ROk E m (L ++ X)) : ROk E m L := fun j b f B hj => h j b f B (by
  have := (List.getElem?_eq_some_iff.1 hj).1
  rw [List.getElem?_append_left this]; exact hj)
def EntOk (w : World) (L X : RoT) : Prop := ∀ (E : Env) (m : Mem), ROk E m L → ∀ q ∈ X, q.1 < w.heap.size ∧ CR E q.2.2.rows q.2.2.sz (fun k => w.cell? ⟨q.1, q.2.1 + k, none⟩)
theorem EntOk.nil {w : World} {L : RoT} : EntOk w L [] := fun _ _ _ q hq => by cases hq
theorem EntOk.more {w : World} {L X Y : RoT} (h : EntOk w L X) : EntOk w (L ++ Y) X := fun E m hr => h E m hr.pre
theorem EntOk.app {w : World} {L X Y : RoT} (h : EntOk w L X) (k : EntOk w L Y) : EntOk w L (X ++ Y) := fun E m hr q hq => (List.mem_append.1 hq).elim (h E m hr q) (k E m hr q)
section
variable {α : Type} {z : Nat} {w : World}
/-- A slice whose elements hold scalars. -/
theorem flat_slice {vals : α → List Value} {av : α → List AV} (hav : ∀ x, (av x).length = z ∧ ∀ (E : Env) (i : Nat) (c : AV), (av x)[i]? = some c → ∃ v, (vals x)[i]? = some v ∧ VC E c v) {xs : List α} {v : Value}
    (h : RdSl z (fun _ x cs => cs = vals x) w xs v) (L : RoT) : ∃ X s, EntOk w (L ++ X) X ∧ ∀ (E : Env) (m : Mem), ROk E m (L ++ X) → VC E s v ∧ SlR m z s (xs.map av) := by
  rcases h with ⟨rfl, rfl | ⟨a, rfl⟩⟩ | ⟨b, f, c, rfl, hb, hx⟩
  · exact ⟨[], .nils, EntOk.nil, fun E m _ => ⟨⟨.nils, rfl⟩, rfl⟩⟩
  · exact ⟨[], .emp a, EntOk.nil, fun E m _ => ⟨⟨.emp a, rfl⟩, rfl⟩⟩
  · refine ⟨[(b, f, ⟨xs.map av, z⟩)], .sl (.ro L.length) 0 xs.length c, fun E m _ q hq => ?_, fun E m hr => ?_⟩
    · rw [List.mem_singleton] at hq
      subst hq
      refine ⟨hb, fun i row hi => ?_⟩
      rw [List.getElem?_map, Option.map_eq_some_iff] at hi
      obtain ⟨x, hxi, rfl⟩ := hi
      refine ⟨(hav x).1, fun o u ho => ?_⟩
      obtain ⟨c', _, rfl, hc⟩ := hx i x hxi
      obtain ⟨y, hy, hv⟩ := (hav x).2 E o u ho
      exact ⟨y, by have := hc o y hy; show w.cell? ⟨b, f + (i * z + o), none⟩ = some y; rw [← Nat.add_assoc]; exact this, hv⟩
    · obtain ⟨h1, h2⟩ := hr L.length b f ⟨xs.map av, z⟩ (by simp)
      refine ⟨⟨?_, rfl⟩, fun j => by simp, ⟨xs.map av, z⟩, h2, rfl, by simp, by rw [List.drop_zero]; exact List.take_of_length_le (by simp)⟩
      have := VR.sl (E := E) (L := noPl) (.ro L.length) 0 xs.length c (b, f, z) h1
      simpa [adr] using this
end
/-! ### the data of the program -/
def V.vals (v : V) : List Value := [.int .i64 v.k, .int .i64 v.n, .float .f64 v.f, .string v.s, .int .i64 v.r]
def U.vals (u : U) : List Value := [.bool u.loc, .int .i64 u.ix]
def I.vals (i : I) : List Value := [.int .i64 i.op, .int .i64 i.a, .int .i64 i.b, .int .i64 i.c, .int .i64 i.d]
def Nm.vals (n : Nm) : List Value := [.string n.s, .int .i64 n.reg, .int .i64 n.lo, .int .i64 n.hi]
theorem V.hav (v : V) : v.av.length = 5 ∧ ∀ (E : Env) (i : Nat) (c : AV), v.av[i]? = some c → ∃ x, v.vals[i]? = some x ∧ VC E c x := by
  refine ⟨rfl, fun E i c h => ?_⟩
  rcases i with _ | _ | _ | _ | _ | i <;> simp [V.av] at h <;> subst h <;> exact ⟨_, rfl, by constructor, rfl⟩
theorem U.hav (v : U) : v.av.length = 2 ∧ ∀ (E : Env) (i : Nat) (c : AV), v.av[i]? = some c → ∃ x, v.vals[i]? = some x ∧ VC E c x := by
  refine ⟨rfl, fun E i c h => ?_⟩
  rcases i with _ | _ | i <;> simp [U.av] at h <;> subst h <;> exact ⟨_, rfl, by constructor, rfl⟩
theorem I.hav (v : I) : v.av.length = 5 ∧ ∀ (E : Env) (i : Nat) (c : AV), v.av[i]? = some c → ∃ x, v.vals[i]? = some x ∧ VC E c x := by
  refine ⟨rfl, fun E i c h => ?_⟩
  rcases i with _ | _ | _ | _ | _ | i <;> simp [I.av] at h <;> subst h <;> exact ⟨_, rfl, by constructor, rfl⟩
theorem Nm.hav (v : Nm) : v.av.length = 4 ∧ ∀ (E : Env) (i : Nat) (c : AV), v.av[i]? = some c → ∃ x, v.vals[i]? = some x ∧ VC E c x := by
  refine ⟨rfl, fun E i c h => ?_⟩
  rcases i with _ | _ | _ | _ | i <;> simp [Nm.av] at h <;> subst h <;> exact ⟨_, rfl, by constructor, rfl⟩
def RdP (w : World) (p : Pr) (cs : List Value) : Prop := ∃ v1 v2 v3 v4, cs = [.string p.s, .int .i64 p.line, .int .i64 p.params, .bool p.rest, .int .i64 p.regs, v1, v2, v3, v4] ∧
  RdSl 2 (fun _ x cs => cs = U.vals x) w p.ups v1 ∧ RdSl 5 (fun _ x cs => cs = V.vals x) w p.consts v2 ∧ RdSl 5 (fun _ x cs => cs = I.vals x) w p.ins v3 ∧ RdSl 4 (fun _ x cs => cs = Nm.vals x) w p.named v4
theorem proto_row {w : World} {p : Pr} {cs : List Value} (h : RdP w p cs) (L : RoT) : ∃ X row, EntOk w (L ++ X) X ∧ ∀ (E : Env) (m : Mem), ROk E m (L ++ X) → row.length = 9 ∧ (∀ (o : Nat) (v : AV), row[o]? = some v → ∃ x, cs[o]? = some x ∧ VC E v x) ∧ PrR m row p := by
  obtain ⟨v1, v2, v3, v4, rfl, h1, h2, h3, h4⟩ := h
  obtain ⟨X1, s1, e1, k1⟩ := flat_slice U.hav h1 L
  obtain ⟨X2, s2, e2, k2⟩ := flat_slice V.hav h2 (L ++ X1)
  obtain ⟨X3, s3, e3, k3⟩ := flat_slice I.hav h3 (L ++ X1 ++ X2)
  obtain ⟨X4, s4, e4, k4⟩ := flat_slice Nm.hav h4 (L ++ X1 ++ X2 ++ X3)
  have ea : L ++ (X1 ++ X2 ++ X3 ++ X4) = L ++ X1 ++ X2 ++ X3 ++ X4 := by simp
  refine ⟨X1 ++ X2 ++ X3 ++ X4, [.str p.s, .int .i64 p.line, .int .i64 p.params, .bool p.rest, .int .i64 p.regs, s1, s2, s3, s4], ?_, fun E m hr => ?_⟩
  · rw [ea]
    exact (((e1.more.more.more).app e2.more.more).app e3.more).app e4
  · rw [ea] at hr
    obtain ⟨a1, b1⟩ := k1 E m hr.pre.pre.pre
    obtain ⟨a2, b2⟩ := k2 E m hr.pre.pre
    obtain ⟨a3, b3⟩ := k3 E m hr.pre
    obtain ⟨a4, b4⟩ := k4 E m hr
    refine ⟨rfl, fun o v ho => ?_, ⟨s1, s2, s3, s4, rfl, b1, b2, b3, b4⟩⟩
    rcases o with _ | _ | _ | _ | _ | _ | _ | _ | _ | o <;> simp at ho <;> subst ho <;> first | exact ⟨_, rfl, by assumption⟩ | exact ⟨_, rfl, by constructor, rfl⟩
theorem proto_rows {w : World} {ps : List Pr} {b f : Nat} (hx : ∀ (j : Nat) (p : Pr), ps[j]? = some p → ∃ c', c'.length = 9 ∧ RdP w p c' ∧ ∀ (i : Nat) (u : Value), c'[i]? = some u → w.cell? ⟨b, f + j * 9 + i, none⟩ = some u) (L : RoT) :
    ∀ l, l ≤ ps.length → ∃ (X : RoT) (rows : List (List AV)), EntOk w (L ++ X) X ∧ rows.length = l ∧ ∀ (E : Env) (m : Mem), ROk E m (L ++ X) → ∀ (i : Nat) (row : List AV), rows[i]? = some row → row.length = 9 ∧
      (∀ (o : Nat) (v : AV), row[o]? = some v → ∃ x, w.cell? ⟨b, f + (i * 9 + o), none⟩ = some x ∧ VC E v x) ∧ ∀ p, ps[i]? = some p → PrR m row p := by
  intro l
  induction l with
  | zero => exact fun _ => ⟨[], [], EntOk.nil, rfl, fun E m _ i row h => by simp at h⟩
  | succ l ih =>
    intro hl
    obtain ⟨X, rows, e1, h1, k1⟩ := ih (by omega)
    obtain ⟨c', c1, c2, c3⟩ := hx l ps[l] (by simp)
    obtain ⟨Y, row, e2, k2⟩ := proto_row c2 (L ++ X)
    have ea : L ++ (X ++ Y) = L ++ X ++ Y := by simp
    refine ⟨X ++ Y, rows ++ [row], by rw [ea]; exact e1.more.app e2, by simp [h1], fun E m hr i row' hi => ?_⟩
    rw [ea] at hr
    rcases Nat.lt_or_ge i rows.length with hlt | hge
    · rw [List.getElem?_append_left hlt] at hi
      exact k1 E m hr.pre i row' hi
    · rw [List.getElem?_append_right hge] at hi
      have hj0 : i - rows.length = 0 := by
        rcases Nat.eq_zero_or_pos (i - rows.length) with h0 | h0
        · exact h0
        · rw [List.getElem?_eq_none (by simp; omega)] at hi; cases hi
      rw [hj0] at hi
      simp only [List.getElem?_cons_zero, Option.some.injEq] at hi
      subst hi
      obtain rfl : i = l := by omega
      obtain ⟨r1, r2, r3⟩ := k2 E m hr
      refine ⟨r1, fun o v ho => ?_, fun p hp => ?_⟩
      · obtain ⟨x, hxo, hv⟩ := r2 o v ho
        exact ⟨x, by rw [← Nat.add_assoc]; exact c3 o x hxo, hv⟩
      · rw [List.getElem?_eq_getElem (by omega)] at hp
        cases hp
        exact r3
theorem code_slice {w : World} {ps : List Pr} {v : Value} (h : RdSl 9 RdP w ps v) (L : RoT) : ∃ X s, EntOk w (L ++ X) X ∧ ∀ (E : Env) (m : Mem), ROk E m (L ++ X) → VC E s v ∧ PsR m s ps := by
  rcases h with ⟨rfl, rfl | ⟨a, rfl⟩⟩ | ⟨b, f, c, rfl, hb, hx⟩
  · exact ⟨[], .nils, EntOk.nil, fun E m _ => ⟨⟨.nils, rfl⟩, [], rfl, rfl, fun i r p h => by simp at h⟩⟩
  · exact ⟨[], .emp a, EntOk.nil, fun E m _ => ⟨⟨.emp a, rfl⟩, [], rfl, rfl, fun i r p h => by simp at h⟩⟩
  · obtain ⟨X, rows, e1, h1, k1⟩ := proto_rows hx L ps.length (Nat.le_refl _)
    have ea : L ++ (X ++ [(b, f, (⟨rows, 9⟩ : Blk))]) = L ++ X ++ [(b, f, ⟨rows, 9⟩)] := by simp
    refine ⟨X ++ [(b, f, ⟨rows, 9⟩)], .sl (.ro (L ++ X).length) 0 ps.length c, ?_, fun E m hr => ?_⟩
    · rw [ea]
      refine e1.more.app fun E m hr q hq => ?_
      rw [List.mem_singleton] at hq
      subst hq
      exact ⟨hb, fun i row hi => let ⟨r1, r2, _⟩ := k1 E m hr.pre i row hi; ⟨r1, r2⟩⟩
    · rw [ea] at hr
      obtain ⟨g1, g2⟩ := hr (L ++ X).length b f ⟨rows, 9⟩ (by simp)
      refine ⟨⟨?_, rfl⟩, rows, ⟨fun j => by simp, ⟨rows, 9⟩, g2, rfl, by simp [h1], by simp [← h1]⟩, h1, fun i r p hr' hp' => (k1 E m hr.pre i r hr').2.2 p hp'⟩
      have := VR.sl (E := E) (L := noPl) (.ro (L ++ X).length) 0 ps.length c (b, f, 9) g1
      simpa [adr] using this
/-- The forms in the package variable's one cell. -/
def rI (r : List Int) : List Value := r.map (Value.int .i64)
theorem forms_slice {w : World} {g : Nat} {v : Value} (hg : w.cell? ⟨g, 0, none⟩ = some v) (h : RdSl 4 (fun _ (r : List Int) cs => cs = rI r ∧ r.length = 4) w formsTab v) (L : RoT) :
    ∃ X j, EntOk w (L ++ X) X ∧ ∀ (E : Env) (m : Mem), ROk E m (L ++ X) → E.r j = some (g, 0, 1) ∧ (m.gl g = .ptr (.ro j) 0 0 → FormsR g m) := by
  rcases h with ⟨e, -⟩ | ⟨b, f, c, rfl, hb, hx⟩
  · simp [formsTab] at e
  · have hgl : g < w.heap.size := by
      unfold World.cell? at hg
      split at hg
      · rename_i hb'; exact (Array.getElem?_eq_some_iff.1 hb').1
      · cases hg
    have hvr : ∀ (E : Env) (m : Mem), ROk E m (L ++ [(b, f, ⟨formsTab.map fun r => r.map (AV.int .i64), 4⟩), (g, 0, ⟨[[.sl (.ro L.length) 0 formsTab.length c]], 1⟩)]) → VC E (.sl (.ro L.length) 0 formsTab.length c) (.slice (some ⟨b, f, none⟩) formsTab.length c) := by
      intro E m hr
      obtain ⟨g1, g2⟩ := hr L.length b f _ (by simp; rfl)
      have := VR.sl (E := E) (L := noPl) (.ro L.length) 0 formsTab.length c (b, f, 4) g1
      exact ⟨by simpa [adr] using this, rfl⟩
    refine ⟨[(b, f, ⟨formsTab.map fun r => r.map (AV.int .i64), 4⟩), (g, 0, ⟨[[.sl (.ro L.length) 0 formsTab.length c]], 1⟩)], L.length + 1, fun E m hr q hq => ?_, fun E m hr => ?_⟩
    · rcases List.mem_cons.1 hq with rfl | hq
      · refine ⟨hb, fun i row hi => ?_⟩
        rw [List.getElem?_map, Option.map_eq_some_iff] at hi
        obtain ⟨x, hxi, rfl⟩ := hi
        obtain ⟨c', _, ⟨rfl, hl4⟩, hc⟩ := hx i x hxi
        refine ⟨by simpa using hl4, fun o u ho => ?_⟩
        rw [List.getElem?_map, Option.map_eq_some_iff] at ho
        obtain ⟨n, hn, rfl⟩ := ho
        exact ⟨.int .i64 n, by show w.cell? ⟨b, f + (i * 4 + o), none⟩ = _; rw [← Nat.add_assoc]; exact hc o _ (by simp [rI, hn]), .int _ _, rfl⟩
      · rw [List.mem_singleton] at hq
        subst hq
        refine ⟨hgl, fun i row hi => ?_⟩
        rcases i with _ | i
        · simp at hi
          subst hi
          refine ⟨rfl, fun o u ho => ?_⟩
          rcases o with _ | o
          · simp at ho
            subst ho
            exact ⟨_, hg, hvr E m hr⟩
          · simp at ho
        · simp at hi
    · obtain ⟨g1, g2⟩ := hr (L.length + 1) g 0 _ (by rw [List.getElem?_append_right (by omega)]; simp; rfl)
      obtain ⟨f1, f2⟩ := hr L.length b f _ (by simp; rfl)
      exact ⟨g1, fun hgl => ⟨L.length + 1, _, hgl, g2, fun j => by simp, _, f2, rfl, by simp, by rw [List.drop_zero]; exact List.take_of_length_le (by simp)⟩⟩
/-- The machine's memory lies in the world in which the call begins. -/
def envOf (W : World) (L : RoT) : Env := ⟨fun _ => none, fun j => (L[j]?).map fun q => (q.1, q.2.1, q.2.2.sz), W.heap.size, W⟩
def memOf (L : RoT) (gl : Nat → AV) : Mem := ⟨fun j => (L[j]?).map fun q => q.2.2, gl, []⟩
theorem rOk_of (W : World) (L : RoT) (gl : Nat → AV) : ROk (envOf W L) (memOf L gl) L := fun j b f B h => by simp [envOf, memOf, h]
theorem mr_of {W : World} {L : RoT} (h : EntOk W L L) {gl : Nat → AV} (hgl : ∀ g, VR (envOf W L) noPl (gl g) (.pointer (some ⟨g, 0, none⟩))) : MR (envOf W L) (memOf L gl) W where
  bel := Below.refl _ _
  bsz := Nat.le_refl _
  hp j B hj := by simp [memOf] at hj
  hpd j _ := rfl
  hpb j b s hj := by simp [envOf] at hj
  inj j j' b s s' hj := by simp [envOf] at hj
  ro j B hj := by
    simp only [memOf, Option.map_eq_some_iff] at hj
    obtain ⟨q, hq, rfl⟩ := hj
    obtain ⟨k1, k2⟩ := h _ _ (rOk_of W L gl) q (List.mem_of_getElem? hq)
    exact ⟨q.1, q.2.1, by simp [envOf, hq], k1, k2⟩
  gl := hgl
/-- A function with a body, told as a call. -/
theorem Sim.calls {P : Program} {f : FuncId} {fn : Func} {c : Code} (hf : P.funcs[f]? = some fn) (hname : (fn.name == "runtime.NumGoroutine") = false) (hb : fn.body = some c) {args : List AV} {m : Mem} {K : AR → Mem → Prop} (h : Sim P f args m K)
    {E : Env} {w : World} {xs : Array Value} (hm : MR E m w) (hx : VRs E noPl args xs) : Calls P f xs w (SimEnd E w K) := by
  rcases h E w xs hm hx with ⟨-, h⟩ | ⟨r, x, h, -⟩
  · exact h
  · rw [Go.Proofs.enters_of hf hname hb] at h
    cases h
end Go.Proofs.IM
