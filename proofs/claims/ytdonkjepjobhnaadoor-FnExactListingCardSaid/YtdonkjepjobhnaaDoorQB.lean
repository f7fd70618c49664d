/- Walks and laws, joined into one text. -/
import Derived.Test.YtdonkjepjobhnaaDoorQA
import Derived.ProofKit
import Derived.OpenShut
import Derived.Deep.Slices
import Derived.Deep.Fields
import Derived.Shelf.Abstract
import Derived.Test.YtdonkjepjobhnaaDoorIT
import Derived.Test.YtdonkjepjobhnaaDoorFI
set_option linter.unusedSimpArgs false
set_option linter.unusedVariables false
set_option linter.unnecessarySimpa false
namespace Go.Proofs.IM
open Go Go.RowKit Go.ChangeShapes Go.WideShapes Go.Deep
set_option linter.unusedVariables false
/-- Whatever reads as data of type t has z cells, and these are what R says of some a that is good. -/
def Opn {α : Type} (P : Program) (t : TypeId) (z : Nat) (R : World → α → List Value → Prop) (G : α → Prop) (D : α → (H : Type) → DataW H → Prop) : Prop :=
  P.cellsOf t = z ∧ ∀ {H : Type} {enc : TypeId × Value → H} {w : World} {base : Nat} {held : Bool} {fuel : Nat} {cs : List Value} {x : DataW H × List MemPlace},
    DataW.trod enc P w base (fun _ => true) held fuel t cs = some x → cs.length = z ∧ ∃ a, R w a cs ∧ G a ∧ D a H x.1
def anyD {α : Type} : α → (H : Type) → DataW H → Prop := fun _ _ _ => True
section
variable {P : Program} {t e : TypeId}
theorem opn_i64 (ht : P.underlying t = some (.int .i64)) (hz : P.cellsOf t = 1) : Opn P t 1 (fun _ (n : Int) cs => cs = [.int .i64 n]) i64 (fun n H d => d = .lit (.int .i64 n)) := by
  refine ⟨hz, fun {H enc w base held fuel cs x} h => ?_⟩
  obtain ⟨n, rfl, h2, hw⟩ := DataW.trod_int ht h
  refine ⟨rfl, n, rfl, by simpa [Lit.wf, IntKind.min, IntKind.max, IntKind.signed, IntKind.bits] using hw, by rw [h2]⟩
theorem opn_u8 (ht : P.underlying t = some (.int .u8)) (hz : P.cellsOf t = 1) : Opn P t 1 (fun _ (n : Int) cs => cs = [.int .u8 n]) (fun n => 0 ≤ n ∧ n ≤ 255) (fun n H d => d = .lit (.int .u8 n)) := by
  refine ⟨hz, fun {H enc w base held fuel cs x} h => ?_⟩
  obtain ⟨n, rfl, h2, hw⟩ := DataW.trod_int ht h
  refine ⟨rfl, n, rfl, by simpa [Lit.wf, IntKind.min, IntKind.max, IntKind.signed, IntKind.bits] using hw, by rw [h2]⟩
theorem opn_bool (ht : P.underlying t = some .bool) (hz : P.cellsOf t = 1) : Opn P t 1 (fun _ (b : Bool) cs => cs = [.bool b]) (fun _ => True) anyD := by
  refine ⟨hz, fun {H enc w base held fuel cs x} h => ?_⟩
  obtain ⟨b, rfl, _⟩ := DataW.trod_bool ht h
  exact ⟨rfl, b, rfl, trivial, trivial⟩
theorem opn_str (ht : P.underlying t = some .string) (hz : P.cellsOf t = 1) : Opn P t 1 (fun _ (s : ByteArray) cs => cs = [.string s]) (fun s => s.size ≤ 9223372036854775807) anyD := by
  refine ⟨hz, fun {H enc w base held fuel cs x} h => ?_⟩
  obtain ⟨s, rfl, _, hs⟩ := DataW.trod_string ht h
  exact ⟨rfl, s, rfl, hs, trivial⟩
theorem opn_flt (ht : P.underlying t = some (.float .f64)) (hz : P.cellsOf t = 1) : Opn P t 1 (fun _ (b : Nat) cs => cs = [.float .f64 b]) (fun b => b < 18446744073709551616) anyD := by
  refine ⟨hz, fun {H enc w base held fuel cs x} h => ?_⟩
  cases fuel with
  | zero => simp [DataW.trod] at h
  | succ n =>
    unfold DataW.trod at h
    rw [ht] at h
    split at h <;> simp_all
    rename_i k1 k2 b1 e1
    subst e1
    exact ⟨by simpa [Lit.wf] using h.1.2, trivial⟩
/-- A slice's one cell, and what it reads as. -/
def RdSl {α : Type} (z : Nat) (R : World → α → List Value → Prop) (w : World) (xs : List α) (v : Value) : Prop :=
  (xs = [] ∧ (v = .slice none 0 0 ∨ ∃ a, v = .slice (some a) 0 0)) ∨
  ∃ b f c, v = .slice (some ⟨b, f, none⟩) xs.length c ∧ b < w.heap.size ∧ ∀ (j : Nat) (p : α), xs[j]? = some p → ∃ c', c'.length = z ∧ R w p c' ∧ ∀ (i : Nat) (u : Value), c'[i]? = some u → w.cell? ⟨b, f + j * z + i, none⟩ = some u
theorem opn_slice {α : Type} {z : Nat} {R : World → α → List Value → Prop} {G : α → Prop} {D : α → (H : Type) → DataW H → Prop} (ht : P.underlying t = some (.slice e)) (hc : P.cellsOf t = 1) (hz : 0 < z) (he : Opn P e z R G D) :
    Opn P t 1 (fun w xs cs => ∃ v, cs = [v] ∧ RdSl z R w xs v) (fun xs => xs.length ≤ 9223372036854775807 ∧ ∀ x ∈ xs, G x)
      (fun xs H d => ∀ (es spare : List (DataW H)), d = .slice es spare → es.length = xs.length ∧ ∀ (j : Nat) (x : α) (y : DataW H), xs[j]? = some x → es[j]? = some y → D x H y) := by
  refine ⟨hc, fun {H enc w base held fuel cs x} h => ?_⟩
  obtain ⟨hez, he⟩ := he
  rcases open_slice ht h with ⟨rfl, rfl⟩ | ⟨a, len, cap, m, n, Dt, Pl, rfl, hb, hl, hm, hmm, rfl, hi⟩
  · exact ⟨rfl, [], ⟨_, rfl, .inl ⟨rfl, .inl rfl⟩⟩, ⟨by simp, fun x hx => by simp at hx⟩, fun es spare h => by cases h⟩
  · simp only [if_true] at hmm
    subst hmm
    simp only [maxLen] at hm
    by_cases h0 : m = 0
    · have hl0 : len = 0 := by omega
      subst h0 hl0
      refine ⟨rfl, [], ⟨_, rfl, .inl ⟨rfl, .inr ⟨a, rfl⟩⟩⟩, ⟨by simp, fun x hx => by simp at hx⟩, fun es spare h => ?_⟩
      simp only [DataW.slice.injEq] at h
      obtain ⟨rfl, -⟩ := h
      exact ⟨rfl, fun j x y hx => by simp at hx⟩
    · obtain ⟨cs0, hc0, -⟩ := hi 0 (by omega)
      obtain ⟨-, hl0, hat0⟩ := World.cells?_some hc0
      have hcell : ∃ u, w.cell? a = some u := by
        have h1 := hat0 0 (by omega)
        simp only [Nat.zero_mul, Addr.add, if_true] at h1
        rw [h1]
        exact ⟨cs0[0]'(by omega), by simp⟩
      have hsp : a.spot = none ∧ a.block < w.heap.size := by
        obtain ⟨u, hu⟩ := hcell
        unfold World.cell? at hu
        split at hu
        · rename_i c ty fr hb'
          split at hu
          · cases hu
          · rename_i hs
            refine ⟨by simpa using hs, (Array.getElem?_eq_some_iff.1 hb').1⟩
        · cases hu
      obtain ⟨b, f, sp⟩ := a
      obtain ⟨rfl, hbl⟩ := hsp
      have add_ : ∀ f n, Addr.add ⟨b, f, none⟩ n = ⟨b, f + n, none⟩ := by
        intro f n
        unfold Addr.add
        split
        · rename_i e0; subst e0; rfl
        · rfl
      have key : ∀ l, l ≤ len → ∃ xs : List α, xs.length = l ∧ (∀ x ∈ xs, G x) ∧ (∀ (j : Nat) (p : α), xs[j]? = some p → D p H (Dt j) ∧ ∃ c', c'.length = z ∧ R w p c' ∧ ∀ (i : Nat) (u : Value), c'[i]? = some u → w.cell? ⟨b, f + j * z + i, none⟩ = some u) := by
        intro l
        induction l with
        | zero => exact fun _ => ⟨[], rfl, fun x hx => by simp at hx, fun j p hj => by simp at hj⟩
        | succ l ih =>
          intro hl'
          obtain ⟨xs, h1, h2, h3⟩ := ih (by omega)
          obtain ⟨cs', hc', ht'⟩ := hi l (by omega)
          obtain ⟨q1, q, hR, hG, hD⟩ := he ht'
          obtain ⟨-, hcl, hat⟩ := World.cells?_some hc'
          refine ⟨xs ++ [q], by simp [h1], fun x hx => ?_, fun j p hj => ?_⟩
          · rcases List.mem_append.1 hx with hx | hx
            · exact h2 x hx
            · rw [List.mem_singleton.1 hx]; exact hG
          · rcases Nat.lt_or_ge j xs.length with hlt | hge
            · rw [List.getElem?_append_left hlt] at hj
              exact h3 j p hj
            · rw [List.getElem?_append_right hge] at hj
              have hj0 : j - xs.length = 0 := by
                rcases Nat.eq_zero_or_pos (j - xs.length) with h0 | h0
                · exact h0
                · rw [List.getElem?_eq_none (by simp; omega)] at hj; cases hj
              rw [hj0] at hj
              simp only [List.getElem?_cons_zero, Option.some.injEq] at hj
              subst hj
              obtain rfl : j = l := by omega
              refine ⟨hD, cs', q1, hR, fun i u hu => ?_⟩
              have hilt : i < P.cellsOf e := by
                rcases Nat.lt_or_ge i cs'.length with h0 | h0
                · omega
                · rw [List.getElem?_eq_none h0] at hu; cases hu
              have := hat i hilt
              rw [add_, add_, hu, hez] at this
              exact this
      obtain ⟨xs, h1, h2, h3⟩ := key len (Nat.le_refl _)
      refine ⟨rfl, xs, ⟨_, rfl, .inr ⟨b, f, m, by rw [h1], hbl, fun j p hj => (h3 j p hj).2⟩⟩, ⟨by omega, h2⟩, fun es spare hs => ?_⟩
      simp only [DataW.slice.injEq] at hs
      obtain ⟨rfl, -⟩ := hs
      refine ⟨by simp [h1], fun j x y hx hy => ?_⟩
      have hjl : j < len := by have := (List.getElem?_eq_some_iff.1 hx).1; omega
      rw [List.getElem?_map, List.getElem?_range hjl] at hy
      simp only [Option.map_some, Option.some.injEq] at hy
      subst hy
      exact (h3 j x hx).1
/-- A field of a struct that reads as data. -/
theorem fld_opn {α : Type} {z : Nat} {R : World → α → List Value → Prop} {G : α → Prop} {D : α → (H : Type) → DataW H → Prop} {H : Type} {enc : TypeId × Value → H} {w : World} {base : Nat} {held : Bool} {n : Nat} {cs : List Value} {ys : List (DataW H × List MemPlace)} {fs : Array Field}
    (hyl : ys.length = fs.size) (hf : ∀ (i : Nat) (f : Field), fs[i]? = some f → DataW.trod enc P w base (fun _ => true) held n f.type ((cs.drop f.offset).take (P.cellsOf f.type)) = ys[i]?) (i : Nat) (f : Field) (hi : fs[i]? = some f)
    (ho : Opn P f.type z R G D) : ∃ x, R w x ((cs.drop f.offset).take z) ∧ G x := by
  have h1 := hf i f hi
  have hlt : i < ys.length := by rw [hyl]; exact (Array.getElem?_eq_some_iff.1 hi).1
  rw [List.getElem?_eq_getElem hlt, ho.1] at h1
  obtain ⟨-, x, hR, hG, -⟩ := ho.2 h1
  exact ⟨x, hR, hG⟩
end
theorem take1 {cs : List Value} {o : Nat} {v : Value} (h : (cs.drop o).take 1 = [v]) : cs[o]? = some v := by
  have : ((cs.drop o).take 1)[0]? = some v := by rw [h]; rfl
  simpa using this
theorem list_ext_n {cs ds : List Value} (hl : cs.length = ds.length) (h : ∀ i, i < ds.length → cs[i]? = ds[i]?) : cs = ds := by
  apply List.ext_getElem?
  intro i
  rcases Nat.lt_or_ge i ds.length with h1 | h1
  · exact h i h1
  · rw [List.getElem?_eq_none h1, List.getElem?_eq_none (by omega)]
/-! ### the machine's memory -/
abbrev RoT := List (Nat × Nat × Blk)
/-- The rows of the table lie where it says. -/
def ROk (E : Env) (m : Mem) (L : RoT) : Prop := ∀ (j b f : Nat) (B : Blk), L[j]? = some (b, f, B) → E.r j = some (b, f, B.sz) ∧ m.ro j = some B
theorem ROk.pre {E : Env} {m : Mem} {L X : RoT} (h : ROk E m (L ++ X)) : ROk E m L := fun j b f B hj => h j b f B (by
  have := (List.getElem?_eq_some_iff.1 hj).1
  rw [List.getElem?_append_left this]; exact hj)
def EntOk (w : World) (L X : RoT) : Prop := ∀ (E : Env) (m : Mem), ROk E m L → ∀ q ∈ X, q.1 < w.heap.size ∧ CR E q.2.2.rows q.2.2.sz (fun k => w.cell? ⟨q.1, q.2.1 + k, none⟩)
theorem EntOk.nil {w : World} {L : RoT} : EntOk w L [] := fun _ _ _ q hq => by cases hq
theorem EntOk.more {w : World} {L X Y : RoT} (h : EntOk w L X) : EntOk w (L ++ Y) X := fun E m hr => h E m hr.pre
theorem EntOk.app {w : World} {L X Y : RoT} (h : EntOk w L X) (k : EntOk w L Y) : EntOk w L (X ++ Y) := fun E m hr q hq => (List.mem_append.1 hq).elim (h E m hr q) (k E m hr q)
section
variable {α : Type} {z : Nat} {w : World}
/-- A slice whose elements hold scalars. -/
theorem flat_slice {vals : α → List Value} {av : α → List AV} (hav : ∀ x, (av x).length = z ∧ ∀ (E : Env) (i : Nat) (c : AV), (av x)[i]? = some c → ∃ v, (vals x)[i]? = some v ∧ VC E c v) {xs : List α} {v : Value}
    (h : RdSl z (fun _ x cs => cs = vals x) w xs v) (L : RoT) : ∃ X s, EntOk w (L ++ X) X ∧ ∀ (E : Env) (m : Mem), ROk E m (L ++ X) → VC E s v ∧ SlR m z s (xs.map av) := by
  rcases h with ⟨rfl, rfl | ⟨a, rfl⟩⟩ | ⟨b, f, c, rfl, hb, hx⟩
  · exact ⟨[], .nils, EntOk.nil, fun E m _ => ⟨⟨.nils, rfl⟩, rfl⟩⟩
  · exact ⟨[], .emp a, EntOk.nil, fun E m _ => ⟨⟨.emp a, rfl⟩, rfl⟩⟩
  · refine ⟨[(b, f, ⟨xs.map av, z⟩)], .sl (.ro L.length) 0 xs.length c, fun E m _ q hq => ?_, fun E m hr => ?_⟩
    · rw [List.mem_singleton] at hq
      subst hq
      refine ⟨hb, fun i row hi => ?_⟩
      rw [List.getElem?_map, Option.map_eq_some_iff] at hi
      obtain ⟨x, hxi, rfl⟩ := hi
      refine ⟨(hav x).1, fun o u ho => ?_⟩
      obtain ⟨c', _, rfl, hc⟩ := hx i x hxi
      obtain ⟨y, hy, hv⟩ := (hav x).2 E o u ho
      exact ⟨y, by have := hc o y hy; show w.cell? ⟨b, f + (i * z + o), none⟩ = some y; rw [← Nat.add_assoc]; exact this, hv⟩
    · obtain ⟨h1, h2⟩ := hr L.length b f ⟨xs.map av, z⟩ (by simp)
      refine ⟨⟨?_, rfl⟩, fun j => by simp, ⟨xs.map av, z⟩, h2, rfl, by simp, by rw [List.drop_zero]; exact List.take_of_length_le (by simp)⟩
      have := VR.sl (E := E) (L := noPl) (.ro L.length) 0 xs.length c (b, f, z) h1
      simpa [adr] using this
end
/-! ### the data of the program -/
def V.vals (v : V) : List Value := [.int .i64 v.k, .int .i64 v.n, .float .f64 v.f, .string v.s, .int .i64 v.r]
def U.vals (u : U) : List Value := [.bool u.loc, .int .i64 u.ix]
def I.vals (i : I) : List Value := [.int .i64 i.op, .int .i64 i.a, .int .i64 i.b, .int .i64 i.c, .int .i64 i.d]
def Nm.vals (n : Nm) : List Value := [.string n.s, .int .i64 n.reg, .int .i64 n.lo, .int .i64 n.hi]
theorem V.hav (v : V) : v.av.length = 5 ∧ ∀ (E : Env) (i : Nat) (c : AV), v.av[i]? = some c → ∃ x, v.vals[i]? = some x ∧ VC E c x := by
  refine ⟨rfl, fun E i c h => ?_⟩
  rcases i with _ | _ | _ | _ | _ | i <;> simp [V.av] at h <;> subst h <;> exact ⟨_, rfl, by constructor, rfl⟩
theorem U.hav (v : U) : v.av.length = 2 ∧ ∀ (E : Env) (i : Nat) (c : AV), v.av[i]? = some c → ∃ x, v.vals[i]? = some x ∧ VC E c x := by
  refine ⟨rfl, fun E i c h => ?_⟩
  rcases i with _ | _ | i <;> simp [U.av] at h <;> subst h <;> exact ⟨_, rfl, by constructor, rfl⟩
theorem I.hav (v : I) : v.av.length = 5 ∧ ∀ (E : Env) (i : Nat) (c : AV), v.av[i]? = some c → ∃ x, v.vals[i]? = some x ∧ VC E c x := by
  refine ⟨rfl, fun E i c h => ?_⟩
  rcases i with _ | _ | _ | _ | _ | i <;> simp [I.av] at h <;> subst h <;> exact ⟨_, rfl, by constructor, rfl⟩
theorem Nm.hav (v : Nm) : v.av.length = 4 ∧ ∀ (E : Env) (i : Nat) (c : AV), v.av[i]? = some c → ∃ x, v.vals[i]? = some x ∧ VC E c x := by
  refine ⟨rfl, fun E i c h => ?_⟩
  rcases i with _ | _ | _ | _ | i <;> simp [Nm.av] at h <;> subst h <;> exact ⟨_, rfl, by constructor, rfl⟩
def RdP (w : World) (p : Pr) (cs : List Value) : Prop := ∃ v1 v2 v3 v4, cs = [.string p.s, .int .i64 p.line, .int .i64 p.params, .bool p.rest, .int .i64 p.regs, v1, v2, v3, v4] ∧
  RdSl 2 (fun _ x cs => cs = U.vals x) w p.ups v1 ∧ RdSl 5 (fun _ x cs => cs = V.vals x) w p.consts v2 ∧ RdSl 5 (fun _ x cs => cs = I.vals x) w p.ins v3 ∧ RdSl 4 (fun _ x cs => cs = Nm.vals x) w p.named v4
theorem proto_row {w : World} {p : Pr} {cs : List Value} (h : RdP w p cs) (L : RoT) : ∃ X row, EntOk w (L ++ X) X ∧ ∀ (E : Env) (m : Mem), ROk E m (L ++ X) → row.length = 9 ∧ (∀ (o : Nat) (v : AV), row[o]? = some v → ∃ x, cs[o]? = some x ∧ VC E v x) ∧ PrR m row p := by
  obtain ⟨v1, v2, v3, v4, rfl, h1, h2, h3, h4⟩ := h
  obtain ⟨X1, s1, e1, k1⟩ := flat_slice U.hav h1 L
  obtain ⟨X2, s2, e2, k2⟩ := flat_slice V.hav h2 (L ++ X1)
  obtain ⟨X3, s3, e3, k3⟩ := flat_slice I.hav h3 (L ++ X1 ++ X2)
  obtain ⟨X4, s4, e4, k4⟩ := flat_slice Nm.hav h4 (L ++ X1 ++ X2 ++ X3)
  have ea : L ++ (X1 ++ X2 ++ X3 ++ X4) = L ++ X1 ++ X2 ++ X3 ++ X4 := by simp
  refine ⟨X1 ++ X2 ++ X3 ++ X4, [.str p.s, .int .i64 p.line, .int .i64 p.params, .bool p.rest, .int .i64 p.regs, s1, s2, s3, s4], ?_, fun E m hr => ?_⟩
  · rw [ea]
    exact (((e1.more.more.more).app e2.more.more).app e3.more).app e4
  · rw [ea] at hr
    obtain ⟨a1, b1⟩ := k1 E m hr.pre.pre.pre
    obtain ⟨a2, b2⟩ := k2 E m hr.pre.pre
    obtain ⟨a3, b3⟩ := k3 E m hr.pre
    obtain ⟨a4, b4⟩ := k4 E m hr
    refine ⟨rfl, fun o v ho => ?_, ⟨s1, s2, s3, s4, rfl, b1, b2, b3, b4⟩⟩
    rcases o with _ | _ | _ | _ | _ | _ | _ | _ | _ | o <;> simp at ho <;> subst ho <;> first | exact ⟨_, rfl, by assumption⟩ | exact ⟨_, rfl, by constructor, rfl⟩
theorem proto_rows {w : World} {ps : List Pr} {b f : Nat} (hx : ∀ (j : Nat) (p : Pr), ps[j]? = some p → ∃ c', c'.length = 9 ∧ RdP w p c' ∧ ∀ (i : Nat) (u : Value), c'[i]? = some u → w.cell? ⟨b, f + j * 9 + i, none⟩ = some u) (L : RoT) :
    ∀ l, l ≤ ps.length → ∃ (X : RoT) (rows : List (List AV)), EntOk w (L ++ X) X ∧ rows.length = l ∧ ∀ (E : Env) (m : Mem), ROk E m (L ++ X) → ∀ (i : Nat) (row : List AV), rows[i]? = some row → row.length = 9 ∧
      (∀ (o : Nat) (v : AV), row[o]? = some v → ∃ x, w.cell? ⟨b, f + (i * 9 + o), none⟩ = some x ∧ VC E v x) ∧ ∀ p, ps[i]? = some p → PrR m row p := by
  intro l
  induction l with
  | zero => exact fun _ => ⟨[], [], EntOk.nil, rfl, fun E m _ i row h => by simp at h⟩
  | succ l ih =>
    intro hl
    obtain ⟨X, rows, e1, h1, k1⟩ := ih (by omega)
    obtain ⟨c', c1, c2, c3⟩ := hx l ps[l] (by simp)
    obtain ⟨Y, row, e2, k2⟩ := proto_row c2 (L ++ X)
    have ea : L ++ (X ++ Y) = L ++ X ++ Y := by simp
    refine ⟨X ++ Y, rows ++ [row], by rw [ea]; exact e1.more.app e2, by simp [h1], fun E m hr i row' hi => ?_⟩
    rw [ea] at hr
    rcases Nat.lt_or_ge i rows.length with hlt | hge
    · rw [List.getElem?_append_left hlt] at hi
      exact k1 E m hr.pre i row' hi
    · rw [List.getElem?_append_right hge] at hi
      have hj0 : i - rows.length = 0 := by
        rcases Nat.eq_zero_or_pos (i - rows.length) with h0 | h0
        · exact h0
        · rw [List.getElem?_eq_none (by simp; omega)] at hi; cases hi
      rw [hj0] at hi
      simp only [List.getElem?_cons_zero, Option.some.injEq] at hi
      subst hi
      obtain rfl : i = l := by omega
      obtain ⟨r1, r2, r3⟩ := k2 E m hr
      refine ⟨r1, fun o v ho => ?_, fun p hp => ?_⟩
      · obtain ⟨x, hxo, hv⟩ := r2 o v ho
        exact ⟨x, by rw [← Nat.add_assoc]; exact c3 o x hxo, hv⟩
      · rw [List.getElem?_eq_getElem (by omega)] at hp
        cases hp
        exact r3
theorem code_slice {w : World} {ps : List Pr} {v : Value} (h : RdSl 9 RdP w ps v) (L : RoT) : ∃ X s, EntOk w (L ++ X) X ∧ ∀ (E : Env) (m : Mem), ROk E m (L ++ X) → VC E s v ∧ PsR m s ps := by
  rcases h with ⟨rfl, rfl | ⟨a, rfl⟩⟩ | ⟨b, f, c, rfl, hb, hx⟩
  · exact ⟨[], .nils, EntOk.nil, fun E m _ => ⟨⟨.nils, rfl⟩, [], rfl, rfl, fun i r p h => by simp at h⟩⟩
  · exact ⟨[], .emp a, EntOk.nil, fun E m _ => ⟨⟨.emp a, rfl⟩, [], rfl, rfl, fun i r p h => by simp at h⟩⟩
  · obtain ⟨X, rows, e1, h1, k1⟩ := proto_rows hx L ps.length (Nat.le_refl _)
    have ea : L ++ (X ++ [(b, f, (⟨rows, 9⟩ : Blk))]) = L ++ X ++ [(b, f, ⟨rows, 9⟩)] := by simp
    refine ⟨X ++ [(b, f, ⟨rows, 9⟩)], .sl (.ro (L ++ X).length) 0 ps.length c, ?_, fun E m hr => ?_⟩
    · rw [ea]
      refine e1.more.app fun E m hr q hq => ?_
      rw [List.mem_singleton] at hq
      subst hq
      exact ⟨hb, fun i row hi => let ⟨r1, r2, _⟩ := k1 E m hr.pre i row hi; ⟨r1, r2⟩⟩
    · rw [ea] at hr
      obtain ⟨g1, g2⟩ := hr (L ++ X).length b f ⟨rows, 9⟩ (by simp)
      refine ⟨⟨?_, rfl⟩, rows, ⟨fun j => by simp, ⟨rows, 9⟩, g2, rfl, by simp [h1], by simp [← h1]⟩, h1, fun i r p hr' hp' => (k1 E m hr.pre i r hr').2.2 p hp'⟩
      have := VR.sl (E := E) (L := noPl) (.ro (L ++ X).length) 0 ps.length c (b, f, 9) g1
      simpa [adr] using this
/-- The forms in the package variable's one cell. -/
def rI (r : List Int) : List Value := r.map (Value.int .i64)
theorem forms_slice {w : World} {g : Nat} {v : Value} (hg : w.cell? ⟨g, 0, none⟩ = some v) (h : RdSl 4 (fun _ (r : List Int) cs => cs = rI r ∧ r.length = 4) w formsTab v) (L : RoT) :
    ∃ X j, EntOk w (L ++ X) X ∧ ∀ (E : Env) (m : Mem), ROk E m (L ++ X) → E.r j = some (g, 0, 1) ∧ (m.gl g = .ptr (.ro j) 0 0 → FormsR g m) := by
  rcases h with ⟨e, -⟩ | ⟨b, f, c, rfl, hb, hx⟩
  · simp [formsTab] at e
  · have hgl : g < w.heap.size := by
      unfold World.cell? at hg
      split at hg
      · rename_i hb'; exact (Array.getElem?_eq_some_iff.1 hb').1
      · cases hg
    have hvr : ∀ (E : Env) (m : Mem), ROk E m (L ++ [(b, f, ⟨formsTab.map fun r => r.map (AV.int .i64), 4⟩), (g, 0, ⟨[[.sl (.ro L.length) 0 formsTab.length c]], 1⟩)]) → VC E (.sl (.ro L.length) 0 formsTab.length c) (.slice (some ⟨b, f, none⟩) formsTab.length c) := by
      intro E m hr
      obtain ⟨g1, g2⟩ := hr L.length b f _ (by simp; rfl)
      have := VR.sl (E := E) (L := noPl) (.ro L.length) 0 formsTab.length c (b, f, 4) g1
      exact ⟨by simpa [adr] using this, rfl⟩
    refine ⟨[(b, f, ⟨formsTab.map fun r => r.map (AV.int .i64), 4⟩), (g, 0, ⟨[[.sl (.ro L.length) 0 formsTab.length c]], 1⟩)], L.length + 1, fun E m hr q hq => ?_, fun E m hr => ?_⟩
    · rcases List.mem_cons.1 hq with rfl | hq
      · refine ⟨hb, fun i row hi => ?_⟩
        rw [List.getElem?_map, Option.map_eq_some_iff] at hi
        obtain ⟨x, hxi, rfl⟩ := hi
        obtain ⟨c', _, ⟨rfl, hl4⟩, hc⟩ := hx i x hxi
        refine ⟨by simpa using hl4, fun o u ho => ?_⟩
        rw [List.getElem?_map, Option.map_eq_some_iff] at ho
        obtain ⟨n, hn, rfl⟩ := ho
        exact ⟨.int .i64 n, by show w.cell? ⟨b, f + (i * 4 + o), none⟩ = _; rw [← Nat.add_assoc]; exact hc o _ (by simp [rI, hn]), .int _ _, rfl⟩
      · rw [List.mem_singleton] at hq
        subst hq
        refine ⟨hgl, fun i row hi => ?_⟩
        rcases i with _ | i
        · simp at hi
          subst hi
          refine ⟨rfl, fun o u ho => ?_⟩
          rcases o with _ | o
          · simp at ho
            subst ho
            exact ⟨_, hg, hvr E m hr⟩
          · simp at ho
        · simp at hi
    · obtain ⟨g1, g2⟩ := hr (L.length + 1) g 0 _ (by rw [List.getElem?_append_right (by omega)]; simp; rfl)
      obtain ⟨f1, f2⟩ := hr L.length b f _ (by simp; rfl)
      exact ⟨g1, fun hgl => ⟨L.length + 1, _, hgl, g2, fun j => by simp, _, f2, rfl, by simp, by rw [List.drop_zero]; exact List.take_of_length_le (by simp)⟩⟩
/-- The machine's memory lies in the world in which the call begins. -/
def envOf (W : World) (L : RoT) : Env := ⟨fun _ => none, fun j => (L[j]?).map fun q => (q.1, q.2.1, q.2.2.sz), W.heap.size, W⟩
def memOf (L : RoT) (gl : Nat → AV) : Mem := ⟨fun j => (L[j]?).map fun q => q.2.2, ⟨gl, fun _ => True, .none⟩, []⟩
theorem rOk_of (W : World) (L : RoT) (gl : Nat → AV) : ROk (envOf W L) (memOf L gl) L := fun j b f B h => by simp [envOf, memOf, h]
theorem mr_of {W : World} {L : RoT} (h : EntOk W L L) {gl : Nat → AV} (hgl : ∀ g, VR (envOf W L) noPl (gl g) (.pointer (some ⟨g, 0, none⟩))) : MR (envOf W L) (memOf L gl) W where
  bel := Below.refl _ _
  bsz := Nat.le_refl _
  hp j B hj := by simp [memOf] at hj
  hpd j _ := rfl
  hpb j b s hj := by simp [envOf] at hj
  inj j j' b s s' hj := by simp [envOf] at hj
  ro j B hj := by
    simp only [memOf, Option.map_eq_some_iff] at hj
    obtain ⟨q, hq, rfl⟩ := hj
    obtain ⟨k1, k2⟩ := h _ _ (rOk_of W L gl) q (List.mem_of_getElem? hq)
    exact ⟨q.1, q.2.1, by simp [envOf, hq], k1, k2⟩
  gl := hgl
  fc := trivial
  gh := .none rfl
/-- A function with a body, told as a call. -/
theorem Sim.calls {P : Program} {f : FuncId} {fn : Func} {c : Code} (hf : P.funcs[f]? = some fn) (hname : (fn.name == "runtime.NumGoroutine") = false) (hb : fn.body = some c) {args : List AV} {m : Mem} {K : AR → Mem → Prop} (h : Sim P f args m K)
    {E : Env} {w : World} {xs : Array Value} (hm : MR E m w) (hx : VRs E noPl args xs) : Calls P f xs w (SimEnd E w K) := by
  rcases h E w xs hm hx with ⟨-, h⟩ | ⟨r, x, h, -⟩
  · exact h
  · rw [Go.Proofs.enters_of hf hname hb] at h
    cases h
end Go.Proofs.IM
namespace Go.Proofs.YtdonkjepjobhnaaDoor.IM
open Go Go.Proofs.IM Go.RowKit Go.ChangeShapes Go.WideShapes
set_option maxRecDepth 100000
theorem oI : Opn Tryd.prog 3 1 (fun _ (n : Int) cs => cs = [.int .i64 n]) i64 (fun n H d => d = .lit (.int .i64 n)) := opn_i64 Tryd.underlying3 (by kernel_rfl)
theorem oI64 : Opn Tryd.prog 2 1 (fun _ (n : Int) cs => cs = [.int .i64 n]) i64 (fun n H d => d = .lit (.int .i64 n)) := opn_i64 Tryd.underlying2 (by kernel_rfl)
theorem oB : Opn Tryd.prog 4 1 (fun _ (b : Bool) cs => cs = [.bool b]) (fun _ => True) anyD := opn_bool Tryd.underlying4 (by kernel_rfl)
theorem oS : Opn Tryd.prog 9 1 (fun _ (s : ByteArray) cs => cs = [.string s]) (fun s => s.size ≤ 9223372036854775807) anyD := opn_str Tryd.underlying9 (by kernel_rfl)
theorem oF : Opn Tryd.prog 33 1 (fun _ (b : Nat) cs => cs = [.float .f64 b]) (fun b => b < 18446744073709551616) anyD := opn_flt Tryd.underlying33 (by kernel_rfl)
theorem oV : Opn Tryd.prog 35 5 (fun _ v cs => cs = V.vals v) V.good anyD := by
  refine ⟨by kernel_rfl, fun {H enc w base held fuel cs x} h => ?_⟩
  obtain ⟨ys, n, _, _, hlen, hyl, hf⟩ := DataW.trod_struct Tryd.underlying35 h
  obtain ⟨x0, h0, g0⟩ := fld_opn hyl hf 0 _ rfl oI
  obtain ⟨x1, h1, g1⟩ := fld_opn hyl hf 1 _ rfl oI64
  obtain ⟨x2, h2, g2⟩ := fld_opn hyl hf 2 _ rfl oF
  obtain ⟨x3, h3, g3⟩ := fld_opn hyl hf 3 _ rfl oS
  obtain ⟨x4, h4, g4⟩ := fld_opn hyl hf 4 _ rfl oI
  have hc : cs.length = 5 := hlen.trans (by kernel_rfl)
  refine ⟨hc, ⟨x0, x1, x2, x3, x4⟩, list_ext_n hc fun i hi => ?_, ⟨g0, g1, g2, g3, g4⟩, trivial⟩
  rcases i with _ | _ | _ | _ | _ | i
  · exact take1 h0
  · exact take1 h1
  · exact take1 h2
  · exact take1 h3
  · exact take1 h4
  · simp [V.vals] at hi; omega
theorem oU : Opn Tryd.prog 217 2 (fun _ v cs => cs = U.vals v) (fun u => i64 u.ix) anyD := by
  refine ⟨by kernel_rfl, fun {H enc w base held fuel cs x} h => ?_⟩
  obtain ⟨ys, n, _, _, hlen, hyl, hf⟩ := DataW.trod_struct Tryd.underlying217 h
  obtain ⟨x0, h0, g0⟩ := fld_opn hyl hf 0 _ rfl oB
  obtain ⟨x1, h1, g1⟩ := fld_opn hyl hf 1 _ rfl oI
  have hc : cs.length = 2 := hlen.trans (by kernel_rfl)
  refine ⟨hc, ⟨x0, x1⟩, list_ext_n hc fun i hi => ?_, g1, trivial⟩
  rcases i with _ | _ | i
  · exact take1 h0
  · exact take1 h1
  · simp [U.vals] at hi; omega
theorem oN : Opn Tryd.prog 219 5 (fun _ v cs => cs = I.vals v) I.good anyD := by
  refine ⟨by kernel_rfl, fun {H enc w base held fuel cs x} h => ?_⟩
  obtain ⟨ys, n, _, _, hlen, hyl, hf⟩ := DataW.trod_struct Tryd.underlying219 h
  obtain ⟨x0, h0, g0⟩ := fld_opn hyl hf 0 _ rfl oI
  obtain ⟨x1, h1, g1⟩ := fld_opn hyl hf 1 _ rfl oI
  obtain ⟨x2, h2, g2⟩ := fld_opn hyl hf 2 _ rfl oI
  obtain ⟨x3, h3, g3⟩ := fld_opn hyl hf 3 _ rfl oI
  obtain ⟨x4, h4, g4⟩ := fld_opn hyl hf 4 _ rfl oI
  have hc : cs.length = 5 := hlen.trans (by kernel_rfl)
  refine ⟨hc, ⟨x0, x1, x2, x3, x4⟩, list_ext_n hc fun i hi => ?_, ⟨g0, g1, g2, g3, g4⟩, trivial⟩
  rcases i with _ | _ | _ | _ | _ | i
  · exact take1 h0
  · exact take1 h1
  · exact take1 h2
  · exact take1 h3
  · exact take1 h4
  · simp [I.vals] at hi; omega
theorem oNm : Opn Tryd.prog 215 4 (fun _ v cs => cs = Nm.vals v) Nm.good anyD := by
  refine ⟨by kernel_rfl, fun {H enc w base held fuel cs x} h => ?_⟩
  obtain ⟨ys, n, _, _, hlen, hyl, hf⟩ := DataW.trod_struct Tryd.underlying215 h
  obtain ⟨x0, h0, g0⟩ := fld_opn hyl hf 0 _ rfl oS
  obtain ⟨x1, h1, g1⟩ := fld_opn hyl hf 1 _ rfl oI
  obtain ⟨x2, h2, g2⟩ := fld_opn hyl hf 2 _ rfl oI
  obtain ⟨x3, h3, g3⟩ := fld_opn hyl hf 3 _ rfl oI
  have hc : cs.length = 4 := hlen.trans (by kernel_rfl)
  refine ⟨hc, ⟨x0, x1, x2, x3⟩, list_ext_n hc fun i hi => ?_, ⟨g0, g1, g2, g3⟩, trivial⟩
  rcases i with _ | _ | _ | _ | i
  · exact take1 h0
  · exact take1 h1
  · exact take1 h2
  · exact take1 h3
  · simp [Nm.vals] at hi; omega
theorem oP : Opn Tryd.prog 153 9 RdP Pr.good anyD := by
  refine ⟨by kernel_rfl, fun {H enc w base held fuel cs x} h => ?_⟩
  obtain ⟨ys, n, _, _, hlen, hyl, hf⟩ := DataW.trod_struct Tryd.underlying153 h
  obtain ⟨x0, h0, g0⟩ := fld_opn hyl hf 0 _ rfl oS
  obtain ⟨x1, h1, g1⟩ := fld_opn hyl hf 1 _ rfl oI
  obtain ⟨x2, h2, g2⟩ := fld_opn hyl hf 2 _ rfl oI
  obtain ⟨x3, h3, g3⟩ := fld_opn hyl hf 3 _ rfl oB
  obtain ⟨x4, h4, g4⟩ := fld_opn hyl hf 4 _ rfl oI
  obtain ⟨x5, ⟨v5, h5, r5⟩, g5⟩ := fld_opn hyl hf 5 _ rfl (opn_slice Tryd.underlying148 (by kernel_rfl) (by decide) oU)
  obtain ⟨x6, ⟨v6, h6, r6⟩, g6⟩ := fld_opn hyl hf 6 _ rfl (opn_slice Tryd.underlying149 (by kernel_rfl) (by decide) oV)
  obtain ⟨x7, ⟨v7, h7, r7⟩, g7⟩ := fld_opn hyl hf 7 _ rfl (opn_slice Tryd.underlying150 (by kernel_rfl) (by decide) oN)
  obtain ⟨x8, ⟨v8, h8, r8⟩, g8⟩ := fld_opn hyl hf 8 _ rfl (opn_slice Tryd.underlying151 (by kernel_rfl) (by decide) oNm)
  have hc : cs.length = 9 := hlen.trans (by kernel_rfl)
  refine ⟨hc, ⟨x0, x1, x2, x3, x4, x5, x6, x7, x8⟩, ⟨v5, v6, v7, v8, list_ext_n hc fun i hi => ?_, r5, r6, r7, r8⟩, ⟨g0, g1, g2, g4, g5.1, g6.1, g7.1, g8.1, g5.2, g6.2, g7.2, g8.2⟩, trivial⟩
  rcases i with _ | _ | _ | _ | _ | _ | _ | _ | _ | i
  · exact take1 h0
  · exact take1 h1
  · exact take1 h2
  · exact take1 h3
  · exact take1 h4
  · exact take1 h5
  · exact take1 h6
  · exact take1 h7
  · exact take1 h8
  · simp at hi; omega
theorem oC : Opn Tryd.prog 43 1 (fun w (ps : List Pr) cs => ∃ v, cs = [v] ∧ RdSl 9 RdP w ps v) (fun ps => ps.length ≤ 9223372036854775807 ∧ ∀ p ∈ ps, p.good) anyD := by
  refine ⟨by kernel_rfl, fun {H enc w base held fuel cs x} h => ?_⟩
  obtain ⟨ys, n, _, _, hlen, hyl, hf⟩ := DataW.trod_struct Tryd.underlying43 h
  obtain ⟨x0, ⟨v, h0, r0⟩, g0⟩ := fld_opn hyl hf 0 _ rfl (opn_slice Tryd.underlying41 (by kernel_rfl) (by decide) oP)
  have hc : cs.length = 1 := hlen.trans (by kernel_rfl)
  refine ⟨hc, x0, ⟨v, list_ext_n hc fun i hi => ?_, r0⟩, g0, trivial⟩
  rcases i with _ | i
  · exact take1 h0
  · simp at hi
theorem oForm : Opn Tryd.prog 160 4 (fun _ (r : List Int) cs => cs = rI r ∧ r.length = 4) (fun _ => True) (fun r H d => d = .agg (r.map fun n => .lit (.int .i64 n))) := by
  refine ⟨by kernel_rfl, fun {H enc w base held fuel cs x} h => ?_⟩
  obtain ⟨xs, m, rfl, rfl, hlen, hxl, hel⟩ := DataW.trod_array Tryd.underlying160 h
  have hz : Tryd.prog.cellsOf 158 = 1 := by kernel_rfl
  have hc : cs.length = 4 := hlen.trans (by kernel_rfl)
  have el : ∀ (i : Nat), i < 4 → ∃ n : Int, (cs.drop i).take 1 = [.int .i64 n] ∧ (xs[i]?).map Prod.fst = some (.lit (.int .i64 n)) := by
    intro i hi
    have h1 := hel i hi
    rw [hz, Nat.mul_one, List.getElem?_eq_getElem (by omega)] at h1
    obtain ⟨n, e1, e2, -⟩ := DataW.trod_int Tryd.underlying158 h1
    exact ⟨n, e1, by rw [List.getElem?_eq_getElem (by omega), Option.map_some, e2]⟩
  obtain ⟨n0, a0, b0⟩ := el 0 (by decide)
  obtain ⟨n1, a1, b1⟩ := el 1 (by decide)
  obtain ⟨n2, a2, b2⟩ := el 2 (by decide)
  obtain ⟨n3, a3, b3⟩ := el 3 (by decide)
  refine ⟨hc, [n0, n1, n2, n3], ⟨list_ext_n hc fun i hi => ?_, rfl⟩, trivial, ?_⟩
  · rcases i with _ | _ | _ | _ | i
    · exact take1 a0
    · exact take1 a1
    · exact take1 a2
    · exact take1 a3
    · simp [rI] at hi; omega
  · simp only [DataW.agg.injEq]
    apply List.ext_getElem?
    intro i
    rcases i with _ | _ | _ | _ | i
    · simpa using b0
    · simpa using b1
    · simpa using b2
    · simpa using b3
    · rw [List.getElem?_eq_none (by simp; omega), List.getElem?_eq_none (by simp)]
theorem oForms : Opn Tryd.prog 161 1 (fun w xs cs => ∃ v, cs = [v] ∧ RdSl 4 (fun _ (r : List Int) cs => cs = rI r ∧ r.length = 4) w xs v) (fun xs => xs.length ≤ 9223372036854775807 ∧ ∀ x ∈ xs, True)
      (fun xs H d => ∀ (es spare : List (DataW H)), d = .slice es spare → es.length = xs.length ∧ ∀ (j : Nat) (x : List Int) (y : DataW H), xs[j]? = some x → es[j]? = some y → y = .agg (x.map fun n => .lit (.int .i64 n))) :=
  opn_slice Tryd.underlying161 (by kernel_rfl) (by decide) oForm
end Go.Proofs.YtdonkjepjobhnaaDoor.IM
namespace Go.Proofs.IM
open Go
/-- A byte in its row. -/
def bR (b : UInt8) : List AV := [.int .u8 b.toNat]
/-- A buffer in a row of one's own. -/
def BufO (m : Mem) (s : AV) (bs : List UInt8) (j : Nat) : Prop := ∃ (c : Nat) (B : Blk), s = .sl (.hp j) 0 bs.length c ∧ m.hp[j]? = some B ∧ B.sz = 1 ∧ B.rows.length = c ∧ bs.length ≤ c ∧ B.rows.take bs.length = bs.map bR
theorem BufO.r {m : Mem} {s : AV} {bs : List UInt8} {j : Nat} (h : BufO m s bs j) : SlR m 1 s (bs.map bR) := by
  obtain ⟨c, B, rfl, h1, h2, h3, h4, h5⟩ := h
  exact ⟨fun j' => by simp, B, h1, h2, by omega, by simpa using h5⟩
/-- The memory m0 stands as it was, and s is a buffer behind it. -/
def BuO (m0 m : Mem) (s : AV) (bs : List UInt8) : Prop := m0.le m ∧ ∃ j, m0.hp.length ≤ j ∧ BufO m s bs j
theorem BuO.r {m0 m : Mem} {s : AV} {bs : List UInt8} (h : BuO m0 m s bs) : SlR m 1 s (bs.map bR) := let ⟨_, _, _, h⟩ := h; h.r
theorem Mem.le.set {m0 m : Mem} (h : m0.le m) {j : Nat} (hj : m0.hp.length ≤ j) (B : Blk) : m0.le { m with hp := m.hp.set j B } := ⟨h.ro, h.gl, fun k B' hk => by
  have := (List.getElem?_eq_some_iff.1 hk).1
  show (m.hp.set j B)[k]? = _
  rw [List.getElem?_set, if_neg (by omega)]
  exact h.hp k B' hk⟩
theorem Mem.le.push' {m0 m : Mem} (h : m0.le m) (B : Blk) : m0.le (m.push B) := h.trans (Mem.le.push m B)
theorem bR_ok (bs : List UInt8) : ((bs.map bR).all fun r => r.length == 1 && r.all AV.pub1) = true := by
  simp only [List.all_map, List.all_eq_true]
  intro b _; rfl
/-- What is appended to a buffer goes behind it, in place or in a new row. -/
theorem aAppend_buf {m0 m : Mem} {s : AV} {bs : List UInt8} (hs : BuO m0 m s bs) {Te : TI} (hT : Te.size = 1) (hb : Te.bytes = 1) (xs : List UInt8) (hlen : bs.length + xs.length ≤ 2 ^ 40) {l : Loc} {K : KS}
    (h : ∀ s' m', BuO m0 m' s' (bs ++ xs) → (m.hp.length ≤ m'.hp.length ∧ ∀ j, j < m.hp.length → (∀ n c, s ≠ .sl (.hp j) 0 n c) → m'.hp[j]? = m.hp[j]?) → (∀ j n c, s = .sl (.hp j) 0 n c → ∃ j' n' c', s' = .sl (.hp j') 0 n' c' ∧ (j' = j ∨ m.hp.length ≤ j')) → K s' l m') : aAppend Te s (xs.map bR) l m K := by
  obtain ⟨hle, j, hj, c, B, rfl, h1, h2, h3, h4, h5⟩ := hs
  have hlt : j < m.hp.length := (List.getElem?_eq_some_iff.1 h1).1
  have hi : i64max = 9223372036854775807 := rfl
  simp only [aAppend, blk?, h1, List.length_map]
  refine ⟨by rw [h2, hT], by omega, ?_⟩
  split
  · rename_i hc
    split
    · rename_i h0
      have : xs = [] := by simpa using h0
      subst this
      refine h _ _ (by rw [List.append_nil]; exact ⟨hle, j, hj, c, B, rfl, h1, h2, h3, h4, h5⟩) ⟨Nat.le_refl _, fun _ _ _ => rfl⟩ ?_
      rintro j' n c' e; cases e; exact ⟨j, _, _, rfl, .inl rfl⟩
    · refine ⟨by omega, ?_⟩
      simp only [setBlk]
      have hl : (splice B.rows (0 + bs.length) (xs.map bR)).length = c := by simp [splice]; omega
      refine h _ _ ⟨hle.set hj _, j, hj, c, ⟨splice B.rows (0 + bs.length) (xs.map bR), B.sz⟩, by simp, by simp [hlt], h2, hl, by simp; omega, ?_⟩ ⟨by simp, fun k hk hn => ?_⟩ ?_
      · have e1 : (B.rows.take bs.length).length = bs.length := by simp; omega
        simp only [splice, Nat.zero_add, List.length_append]
        rw [h5, List.take_left' (by simp), List.map_append]
      · show (m.hp.set j _)[k]? = _
        rw [List.getElem?_set, if_neg]
        rintro rfl
        exact hn _ _ rfl
      · rintro j' n c' e; cases e; exact ⟨j, _, _, rfl, .inl rfl⟩
  · rename_i hc
    refine ⟨by omega, by rw [hb]; omega, by omega, fun c' hc1 hc2 => ?_⟩
    refine h _ _ ⟨hle.push' _, m.hp.length, by have := hle.len; omega, c', _, by simp, push_at, hT, ?_, by simp; omega, ?_⟩ ⟨by rw [push_len]; omega, fun k hk _ => ?_⟩ ?_
    · simp; omega
    · have e2 : ((B.rows.drop 0).take bs.length ++ xs.map bR).length = bs.length + xs.length := by simp; omega
      rw [List.length_append, ← e2, List.take_left, List.drop_zero, h5, List.map_append]
    · show (m.hp ++ _)[k]? = _
      rw [List.getElem?_append_left hk]
    · rintro j' n c'' e; cases e; exact ⟨m.hp.length, _, _, rfl, .inr (Nat.le_refl _)⟩
/-- The same, of the call 'append'. -/
theorem aApp_buf {C : Cx} {ty : TypeId} {Te : TI} (he : elm C ty = some Te) {m0 m : Mem} {s x : AV} {bs xs : List UInt8} (hs : BuO m0 m s bs) (hT : Te.size = 1) (hb : Te.bytes = 1) {l : Loc} (hx : sliceRows l m x = some (xs.map bR)) (hlen : bs.length + xs.length ≤ 2 ^ 40) {K : KS}
    (h : ∀ s' m', BuO m0 m' s' (bs ++ xs) → (m.hp.length ≤ m'.hp.length ∧ ∀ j, j < m.hp.length → (∀ n c, s ≠ .sl (.hp j) 0 n c) → m'.hp[j]? = m.hp[j]?) → (∀ j n c, s = .sl (.hp j) 0 n c → ∃ j' n' c', s' = .sl (.hp j') 0 n' c' ∧ (j' = j ∨ m.hp.length ≤ j')) → K s' l m') : aApp C ty ty s x l m K := by
  simp only [aApp, he]
  refine ⟨by omega, ?_⟩
  rw [if_pos trivial, hx]
  refine ⟨by rw [hT]; exact bR_ok xs, aAppend_buf hs hT hb xs hlen h⟩
theorem bytesRows_eq (q : ByteArray) : bytesRows q = q.data.toList.map bR := rfl
theorem aApp_str {C : Cx} {ty ty' : TypeId} {Te : TI} (he : elm C ty = some Te) (hne : ty' ≠ ty) (hstr : kd C ty' = some .str) (hk : Te.kind = .int .u8) {m0 m : Mem} {s : AV} {bs : List UInt8} {q : ByteArray} (hs : BuO m0 m s bs) (hT : Te.size = 1) (hb : Te.bytes = 1) {l : Loc} (hlen : bs.length + q.size ≤ 2 ^ 40) {K : KS}
    (h : ∀ s' m', BuO m0 m' s' (bs ++ q.data.toList) → (m.hp.length ≤ m'.hp.length ∧ ∀ j, j < m.hp.length → (∀ n c, s ≠ .sl (.hp j) 0 n c) → m'.hp[j]? = m.hp[j]?) → (∀ j n c, s = .sl (.hp j) 0 n c → ∃ j' n' c', s' = .sl (.hp j') 0 n' c' ∧ (j' = j ∨ m.hp.length ≤ j')) → K s' l m') : aApp C ty ty' s (.str q) l m K := by
  simp only [aApp, he]
  refine ⟨by omega, ?_⟩
  rw [if_neg hne]
  refine ⟨hstr, hk, hT, ?_⟩
  rw [bytesRows_eq]
  exact aAppend_buf hs hT hb _ (by have : q.data.toList.length = q.size := by simp
                                   omega) h
/-- A pointer to a buffer, both behind m0. -/
def WrO (m0 m : Mem) (w : AV) (bs : List UInt8) : Prop := ∃ jw s, w = .ptr (.hp jw) 0 0 ∧ m0.hp.length ≤ jw ∧ m.hp[jw]? = some ⟨[[s]], 1⟩ ∧ BuO m0 m s bs ∧ ∀ n c, s ≠ .sl (.hp jw) 0 n c
end Go.Proofs.IM
namespace Go.Proofs.IM
open Go
theorem wr_step {m0 m m' : Mem} {jw : Nat} {s s' : AV} {bs xs : List UInt8} (h1 : m0.hp.length ≤ jw) (h2 : m.hp[jw]? = some ⟨[[s]], 1⟩) (hs : ∀ n c, s ≠ .sl (.hp jw) 0 n c) (hb : BuO m0 m s bs) (hb' : BuO m0 m' s' (bs ++ xs))
    (hfr : m.hp.length ≤ m'.hp.length ∧ ∀ j, j < m.hp.length → (∀ n c, s ≠ .sl (.hp j) 0 n c) → m'.hp[j]? = m.hp[j]?) (hj : ∀ j n c, s = .sl (.hp j) 0 n c → ∃ j' n' c', s' = .sl (.hp j') 0 n' c' ∧ (j' = j ∨ m.hp.length ≤ j')) :
    m'.hp[jw]? = some ⟨[[s]], 1⟩ ∧ s'.pub1 = true ∧ s'.cells = [s'] ∧ WrO m0 { m' with hp := m'.hp.set jw ⟨[[s']], 1⟩ } (.ptr (.hp jw) 0 0) (bs ++ xs) := by
  have hlt : jw < m.hp.length := (List.getElem?_eq_some_iff.1 h2).1
  have e := (hfr.2 jw hlt hs).trans h2
  have hlt' : jw < m'.hp.length := (List.getElem?_eq_some_iff.1 e).1
  obtain ⟨hle', j', hj'0, hbu⟩ := hb'
  obtain ⟨c', B', rfl, q1, q2, q3, q4, q5⟩ := hbu
  obtain ⟨hle, j, hj0, c, B, rfl, p1, p2, p3, p4, p5⟩ := hb
  obtain ⟨j'', n'', c'', e1, e2⟩ := hj j _ _ rfl
  cases e1
  have hne : j ≠ jw := by rintro rfl; exact hs _ _ rfl
  have hne' : j' ≠ jw := by rcases e2 with e2 | e2 <;> omega
  refine ⟨e, rfl, rfl, jw, _, rfl, h1, by simp [hlt'], ⟨hle'.set h1 _, j', hj'0, c', B', rfl, ?_, q2, q3, q4, q5⟩, ?_⟩
  · show (m'.hp.set jw _)[j']? = _
    rw [List.getElem?_set, if_neg (by omega)]; exact q1
  · intro n c h; cases h; exact hne' rfl
def vb (n : Nat) : List UInt8 := if h : n < 128 then [UInt8.ofNat n] else UInt8.ofNat (n % 128 + 128) :: vb (n / 128)
theorem vb_lt {n : Nat} (h : n < 128) : vb n = [UInt8.ofNat n] := by rw [vb, dif_pos h]
theorem vb_ge {n : Nat} (h : ¬ n < 128) : vb n = UInt8.ofNat (n % 128 + 128) :: vb (n / 128) := by rw [vb, dif_neg h]
theorem vb_len (k : Nat) : ∀ n, n < 128 ^ (k + 1) → (vb n).length ≤ k + 1 := by
  induction k with
  | zero => intro n h; rw [vb_lt (by omega)]; simp
  | succ k ih =>
    intro n h
    by_cases h1 : n < 128
    · rw [vb_lt h1]; simp
    · rw [vb_ge h1, List.length_cons]
      have := ih (n / 128) (by rw [Nat.div_lt_iff_lt_mul (by decide)]; rw [Nat.pow_succ] at h; omega)
      omega
def zz (n : Int) : Nat := if n < 0 then (-2 * n - 1).toNat else (2 * n).toNat
def encN (n : Int) : List UInt8 := vb (zz n)
theorem encN_len {n : Int} (h : -9223372036854775808 ≤ n ∧ n ≤ 9223372036854775807) : (encN n).length ≤ 10 := by
  refine vb_len 9 _ ?_
  have : (128 : Nat) ^ (9 + 1) = 1180591620717411303424 := by decide
  rw [this]; unfold zz; split <;> omega
theorem u64_wrap (x : Int) : IntKind.wrap .u64 x = x % 18446744073709551616 := by
  have h1 : (IntKind.u64).bits = 64 := rfl
  simp [IntKind.wrap, h1, IntKind.signed]
theorem u8_wrap (x : Int) : IntKind.wrap .u8 x = x % 256 := by
  have h1 : (IntKind.u8).bits = 8 := rfl
  simp [IntKind.wrap, h1, IntKind.signed]
theorem i64_wrap (x : Int) : IntKind.wrap .i64 x = (x + 9223372036854775808) % 18446744073709551616 - 9223372036854775808 := by
  have h1 : (IntKind.i64).bits = 64 := rfl
  simp [IntKind.wrap, h1, IntKind.signed]
  split <;> omega
theorem zz_neg {n : Int} (h0 : -9223372036854775808 ≤ n) (h : n < 0) : IntKind.wrap .u64 (IntKind.wrap .i64 (IntKind.wrap .i64 (-2 * n) - 1)) = (zz n : Int) := by
  rw [u64_wrap, i64_wrap, i64_wrap, zz, if_pos h]; omega
theorem zz_pos {n : Int} (h0 : n ≤ 9223372036854775807) (h : ¬ n < 0) : IntKind.wrap .u64 (IntKind.wrap .i64 (2 * n)) = (zz n : Int) := by
  rw [u64_wrap, i64_wrap, zz, if_neg h]; omega
theorem lc_byte {l : Loc} {m : Mem} {d : Nat} {v : Int} {b : UInt8} (h : v = (b.toNat : Int)) : sliceRows (upd l d (some ⟨[[.int .u8 v]], 1⟩)) m (.sl (.lc d) 0 1 1) = some ([b].map bR) := by
  subst h; simp [sliceRows, rows?, blk?, upd, bR]
theorem byte_lo {x : Nat} (h : x < 128) : IntKind.u8.wrap (x : Int) = ((UInt8.ofNat x).toNat : Int) := by
  rw [u8_wrap]; simp [UInt8.toNat_ofNat']
theorem or128 : ∀ y : Fin 256, (BitVec.ofNat 8 y.val ||| 128#8).toNat = y.val % 128 + 128 := by decide +kernel
theorem byte_hi (x : Nat) : IntKind.u8.wrap ((BitVec.ofInt IntKind.u8.bits (IntKind.u8.wrap (x : Int)) ||| BitVec.ofInt IntKind.u8.bits 128).toNat : Int) = ((UInt8.ofNat (x % 128 + 128)).toNat : Int) := by
  have hb : IntKind.u8.bits = 8 := rfl
  rw [hb, u8_wrap, u8_wrap]
  have e1 : BitVec.ofInt 8 ((x : Int) % 256) = BitVec.ofNat 8 (x % 256) := by
    rw [show ((x : Int) % 256) = ((x % 256 : Nat) : Int) by omega]; exact BitVec.ofInt_natCast 8 (x % 256)
  have e2 : BitVec.ofInt 8 128 = 128#8 := by decide
  rw [e1, e2, or128 ⟨x % 256, by omega⟩]
  simp only [UInt8.toNat_ofNat']
  omega
theorem shr7 (x : Nat) : ((x : Int).fdiv (2 ^ min 7 IntKind.u64.bits)) = ((x / 128 : Nat) : Int) := by
  have hb : min 7 IntKind.u64.bits = 7 := by decide
  rw [hb]
  rw [show ((2 : Int) ^ 7) = ((128 : Nat) : Int) by decide]
  rw [← Int.ofNat_fdiv]
end Go.Proofs.IM
namespace Go.Proofs.YtdonkjepjobhnaaDoor.IM
open Go Go.Proofs.IM Go.Proofs.Flt
set_option maxHeartbeats 8000000
set_option maxRecDepth 100000
theorem s_wnum {m0 m : Mem} {w : AV} {bs : List UInt8} {n : Int} {K : AR → Mem → Prop} (hw : WrO m0 m w bs) (h0 : -9223372036854775808 ≤ n) (h1 : n ≤ 9223372036854775807) (hlen : bs.length ≤ 2 ^ 39)
    (h : ∀ m', WrO m0 m' w (bs ++ encN n) → K (.ret (.tup [])) m') : Sim Tryd.prog 87 [w, .int .i64 n] m K := by
  refine entry (cxok [24, 37]) Tryd.func87 rfl rfl (by decide) (by decide) ?_
  have hz := encN_len ⟨h0, h1⟩
  obtain ⟨jw, s, rfl, w1, w2, w3, w4⟩ := hw
  have hcase : (n < 0 ∧ IntKind.wrap .u64 (IntKind.wrap .i64 (IntKind.wrap .i64 (-2 * n) - 1)) = (zz n : Int)) ∨ (¬ n < 0 ∧ IntKind.wrap .u64 (IntKind.wrap .i64 (2 * n)) = (zz n : Int)) := by
    by_cases hn : n < 0
    · exact .inl ⟨hn, zz_neg h0 hn⟩
    · exact .inr ⟨hn, zz_pos h1 hn⟩
  rcases hcase with ⟨hn, e⟩ | ⟨hn, e⟩
  all_goals
    refine goh_ ?_
    clear e hn
    refine loop_ (fun k t l c m' => ∃ (x : Nat) (bs' : List UInt8), t 0 = .ptr (.hp jw) 0 0 ∧ t 4 = .int .u64 x ∧ WrO m0 m' (.ptr (.hp jw) 0 0) bs' ∧ bs' ++ vb x = bs ++ encN n ∧ k = x) (zz n) ?_ ?_
    · exact ⟨zz n, bs, rfl, rfl, ⟨jw, s, rfl, w1, w2, w3, w4⟩, rfl, rfl⟩
    clear w2 w3 w4
    intro k t l c m' KN ⟨x, bs', g0, g4, hw, hS, hk⟩ next
    obtain ⟨jw', s', e, w1', w2, w3, w4⟩ := hw
    cases e
    have hsr := w3.r
    obtain ⟨f1, f2, f3, f4⟩ := hsr.facts
    have hbl : bs'.length + (vb x).length ≤ 2 ^ 39 + 10 := by
      have := congrArg List.length hS
      simp only [List.length_append] at this
      omega
    refine goh_ ?_
    refine ⟨fun hd => ?_, fun hd => ?_⟩
    · have hx : ¬ x < 128 := by omega
      rw [vb_ge hx] at hS hbl
      rw [List.length_cons] at hbl
      refine aApp_buf rfl w3 rfl rfl (lc_byte (byte_hi x)) (by simp; omega) fun s2 m2 hb' hfr hj => ?_
      obtain ⟨k1, k2, k3, k4⟩ := wr_step w1' w2 w4 w3 hb' hfr hj
      have hsh := shr7 x
      refine goh_ ?_
      refine next _ _ _ _ _ ?_ ⟨x / 128, bs' ++ [UInt8.ofNat (x % 128 + 128)], g0, ?_, k4, ?_, rfl⟩
      · omega
      · rfl
      · rw [List.append_assoc, List.singleton_append]; exact hS
    · have hx : x < 128 := by omega
      rw [vb_lt hx] at hS hbl
      rw [List.length_singleton] at hbl
      refine aApp_buf rfl w3 rfl rfl (lc_byte (byte_lo hx)) (by simp; omega) fun s2 m2 hb' hfr hj => ?_
      obtain ⟨k1, k2, k3, k4⟩ := wr_step w1' w2 w4 w3 hb' hfr hj
      rw [hS] at k4
      have h := h _ k4
      exact gox_
end Go.Proofs.YtdonkjepjobhnaaDoor.IM
namespace Go.Proofs.Flt
open Ieee
/-- 2.0 and 0.5. -/
theorem read_two : double.read 4611686018427387904 = .number false 4503599627370496 (-51) := by decide +kernel
theorem read_half : double.read 4602678819172646912 = .number false 4503599627370496 (-53) := by decide +kernel
theorem mul_two {a r : Nat} (ha : rung a < infR) (hr : r ≤ infR) (h : M r = 2 * M (rung a)) : double.mul a 4611686018427387904 = some (word (neg a) r) := by
  obtain ⟨m, e, h1, h2, h3⟩ := read_finite a ha
  unfold Format.mul
  rw [h1, read_two]
  simp only [Datum.product, Option.map_some, Option.some.injEq, Bool.xor_false]
  refine nearest_exact _ _ _ r hr ?_
  rw [h, ← h2]
  by_cases c : 51 ≤ e
  · rw [show ((e : Int) - 1074 + -51 + 1074).toNat = e - 51 by omega, show (-((e : Int) - 1074 + -51 + 1074)).toNat = 0 by omega, Nat.pow_zero, Nat.mul_one, show (4503599627370496 : Nat) = 2 ^ 52 from rfl]
    rw [Nat.mul_assoc, ← Nat.pow_add, show 52 + (e - 51) = e + 1 by omega, Nat.pow_succ, Nat.mul_comm (2 ^ e) 2, Nat.mul_left_comm]
  · rw [show ((e : Int) - 1074 + -51 + 1074).toNat = 0 by omega, show (-((e : Int) - 1074 + -51 + 1074)).toNat = 51 - e by omega, Nat.pow_zero, Nat.mul_one, show (4503599627370496 : Nat) = 2 ^ 52 from rfl]
    rw [show 2 * (m * 2 ^ e) * 2 ^ (51 - e) = m * (2 * (2 ^ e * 2 ^ (51 - e))) by ac_rfl, ← Nat.pow_add, show e + (51 - e) = 51 by omega]
theorem mul_half {a r : Nat} (ha : rung a < infR) (hr : r ≤ infR) (h : 2 * M r = M (rung a)) : double.mul a 4602678819172646912 = some (word (neg a) r) := by
  obtain ⟨m, e, h1, h2, h3⟩ := read_finite a ha
  unfold Format.mul
  rw [h1, read_half]
  simp only [Datum.product, Option.map_some, Option.some.injEq, Bool.xor_false]
  refine nearest_exact _ _ _ r hr ?_
  rw [← h2] at h
  apply Nat.eq_of_mul_eq_mul_left (show 0 < 2 by decide)
  rw [← Nat.mul_assoc 2 (M r), h]
  by_cases c : 53 ≤ e
  · rw [show ((e : Int) - 1074 + -53 + 1074).toNat = e - 53 by omega, show (-((e : Int) - 1074 + -53 + 1074)).toNat = 0 by omega, Nat.pow_zero, Nat.mul_one, show (4503599627370496 : Nat) = 2 ^ 52 from rfl]
    rw [Nat.mul_assoc, ← Nat.pow_add, Nat.mul_left_comm, ← Nat.pow_succ', show (52 + (e - 53)).succ = e by omega]
  · rw [show ((e : Int) - 1074 + -53 + 1074).toNat = 0 by omega, show (-((e : Int) - 1074 + -53 + 1074)).toNat = 53 - e by omega, Nat.pow_zero, Nat.mul_one, show (4503599627370496 : Nat) = 2 ^ 52 from rfl]
    rw [Nat.mul_assoc m, ← Nat.pow_add, show e + (53 - e) = 53 by omega]
    rw [show (2 : Nat) ^ 53 = 2 * 2 ^ 52 from rfl, Nat.mul_left_comm]
/-- Halving a word of two binades or more. -/
theorem M_half {r : Nat} (h : 9007199254740992 ≤ r) : 2 * M (r - 4503599627370496) = M r := by
  rw [M_big (r := r) (by omega), M_big (r := r - 4503599627370496) (by omega)]
  rw [show (r - 4503599627370496) % 4503599627370496 = r % 4503599627370496 by omega, show r / 4503599627370496 - 1 = ((r - 4503599627370496) / 4503599627370496 - 1) + 1 by omega, Nat.pow_succ]
  rw [Nat.mul_comm (2 ^ _) 2, Nat.mul_left_comm]
theorem M_double {r : Nat} (h : 4503599627370496 ≤ r) : M (r + 4503599627370496) = 2 * M r := by
  have := M_half (r := r + 4503599627370496) (by omega)
  rw [Nat.add_sub_cancel] at this
  exact this.symm
/-- Half of a word is another word. -/
theorem half_ne {a : Nat} (ha : rung a < infR) (h0 : rung a ≠ 0) : ∃ r, r < infR ∧ r ≠ rung a ∧ double.mul a 4602678819172646912 = some (word (neg a) r) := by
  rcases Nat.lt_or_ge (rung a) 9007199254740992 with h | h
  · have hread : double.read a = .number (neg a) (rung a) (-1074) := by
      unfold Format.read
      rw [dbl_sign, dbl_binade, dbl_inf, dbl_least]
      simp only [show a % 9223372036854775808 = rung a from rfl, show (a / 9223372036854775808 % 2 == 1) = neg a from rfl]
      by_cases h1 : rung a < 4503599627370496
      · rw [if_pos h1]
      · rw [if_neg h1, if_pos ha, show rung a / 4503599627370496 - 1 = 0 by omega, show 4503599627370496 + rung a % 4503599627370496 = rung a by omega]; rfl
    unfold Format.mul
    rw [hread, read_half]
    simp only [Datum.product, Option.map_some, Option.some.injEq, Bool.xor_false, Format.write]
    unfold Format.nearest
    rw [dbl_least, dbl_frac, dbl_binade, dbl_inf]
    simp only [dbl_word]
    generalize neg a = s
    generalize hR : rung a = r at *
    rw [if_neg (by omega)]
    have e1 := log2_mul_pow h0 52
    have hlt : r.log2 < 53 := (Nat.log2_lt h0).2 (by rw [two53]; exact h)
    rw [show (4503599627370496 : Nat) = 2 ^ 52 from rfl, e1]
    have hlast : max ((-1074 : Int) + -53 + ((r.log2 + 52 : Nat) : Int) - ((52 : Nat) : Int)) (-1074) = -1074 := by omega
    rw [hlast]
    rw [show ((-1074 : Int) + -53 - -1074).toNat = 0 by decide, show ((-1074 : Int) - (-1074 + -53)).toNat = 53 by decide, show ((-1074 : Int) - -1074).toNat = 0 by decide, Nat.zero_mul, Nat.zero_add, Nat.shiftLeft_zero]
    unfold Toward.cut
    simp only [e1, show min 53 (r.log2 + 52 + 2) = 53 by omega]
    rw [show (1 <<< 53 : Nat) = 9007199254740992 from rfl, show (2 : Nat) ^ 52 = 4503599627370496 from rfl]
    have hq : r * 4503599627370496 / 9007199254740992 = r / 2 := by omega
    have hm : r * 4503599627370496 % 9007199254740992 = r % 2 * 4503599627370496 := by omega
    rw [hq, hm]
    generalize hmore : (decide (9007199254740992 < 2 * (r % 2 * 4503599627370496)) || (9007199254740992 == 2 * (r % 2 * 4503599627370496) && r / 2 % 2 == 1)) = more
    have hk : more.toNat ≤ 1 := by cases more <;> decide
    have hz : r % 2 = 0 → more.toNat = 0 := by intro e; rw [e] at hmore; rw [← hmore]; rfl
    have h1 : r = 1 → more.toNat = 0 := by intro e; subst e; rw [← hmore]; rfl
    have hi : infR = 9218868437227405312 := rfl
    refine ⟨min (r / 2 + more.toNat) infR, ?_, ?_, rfl⟩ <;> omega
  · have := M_half h
    refine ⟨rung a - 4503599627370496, by omega, by omega, mul_half ha (by omega) this⟩
theorem half_inf {a : Nat} (ha : rung a = infR) : double.mul a 4602678819172646912 = some (word (neg a) infR) := by
  unfold Format.mul
  rw [read_inf a ha, read_half]
  simp only [Datum.product, Option.map_some, Option.some.injEq, Bool.xor_false, Format.write]
  rw [if_neg (by decide)]
  simp only [Option.map_some, Format.write, dbl_inf, dbl_word, Bool.xor_false]
end Go.Proofs.Flt
namespace Go.Proofs.IM
open Go
theorem not64 (y : Nat) (h : y < 18446744073709551616) : IntKind.u64.wrap ((BitVec.ofInt IntKind.u64.bits IntKind.u64.max ^^^ BitVec.ofInt IntKind.u64.bits (y : Int)).toNat : Int) = ((18446744073709551615 - y : Nat) : Int) := by
  have hb : IntKind.u64.bits = 64 := rfl
  have hm : IntKind.u64.max = 18446744073709551615 := by decide
  rw [hb, hm, u64_wrap]
  have e1 : BitVec.ofInt 64 18446744073709551615 = BitVec.allOnes 64 := by decide
  have e2 : BitVec.ofInt 64 (y : Int) = BitVec.ofNat 64 y := BitVec.ofInt_natCast 64 y
  rw [e1, e2, BitVec.allOnes_xor, BitVec.toNat_not, BitVec.toNat_ofNat]
  rw [Nat.mod_eq_of_lt (by omega : y < 2 ^ 64)]
  omega
theorem shl1 {n : Int} : IntKind.u64.wrap (IntKind.u64.wrap n * 2 ^ min 1 IntKind.u64.bits) = (2 * n) % 18446744073709551616 := by
  have hb : min 1 IntKind.u64.bits = 1 := by decide
  rw [hb, u64_wrap, u64_wrap]; omega
theorem zzS_pos {n : Int} (h0 : n ≤ 9223372036854775807) (h : ¬ n < 0) : IntKind.u64.wrap (IntKind.u64.wrap n * 2 ^ min 1 IntKind.u64.bits) = (zz n : Int) := by
  rw [shl1, zz, if_neg h]; omega
theorem zzS_neg {n : Int} (h0 : -9223372036854775808 ≤ n) (h : n < 0) : IntKind.u64.wrap ((BitVec.ofInt IntKind.u64.bits IntKind.u64.max ^^^ BitVec.ofInt IntKind.u64.bits (IntKind.u64.wrap (IntKind.u64.wrap n * 2 ^ min 1 IntKind.u64.bits))).toNat : Int) = (zz n : Int) := by
  rw [shl1, show (2 * n) % 18446744073709551616 = (((2 * n) % 18446744073709551616).toNat : Int) by omega, not64 _ (by omega), zz, if_pos h]
  omega
theorem or128' : ∀ y : Fin 128, y.val ||| 128 = y.val + 128 := by decide
theorem byteS_hi (x : Nat) : IntKind.u8.wrap (IntKind.u64.wrap ((BitVec.ofInt IntKind.u64.bits (IntKind.u64.wrap ((BitVec.ofInt IntKind.u64.bits (x : Int) &&& BitVec.ofInt IntKind.u64.bits 127).toNat : Int)) ||| BitVec.ofInt IntKind.u64.bits 128).toNat : Int)) = ((UInt8.ofNat (x % 128 + 128)).toNat : Int) := by
  have hb : IntKind.u64.bits = 64 := rfl
  rw [hb]
  have e2 : BitVec.ofInt 64 127 = 127#64 := by decide
  have e3 : BitVec.ofInt 64 128 = 128#64 := by decide
  rw [e2, e3, show BitVec.ofInt 64 (x : Int) = BitVec.ofNat 64 x from BitVec.ofInt_natCast 64 x]
  have e4 : (BitVec.ofNat 64 x &&& 127#64).toNat = x % 128 := by
    rw [BitVec.toNat_and, BitVec.toNat_ofNat]
    show x % 2 ^ 64 &&& 127 = x % 128
    rw [show (127 : Nat) = 2 ^ 7 - 1 by decide, Nat.and_two_pow_sub_one_eq_mod]
    omega
  rw [e4, u64_wrap ((x % 128 : Nat) : Int), show ((x % 128 : Nat) : Int) % 18446744073709551616 = ((x % 128 : Nat) : Int) by omega]
  rw [show BitVec.ofInt 64 ((x % 128 : Nat) : Int) = BitVec.ofNat 64 (x % 128) from BitVec.ofInt_natCast 64 (x % 128), BitVec.toNat_or, BitVec.toNat_ofNat]
  rw [Nat.mod_eq_of_lt (by omega : x % 128 < 2 ^ 64)]
  show IntKind.u8.wrap (IntKind.u64.wrap ((x % 128 ||| 128 : Nat) : Int)) = _
  rw [or128' ⟨x % 128, by omega⟩, u64_wrap, u8_wrap]
  simp only [UInt8.toNat_ofNat']
  omega
/-- What a buffer's reading slice gives for a walk. -/
theorem BuO.facts {m0 m : Mem} {s : AV} {bs : List UInt8} (h : BuO m0 m s bs) : s.pub1 = true ∧ s.pub2 = true ∧ AV.pub s = true ∧ s.cells = [s] := h.r.facts
/-- What stood beside a buffer stands as it was, and the buffer has not moved onto it. -/
def Kp (s s' : AV) (m m' : Mem) : Prop := m.hp.length ≤ m'.hp.length ∧ ∀ j, j < m.hp.length → (∀ n c, s ≠ .sl (.hp j) 0 n c) → m'.hp[j]? = m.hp[j]? ∧ ∀ n c, s' ≠ .sl (.hp j) 0 n c
theorem Kp.refl (s : AV) (m : Mem) : Kp s s m m := ⟨Nat.le_refl _, fun _ _ h => ⟨rfl, h⟩⟩
theorem Kp.trans {s s' s'' : AV} {m m' m'' : Mem} (a : Kp s s' m m') (b : Kp s' s'' m' m'') : Kp s s'' m m'' := ⟨Nat.le_trans a.1 b.1, fun j hj h => by
  obtain ⟨a1, a2⟩ := a.2 j hj h
  obtain ⟨b1, b2⟩ := b.2 j (Nat.lt_of_lt_of_le hj a.1) a2
  exact ⟨b1.trans a1, b2⟩⟩
theorem Kp.of {m0 m m' : Mem} {s s' : AV} {bs bs' : List UInt8} (hb : BuO m0 m s bs) (hfr : m.hp.length ≤ m'.hp.length ∧ ∀ j, j < m.hp.length → (∀ n c, s ≠ .sl (.hp j) 0 n c) → m'.hp[j]? = m.hp[j]?) (hj : ∀ j n c, s = .sl (.hp j) 0 n c → ∃ j' n' c', s' = .sl (.hp j') 0 n' c' ∧ (j' = j ∨ m.hp.length ≤ j')) : Kp s s' m m' := by
  refine ⟨hfr.1, fun j hlt h => ⟨hfr.2 j hlt h, fun n c e => ?_⟩⟩
  obtain ⟨-, j0, -, c0, B, rfl, -⟩ := hb
  obtain ⟨j', n', c', rfl, h'⟩ := hj j0 _ _ rfl
  cases e
  rcases h' with h' | h'
  · subst h'; exact h _ _ rfl
  · omega
def encT (s : ByteArray) : List UInt8 := encN s.size ++ s.data.toList
theorem bti_at {s : ByteArray} {i : Nat} (h : i < s.size) : bti s i = ((s.data.toList[i]'(by simpa using h)).toNat : Int) := by
  unfold bti
  rw [dif_pos (by simpa using h)]
  simp [ByteArray.getElem_eq_getElem_data]
theorem data_len (s : ByteArray) : s.data.toList.length = s.size := by simp
end Go.Proofs.IM
namespace Go.Proofs.YtdonkjepjobhnaaDoor.IM
open Go Go.Proofs.IM Go.Proofs.Flt
set_option maxHeartbeats 8000000
set_option maxRecDepth 100000
theorem s_l4numK {m0 m : Mem} {s : AV} {bs : List UInt8} {n : Int} {K : AR → Mem → Prop} (hw : BuO m0 m s bs) (h0 : -9223372036854775808 ≤ n) (h1 : n ≤ 9223372036854775807) (hlen : bs.length ≤ 2 ^ 39)
    (h : ∀ s' m', BuO m0 m' s' (bs ++ encN n) → Kp s s' m m' → K (.ret s') m') : Sim Tryd.prog 85 [s, .int .i64 n] m K := by
  refine entry (cxok [20, 27]) Tryd.func85 rfl rfl (by decide) (by decide) ?_
  have hz := encN_len ⟨h0, h1⟩
  have hcase : (n < 0 ∧ IntKind.u64.wrap ((BitVec.ofInt IntKind.u64.bits IntKind.u64.max ^^^ BitVec.ofInt IntKind.u64.bits (IntKind.u64.wrap (IntKind.u64.wrap n * 2 ^ min 1 IntKind.u64.bits))).toNat : Int) = (zz n : Int)) ∨ (¬ n < 0 ∧ IntKind.u64.wrap (IntKind.u64.wrap n * 2 ^ min 1 IntKind.u64.bits) = (zz n : Int)) := by
    by_cases hn : n < 0
    · exact .inl ⟨hn, zzS_neg h0 hn⟩
    · exact .inr ⟨hn, zzS_pos h1 hn⟩
  have hsg : IntKind.u64.signed = false := rfl
  rcases hcase with ⟨hn, e⟩ | ⟨hn, e⟩
  all_goals
    refine goh_ ?_
    clear e hn hsg
    refine loop_ (fun k t l c m' => ∃ (x : Nat) (s' : AV) (bs' : List UInt8), t 0 = s' ∧ t 5 = .int .u64 x ∧ BuO m0 m' s' bs' ∧ Kp s s' m m' ∧ bs' ++ vb x = bs ++ encN n ∧ k = x) (zz n) ?_ ?_
    · exact ⟨zz n, s, bs, rfl, rfl, hw, Kp.refl _ _, rfl, rfl⟩
    clear hw
    intro k t l c m' KN ⟨x, s', bs', g0, g4, hw, hkp, hS, hk⟩ next
    obtain ⟨f1, f2, f3, f4⟩ := hw.facts
    have hbl : bs'.length + (vb x).length ≤ 2 ^ 39 + 10 := by
      have := congrArg List.length hS
      simp only [List.length_append] at this
      omega
    refine goh_ ?_
    refine ⟨fun hd => ?_, fun hd => ?_⟩
    · have hx : ¬ x < 128 := by omega
      rw [vb_ge hx] at hS hbl
      rw [List.length_cons] at hbl
      refine aApp_buf rfl hw rfl rfl (lc_byte (byteS_hi x)) (by simp; omega) fun s2 m2 hb' hfr hj => ?_
      have hsh := shr7 x
      refine goh_ ?_
      refine next _ _ _ _ _ ?_ ⟨x / 128, s2, bs' ++ [UInt8.ofNat (x % 128 + 128)], rfl, rfl, hb', hkp.trans (Kp.of (bs' := bs') hw hfr hj), ?_, rfl⟩
      · omega
      · rw [List.append_assoc, List.singleton_append]; exact hS
    · have hx : x < 128 := by omega
      rw [vb_lt hx] at hS hbl
      rw [List.length_singleton] at hbl
      refine aApp_buf rfl hw rfl rfl (lc_byte (byte_lo hx)) (by simp; omega) fun s2 m2 hb' hfr hj => ?_
      rw [hS] at hb'
      obtain ⟨j1, j2, j3, j4⟩ := hb'.facts
      have h := h _ _ hb' (hkp.trans (Kp.of (bs' := bs') hw hfr hj))
      exact gox_
theorem s_l4num {m0 m : Mem} {s : AV} {bs : List UInt8} {n : Int} {K : AR → Mem → Prop} (hw : BuO m0 m s bs) (h0 : -9223372036854775808 ≤ n) (h1 : n ≤ 9223372036854775807) (hlen : bs.length ≤ 2 ^ 39)
    (h : ∀ s' m', BuO m0 m' s' (bs ++ encN n) → K (.ret s') m') : Sim Tryd.prog 85 [s, .int .i64 n] m K := s_l4numK hw h0 h1 hlen fun s' m' hb _ => h s' m' hb
theorem s_wtext {m0 m : Mem} {w : AV} {bs : List UInt8} {q : ByteArray} {K : AR → Mem → Prop} (hw : WrO m0 m w bs) (hq : q.size ≤ 2 ^ 30) (hlen : bs.length ≤ 2 ^ 38)
    (h : ∀ m', WrO m0 m' w (bs ++ encT q) → K (.ret (.tup [])) m') : Sim Tryd.prog 144 [w, .str q] m K := by
  refine entry (cxok []) Tryd.func144 rfl rfl (by decide) (by decide) ?_
  obtain ⟨jw, s, rfl, w1, w2, w3, w4⟩ := hw
  have hz := encN_len (n := (q.size : Int)) (by omega)
  refine goh_ ?_
  refine s_wnum ⟨jw, s, rfl, w1, w2, w3, w4⟩ (by omega) (by omega) (by omega) fun m1 hw1 => ?_
  obtain ⟨jw', s', e, w1', w2', w3', w4'⟩ := hw1
  cases e
  obtain ⟨f1, f2, f3, f4⟩ := w3'.facts
  refine goh_ ?_
  refine aApp_str rfl (by decide) rfl rfl w3' rfl rfl (by simp; omega) fun s2 m2 hb' hfr hj => ?_
  obtain ⟨k1, k2, k3, k4⟩ := wr_step w1' w2' w4' w3' hb' hfr hj
  rw [List.append_assoc] at k4
  have h := h _ k4
  exact gox_
theorem s_l4text {m0 m : Mem} {s : AV} {bs : List UInt8} {q : ByteArray} {K : AR → Mem → Prop} (hw : BuO m0 m s bs) (hq : q.size ≤ 2 ^ 30) (hlen : bs.length ≤ 2 ^ 38)
    (h : ∀ s' m', BuO m0 m' s' (bs ++ encT q) → K (.ret s') m') : Sim Tryd.prog 141 [s, .str q] m K := by
  refine entry (cxok [20]) Tryd.func141 rfl rfl (by decide) (by decide) ?_
  obtain ⟨f1, f2, f3, f4⟩ := hw.facts
  have hz := encN_len (n := (q.size : Int)) (by omega)
  refine goh_ ?_
  refine s_l4num hw (by omega) (by omega) (by omega) fun s1 m1 hw1 => ?_
  refine goh_ ?_
  refine loop_ (fun k t l c m' => ∃ (i : Nat) (s' : AV), t 0 = s' ∧ t 1 = .str q ∧ t 5 = .int .i64 i ∧ BuO m0 m' s' (bs ++ encN q.size ++ q.data.toList.take i) ∧ i ≤ q.size ∧ k = q.size - i) q.size ?_ ?_
  · exact ⟨0, s1, rfl, rfl, rfl, by simpa using hw1, by omega, by omega⟩
  intro k t l c m' KN ⟨i, s', g0, g1, g5, hb, hi, hk⟩ next
  obtain ⟨f1, f2, f3, f4⟩ := hb.facts
  have hdl := data_len q
  refine goh_ ?_
  refine ⟨fun hd => ?_, fun hd => ?_⟩
  · have hj : i < q.size := by omega
    have hbt := bti_at hj
    have hwr := w64_succ hj (by omega)
    refine goh_ ?_
    refine aApp_buf rfl hb rfl rfl (lc_byte rfl) (by simp; omega) fun s2 m2 hb' hfr hj' => ?_
    refine goh_ ?_
    refine next _ _ _ _ _ ?_ ⟨i + 1, s2, rfl, g1, rfl, ?_, by omega, rfl⟩
    · omega
    · rw [List.append_assoc (bs ++ encN q.size), ← List.take_succ_eq_append_getElem (by omega)] at hb'
      exact hb'
  · have hj : i = q.size := by omega
    rw [hj, ← hdl, List.take_length, List.append_assoc] at hb
    have h := h _ _ (by rw [encT]; rw [hdl] at hb; exact hb)
    exact gox_
theorem s_wflag {m0 m : Mem} {w : AV} {bs : List UInt8} {b : Bool} {K : AR → Mem → Prop} (hw : WrO m0 m w bs) (hlen : bs.length ≤ 2 ^ 39)
    (h : ∀ m', WrO m0 m' w (bs ++ [if b then 1 else 0]) → K (.ret (.tup [])) m') : Sim Tryd.prog 145 [w, .bool b] m K := by
  refine entry (cxok [10, 19]) Tryd.func145 rfl rfl (by decide) (by decide) ?_
  obtain ⟨jw, s, rfl, w1, w2, w3, w4⟩ := hw
  obtain ⟨f1, f2, f3, f4⟩ := w3.facts
  cases b with
  | true =>
    refine goh_ ?_
    refine aApp_buf rfl w3 rfl rfl (lc_byte (b := 1) rfl) (by simp; omega) fun s2 m2 hb' hfr hj => ?_
    obtain ⟨k1, k2, k3, k4⟩ := wr_step w1 w2 w4 w3 hb' hfr hj
    have h := h _ k4
    exact gox_
  | false =>
    refine goh_ ?_
    refine aApp_buf rfl w3 rfl rfl (lc_byte (b := 0) rfl) (by simp; omega) fun s2 m2 hb' hfr hj => ?_
    obtain ⟨k1, k2, k3, k4⟩ := wr_step w1 w2 w4 w3 hb' hfr hj
    have h := h _ k4
    exact gox_
theorem s_l4flag {m0 m : Mem} {s : AV} {bs : List UInt8} {b : Bool} {K : AR → Mem → Prop} (hw : BuO m0 m s bs) (hlen : bs.length ≤ 2 ^ 39)
    (h : ∀ s' m', BuO m0 m' s' (bs ++ [if b then 1 else 0]) → K (.ret s') m') : Sim Tryd.prog 142 [s, .bool b] m K := by
  refine entry (cxok [7, 10]) Tryd.func142 rfl rfl (by decide) (by decide) ?_
  obtain ⟨f1, f2, f3, f4⟩ := hw.facts
  cases b with
  | true =>
    refine goh_ ?_
    refine aApp_buf rfl hw rfl rfl (lc_byte (b := 1) rfl) (by simp; omega) fun s2 m2 hb' hfr hj => ?_
    obtain ⟨j1, j2, j3, j4⟩ := hb'.facts
    have h := h _ _ hb'
    exact gox_
  | false =>
    refine goh_ ?_
    refine aApp_buf rfl hw rfl rfl (lc_byte (b := 0) rfl) (by simp; omega) fun s2 m2 hb' hfr hj => ?_
    obtain ⟨j1, j2, j3, j4⟩ := hb'.facts
    have h := h _ _ hb'
    exact gox_
end Go.Proofs.YtdonkjepjobhnaaDoor.IM
namespace Go.Proofs.Flt
open Ieee Go Go.Proofs.IM
theorem xor63 (a : Nat) : (a ^^^ 2 ^ 63) % 2 ^ 63 = a % 2 ^ 63 ∧ (a ^^^ 2 ^ 63) / 2 ^ 63 = (a / 2 ^ 63) ^^^ 1 := by
  refine ⟨?_, ?_⟩
  · rw [Nat.xor_mod_two_pow, Nat.mod_self, Nat.xor_zero]
  · rw [Nat.xor_div_two_pow, Nat.div_self (Nat.two_pow_pos 63)]
theorem negF (s : Bool) (r : Nat) (h : r < 9223372036854775808) : Op.negFloat .f64 (word s r) = word (!s) r := by
  unfold Op.negFloat
  have e : (FloatKind.f64.format.exponentBits + FloatKind.f64.format.fractionBits) = 63 := by decide
  rw [e]
  obtain ⟨h1, h2⟩ := xor63 (word s r)
  have h3 : (2 : Nat) ^ 63 = 9223372036854775808 := by decide
  rw [h3] at h1 h2
  rw [h3]
  generalize (word s r ^^^ 9223372036854775808) = z at *
  cases s with
  | true =>
    rw [show word true r = 9223372036854775808 + r from rfl] at h1 h2
    rw [show (9223372036854775808 + r) / 9223372036854775808 = 1 by omega] at h2
    show z = r
    have : (1 : Nat) ^^^ 1 = 0 := by decide
    omega
  | false =>
    rw [show word false r = r from rfl] at h1 h2
    rw [show r / 9223372036854775808 = 0 by omega] at h2
    show z = 9223372036854775808 + r
    have : (0 : Nat) ^^^ 1 = 1 := by decide
    omega
theorem infR_lt : infR < 9223372036854775808 := by decide
theorem nan_w {s : Bool} {r : Nat} (h : r ≤ infR) : nan (word s r) = false := nan_word s r h
theorem val_w {r : Nat} (h : r ≤ infR) : val (word false r) = M r := by
  rw [val_word false r (by have := infR_lt; omega)]; rfl
theorem fgeq_w {a c : Nat} (ha : a ≤ infR) (hc : c ≤ infR) : fgeq (word false a) c = decide (c ≤ a) := by
  rw [fgeq_iff, nan_w ha, show nan c = false from nan_w (s := false) hc, show val c = M c from val_w hc, val_w ha, Bool.eq_iff_iff]
  simp only [Bool.not_false, Bool.true_and, decide_eq_true_eq]
  constructor
  · intro h
    rcases Nat.lt_or_ge a c with h1 | h1
    · have := M_lt h1; omega
    · exact h1
  · intro h; have := M_le h; omega
theorem flss_w {a c : Nat} (ha : a ≤ infR) (hc : c ≤ infR) : flss (word false a) c = decide (a < c) := by
  rw [flss_iff, nan_w ha, show nan c = false from nan_w (s := false) hc, show val c = M c from val_w hc, val_w ha, Bool.eq_iff_iff]
  simp only [Bool.not_false, Bool.true_and, decide_eq_true_eq]
  constructor
  · intro h
    exact M_lt_iff.1 (by omega)
  · intro h; have := M_lt h; omega
theorem feq_w {s : Bool} {a b : Nat} (ha : a ≤ infR) (hb : b ≤ infR) : feq (word s a) (word s b) = decide (a = b) := by
  have h1 := infR_lt
  rw [feq_iff, nan_w ha, nan_w hb, val_word _ _ (by omega), val_word _ _ (by omega), Bool.eq_iff_iff]
  simp only [Bool.not_false, Bool.true_and, decide_eq_true_eq]
  constructor
  · intro h
    refine M_inj ?_
    cases s <;> simp at h <;> omega
  · intro h; rw [h]
theorem feq_w0 {s : Bool} {a : Nat} (ha : a ≤ infR) : feq (word s a) 0 = decide (a = 0) := by
  have h1 := infR_lt
  rw [feq_iff, nan_w ha, show nan 0 = false from nan_w (s := false) (by decide), val_word _ _ (by omega), val_zero, Bool.eq_iff_iff]
  simp only [Bool.not_false, Bool.true_and, decide_eq_true_eq]
  constructor
  · intro h
    refine M_inj ?_
    rw [M_zero]
    cases s <;> simp at h <;> omega
  · intro h; subst h; rw [M_zero]; cases s <;> rfl
theorem flss_w0 {s : Bool} {a : Nat} (ha : a ≤ infR) : flss (word s a) 0 = (s && decide (a ≠ 0)) := by
  have h1 := infR_lt
  rw [flss_iff, nan_w ha, show nan 0 = false from nan_w (s := false) (by decide), val_word _ _ (by omega), val_zero, Bool.eq_iff_iff]
  simp only [Bool.not_false, Bool.true_and, decide_eq_true_eq, Bool.and_eq_true]
  by_cases h : a = 0
  · subst h; rw [M_zero]; cases s <;> simp
  · have := M_pos (r := a) (by omega)
    cases s <;> simp <;> omega
/-- A word is its sign and its rung. -/
theorem word_of {b : Nat} (hb : b < 18446744073709551616) (hn : nan b = false) : ∃ s r, b = word s r ∧ r ≤ infR :=
  ⟨neg b, rung b, (word_self b hb).symm, by
    have : ¬ infR < rung b := by simpa [nan] using hn
    omega⟩
theorem tr_w {r : Nat} (h : r < infR) : tr (word false r) = ((M r / U : Nat) : Int) := by
  have h1 := infR_lt
  unfold tr
  rw [neg_word false r (by omega), rung_word false r (by omega)]; rfl
theorem f2i_w {r : Nat} (h : r < infR) : f2i (word false r) = ((M r / U : Nat) : Int) := by
  rw [f2i_fin (by rw [rung_word false r (by have := infR_lt; omega)]; exact h), tr_w h]
theorem f2iOk_w {r : Nat} (h : r < infR) (k : IntKind) : f2iOk k (word false r) = decide (k.min ≤ ((M r / U : Nat) : Int) ∧ ((M r / U : Nat) : Int) ≤ k.max) := by
  rw [f2iOk_fin (by rw [rung_word false r (by have := infR_lt; omega)]; exact h), tr_w h]
theorem M_52 {r : Nat} (h1 : 4841369599423283200 ≤ r) (h2 : r < 4845873199050653696) : M r = (4503599627370496 + r % 4503599627370496) * U := by
  rw [M_big (by omega), show r / 4503599627370496 - 1 = k0 by rw [k0_eq]; omega, pow_k0]
/-- A doubled word. -/
theorem M_dbl {r : Nat} (h : r < 4841369599423283200) : ∃ r', r' < 4845873199050653696 ∧ M r' = 2 * M r := by
  by_cases c : 4503599627370496 ≤ r
  · exact ⟨r + 4503599627370496, by omega, M_double c⟩
  · exact ⟨2 * r, by omega, by rw [M_low (by omega), M_low (by omega)]⟩
/-- What is left when a word has been doubled d times until it is whole and great. -/
theorem bits_end {r rr d : Nat} (hr : r < infR) (hM : M rr = M r * 2 ^ d) (hd : d ≤ 1074) (h1 : 4841369599423283200 ≤ rr) (h2 : rr < 4845873199050653696) : r = (1075 - d) * 4503599627370496 + rr % 4503599627370496 := by
  refine M_inj ?_
  have e := M_52 h1 h2
  have hx : (1075 - d) * 4503599627370496 + rr % 4503599627370496 ≥ 4503599627370496 := by omega
  rw [M_big hx, show ((1075 - d) * 4503599627370496 + rr % 4503599627370496) % 4503599627370496 = rr % 4503599627370496 by omega,
    show ((1075 - d) * 4503599627370496 + rr % 4503599627370496) / 4503599627370496 - 1 = k0 - d by rw [k0_eq]; omega]
  apply Nat.eq_of_mul_eq_mul_right (Nat.two_pow_pos d)
  rw [← hM, e, Nat.mul_assoc, ← Nat.pow_add, show k0 - d + d = k0 by rw [k0_eq]; omega, pow_k0]
theorem bits_end0 {r rr : Nat} (hM : M rr = M r * 2 ^ 1074) (h1 : rr < 4841369599423283200) : r < 4503599627370496 ∧ M rr / U = r := by
  rw [← k0_eq, pow_k0] at hM
  have h2 := M_lt h1
  have h5 := M_52 (r := 4841369599423283200) (Nat.le_refl _) (by omega)
  rw [h5, hM] at h2
  have h3 : M r < 4503599627370496 + 4841369599423283200 % 4503599627370496 := Nat.lt_of_mul_lt_mul_right h2
  have h4 : r < 4503599627370496 := by
    refine M_lt_iff.1 ?_
    rw [M_low (r := 4503599627370496) (by omega)]; omega
  refine ⟨h4, ?_⟩
  rw [hM, Nat.mul_div_cancel _ U_pos, M_low (by omega)]
end Go.Proofs.Flt
namespace Go.Proofs.IM
open Go Go.Proofs.Flt
theorem bvor64 {x y : Nat} (hx : x < 18446744073709551616) (hy : y < 18446744073709551616) : IntKind.u64.wrap ((BitVec.ofInt IntKind.u64.bits (x : Int) ||| BitVec.ofInt IntKind.u64.bits (y : Int)).toNat : Int) = ((x ||| y : Nat) : Int) := by
  have hb : IntKind.u64.bits = 64 := rfl
  rw [hb, u64_wrap, show BitVec.ofInt 64 (x : Int) = BitVec.ofNat 64 x from BitVec.ofInt_natCast 64 x, show BitVec.ofInt 64 (y : Int) = BitVec.ofNat 64 y from BitVec.ofInt_natCast 64 y, BitVec.toNat_or, BitVec.toNat_ofNat, BitVec.toNat_ofNat,
    Nat.mod_eq_of_lt (by omega : x < 2 ^ 64), Nat.mod_eq_of_lt (by omega : y < 2 ^ 64)]
  have : x ||| y < 2 ^ 64 := Nat.or_lt_two_pow (by omega) (by omega)
  omega
theorem or_add {A i b : Nat} (h : b < 2 ^ i) : A * 2 ^ i ||| b = A * 2 ^ i + b := by
  have := Nat.shiftLeft_add_eq_or_of_lt h A
  rw [Nat.shiftLeft_eq] at this
  exact this.symm
def sg (s : Bool) : Nat := if s then 9223372036854775808 else 0
def sgI (s : Bool) : Int := if s then 9223372036854775808 else 0
theorem sgI_eq (s : Bool) : sgI s = (sg s : Int) := by cases s <;> rfl
theorem sg_or {s : Bool} {r : Nat} (h : r < 9223372036854775808) : IntKind.u64.wrap ((BitVec.ofInt IntKind.u64.bits (sgI s) ||| BitVec.ofInt IntKind.u64.bits (r : Int)).toNat : Int) = ((word s r : Nat) : Int) := by
  rw [sgI_eq, bvor64 (by unfold sg; split <;> omega) (by omega)]
  congr 1
  cases s with
  | false => exact Nat.zero_or r
  | true =>
    have := or_add (A := 1) (i := 63) (b := r) (by omega)
    rw [Nat.one_mul, show (2 : Nat) ^ 63 = 9223372036854775808 by decide] at this
    exact this
theorem sg_or2 {s : Bool} {E f : Nat} (hE : E < 2048) (h : f < 4503599627370496) : IntKind.u64.wrap ((BitVec.ofInt IntKind.u64.bits ((word s (E * 4503599627370496) : Nat) : Int) ||| BitVec.ofInt IntKind.u64.bits (f : Int)).toNat : Int) = ((word s (E * 4503599627370496 + f) : Nat) : Int) := by
  rw [bvor64 (by unfold word; split <;> omega) (by omega)]
  congr 1
  have e52 : (2 : Nat) ^ 52 = 4503599627370496 := by decide
  cases s with
  | false =>
    have := or_add (A := E) (i := 52) (b := f) (by omega)
    rw [e52] at this
    exact this
  | true =>
    have := or_add (A := 2048 + E) (i := 52) (b := f) (by omega)
    rw [e52, show (2048 + E) * 4503599627370496 = 9223372036854775808 + E * 4503599627370496 by omega] at this
    rw [show word true (E * 4503599627370496) = 9223372036854775808 + E * 4503599627370496 from rfl, this]
    show _ = 9223372036854775808 + (E * 4503599627370496 + f)
    omega
theorem shl52 {E : Nat} (hE : E < 2048) : IntKind.u64.wrap ((E : Int) * 2 ^ min 52 IntKind.u64.bits) = ((E * 4503599627370496 : Nat) : Int) := by
  have hb : min 52 IntKind.u64.bits = 52 := by decide
  rw [hb, u64_wrap]; omega
end Go.Proofs.IM
namespace Go.Proofs.YtdonkjepjobhnaaDoor.IM
open Go Go.Proofs.IM Go.Proofs.Flt
set_option maxHeartbeats 8000000
set_option maxRecDepth 100000
theorem s_l4bits {b : Nat} {m : Mem} {K : AR → Mem → Prop} (hb : b < 18446744073709551616) (hn : nan b = false) (h : K (.ret (.int .u64 b)) m) : Sim Tryd.prog 175 [.flt b] m K := by
  refine entry (cxok []) Tryd.func175 rfl rfl (by decide) (by decide) ?_
  obtain ⟨s, r, rfl, hr⟩ := word_of hb hn
  have hi := infR_lt
  have e1 := flss_w0 (s := s) hr
  have e2 := feq_w0 (s := s) hr
  have e3 := feq_w0 (s := false) hr
  have e3' := feq_w0 (s := true) hr
  have e4 := negF true r (by omega)
  have hsg : ∀ s : Bool, (sg s : Int) = if s then 9223372036854775808 else 0 := by intro s; cases s <;> rfl
  by_cases h0 : r = 0
  · subst h0
    have e5 := one_over (a := word s 0) (rung_word s 0 (by decide))
    rw [neg_word s 0 (by decide)] at e5
    have e6 := flss_inf s
    cases s with
    | true =>
      have h : K (.ret (.int .u64 9223372036854775808)) m := h
      exact gox_
    | false =>
      have h : K (.ret (.int .u64 0)) m := h
      exact gox_
  have hM0 : feq (word s r) 0 = false := by rw [e2]; simp [h0]
  have hM1 : feq (word false r) 0 = false := by rw [e3]; simp [h0]
  have hM2 : flss (word s r) 0 = s := by rw [e1]; simp [h0]
  clear e1 e2 e3 e3' hsg
  by_cases hinf : r = infR
  · subst hinf
    have k1 := half_inf (a := word false infR) (rung_word false infR (by decide))
    rw [neg_word false infR (by decide)] at k1
    have k2 := feq_w (s := false) (a := infR) (b := infR) (Nat.le_refl _) (Nat.le_refl _)
    have k3 := sg_or (s := s) (r := infR) (by decide)
    rw [← k3] at h
    cases s with
    | true =>
      have h : K (.ret (.int .u64 (IntKind.u64.wrap ((BitVec.ofInt IntKind.u64.bits 9223372036854775808 ||| BitVec.ofInt IntKind.u64.bits 9218868437227405312).toNat : Int)))) m := h
      exact gox_
    | false =>
      have h : K (.ret (.int .u64 (IntKind.u64.wrap ((BitVec.ofInt IntKind.u64.bits 0 ||| BitVec.ofInt IntKind.u64.bits 9218868437227405312).toNat : Int)))) m := h
      exact gox_
  have hr' : r < infR := by omega
  obtain ⟨rh, q1, q2, q3⟩ := half_ne (a := word false r) (by rw [rung_word false r (by omega)]; exact hr') (by rw [rung_word false r (by omega)]; exact h0)
  rw [neg_word false r (by omega)] at q3
  rw [rung_word false r (by omega)] at q2
  have q4 := feq_w (s := false) (a := rh) (b := r) (by omega) hr
  rw [decide_eq_false q2] at q4
  have hsI : infR = 9218868437227405312 := rfl
  obtain ⟨s', hs'⟩ : ∃ s', s' = s := ⟨s, rfl⟩
  rw [← hs'] at h
  cases s
  all_goals
    refine goh_ ?_
    clear hM0 hM1 hM2 e4 q1 q2 q3 q4 hinf hr hn hb
    refine loop_ (fun k t l c m' => m' = m ∧ ∃ (e rr : Nat), t 0 = .flt (word false rr) ∧ t 3 = .int .u64 (sgI s') ∧ t 4 = .int .i64 e ∧ rr + e * 4503599627370496 = r ∧ (e = 0 ∨ 4841369599423283200 ≤ rr) ∧ k = rr) r ?_ ?_
    · exact ⟨rfl, 0, r, rfl, by rw [hs']; rfl, rfl, by omega, .inl rfl, rfl⟩
    clear hs'
    intro k t l c m1 KN ⟨hm, e, rr, g0, g3, g4, hS, he, hk⟩ next
    subst m1
    have c1 := fgeq_w (a := rr) (c := 4845873199050653696) (by omega) (by rw [hsI]; omega)
    refine goh_ ?_
    refine ⟨fun hd => ?_, fun hd => ?_⟩
    · have p1 := M_half (r := rr) (by omega)
      have p2 := mul_half (a := word false rr) (r := rr - 4503599627370496) (by rw [rung_word false rr (by omega)]; omega) (by omega) (by rw [rung_word false rr (by omega)]; exact p1)
      rw [neg_word false rr (by omega)] at p2
      have p3 : w64 ((e : Int) + 1) = ((e + 1 : Nat) : Int) := w64_succ (n := e + 1) (by omega) (by omega)
      refine goh_ ?_
      exact next _ _ _ _ _ (by omega) ⟨rfl, e + 1, rr - 4503599627370496, rfl, g3, rfl, by omega, .inr (by omega), rfl⟩
    have hlt : rr < 4845873199050653696 := by omega
    clear next c1 hd hk
    refine loop_ (fun k t l c m' => m' = m ∧ ∃ (d rr2 : Nat), t 0 = .flt (word false rr2) ∧ t 3 = .int .u64 (sgI s') ∧ t 4 = .int .i64 ((e : Int) - d) ∧ M rr2 = M rr * 2 ^ d ∧ rr2 < 4845873199050653696 ∧ (e ≠ 0 → d = 0 ∧ rr2 = rr) ∧ d ≤ 1074 ∧ k = 1074 - d) 1074 ?_ ?_
    · exact ⟨rfl, 0, rr, g0, g3, g4.trans (by simp), by simp, hlt, fun _ => ⟨rfl, rfl⟩, by omega, rfl⟩
    clear g0 g3 g4
    intro k t l c m1 KN ⟨hm, d, rr2, g0, g3, g4, hM, hlt2, he2, hd, hk⟩ next
    subst m1
    have c1 := flss_w (a := rr2) (c := 4841369599423283200) (by omega) (by rw [hsI]; omega)
    by_cases hcont : rr2 < 4841369599423283200 ∧ d < 1074
    · obtain ⟨d1, d2⟩ := hcont
      rw [decide_eq_true d1] at c1
      have he0 : e = 0 := by
        rcases he with he | he
        · exact he
        · by_cases h0 : e = 0
          · exact h0
          · obtain ⟨_, e2⟩ := he2 h0; omega
      have c2 : ((-1074 : Int) < (e : Int) - d) = True := by rw [eq_iff_iff, iff_true]; omega
      obtain ⟨r3, x1, x2⟩ := M_dbl d1
      have p2 := mul_two (a := word false rr2) (r := r3) (by rw [rung_word false rr2 (by omega)]; omega) (by omega) (by rw [rung_word false rr2 (by omega)]; exact x2)
      rw [neg_word false rr2 (by omega)] at p2
      have p3 : w64 ((e : Int) - d - 1) = (e : Int) - ((d + 1 : Nat) : Int) := by rw [w64_id (by omega)]; omega
      clear he0
      refine goh_ ?_
      have hx : e ≠ 0 → d + 1 = 0 ∧ r3 = rr := by
        intro q
        rcases he with he | he
        · exact (q he).elim
        · obtain ⟨_, e2⟩ := he2 q; omega
      exact next _ _ _ _ _ (by omega) ⟨rfl, d + 1, r3, rfl, g3, rfl, by rw [x2, hM, Nat.pow_succ, Nat.mul_comm 2, Nat.mul_assoc], x1, hx, by omega, rfl⟩
    clear next
    have hcond : (decide (rr2 < 4841369599423283200) && decide ((-1074 : Int) < (e : Int) - d)) = false := by
      rw [Bool.and_eq_false_iff]
      by_cases d1 : rr2 < 4841369599423283200
      · right
        have he0 : e = 0 := by
          rcases he with he | he
          · exact he
          · by_cases h0 : e = 0
            · exact h0
            · obtain ⟨_, e2⟩ := he2 h0; omega
        simp only [decide_eq_false_iff_not]; omega
      · left; simpa using d1
    have i1 := f2i_w (r := rr2) (by omega)
    have i2 := f2iOk_w (r := rr2) (by omega) .u64
    have hmax : IntKind.u64.max = 18446744073709551615 := by decide
    have hmin : IntKind.u64.min = 0 := by decide
    by_cases d1 : rr2 < 4841369599423283200
    · rw [decide_eq_true d1] at c1
      simp only [decide_eq_true d1, Bool.true_and, decide_eq_false_iff_not] at hcond
      have he0 : e = 0 := by
        rcases he with he | he
        · exact he
        · by_cases h0 : e = 0
          · exact h0
          · obtain ⟨_, e2⟩ := he2 h0; omega
      have hd' : d = 1074 := by omega
      have hrr : rr = r := by omega
      rw [hrr, hd'] at hM
      obtain ⟨y1, y2⟩ := bits_end0 hM d1
      rw [y2] at i1 i2
      have i2' : f2iOk .u64 (word false rr2) = true := by rw [i2, hmax, hmin, decide_eq_true_eq]; omega
      have c2 : ((-1074 : Int) < (e : Int) - d) = False := by rw [eq_iff_iff, iff_false]; omega
      have c3 : ((r : Int) < 4503599627370496) = True := by rw [eq_iff_iff, iff_true]; omega
      have k3 := sg_or (s := s') (r := r) (by omega)
      clear he0 hd' hrr hcond i2
      exact gox_
    · rw [decide_eq_false d1] at c1
      have y1 := M_52 (by omega : 4841369599423283200 ≤ rr2) hlt2
      rw [y1, Nat.mul_div_cancel _ U_pos] at i1 i2
      have i2' : f2iOk .u64 (word false rr2) = true := by rw [i2, hmax, hmin, decide_eq_true_eq]; omega
      have hfin : r = ((e : Int) - d + 1075).toNat * 4503599627370496 + rr2 % 4503599627370496 ∧ 0 ≤ (e : Int) - d + 1075 ∧ (e : Int) - d + 1075 < 2048 := by
        by_cases h0 : e = 0
        · have hrr : rr = r := by omega
          rw [hrr] at hM
          have := bits_end hr' hM hd (by omega) hlt2
          omega
        · obtain ⟨e1, e2⟩ := he2 h0
          omega
      obtain ⟨z1, z2, z3⟩ := hfin
      have c3 : (((4503599627370496 + rr2 % 4503599627370496 : Nat) : Int) < 4503599627370496) = False := by rw [eq_iff_iff, iff_false]; omega
      have p3 : IntKind.u64.wrap (IntKind.i64.wrap ((e : Int) - d + 1075)) = ((((e : Int) - d + 1075).toNat : Nat) : Int) := by rw [u64_wrap, i64_wrap]; omega
      have p4 := shl52 (E := ((e : Int) - d + 1075).toNat) (by omega)
      have p5 : IntKind.u64.wrap (((4503599627370496 + rr2 % 4503599627370496 : Nat) : Int) - 4503599627370496) = ((rr2 % 4503599627370496 : Nat) : Int) := by rw [u64_wrap]; omega
      have p6 := sg_or (s := s') (r := ((e : Int) - d + 1075).toNat * 4503599627370496) (by omega)
      have p7 := sg_or2 (s := s') (E := ((e : Int) - d + 1075).toNat) (f := rr2 % 4503599627370496) (by omega) (by omega)
      rw [z1] at h
      clear z1 hcond hM y1 i2
      exact gox_
end Go.Proofs.YtdonkjepjobhnaaDoor.IM
namespace Go.Proofs.IM
open Go Go.Proofs.Flt
/-- Eight bytes, the greatest first. -/
def beB (f : Nat) : List UInt8 := (List.range 8).map fun i => UInt8.ofNat (f / 2 ^ (56 - 8 * i))
def encV (v : V) : List UInt8 := UInt8.ofNat v.k.toNat :: (if v.k = 1 ∨ v.k = 2 ∨ v.k = 8 then encN v.n else if v.k = 4 then encT v.s else if v.k = 3 then beB v.f else [])
theorem cok_facts {v : V} (h : cok v = true) : (v.k = 0 ∨ v.k = 1 ∨ v.k = 2 ∨ v.k = 3 ∨ v.k = 4 ∨ v.k = 8) ∧ (v.k = 4 → v.s.size ≤ 4000) ∧ (v.k = 3 → nan v.f = false) := by
  obtain ⟨k, n, f, s, r⟩ := v
  simp only [cok, Bool.and_eq_true, Bool.not_eq_true', Bool.or_eq_false_iff, beq_eq_false_iff_ne] at h
  obtain ⟨⟨h1, ⟨h5, h6⟩, h7⟩, h3⟩ := h
  refine ⟨?_, fun e => ?_, fun e => ?_⟩
  · simp only [vok] at h1
    by_cases e0 : k = 0; · exact .inl e0
    by_cases e1 : k = 1; · exact .inr (.inl e1)
    by_cases e2 : k = 2; · exact .inr (.inr (.inl e2))
    by_cases e3 : k = 3; · exact .inr (.inr (.inr (.inl e3)))
    by_cases e4 : k = 4; · exact .inr (.inr (.inr (.inr (.inl e4))))
    by_cases e8 : k = 8; · exact .inr (.inr (.inr (.inr (.inr e8))))
    rw [if_neg e0, if_neg e1, if_neg e2, if_neg e3, if_neg e4, if_neg (by rintro (q | q | q); exact h5 q; exact h6 q; exact h7 q), if_neg e8] at h1
    cases h1
  · simp only at e
    subst e
    simp [vok] at h1
    show s.size ≤ 4000
    omega
  · simp only at e
    subst e
    simpa using h3
theorem shrN {f i : Nat} (hi : i < 8) : (f : Int).fdiv (2 ^ min (56 - 8 * i) IntKind.u64.bits) = ((f / 2 ^ (56 - 8 * i) : Nat) : Int) := by
  have hb : min (56 - 8 * i) IntKind.u64.bits = 56 - 8 * i := by
    have : IntKind.u64.bits = 64 := rfl
    omega
  rw [hb, show ((2 : Int) ^ (56 - 8 * i)) = ((2 ^ (56 - 8 * i) : Nat) : Int) by simp, ← Int.ofNat_fdiv]
theorem byteN (x : Nat) : IntKind.u8.wrap (x : Int) = ((UInt8.ofNat x).toNat : Int) := by
  rw [u8_wrap]; simp [UInt8.toNat_ofNat']
theorem beB_len (f : Nat) : (beB f).length = 8 := by simp [beB]
theorem beB_take {f i : Nat} (hi : i < 8) : (beB f).take (i + 1) = (beB f).take i ++ [UInt8.ofNat (f / 2 ^ (56 - 8 * i))] := by
  rw [List.take_succ_eq_append_getElem (by rw [beB_len]; exact hi)]
  congr 2
  simp [beB]
end Go.Proofs.IM
namespace Go.Proofs.YtdonkjepjobhnaaDoor.IM
open Go Go.Proofs.IM Go.Proofs.Flt
set_option maxHeartbeats 8000000
set_option maxRecDepth 100000
theorem s_wkonst {m0 m : Mem} {w : AV} {bs : List UInt8} {k n r : Int} {f : Nat} {q : ByteArray} {K : AR → Mem → Prop} (hw : WrO m0 m w bs) (hv : (⟨k, n, f, q, r⟩ : V).good) (hc : cok ⟨k, n, f, q, r⟩ = true) (hlen : bs.length ≤ 2 ^ 37)
    (h : ∀ m', WrO m0 m' w (bs ++ encV ⟨k, n, f, q, r⟩) → K (.ret (.tup [])) m') : Sim Tryd.prog 146 [w, .agg [.int .i64 k, .int .i64 n, .flt f, .str q, .int .i64 r]] m K := by
  refine entry (cxok [14, 53]) Tryd.func146 rfl rfl (by decide) (by decide) ?_
  obtain ⟨jw, s, rfl, w1, w2, w3, w4⟩ := hw
  obtain ⟨f1, f2, f3, f4⟩ := w3.facts
  obtain ⟨hk, hstr, hflt⟩ := cok_facts hc
  have hn := hv.n
  have hf := hv.f
  simp only at hk hstr hflt hn hf
  refine goh_ ?_
  refine draw_ [(0, .pure), (1, .pure), (2, .pure), (3, .pure), (4, .read), (5, .pure), (6, .read), (7, .pure), (8, .step [4]), (9, .step []), (10, .pure), (11, .pure), (12, .step [])] (by kernel_rfl) ?_
  refine goh_ ?_
  have hbk : IntKind.u8.wrap k = ((UInt8.ofNat k.toNat).toNat : Int) := by
    rw [show k = ((k.toNat : Nat) : Int) by omega]
    simp only [Int.toNat_natCast]
    exact byteN _
  refine aApp_buf rfl w3 rfl rfl (lc_byte hbk) (by simp; omega) fun s2 m2 hb' hfr hj => ?_
  obtain ⟨k1, k2, k3, k4⟩ := wr_step w1 w2 w4 w3 hb' hfr hj
  rcases hk with e | e | e | e | e | e
  · subst e
    have h := h _ (by simpa [encV] using k4)
    exact gox_
  · subst e
    refine goh_ ?_
    refine s_wnum k4 hn.1 hn.2 (by simp; omega) fun m3 hw3 => ?_
    have h := h _ (by simpa [encV] using hw3)
    exact gox_
  · subst e
    refine goh_ ?_
    refine s_wnum k4 hn.1 hn.2 (by simp; omega) fun m3 hw3 => ?_
    have h := h _ (by simpa [encV] using hw3)
    exact gox_
  · subst e
    refine goh_ ?_
    refine s_bits ?_
    refine goh_ ?_
    refine loop_ (fun k t l c m' => ∃ (i : Nat), t 0 = .ptr (.hp jw) 0 0 ∧ t 4 = .int .u64 f ∧ t 5 = .int .i64 (56 - 8 * (i : Int)) ∧ WrO m0 m' (.ptr (.hp jw) 0 0) (bs ++ [3] ++ (beB f).take i) ∧ i ≤ 8 ∧ k = 8 - i) 8 ?_ ?_
    · exact ⟨0, rfl, rfl, rfl, by simpa using k4, by omega, by omega⟩
    clear k1 k2 k3 k4 w2 w3 w4 hb' hfr hj
    intro k t l c m3 KN ⟨i, g0, g4, g5, hw, hi, hk⟩ next
    obtain ⟨jw', s3, e, w1', w2, w3, w4⟩ := hw
    cases e
    obtain ⟨f1, f2, f3, f4⟩ := w3.facts
    by_cases hlt : i < 8
    · have c1 : ((0 : Int) ≤ 56 - 8 * (i : Int)) = True := by rw [eq_iff_iff, iff_true]; omega
      have e1 : IntKind.u64.wrap (56 - 8 * (i : Int)) = ((56 - 8 * i : Nat) : Int) := by rw [u64_wrap]; omega
      have e2 := shrN (f := f) hlt
      have e3 : w64 (56 - 8 * (i : Int) - 8) = 56 - 8 * ((i + 1 : Nat) : Int) := by rw [w64_id (by omega)]; omega
      refine goh_ ?_
      refine aApp_buf rfl w3 rfl rfl (lc_byte (byteN _)) (by simp; omega) fun s4 m4 hb' hfr hj => ?_
      obtain ⟨k1, k2, k3, k4⟩ := wr_step w1' w2 w4 w3 hb' hfr hj
      refine goh_ ?_
      refine next _ _ _ _ _ ?_ ⟨i + 1, g0, g4, rfl, ?_, by omega, rfl⟩
      · omega
      · rw [beB_take hlt, ← List.append_assoc]; exact k4
    · have hi8 : i = 8 := by omega
      have c1 : ((0 : Int) ≤ 56 - 8 * (i : Int)) = False := by rw [eq_iff_iff, iff_false]; omega
      have h := h m3 (by
        have : (beB f).take i = beB f := List.take_of_length_le (by rw [beB_len]; omega)
        rw [this] at w3
        exact ⟨jw, s3, rfl, w1', w2, by simpa [encV] using w3, w4⟩)
      clear hi8
      exact gox_
  · subst e
    have hs4 := hstr rfl
    refine goh_ ?_
    refine s_wtext k4 (by omega) (by simp; omega) fun m3 hw3 => ?_
    have h := h _ (by simpa [encV] using hw3)
    exact gox_
  · subst e
    refine goh_ ?_
    refine s_wnum k4 hn.1 hn.2 (by simp; omega) fun m3 hw3 => ?_
    have h := h _ (by simpa [encV] using hw3)
    exact gox_
theorem s_l4const {m0 m : Mem} {s : AV} {bs : List UInt8} {k n r : Int} {f : Nat} {q : ByteArray} {K : AR → Mem → Prop} (hw : BuO m0 m s bs) (hv : (⟨k, n, f, q, r⟩ : V).good) (hc : cok ⟨k, n, f, q, r⟩ = true) (hlen : bs.length ≤ 2 ^ 37)
    (h : ∀ s' m', BuO m0 m' s' (bs ++ encV ⟨k, n, f, q, r⟩) → K (.ret s') m') : Sim Tryd.prog 143 [s, .agg [.int .i64 k, .int .i64 n, .flt f, .str q, .int .i64 r]] m K := by
  refine entry (cxok [11, 46]) Tryd.func143 rfl rfl (by decide) (by decide) ?_
  obtain ⟨f1, f2, f3, f4⟩ := hw.facts
  obtain ⟨hk, hstr, hflt⟩ := cok_facts hc
  have hn := hv.n
  have hf := hv.f
  simp only at hk hstr hflt hn hf
  refine goh_ ?_
  have hbk : IntKind.u8.wrap k = ((UInt8.ofNat k.toNat).toNat : Int) := by
    rw [show k = ((k.toNat : Nat) : Int) by omega]
    simp only [Int.toNat_natCast]
    exact byteN _
  refine aApp_buf rfl hw rfl rfl (lc_byte hbk) (by simp; omega) fun s2 m2 hb' hfr hj => ?_
  obtain ⟨g1, g2, g3, g4⟩ := hb'.facts
  rcases hk with e | e | e | e | e | e
  · subst e
    have h := h _ _ (by simpa [encV] using hb')
    exact gox_
  · subst e
    refine goh_ ?_
    refine s_l4num hb' hn.1 hn.2 (by simp; omega) fun s3 m3 hw3 => ?_
    obtain ⟨j1, j2, j3, j4⟩ := hw3.facts
    have h := h _ _ (by simpa [encV] using hw3)
    exact gox_
  · subst e
    refine goh_ ?_
    refine s_l4num hb' hn.1 hn.2 (by simp; omega) fun s3 m3 hw3 => ?_
    obtain ⟨j1, j2, j3, j4⟩ := hw3.facts
    have h := h _ _ (by simpa [encV] using hw3)
    exact gox_
  · subst e
    refine goh_ ?_
    refine s_l4bits hf (hflt rfl) ?_
    refine goh_ ?_
    refine loop_ (fun k t l c m' => ∃ (i : Nat) (s3 : AV), t 0 = s3 ∧ t 5 = .int .u64 f ∧ t 6 = .int .i64 i ∧ BuO m0 m' s3 (bs ++ [3] ++ (beB f).take i) ∧ i ≤ 8 ∧ k = 8 - i) 8 ?_ ?_
    · exact ⟨0, s2, rfl, rfl, rfl, by simpa using hb', by omega, by omega⟩
    clear g1 g2 g3 g4 hw hb' hfr hj
    intro k t l c m3 KN ⟨i, s3, g0, g4, g5, hw, hi, hk⟩ next
    obtain ⟨f1, f2, f3, f4⟩ := hw.facts
    by_cases hlt : i < 8
    · have c1 : ((i : Int) < 8) = True := by rw [eq_iff_iff, iff_true]; omega
      have e0 : w64 (8 * (i : Int)) = 8 * (i : Int) := w64_id (by omega)
      have e1 : w64 (56 - 8 * (i : Int)) = 56 - 8 * (i : Int) := w64_id (by omega)
      have e1' : IntKind.u64.wrap (56 - 8 * (i : Int)) = ((56 - 8 * i : Nat) : Int) := by rw [u64_wrap]; omega
      have e2 := shrN (f := f) hlt
      have e3 : w64 ((i : Int) + 1) = ((i + 1 : Nat) : Int) := w64_succ hlt (by omega)
      refine goh_ ?_
      refine aApp_buf rfl hw rfl rfl (lc_byte (byteN _)) (by simp; omega) fun s4 m4 hb' hfr hj => ?_
      refine goh_ ?_
      refine next _ _ _ _ _ ?_ ⟨i + 1, s4, rfl, g4, rfl, ?_, by omega, rfl⟩
      · omega
      · rw [beB_take hlt, ← List.append_assoc]; exact hb'
    · have hi8 : i = 8 := by omega
      have c1 : ((i : Int) < 8) = False := by rw [eq_iff_iff, iff_false]; omega
      have h := h s3 m3 (by
        have : (beB f).take i = beB f := List.take_of_length_le (by rw [beB_len]; omega)
        rw [this] at hw
        simpa [encV] using hw)
      clear hi8
      exact gox_
  · subst e
    have hs4 := hstr rfl
    refine goh_ ?_
    refine s_l4text hb' (by omega) (by simp; omega) fun s3 m3 hw3 => ?_
    obtain ⟨j1, j2, j3, j4⟩ := hw3.facts
    have h := h _ _ (by simpa [encV] using hw3)
    exact gox_
  · subst e
    refine goh_ ?_
    refine s_l4num hb' hn.1 hn.2 (by simp; omega) fun s3 m3 hw3 => ?_
    obtain ⟨j1, j2, j3, j4⟩ := hw3.facts
    have h := h _ _ (by simpa [encV] using hw3)
    exact gox_
end Go.Proofs.YtdonkjepjobhnaaDoor.IM
namespace Go.Proofs.IM
open Go Go.Proofs.Flt
def encU (u : U) : List UInt8 := [if u.loc then 1 else 0] ++ encN u.ix
def encI (x : I) : List UInt8 := encN x.op ++ encN x.a ++ encN x.b ++ encN x.c ++ encN x.d
def encNm (n : Nm) : List UInt8 := encT n.s ++ encN n.reg ++ encN n.lo ++ encN n.hi
def fm {α : Type} (f : α → List UInt8) : List α → List UInt8
  | [] => []
  | x :: xs => f x ++ fm f xs
theorem fm_at {α : Type} {f : α → List UInt8} {xs : List α} {i : Nat} (h : i < xs.length) : fm f (xs.drop i) = f xs[i] ++ fm f (xs.drop (i + 1)) := by rw [List.drop_eq_getElem_cons h]; rfl
def encP (p : Pr) : List UInt8 := encT p.s ++ (encN p.line ++ (encN p.params ++ ([if p.rest then 1 else 0] ++ (encN p.regs ++ (encN p.ups.length ++ (fm encU p.ups ++ (encN p.consts.length ++ (fm encV p.consts ++ (encN p.ins.length ++ (fm encI p.ins ++ (encN p.named.length ++ fm encNm p.named)))))))))))
theorem BuO.le {m0 m : Mem} {s : AV} {bs : List UInt8} (h : BuO m0 m s bs) : m0.le m := h.1
theorem WrO.le {m0 m : Mem} {w : AV} {bs : List UInt8} (h : WrO m0 m w bs) : m0.le m := let ⟨_, _, _, _, _, h, _⟩ := h; h.1
theorem BuO.push {m0 m : Mem} {s : AV} {bs : List UInt8} (h : BuO m0 m s bs) (B : Blk) : BuO m0 (m.push B) s bs := by
  obtain ⟨h1, j, h2, c, B', rfl, h3, h4⟩ := h
  exact ⟨h1.push' B, j, h2, c, B', rfl, (Mem.le.push m B).hp j B' h3, h4⟩
theorem encT_size (s : ByteArray) : s.size ≤ (encT s).length := by simp [encT]
theorem encN_len' {n : Int} (h : i64 n) : (encN n).length ≤ 10 := encN_len h
end Go.Proofs.IM
namespace Go.Proofs.YtdonkjepjobhnaaDoor.IM
open Go Go.Proofs.IM Go.Proofs.Flt
set_option maxHeartbeats 16000000
set_option maxRecDepth 100000
theorem s_wproto {m0 m : Mem} {w : AV} {bs : List UInt8} {p : Pr} {s1 s2 s3 s4 : AV} {K : AR → Mem → Prop} (hw : WrO m0 m w bs) (h1 : SlR m0 2 s1 (p.ups.map U.av)) (h2 : SlR m0 5 s2 (p.consts.map V.av)) (h3 : SlR m0 5 s3 (p.ins.map I.av)) (h4 : SlR m0 4 s4 (p.named.map Nm.av)) (hg : p.good) (hc : ∀ v ∈ p.consts, cok v = true) (hlen : bs.length + (encP p).length ≤ 2 ^ 30)
    (h : ∀ m', WrO m0 m' w (bs ++ encP p) → K (.ret (.tup [])) m') : Sim Tryd.prog 88 [w, .agg [.str p.s, .int .i64 p.line, .int .i64 p.params, .bool p.rest, .int .i64 p.regs, s1, s2, s3, s4]] m K := by
  refine entry (cxok []) Tryd.func88 rfl rfl (by decide) (by decide) ?_
  obtain ⟨jw, sw, rfl, w1, w2, w3, w4⟩ := hw
  have hw : WrO m0 m (.ptr (.hp jw) 0 0) bs := ⟨jw, sw, rfl, w1, w2, w3, w4⟩
  clear w1 w2 w3 w4
  have gs := encT_size p.s
  have hl1 := hg.ups
  have hl2 := hg.consts
  have hl3 := hg.ins
  have hl4 := hg.named
  simp only [encP, List.length_append, List.length_singleton] at hlen
  obtain ⟨b1, b2, b3, b4⟩ := h1.facts
  obtain ⟨c1, c2, c3, c4⟩ := h2.facts
  obtain ⟨d1, d2, d3, d4⟩ := h3.facts
  obtain ⟨e1, e2, e3, e4⟩ := h4.facts
  have hfull : bs ++ encT p.s ++ encN p.line ++ encN p.params ++ [if p.rest then 1 else 0] ++ encN p.regs ++ encN p.ups.length ++ fm encU p.ups ++ encN p.consts.length ++ fm encV p.consts ++ encN p.ins.length ++ fm encI p.ins ++ encN p.named.length ++ fm encNm p.named = bs ++ encP p := by
    simp only [encP, List.append_assoc]
  refine goh_ ?_
  refine s_wtext hw (by omega) (by omega) fun m1 hb1 => ?_
  refine goh_ ?_
  refine s_wnum hb1 hg.line.1 hg.line.2 (by first | omega | (simp only [List.length_append, List.length_singleton]; omega)) fun m2 hb2 => ?_
  refine goh_ ?_
  refine s_wnum hb2 hg.params.1 hg.params.2 (by first | omega | (simp only [List.length_append, List.length_singleton]; omega)) fun m3 hb3 => ?_
  refine goh_ ?_
  refine s_wflag hb3 (by first | omega | (simp only [List.length_append, List.length_singleton]; omega)) fun m4 hb4 => ?_
  refine goh_ ?_
  refine s_wnum hb4 hg.regs.1 hg.regs.2 (by first | omega | (simp only [List.length_append, List.length_singleton]; omega)) fun m5 hb5 => ?_
  have lnups := (h1.mono hb5.le).len'
  rw [List.length_map] at lnups
  refine goh_ ?_
  refine s_wnum hb5 (by omega) (by omega) (by first | omega | (simp only [List.length_append, List.length_singleton]; omega)) fun m6 hb6 => ?_
  have lmups := (h1.mono hb6.le).len'
  rw [List.length_map] at lmups
  refine goh_ ?_
  refine loop_ (fun k t l c m' => ∃ (i : Nat) (bs' : List UInt8), t 0 = .ptr (.hp jw) 0 0 ∧ t 3 = .ptr (.lc 0) 0 0 ∧ l 0 = some ⟨[[.str p.s, .int .i64 p.line, .int .i64 p.params, .bool p.rest, .int .i64 p.regs, s1, s2, s3, s4]], 9⟩ ∧ 1 ≤ c ∧ t 40 = s1 ∧ t 41 = .int .i64 p.ups.length ∧ t 42 = .int .i64 i ∧ WrO m0 m' (.ptr (.hp jw) 0 0) bs' ∧ bs' ++ fm encU (p.ups.drop i) = bs ++ encT p.s ++ encN p.line ++ encN p.params ++ [if p.rest then 1 else 0] ++ encN p.regs ++ encN p.ups.length ++ fm encU p.ups ∧ i ≤ p.ups.length ∧ k = p.ups.length - i) p.ups.length ?_ ?_
  · exact ⟨0, bs ++ encT p.s ++ encN p.line ++ encN p.params ++ [if p.rest then 1 else 0] ++ encN p.regs ++ encN p.ups.length, rfl, rfl, rfl, by omega, rfl, rfl, rfl, hb6, rfl, by omega, by omega⟩
  intro k t l c m' KN ⟨i, bs', g0, g3, gl0, gc, ga, gb, gi, hbx, hS, hi, hk⟩ next
  obtain ⟨q0, q0'⟩ := far_of (a := 0) (c := c) (by omega)
  have hlS : bs'.length + (fm encU (p.ups.drop i)).length ≤ 2 ^ 30 := by
    rw [← List.length_append, hS]; simp only [List.length_append, List.length_singleton]; omega
  refine goh_ ?_
  refine ⟨fun hd => ?_, fun hd => ?_⟩
  · have hj : i < p.ups.length := by omega
    have hr0 := h1.mono hbx.le
    obtain ⟨a5, i5, c5, B5, rfl, hb5, hz5, hr5⟩ := hr0.some_ (j := i) (by simpa using hj)
    have hr5 := fun l => hr5 l i (by simpa using hj)
    simp only [List.getElem_map] at hr5
    have hw5 := w64_succ hj (by omega)
    rw [fm_at hj] at hS hlS
    simp only [List.length_append, encU] at hlS
    refine goh_ ?_
    refine s_wflag hbx (by first | omega | (simp only [List.length_append, List.length_singleton]; omega)) fun m8 hb8 => ?_
    refine goh_ ?_
    refine s_wnum hb8 (hg.up p.ups[i] (by simp)).1 (hg.up p.ups[i] (by simp)).2 (by first | omega | (simp only [List.length_append, List.length_singleton]; omega)) fun m9 hb9 => ?_
    refine goh_ ?_
    exact next _ _ _ _ _ (by omega) ⟨i + 1, _, g0, g3, by simp only [upd_far, q0, q0', gl0], by omega, ga, gb, rfl, hb9, by simp only [encU, List.append_assoc] at hS ⊢; exact hS, by omega, rfl⟩
  rw [show i = p.ups.length by omega, List.drop_length] at hS
  simp only [fm, List.append_nil] at hS
  subst hS
  clear next hlS hd hk hi ga gb gi
  have lnconsts := (h2.mono hbx.le).len'
  rw [List.length_map] at lnconsts
  refine goh_ ?_
  refine s_wnum hbx (by omega) (by omega) (by first | omega | (simp only [List.length_append, List.length_singleton]; omega)) fun m10 hb10 => ?_
  have lmconsts := (h2.mono hb10.le).len'
  rw [List.length_map] at lmconsts
  refine goh_ ?_
  refine loop_ (fun k t l c m' => ∃ (i : Nat) (bs' : List UInt8), t 0 = .ptr (.hp jw) 0 0 ∧ t 3 = .ptr (.lc 0) 0 0 ∧ l 0 = some ⟨[[.str p.s, .int .i64 p.line, .int .i64 p.params, .bool p.rest, .int .i64 p.regs, s1, s2, s3, s4]], 9⟩ ∧ 1 ≤ c ∧ t 61 = s2 ∧ t 62 = .int .i64 p.consts.length ∧ t 63 = .int .i64 i ∧ WrO m0 m' (.ptr (.hp jw) 0 0) bs' ∧ bs' ++ fm encV (p.consts.drop i) = bs ++ encT p.s ++ encN p.line ++ encN p.params ++ [if p.rest then 1 else 0] ++ encN p.regs ++ encN p.ups.length ++ fm encU p.ups ++ encN p.consts.length ++ fm encV p.consts ∧ i ≤ p.consts.length ∧ k = p.consts.length - i) p.consts.length ?_ ?_
  · exact ⟨0, bs ++ encT p.s ++ encN p.line ++ encN p.params ++ [if p.rest then 1 else 0] ++ encN p.regs ++ encN p.ups.length ++ fm encU p.ups ++ encN p.consts.length, g0, g3, by simp only [upd_far, q0, q0', gl0], by omega, rfl, rfl, rfl, hb10, rfl, by omega, by omega⟩
  clear g0 g3 gl0 gc q0 q0'
  intro k t l c m' KN ⟨i, bs', g0, g3, gl0, gc, ga, gb, gi, hbx, hS, hi, hk⟩ next
  obtain ⟨q0, q0'⟩ := far_of (a := 0) (c := c) (by omega)
  have hlS : bs'.length + (fm encV (p.consts.drop i)).length ≤ 2 ^ 30 := by
    rw [← List.length_append, hS]; simp only [List.length_append, List.length_singleton]; omega
  refine goh_ ?_
  refine ⟨fun hd => ?_, fun hd => ?_⟩
  · have hj : i < p.consts.length := by omega
    have hr0 := h2.mono hbx.le
    obtain ⟨a5, i5, c5, B5, rfl, hb5, hz5, hr5⟩ := hr0.some_ (j := i) (by simpa using hj)
    have hr5 := fun l => hr5 l i (by simpa using hj)
    simp only [List.getElem_map] at hr5
    have hw5 := w64_succ hj (by omega)
    rw [fm_at hj] at hS hlS
    simp only [List.length_append, encV] at hlS
    refine goh_ ?_
    refine s_wkonst hbx (show (⟨p.consts[i].k, p.consts[i].n, p.consts[i].f, p.consts[i].s, p.consts[i].r⟩ : V).good from hg.const p.consts[i] (by simp)) (hc p.consts[i] (by simp)) (by omega) fun m12 hb12 => ?_
    refine goh_ ?_
    exact next _ _ _ _ _ (by omega) ⟨i + 1, _, g0, g3, by simp only [upd_far, q0, q0', gl0], by omega, ga, gb, rfl, hb12, by rw [List.append_assoc]; exact hS, by omega, rfl⟩
  rw [show i = p.consts.length by omega, List.drop_length] at hS
  simp only [fm, List.append_nil] at hS
  subst hS
  clear next hlS hd hk hi ga gb gi
  have lnins := (h3.mono hbx.le).len'
  rw [List.length_map] at lnins
  refine goh_ ?_
  refine s_wnum hbx (by omega) (by omega) (by first | omega | (simp only [List.length_append, List.length_singleton]; omega)) fun m13 hb13 => ?_
  have lmins := (h3.mono hb13.le).len'
  rw [List.length_map] at lmins
  refine goh_ ?_
  refine loop_ (fun k t l c m' => ∃ (i : Nat) (bs' : List UInt8), t 0 = .ptr (.hp jw) 0 0 ∧ t 3 = .ptr (.lc 0) 0 0 ∧ l 0 = some ⟨[[.str p.s, .int .i64 p.line, .int .i64 p.params, .bool p.rest, .int .i64 p.regs, s1, s2, s3, s4]], 9⟩ ∧ 1 ≤ c ∧ t 77 = s3 ∧ t 78 = .int .i64 p.ins.length ∧ t 79 = .int .i64 i ∧ WrO m0 m' (.ptr (.hp jw) 0 0) bs' ∧ bs' ++ fm encI (p.ins.drop i) = bs ++ encT p.s ++ encN p.line ++ encN p.params ++ [if p.rest then 1 else 0] ++ encN p.regs ++ encN p.ups.length ++ fm encU p.ups ++ encN p.consts.length ++ fm encV p.consts ++ encN p.ins.length ++ fm encI p.ins ∧ i ≤ p.ins.length ∧ k = p.ins.length - i) p.ins.length ?_ ?_
  · exact ⟨0, bs ++ encT p.s ++ encN p.line ++ encN p.params ++ [if p.rest then 1 else 0] ++ encN p.regs ++ encN p.ups.length ++ fm encU p.ups ++ encN p.consts.length ++ fm encV p.consts ++ encN p.ins.length, g0, g3, by simp only [upd_far, q0, q0', gl0], by omega, rfl, rfl, rfl, hb13, rfl, by omega, by omega⟩
  clear g0 g3 gl0 gc q0 q0'
  intro k t l c m' KN ⟨i, bs', g0, g3, gl0, gc, ga, gb, gi, hbx, hS, hi, hk⟩ next
  obtain ⟨q0, q0'⟩ := far_of (a := 0) (c := c) (by omega)
  have hlS : bs'.length + (fm encI (p.ins.drop i)).length ≤ 2 ^ 30 := by
    rw [← List.length_append, hS]; simp only [List.length_append, List.length_singleton]; omega
  refine goh_ ?_
  refine ⟨fun hd => ?_, fun hd => ?_⟩
  · have hj : i < p.ins.length := by omega
    have hr0 := h3.mono hbx.le
    obtain ⟨a5, i5, c5, B5, rfl, hb5, hz5, hr5⟩ := hr0.some_ (j := i) (by simpa using hj)
    have hr5 := fun l => hr5 l i (by simpa using hj)
    simp only [List.getElem_map] at hr5
    have hw5 := w64_succ hj (by omega)
    rw [fm_at hj] at hS hlS
    simp only [List.length_append, encI] at hlS
    refine goh_ ?_
    have v1 : w64 1 = 1 := by decide
    have v2 : w64 2 = 2 := by decide
    have v3 : w64 3 = 3 := by decide
    have v4 : w64 4 = 4 := by decide
    refine s_wnum hbx (hg.insn p.ins[i] (by simp)).op.1 (hg.insn p.ins[i] (by simp)).op.2 (by first | omega | (simp only [List.length_append, List.length_singleton]; omega)) fun m15 hb15 => ?_
    refine goh_ ?_
    refine s_fields ?_
    refine goh_ ?_
    refine loop_n (KN0 := fun _ _ => True) 5 ?_
    rw [rounds_s]
    refine goh_ ?_
    refine s_wnum hb15 (hg.insn p.ins[i] (by simp)).a.1 (hg.insn p.ins[i] (by simp)).a.2 (by first | omega | (simp only [List.length_append, List.length_singleton]; omega)) fun m16 hb16 => ?_
    refine goh_ ?_
    rw [rounds_s]
    refine goh_ ?_
    refine s_wnum hb16 (hg.insn p.ins[i] (by simp)).b.1 (hg.insn p.ins[i] (by simp)).b.2 (by first | omega | (simp only [List.length_append, List.length_singleton]; omega)) fun m17 hb17 => ?_
    refine goh_ ?_
    rw [rounds_s]
    refine goh_ ?_
    refine s_wnum hb17 (hg.insn p.ins[i] (by simp)).c.1 (hg.insn p.ins[i] (by simp)).c.2 (by first | omega | (simp only [List.length_append, List.length_singleton]; omega)) fun m18 hb18 => ?_
    refine goh_ ?_
    rw [rounds_s]
    refine goh_ ?_
    refine s_wnum hb18 (hg.insn p.ins[i] (by simp)).d.1 (hg.insn p.ins[i] (by simp)).d.2 (by first | omega | (simp only [List.length_append, List.length_singleton]; omega)) fun m19 hb19 => ?_
    refine goh_ ?_
    rw [rounds_s]
    refine goh_ ?_
    exact next _ _ _ _ _ (by omega) ⟨i + 1, _, g0, g3, by simp only [upd_far, q0, q0', gl0], by omega, ga, gb, rfl, hb19, by simp only [encI, List.append_assoc] at hS ⊢; exact hS, by omega, rfl⟩
  rw [show i = p.ins.length by omega, List.drop_length] at hS
  simp only [fm, List.append_nil] at hS
  subst hS
  clear next hlS hd hk hi ga gb gi
  have lnnamed := (h4.mono hbx.le).len'
  rw [List.length_map] at lnnamed
  refine goh_ ?_
  refine s_wnum hbx (by omega) (by omega) (by first | omega | (simp only [List.length_append, List.length_singleton]; omega)) fun m20 hb20 => ?_
  have lmnamed := (h4.mono hb20.le).len'
  rw [List.length_map] at lmnamed
  refine goh_ ?_
  refine loop_ (fun k t l c m' => ∃ (i : Nat) (bs' : List UInt8), t 0 = .ptr (.hp jw) 0 0 ∧ t 3 = .ptr (.lc 0) 0 0 ∧ l 0 = some ⟨[[.str p.s, .int .i64 p.line, .int .i64 p.params, .bool p.rest, .int .i64 p.regs, s1, s2, s3, s4]], 9⟩ ∧ 1 ≤ c ∧ t 103 = s4 ∧ t 104 = .int .i64 p.named.length ∧ t 105 = .int .i64 i ∧ WrO m0 m' (.ptr (.hp jw) 0 0) bs' ∧ bs' ++ fm encNm (p.named.drop i) = bs ++ encT p.s ++ encN p.line ++ encN p.params ++ [if p.rest then 1 else 0] ++ encN p.regs ++ encN p.ups.length ++ fm encU p.ups ++ encN p.consts.length ++ fm encV p.consts ++ encN p.ins.length ++ fm encI p.ins ++ encN p.named.length ++ fm encNm p.named ∧ i ≤ p.named.length ∧ k = p.named.length - i) p.named.length ?_ ?_
  · exact ⟨0, bs ++ encT p.s ++ encN p.line ++ encN p.params ++ [if p.rest then 1 else 0] ++ encN p.regs ++ encN p.ups.length ++ fm encU p.ups ++ encN p.consts.length ++ fm encV p.consts ++ encN p.ins.length ++ fm encI p.ins ++ encN p.named.length, g0, g3, by simp only [upd_far, q0, q0', gl0], by omega, rfl, rfl, rfl, hb20, rfl, by omega, by omega⟩
  clear g0 g3 gl0 gc q0 q0'
  intro k t l c m' KN ⟨i, bs', g0, g3, gl0, gc, ga, gb, gi, hbx, hS, hi, hk⟩ next
  obtain ⟨q0, q0'⟩ := far_of (a := 0) (c := c) (by omega)
  have hlS : bs'.length + (fm encNm (p.named.drop i)).length ≤ 2 ^ 30 := by
    rw [← List.length_append, hS]; simp only [List.length_append, List.length_singleton]; omega
  refine goh_ ?_
  refine ⟨fun hd => ?_, fun hd => ?_⟩
  · have hj : i < p.named.length := by omega
    have hr0 := h4.mono hbx.le
    obtain ⟨a5, i5, c5, B5, rfl, hb5, hz5, hr5⟩ := hr0.some_ (j := i) (by simpa using hj)
    have hr5 := fun l => hr5 l i (by simpa using hj)
    simp only [List.getElem_map] at hr5
    have hw5 := w64_succ hj (by omega)
    rw [fm_at hj] at hS hlS
    simp only [List.length_append, encNm] at hlS
    refine goh_ ?_
    have gs2 := encT_size p.named[i].s
    refine s_wtext hbx (by omega) (by omega) fun m22 hb22 => ?_
    refine goh_ ?_
    refine s_wnum hb22 (hg.name p.named[i] (by simp)).reg.1 (hg.name p.named[i] (by simp)).reg.2 (by first | omega | (simp only [List.length_append, List.length_singleton]; omega)) fun m23 hb23 => ?_
    refine goh_ ?_
    refine s_wnum hb23 (hg.name p.named[i] (by simp)).lo.1 (hg.name p.named[i] (by simp)).lo.2 (by first | omega | (simp only [List.length_append, List.length_singleton]; omega)) fun m24 hb24 => ?_
    refine goh_ ?_
    refine s_wnum hb24 (hg.name p.named[i] (by simp)).hi.1 (hg.name p.named[i] (by simp)).hi.2 (by first | omega | (simp only [List.length_append, List.length_singleton]; omega)) fun m25 hb25 => ?_
    refine goh_ ?_
    exact next _ _ _ _ _ (by omega) ⟨i + 1, _, g0, g3, by simp only [upd_far, q0, q0', gl0], by omega, ga, gb, rfl, hb25, by simp only [encNm, List.append_assoc] at hS ⊢; exact hS, by omega, rfl⟩
  rw [show i = p.named.length by omega, List.drop_length] at hS
  simp only [fm, List.append_nil] at hS
  subst hS
  clear next hlS hd hk hi ga gb gi
  rw [hfull] at hbx
  have h := h _ hbx
  exact gox_
theorem s_l4proto {m0 m : Mem} {s : AV} {bs : List UInt8} {p : Pr} {s1 s2 s3 s4 : AV} {K : AR → Mem → Prop} (hw : BuO m0 m s bs) (h1 : SlR m0 2 s1 (p.ups.map U.av)) (h2 : SlR m0 5 s2 (p.consts.map V.av)) (h3 : SlR m0 5 s3 (p.ins.map I.av)) (h4 : SlR m0 4 s4 (p.named.map Nm.av)) (hg : p.good) (hc : ∀ v ∈ p.consts, cok v = true) (hlen : bs.length + (encP p).length ≤ 2 ^ 30)
    (h : ∀ s' m', BuO m0 m' s' (bs ++ encP p) → K (.ret s') m') : Sim Tryd.prog 86 [s, .agg [.str p.s, .int .i64 p.line, .int .i64 p.params, .bool p.rest, .int .i64 p.regs, s1, s2, s3, s4]] m K := by
  refine entry (cxok []) Tryd.func86 rfl rfl (by decide) (by decide) ?_
  obtain ⟨y0, z0, v0, u0⟩ := hw.facts
  have gs := encT_size p.s
  have hl1 := hg.ups
  have hl2 := hg.consts
  have hl3 := hg.ins
  have hl4 := hg.named
  simp only [encP, List.length_append, List.length_singleton] at hlen
  obtain ⟨b1, b2, b3, b4⟩ := h1.facts
  obtain ⟨c1, c2, c3, c4⟩ := h2.facts
  obtain ⟨d1, d2, d3, d4⟩ := h3.facts
  obtain ⟨e1, e2, e3, e4⟩ := h4.facts
  have hfull : bs ++ encT p.s ++ encN p.line ++ encN p.params ++ [if p.rest then 1 else 0] ++ encN p.regs ++ encN p.ups.length ++ fm encU p.ups ++ encN p.consts.length ++ fm encV p.consts ++ encN p.ins.length ++ fm encI p.ins ++ encN p.named.length ++ fm encNm p.named = bs ++ encP p := by
    simp only [encP, List.append_assoc]
  refine goh_ ?_
  refine s_l4text hw (by omega) (by omega) fun x1 m1 hb1 => ?_
  obtain ⟨y1, z1, v1, u1⟩ := hb1.facts
  refine goh_ ?_
  refine s_l4num hb1 hg.line.1 hg.line.2 (by first | omega | (simp only [List.length_append, List.length_singleton]; omega)) fun x2 m2 hb2 => ?_
  obtain ⟨y2, z2, v2, u2⟩ := hb2.facts
  refine goh_ ?_
  refine s_l4num hb2 hg.params.1 hg.params.2 (by first | omega | (simp only [List.length_append, List.length_singleton]; omega)) fun x3 m3 hb3 => ?_
  obtain ⟨y3, z3, v3, u3⟩ := hb3.facts
  refine goh_ ?_
  refine s_l4flag hb3 (by first | omega | (simp only [List.length_append, List.length_singleton]; omega)) fun x4 m4 hb4 => ?_
  obtain ⟨y4, z4, v4, u4⟩ := hb4.facts
  refine goh_ ?_
  refine s_l4num hb4 hg.regs.1 hg.regs.2 (by first | omega | (simp only [List.length_append, List.length_singleton]; omega)) fun x5 m5 hb5 => ?_
  obtain ⟨y5, z5, v5, u5⟩ := hb5.facts
  have lnups := (h1.mono hb5.le).len'
  rw [List.length_map] at lnups
  refine goh_ ?_
  refine s_l4num hb5 (by omega) (by omega) (by first | omega | (simp only [List.length_append, List.length_singleton]; omega)) fun x6 m6 hb6 => ?_
  obtain ⟨y6, z6, v6, u6⟩ := hb6.facts
  have lmups := (h1.mono hb6.le).len'
  rw [List.length_map] at lmups
  refine goh_ ?_
  refine loop_ (fun k t l c m' => ∃ (i : Nat) (s' : AV) (bs' : List UInt8), t 0 = s' ∧ t 3 = .ptr (.lc 0) 0 0 ∧ l 0 = some ⟨[[.str p.s, .int .i64 p.line, .int .i64 p.params, .bool p.rest, .int .i64 p.regs, s1, s2, s3, s4]], 9⟩ ∧ 1 ≤ c ∧ t 41 = s1 ∧ t 42 = .int .i64 p.ups.length ∧ t 43 = .int .i64 i ∧ BuO m0 m' s' bs' ∧ bs' ++ fm encU (p.ups.drop i) = bs ++ encT p.s ++ encN p.line ++ encN p.params ++ [if p.rest then 1 else 0] ++ encN p.regs ++ encN p.ups.length ++ fm encU p.ups ∧ i ≤ p.ups.length ∧ k = p.ups.length - i) p.ups.length ?_ ?_
  · exact ⟨0, x6, bs ++ encT p.s ++ encN p.line ++ encN p.params ++ [if p.rest then 1 else 0] ++ encN p.regs ++ encN p.ups.length, rfl, rfl, rfl, by omega, rfl, rfl, rfl, hb6, rfl, by omega, by omega⟩
  intro k t l c m' KN ⟨i, s', bs', g0, g3, gl0, gc, ga, gb, gi, hbx, hS, hi, hk⟩ next
  obtain ⟨q0, q0'⟩ := far_of (a := 0) (c := c) (by omega)
  obtain ⟨yy, zz, vv, uu⟩ := hbx.facts
  have hlS : bs'.length + (fm encU (p.ups.drop i)).length ≤ 2 ^ 30 := by
    rw [← List.length_append, hS]; simp only [List.length_append, List.length_singleton]; omega
  refine goh_ ?_
  refine ⟨fun hd => ?_, fun hd => ?_⟩
  · have hj : i < p.ups.length := by omega
    have hr0 := h1.mono hbx.le
    obtain ⟨a5, i5, c5, B5, rfl, hb5, hz5, hr5⟩ := hr0.some_ (j := i) (by simpa using hj)
    have hr5 := fun l => hr5 l i (by simpa using hj)
    simp only [List.getElem_map] at hr5
    have hw5 := w64_succ hj (by omega)
    rw [fm_at hj] at hS hlS
    simp only [List.length_append, encU] at hlS
    refine goh_ ?_
    refine s_l4flag hbx (by first | omega | (simp only [List.length_append, List.length_singleton]; omega)) fun x8 m8 hb8 => ?_
    obtain ⟨y8, z8, v8, u8⟩ := hb8.facts
    refine goh_ ?_
    refine s_l4num hb8 (hg.up p.ups[i] (by simp)).1 (hg.up p.ups[i] (by simp)).2 (by first | omega | (simp only [List.length_append, List.length_singleton]; omega)) fun x9 m9 hb9 => ?_
    obtain ⟨y9, z9, v9, u9⟩ := hb9.facts
    refine goh_ ?_
    exact next _ _ _ _ _ (by omega) ⟨i + 1, _, _, rfl, g3, by simp only [upd_far, q0, q0', gl0], by omega, ga, gb, rfl, hb9, by simp only [encU, List.append_assoc] at hS ⊢; exact hS, by omega, rfl⟩
  rw [show i = p.ups.length by omega, List.drop_length] at hS
  simp only [fm, List.append_nil] at hS
  subst hS
  clear next hlS hd hk hi ga gb gi
  have lnconsts := (h2.mono hbx.le).len'
  rw [List.length_map] at lnconsts
  refine goh_ ?_
  refine s_l4num hbx (by omega) (by omega) (by first | omega | (simp only [List.length_append, List.length_singleton]; omega)) fun x10 m10 hb10 => ?_
  obtain ⟨y10, z10, v10, u10⟩ := hb10.facts
  have lmconsts := (h2.mono hb10.le).len'
  rw [List.length_map] at lmconsts
  refine goh_ ?_
  refine loop_ (fun k t l c m' => ∃ (i : Nat) (s' : AV) (bs' : List UInt8), t 0 = s' ∧ t 3 = .ptr (.lc 0) 0 0 ∧ l 0 = some ⟨[[.str p.s, .int .i64 p.line, .int .i64 p.params, .bool p.rest, .int .i64 p.regs, s1, s2, s3, s4]], 9⟩ ∧ 1 ≤ c ∧ t 62 = s2 ∧ t 63 = .int .i64 p.consts.length ∧ t 64 = .int .i64 i ∧ BuO m0 m' s' bs' ∧ bs' ++ fm encV (p.consts.drop i) = bs ++ encT p.s ++ encN p.line ++ encN p.params ++ [if p.rest then 1 else 0] ++ encN p.regs ++ encN p.ups.length ++ fm encU p.ups ++ encN p.consts.length ++ fm encV p.consts ∧ i ≤ p.consts.length ∧ k = p.consts.length - i) p.consts.length ?_ ?_
  · exact ⟨0, x10, bs ++ encT p.s ++ encN p.line ++ encN p.params ++ [if p.rest then 1 else 0] ++ encN p.regs ++ encN p.ups.length ++ fm encU p.ups ++ encN p.consts.length, rfl, g3, by simp only [upd_far, q0, q0', gl0], by omega, rfl, rfl, rfl, hb10, rfl, by omega, by omega⟩
  clear g0 g3 gl0 gc q0 q0'
  intro k t l c m' KN ⟨i, s', bs', g0, g3, gl0, gc, ga, gb, gi, hbx, hS, hi, hk⟩ next
  obtain ⟨q0, q0'⟩ := far_of (a := 0) (c := c) (by omega)
  obtain ⟨yy, zz, vv, uu⟩ := hbx.facts
  have hlS : bs'.length + (fm encV (p.consts.drop i)).length ≤ 2 ^ 30 := by
    rw [← List.length_append, hS]; simp only [List.length_append, List.length_singleton]; omega
  refine goh_ ?_
  refine ⟨fun hd => ?_, fun hd => ?_⟩
  · have hj : i < p.consts.length := by omega
    have hr0 := h2.mono hbx.le
    obtain ⟨a5, i5, c5, B5, rfl, hb5, hz5, hr5⟩ := hr0.some_ (j := i) (by simpa using hj)
    have hr5 := fun l => hr5 l i (by simpa using hj)
    simp only [List.getElem_map] at hr5
    have hw5 := w64_succ hj (by omega)
    rw [fm_at hj] at hS hlS
    simp only [List.length_append, encV] at hlS
    refine goh_ ?_
    refine s_l4const hbx (show (⟨p.consts[i].k, p.consts[i].n, p.consts[i].f, p.consts[i].s, p.consts[i].r⟩ : V).good from hg.const p.consts[i] (by simp)) (hc p.consts[i] (by simp)) (by omega) fun x12 m12 hb12 => ?_
    obtain ⟨y12, z12, v12, u12⟩ := hb12.facts
    refine goh_ ?_
    exact next _ _ _ _ _ (by omega) ⟨i + 1, _, _, rfl, g3, by simp only [upd_far, q0, q0', gl0], by omega, ga, gb, rfl, hb12, by rw [List.append_assoc]; exact hS, by omega, rfl⟩
  rw [show i = p.consts.length by omega, List.drop_length] at hS
  simp only [fm, List.append_nil] at hS
  subst hS
  clear next hlS hd hk hi ga gb gi
  have lnins := (h3.mono hbx.le).len'
  rw [List.length_map] at lnins
  refine goh_ ?_
  refine s_l4num hbx (by omega) (by omega) (by first | omega | (simp only [List.length_append, List.length_singleton]; omega)) fun x13 m13 hb13 => ?_
  obtain ⟨y13, z13, v13, u13⟩ := hb13.facts
  have lmins := (h3.mono hb13.le).len'
  rw [List.length_map] at lmins
  refine goh_ ?_
  refine loop_ (fun k t l c m' => ∃ (i : Nat) (s' : AV) (bs' : List UInt8), t 0 = s' ∧ t 3 = .ptr (.lc 0) 0 0 ∧ l 0 = some ⟨[[.str p.s, .int .i64 p.line, .int .i64 p.params, .bool p.rest, .int .i64 p.regs, s1, s2, s3, s4]], 9⟩ ∧ 1 ≤ c ∧ t 78 = s3 ∧ t 79 = .int .i64 p.ins.length ∧ t 80 = .int .i64 i ∧ BuO m0 m' s' bs' ∧ bs' ++ fm encI (p.ins.drop i) = bs ++ encT p.s ++ encN p.line ++ encN p.params ++ [if p.rest then 1 else 0] ++ encN p.regs ++ encN p.ups.length ++ fm encU p.ups ++ encN p.consts.length ++ fm encV p.consts ++ encN p.ins.length ++ fm encI p.ins ∧ i ≤ p.ins.length ∧ k = p.ins.length - i) p.ins.length ?_ ?_
  · exact ⟨0, x13, bs ++ encT p.s ++ encN p.line ++ encN p.params ++ [if p.rest then 1 else 0] ++ encN p.regs ++ encN p.ups.length ++ fm encU p.ups ++ encN p.consts.length ++ fm encV p.consts ++ encN p.ins.length, rfl, g3, by simp only [upd_far, q0, q0', gl0], by omega, rfl, rfl, rfl, hb13, rfl, by omega, by omega⟩
  clear g0 g3 gl0 gc q0 q0'
  intro k t l c m' KN ⟨i, s', bs', g0, g3, gl0, gc, ga, gb, gi, hbx, hS, hi, hk⟩ next
  obtain ⟨q0, q0'⟩ := far_of (a := 0) (c := c) (by omega)
  obtain ⟨yy, zz, vv, uu⟩ := hbx.facts
  have hlS : bs'.length + (fm encI (p.ins.drop i)).length ≤ 2 ^ 30 := by
    rw [← List.length_append, hS]; simp only [List.length_append, List.length_singleton]; omega
  refine goh_ ?_
  refine ⟨fun hd => ?_, fun hd => ?_⟩
  · have hj : i < p.ins.length := by omega
    have hr0 := h3.mono hbx.le
    obtain ⟨a5, i5, c5, B5, rfl, hb5, hz5, hr5⟩ := hr0.some_ (j := i) (by simpa using hj)
    have hr5 := fun l => hr5 l i (by simpa using hj)
    simp only [List.getElem_map] at hr5
    have hw5 := w64_succ hj (by omega)
    rw [fm_at hj] at hS hlS
    simp only [List.length_append, encI] at hlS
    refine goh_ ?_
    have v1 : w64 1 = 1 := by decide
    have v2 : w64 2 = 2 := by decide
    have v3 : w64 3 = 3 := by decide
    have v4 : w64 4 = 4 := by decide
    refine s_l4num hbx (hg.insn p.ins[i] (by simp)).op.1 (hg.insn p.ins[i] (by simp)).op.2 (by first | omega | (simp only [List.length_append, List.length_singleton]; omega)) fun x15 m15 hb15 => ?_
    obtain ⟨y15, z15, v15, u15⟩ := hb15.facts
    refine goh_ ?_
    refine s_l3fields ?_
    have hp0 := hb15.push ⟨[[.int .i64 p.ins[i].a], [.int .i64 p.ins[i].b], [.int .i64 p.ins[i].c], [.int .i64 p.ins[i].d]], 1⟩
    have hne : ∀ n c, x15 ≠ .sl (.hp m15.hp.length) 0 n c := by
      obtain ⟨_, j0, _, c0, B0, e0, e1, _⟩ := hb15
      have := (List.getElem?_eq_some_iff.1 e1).1
      rintro n c rfl
      cases e0
      omega
    have hat : (m15.push ⟨[[.int .i64 p.ins[i].a], [.int .i64 p.ins[i].b], [.int .i64 p.ins[i].c], [.int .i64 p.ins[i].d]], 1⟩).hp[m15.hp.length]? = some ⟨[[.int .i64 p.ins[i].a], [.int .i64 p.ins[i].b], [.int .i64 p.ins[i].c], [.int .i64 p.ins[i].d]], 1⟩ := push_at
    have hkp := Kp.refl x15 (m15.push ⟨[[.int .i64 p.ins[i].a], [.int .i64 p.ins[i].b], [.int .i64 p.ins[i].c], [.int .i64 p.ins[i].d]], 1⟩)
    have hjl : m15.hp.length < (m15.push ⟨[[.int .i64 p.ins[i].a], [.int .i64 p.ins[i].b], [.int .i64 p.ins[i].c], [.int .i64 p.ins[i].d]], 1⟩).hp.length := by rw [push_len]; omega
    refine goh_ ?_
    refine loop_n (KN0 := fun _ _ => True) 5 ?_
    rw [rounds_s]
    refine goh_ ?_
    refine s_l4numK hp0 (hg.insn p.ins[i] (by simp)).a.1 (hg.insn p.ins[i] (by simp)).a.2  (by first | omega | (simp only [List.length_append, List.length_singleton]; omega)) fun x16 m16 hb16 kp16 => ?_
    obtain ⟨y16, z16, v16, u16⟩ := hb16.facts
    have kq16 := hkp.trans kp16
    have at16 := (kq16.2 _ hjl hne).1.trans hat
    refine goh_ ?_
    rw [rounds_s]
    refine goh_ ?_
    refine s_l4numK hb16 (hg.insn p.ins[i] (by simp)).b.1 (hg.insn p.ins[i] (by simp)).b.2  (by first | omega | (simp only [List.length_append, List.length_singleton]; omega)) fun x17 m17 hb17 kp17 => ?_
    obtain ⟨y17, z17, v17, u17⟩ := hb17.facts
    have kq17 := kq16.trans kp17
    have at17 := (kq17.2 _ hjl hne).1.trans hat
    refine goh_ ?_
    rw [rounds_s]
    refine goh_ ?_
    refine s_l4numK hb17 (hg.insn p.ins[i] (by simp)).c.1 (hg.insn p.ins[i] (by simp)).c.2  (by first | omega | (simp only [List.length_append, List.length_singleton]; omega)) fun x18 m18 hb18 kp18 => ?_
    obtain ⟨y18, z18, v18, u18⟩ := hb18.facts
    have kq18 := kq17.trans kp18
    have at18 := (kq18.2 _ hjl hne).1.trans hat
    refine goh_ ?_
    rw [rounds_s]
    refine goh_ ?_
    refine s_l4numK hb18 (hg.insn p.ins[i] (by simp)).d.1 (hg.insn p.ins[i] (by simp)).d.2  (by first | omega | (simp only [List.length_append, List.length_singleton]; omega)) fun x19 m19 hb19 kp19 => ?_
    obtain ⟨y19, z19, v19, u19⟩ := hb19.facts
    have kq19 := kq18.trans kp19
    have at19 := (kq19.2 _ hjl hne).1.trans hat
    refine goh_ ?_
    rw [rounds_s]
    refine goh_ ?_
    exact next _ _ _ _ _ (by omega) ⟨i + 1, _, _, rfl, g3, by simp only [upd_far, q0, q0', gl0], by omega, ga, gb, rfl, hb19, by simp only [encI, List.append_assoc] at hS ⊢; exact hS, by omega, rfl⟩
  rw [show i = p.ins.length by omega, List.drop_length] at hS
  simp only [fm, List.append_nil] at hS
  subst hS
  clear next hlS hd hk hi ga gb gi
  have lnnamed := (h4.mono hbx.le).len'
  rw [List.length_map] at lnnamed
  refine goh_ ?_
  refine s_l4num hbx (by omega) (by omega) (by first | omega | (simp only [List.length_append, List.length_singleton]; omega)) fun x20 m20 hb20 => ?_
  obtain ⟨y20, z20, v20, u20⟩ := hb20.facts
  have lmnamed := (h4.mono hb20.le).len'
  rw [List.length_map] at lmnamed
  refine goh_ ?_
  refine loop_ (fun k t l c m' => ∃ (i : Nat) (s' : AV) (bs' : List UInt8), t 0 = s' ∧ t 3 = .ptr (.lc 0) 0 0 ∧ l 0 = some ⟨[[.str p.s, .int .i64 p.line, .int .i64 p.params, .bool p.rest, .int .i64 p.regs, s1, s2, s3, s4]], 9⟩ ∧ 1 ≤ c ∧ t 106 = s4 ∧ t 107 = .int .i64 p.named.length ∧ t 108 = .int .i64 i ∧ BuO m0 m' s' bs' ∧ bs' ++ fm encNm (p.named.drop i) = bs ++ encT p.s ++ encN p.line ++ encN p.params ++ [if p.rest then 1 else 0] ++ encN p.regs ++ encN p.ups.length ++ fm encU p.ups ++ encN p.consts.length ++ fm encV p.consts ++ encN p.ins.length ++ fm encI p.ins ++ encN p.named.length ++ fm encNm p.named ∧ i ≤ p.named.length ∧ k = p.named.length - i) p.named.length ?_ ?_
  · exact ⟨0, x20, bs ++ encT p.s ++ encN p.line ++ encN p.params ++ [if p.rest then 1 else 0] ++ encN p.regs ++ encN p.ups.length ++ fm encU p.ups ++ encN p.consts.length ++ fm encV p.consts ++ encN p.ins.length ++ fm encI p.ins ++ encN p.named.length, rfl, g3, by simp only [upd_far, q0, q0', gl0], by omega, rfl, rfl, rfl, hb20, rfl, by omega, by omega⟩
  clear g0 g3 gl0 gc q0 q0'
  intro k t l c m' KN ⟨i, s', bs', g0, g3, gl0, gc, ga, gb, gi, hbx, hS, hi, hk⟩ next
  obtain ⟨q0, q0'⟩ := far_of (a := 0) (c := c) (by omega)
  obtain ⟨yy, zz, vv, uu⟩ := hbx.facts
  have hlS : bs'.length + (fm encNm (p.named.drop i)).length ≤ 2 ^ 30 := by
    rw [← List.length_append, hS]; simp only [List.length_append, List.length_singleton]; omega
  refine goh_ ?_
  refine ⟨fun hd => ?_, fun hd => ?_⟩
  · have hj : i < p.named.length := by omega
    have hr0 := h4.mono hbx.le
    obtain ⟨a5, i5, c5, B5, rfl, hb5, hz5, hr5⟩ := hr0.some_ (j := i) (by simpa using hj)
    have hr5 := fun l => hr5 l i (by simpa using hj)
    simp only [List.getElem_map] at hr5
    have hw5 := w64_succ hj (by omega)
    rw [fm_at hj] at hS hlS
    simp only [List.length_append, encNm] at hlS
    refine goh_ ?_
    have gs2 := encT_size p.named[i].s
    refine s_l4text hbx (by omega) (by omega) fun x22 m22 hb22 => ?_
    obtain ⟨y22, z22, v22, u22⟩ := hb22.facts
    refine goh_ ?_
    refine s_l4num hb22 (hg.name p.named[i] (by simp)).reg.1 (hg.name p.named[i] (by simp)).reg.2 (by first | omega | (simp only [List.length_append, List.length_singleton]; omega)) fun x23 m23 hb23 => ?_
    obtain ⟨y23, z23, v23, u23⟩ := hb23.facts
    refine goh_ ?_
    refine s_l4num hb23 (hg.name p.named[i] (by simp)).lo.1 (hg.name p.named[i] (by simp)).lo.2 (by first | omega | (simp only [List.length_append, List.length_singleton]; omega)) fun x24 m24 hb24 => ?_
    obtain ⟨y24, z24, v24, u24⟩ := hb24.facts
    refine goh_ ?_
    refine s_l4num hb24 (hg.name p.named[i] (by simp)).hi.1 (hg.name p.named[i] (by simp)).hi.2 (by first | omega | (simp only [List.length_append, List.length_singleton]; omega)) fun x25 m25 hb25 => ?_
    obtain ⟨y25, z25, v25, u25⟩ := hb25.facts
    refine goh_ ?_
    exact next _ _ _ _ _ (by omega) ⟨i + 1, _, _, rfl, g3, by simp only [upd_far, q0, q0', gl0], by omega, ga, gb, rfl, hb25, by simp only [encNm, List.append_assoc] at hS ⊢; exact hS, by omega, rfl⟩
  rw [show i = p.named.length by omega, List.drop_length] at hS
  simp only [fm, List.append_nil] at hS
  subst hS
  clear next hlS hd hk hi ga gb gi
  rw [hfull] at hbx
  have h := h _ _ hbx
  exact gox_
end Go.Proofs.YtdonkjepjobhnaaDoor.IM
namespace Go.Proofs.IM
open Go Go.Proofs.Flt
theorem fm_len {α : Type} {f : α → List UInt8} {g : α → Nat} {c : Nat} : ∀ {xs : List α}, (∀ x ∈ xs, (f x).length ≤ c + g x) → (fm f xs).length ≤ c * xs.length + sumBy g xs := by
  intro xs
  induction xs with
  | nil => intro _; simp [fm, sumBy]
  | cons x xs ih =>
    intro h
    have h1 := h x (by simp)
    have h2 := ih fun y hy => h y (by simp [hy])
    simp only [fm, sumBy, List.length_append, List.length_cons, Nat.mul_add, Nat.mul_one]
    omega
theorem encV_len {v : V} (hg : v.good) : (encV v).length ≤ 11 + v.wt := by
  have h1 := encN_len hg.n
  have h2 := encN_len (n := (v.s.size : Int)) ⟨by omega, by have := hg.s; omega⟩
  have h3 := data_len v.s
  simp only [encV, List.length_cons, V.wt]
  split
  · omega
  · split
    · simp only [encT, List.length_append]; omega
    · split
      · rw [beB_len]; omega
      · simp only [List.length_nil]; omega
theorem encP_len {p : Pr} (hg : p.good) : (encP p).length ≤ 200 + 60 * p.wt := by
  have a0 := hg.s
  have l1 := hg.ups
  have l2 := hg.consts
  have l3 := hg.ins
  have l4 := hg.named
  have h1 := encN_len (n := (p.s.size : Int)) (by omega)
  have h2 := encN_len hg.line
  have h3 := encN_len hg.params
  have h4 := encN_len hg.regs
  have h5 := encN_len (n := (p.ups.length : Int)) (by omega)
  have h6 := encN_len (n := (p.consts.length : Int)) (by omega)
  have h7 := encN_len (n := (p.ins.length : Int)) (by omega)
  have h8 := encN_len (n := (p.named.length : Int)) (by omega)
  have f1 : (fm encU p.ups).length ≤ 11 * p.ups.length + sumBy (fun _ => 0) p.ups := fm_len fun u hu => by
    have := encN_len (hg.up u hu)
    simp only [encU, List.length_append, List.length_singleton]; omega
  have f2 : (fm encV p.consts).length ≤ 11 * p.consts.length + sumBy V.wt p.consts := fm_len fun v hv => encV_len (hg.const v hv)
  have f3 : (fm encI p.ins).length ≤ 50 * p.ins.length + sumBy (fun _ => 0) p.ins := fm_len fun x hx => by
    have g := hg.insn x hx
    have k1 := encN_len g.op
    have k2 := encN_len g.a
    have k3 := encN_len g.b
    have k4 := encN_len g.c
    have k5 := encN_len g.d
    simp only [encI, List.length_append]; omega
  have f4 : (fm encNm p.named).length ≤ 40 * p.named.length + sumBy Nm.wt p.named := fm_len fun n hn => by
    have g := hg.name n hn
    have gs := g.s
    have k1 := encN_len (n := (n.s.size : Int)) (by omega)
    have k2 := encN_len g.reg
    have k3 := encN_len g.lo
    have k4 := encN_len g.hi
    have k5 := data_len n.s
    simp only [encNm, encT, List.length_append, Nm.wt]; omega
  have z : ∀ {α : Type} (xs : List α), sumBy (fun _ => 0) xs = 0 := by
    intro α xs
    induction xs with
    | nil => rfl
    | cons x xs ih => simp [sumBy, ih]
  rw [z] at f1 f3
  have hd := data_len p.s
  simp only [encP, encT, List.length_append, List.length_singleton, Pr.wt]
  omega
def encLoop : List Pr → List UInt8 → Option (List UInt8)
  | [], b => some b
  | p :: ps, b => if 1000000 < (b ++ encP p).length then none else encLoop ps (b ++ encP p)
def encode (ps : List Pr) : Option (List UInt8) := if (shapeF ps).1 ≠ 0 then none else encLoop ps ([72, 67, 1] ++ encN ps.length)
theorem encLoop_at {ps : List Pr} {i : Nat} (h : i < ps.length) (b : List UInt8) : encLoop (ps.drop i) b = if 1000000 < (b ++ encP ps[i]).length then none else encLoop (ps.drop (i + 1)) (b ++ encP ps[i]) := by
  rw [List.drop_eq_getElem_cons h]; rfl
theorem shape_zero {ps : List Pr} (h : (shapeF ps).1 = 0) : Parts ps ∧ shapeF ps = (0, 0, 0) := by
  by_cases g : (partsF ps).1 = 0
  · obtain ⟨hP, hE⟩ := shape_parts g
    refine ⟨hP, ?_⟩
    have e : shapeF ps = end7 ps.length (all6 ps ps 0 (List.replicate ps.length false)) := by
      simp only [shapeF, hE]; simp
    rw [e] at h ⊢
    have ins : ∀ (xs : List I) (i j : Nat) (made : List Bool) (f : F3), ins6 ps i xs j made = .inl f → f.1 = 6 := by
      intro xs
      induction xs with
      | nil => intro i j made f hf; simp [ins6] at hf
      | cons x xs ih =>
        intro i j made f hf
        simp only [ins6] at hf
        split at hf
        · exact ih _ _ _ _ hf
        · split at hf
          · cases hf; rfl
          · exact ih _ _ _ _ hf
    have all : ∀ (qs : List Pr) (i : Nat) (made : List Bool) (f : F3), all6 ps qs i made = .inl f → f.1 = 6 := by
      intro qs
      induction qs with
      | nil => intro i made f hf; simp [all6] at hf
      | cons q qs ih =>
        intro i made f hf
        simp only [all6] at hf
        split at hf
        · rename_i f' e'; cases hf; exact ins _ _ _ _ _ e'
        · exact ih _ _ _ hf
    cases hx : all6 ps ps 0 (List.replicate ps.length false) with
    | inl f =>
      rw [hx] at h
      have := all _ _ _ _ hx
      simp only [end7] at h
      omega
    | inr made =>
      rw [hx] at h
      simp only [end7] at h ⊢
      have k : ∀ f, scan (last7 made) (ps.length - 1) 1 = some f → f.1 ≠ 0 := by
        intro f hf
        obtain ⟨j, -, -, hj⟩ := scan_some hf
        unfold last7 at hj
        split at hj
        · cases hj
        · cases hj; simp
      obtain ⟨s, -⟩ := orF_zero k h
      rw [s]; rfl
  · simp only [shapeF, if_pos g] at h
    exact (g h).elim
/-- What an answer with bytes, or none, asks of what follows. -/
def ansB (m : Mem) (K : AR → Mem → Prop) : Option (List UInt8) → Prop
  | none => ∀ m', m.le m' → K (.ret .nils) m'
  | some b => ∀ s m', BuO m m' s b → K (.ret s) m'
theorem BuO.base {m0 m m' : Mem} {s : AV} {b : List UInt8} (hm : m0.le m) (h : BuO m m' s b) : BuO m0 m' s b := by
  obtain ⟨h1, j, h2, h3⟩ := h
  exact ⟨hm.trans h1, j, Nat.le_trans hm.len h2, h3⟩
theorem ansB.mono {m m' : Mem} {K : AR → Mem → Prop} {x : Option (List UInt8)} (hm : m.le m') (h : ansB m K x) : ansB m' K x := by
  cases x with
  | none => exact fun m'' h' => h m'' (hm.trans h')
  | some b => exact fun s m'' h' => h s m'' (h'.base hm)
end Go.Proofs.IM
namespace Go.Proofs.YtdonkjepjobhnaaDoor.IM
open Go Go.Proofs.IM Go.Proofs.Flt
set_option maxHeartbeats 16000000
set_option maxRecDepth 100000
theorem aggEqF (a b c a' b' c' : Int) : AggEq Tryd.prog 46 [.int .i64 a, .int .i64 b, .int .i64 c] [.int .i64 a', .int .i64 b', .int .i64 c'] (a == a' && (b == b' && c == c')) := by
  refine ⟨by kernel_rfl, fun E L xs ys w hx hy => ?_⟩
  have open3 : ∀ {a b c : Int} {xs : Array Value}, VR E L (.agg [.int .i64 a, .int .i64 b, .int .i64 c]) (.agg xs) → xs = #[.int .i64 a, .int .i64 b, .int .i64 c] := by
    intro a b c xs h
    cases h with
    | agg _ _ hl h =>
      have hl3 : xs.size = 3 := by simpa using hl.symm
      have g : ∀ (i : Nat) (x : AV) (hi : i < 3), [AV.int .i64 a, .int .i64 b, .int .i64 c][i]? = some x → VR E L x (xs[i]'(by omega)) := fun i x hi hx => h i x _ hx (by simp [hl3, hi])
      have g0 := g 0 _ (by decide) rfl
      have g1 := g 1 _ (by decide) rfl
      have g2 := g 2 _ (by decide) rfl
      apply Array.ext
      · simpa using hl3
      · intro i hi hi'
        rcases i with _ | _ | _ | i
        · generalize xs[0]'(by omega) = v at g0 ⊢; cases g0; rfl
        · generalize xs[1]'(by omega) = v at g1 ⊢; cases g1; rfl
        · generalize xs[2]'(by omega) = v at g2 ⊢; cases g2; rfl
        · simp at hi'; omega
  obtain rfl := open3 hx
  obtain rfl := open3 hy
  have hu := Tryd.underlying46
  have hi := Tryd.underlying3
  have hp : Tryd.prog.stoodInHeld 46 = false := by kernel_rfl
  have hF : Tryd.prog.underlying 46 = some (.struct (Tryd.prog.fieldsOf 46)) := by rw [Program.fieldsOf, hu]
  have hpart : ∀ (xs : Array Value) (o : Nat) (v : Value), xs[o]? = some v → (part 3 xs o).run Tryd.prog w = .ok v w := by
    intro xs o v hx
    simp [part, isAgg, run_underlying hi, hx]
  rw [Op.equal, Op.maxDepth, show (10000 : Nat) = 9999 + 1 from rfl, run_equalIn_struct w _ _ _ _ hF hp, Program.fieldsOf, hu]
  simp [Op.eqFields, hpart, run_equalIn_int w _ 3 _ _ _ _ hi, show (9999 : Nat) = 9998 + 1 from rfl]
  by_cases h1 : a = a'
  · by_cases h2 : b = b'
    · by_cases h3 : c = c' <;> simp [h1, h2, h3]
    · simp [h1, h2]
  · simp [h1]
theorem s_specEncode {s : AV} {ps : List Pr} {m : Mem} {K : AR → Mem → Prop} (hp : PsR m s ps) (hl : ps.length ≤ 9223372036854775807) (hL : ∀ p ∈ ps, p.good) (hwt : wtC ps ≤ 1048576) (h : ansB m K (encode ps)) :
    Sim Tryd.prog 29 [.agg [s]] m K := by
  refine entry (cxok []) Tryd.func29 rfl rfl (by decide) (by decide) ?_
  obtain ⟨a1, a2, a3, a4⟩ := hp.facts
  have hok := fun p hp => (hL p hp).ok
  refine goh_ ?_
  refine s_specCheckShape hp (by omega) hok fun m1 hm1 => ?_
  simp only [F3.av]
  by_cases g : (shapeF ps).1 = 0
  rotate_left
  · have h : ∀ m', m.le m' → K (.ret .nils) m' := by simp only [encode, if_pos g, ansB] at h; exact h
    have h := h _ hm1
    have e : ((shapeF ps).1 != 0) = true := by simpa using g
    exact gox_
  obtain ⟨hP, hE⟩ := shape_zero g
  rw [hE]
  have h : ansB m K (encLoop ps ([72, 67, 1] ++ encN ps.length)) := by rw [encode, if_neg (fun q => q g)] at h; exact h
  replace h := h.mono hm1
  replace hp := hp.mono hm1
  have hlen := hp.len'
  clear hm1
  refine goh_ ?_
  have hb0 : BuO m1 (m1.push ⟨[[.int .u8 72], [.int .u8 67], [.int .u8 1]], 1⟩) (.sl (.hp m1.hp.length) 0 3 3) [72, 67, 1] := ⟨Mem.le.push _ _, m1.hp.length, Nat.le_refl _, 3, _, rfl, push_at, rfl, rfl, by decide, rfl⟩
  have hlen1 := (hp.mono hb0.le).len'
  have hz := encN_len (n := (ps.length : Int)) (by omega)
  refine goh_ ?_
  refine s_l4num hb0 (by omega) (by omega) (by simp) fun s2 m2 hb2 => ?_
  have hlen2 := (hp.mono hb2.le).len'
  refine goh_ ?_
  refine loop_ (fun k t l c m' => ∃ (i : Nat) (s' : AV) (b : List UInt8), t 4 = s' ∧ t 19 = s ∧ t 20 = .int .i64 ps.length ∧ t 21 = .int .i64 i ∧ BuO m1 m' s' b ∧ b.length ≤ 1000000 ∧ encLoop (ps.drop i) b = encLoop ps ([72, 67, 1] ++ encN ps.length) ∧ i ≤ ps.length ∧ k = ps.length - i) ps.length ?_ ?_
  · exact ⟨0, s2, _, rfl, rfl, rfl, rfl, hb2, by simp; omega, rfl, by omega, by omega⟩
  clear hb2 hlen2 hlen1 hb0
  intro k t l c m3 KN ⟨i, s', b, g4, g19, g20, g21, hb, hbl, hS, hi, hk⟩ next
  obtain ⟨f1, f2, f3, f4⟩ := hb.facts
  refine goh_ ?_
  refine ⟨fun hd => ?_, fun hd => ?_⟩
  · have hj : i < ps.length := by omega
    obtain ⟨a, i0, c', B, s1, sc, s3, s4, rfl, hb0, hz, hr, e1, e2, e3, e4⟩ := hp.at_ hj
    have hb1 := fun l => blk?_mono hb.le (hb0 l)
    have hr1 := fun l => row?_mono hb.le (hr l)
    obtain ⟨b1, b2, b3, b4⟩ := e1.facts
    obtain ⟨c1, c2, c3, c4⟩ := e2.facts
    obtain ⟨d1, d2, d3, d4⟩ := e3.facts
    obtain ⟨x1, x2, x3, x4⟩ := e4.facts
    have hw := w64_succ hj (by omega)
    rw [encLoop_at hj] at hS
    have hpl := encP_len (hL ps[i] (by simp))
    have hwp : ps[i].wt ≤ 1048576 := by
      have := sumBy_le (g := Pr.wt) (List.getElem_mem hj)
      simp only [wtC] at hwt; omega
    refine goh_ ?_
    refine s_l4proto hb e1 e2 e3 e4 (hL ps[i] (by simp)) (fun v hv => ?_) (by omega) fun s5 m5 hb5 => ?_
    · obtain ⟨j, hj', rfl⟩ := List.getElem_of_mem hv
      exact hP.cst i hj j hj'
    obtain ⟨y1, y2, y3, y4⟩ := hb5.facts
    have hl5 := hb5.r.len'
    rw [List.length_map] at hl5
    by_cases hbig : 1000000 < (b ++ encP ps[i]).length
    · rw [if_pos hbig] at hS
      rw [← hS] at h
      have h := h _ hb5.le
      have c9 : ((1000000 : Int) < ((b ++ encP ps[i]).length : Int)) = True := by rw [eq_iff_iff, iff_true]; omega
      exact gox_
    · rw [if_neg hbig] at hS
      have c9 : ((1000000 : Int) < ((b ++ encP ps[i]).length : Int)) = False := by rw [eq_iff_iff, iff_false]; omega
      refine goh_ ?_
      exact next _ _ _ _ _ (by omega) ⟨i + 1, s5, _, rfl, g19, g20, rfl, hb5, by omega, hS, by omega, rfl⟩
  · rw [show i = ps.length by omega, List.drop_length] at hS
    simp only [encLoop] at hS
    rw [← hS] at h
    have h := h _ _ hb
    exact gox_
theorem s_implEncode {s : AV} {ps : List Pr} {m : Mem} {K : AR → Mem → Prop} (hF : FormsR 0 m) (hp : PsR m s ps) (hl : ps.length ≤ 9223372036854775807) (hL : ∀ p ∈ ps, p.good) (hwt : wtC ps ≤ 1048576) (h : ansB m K (encode ps)) :
    Sim Tryd.prog 30 [.agg [s]] m K := by
  refine entry (cxok [12]) Tryd.func30 rfl rfl (by decide) (by decide) ?_
  obtain ⟨a1, a2, a3, a4⟩ := hp.facts
  have hok := fun p hp => (hL p hp).ok
  refine goh_ ?_
  refine s_implCheckShape hF hp (by omega) hok fun m1 hm1 => ?_
  simp only [F3.av]
  refine goh_ ?_
  refine bin_agg_ (aggEqF _ _ _ _ _ _) ?_
  by_cases g : (shapeF ps).1 = 0
  rotate_left
  · have h : ∀ m', m.le m' → K (.ret .nils) m' := by simp only [encode, if_pos g, ansB] at h; exact h
    have h := h _ hm1
    have e : ((shapeF ps).1 == 0) = false := by simpa using g
    exact gox_
  obtain ⟨hP, hE⟩ := shape_zero g
  rw [hE]
  have h : ansB m K (encLoop ps ([72, 67, 1] ++ encN ps.length)) := by rw [encode, if_neg (fun q => q g)] at h; exact h
  replace h := h.mono hm1
  replace hp := hp.mono hm1
  have hlen := hp.len'
  clear hm1
  refine goh_ ?_
  have hw0 : WrO m1 ((m1.push ⟨[[.int .u8 72], [.int .u8 67], [.int .u8 1]], 1⟩).push ⟨[[.sl (.hp m1.hp.length) 0 3 3]], 1⟩) (.ptr (.hp (m1.hp.length + 1)) 0 0) [72, 67, 1] := by
    refine ⟨m1.hp.length + 1, .sl (.hp m1.hp.length) 0 3 3, rfl, by omega, push2_1, ⟨(Mem.le.push _ _).trans (Mem.le.push _ _), m1.hp.length, Nat.le_refl _, 3, _, rfl, push2_0, rfl, rfl, by decide, rfl⟩, fun n c e => ?_⟩
    simp only [AV.sl.injEq, AA.hp.injEq] at e
    omega
  have hlen1 := (hp.mono hw0.le).len'
  have hz := encN_len (n := (ps.length : Int)) (by omega)
  refine goh_ ?_
  refine s_wnum hw0 (by omega) (by omega) (by simp) fun m2 hb2 => ?_
  have hlen2 := (hp.mono hb2.le).len'
  refine goh_ ?_
  refine loop_ (fun k t l c m' => ∃ (i : Nat) (b : List UInt8), t 3 = .ptr (.hp (m1.hp.length + 1)) 0 0 ∧ t 19 = s ∧ t 20 = .int .i64 ps.length ∧ t 21 = .int .i64 i ∧ WrO m1 m' (.ptr (.hp (m1.hp.length + 1)) 0 0) b ∧ b.length ≤ 1000000 ∧ encLoop (ps.drop i) b = encLoop ps ([72, 67, 1] ++ encN ps.length) ∧ i ≤ ps.length ∧ k = ps.length - i) ps.length ?_ ?_
  · exact ⟨0, _, rfl, rfl, rfl, rfl, hb2, by simp; omega, rfl, by omega, by omega⟩
  clear hb2 hlen2 hlen1 hw0
  intro k t l c m3 KN ⟨i, b, g4, g19, g20, g21, hb, hbl, hS, hi, hk⟩ next
  refine goh_ ?_
  refine ⟨fun hd => ?_, fun hd => ?_⟩
  · have hj : i < ps.length := by omega
    obtain ⟨a, i0, c', B, s1, sc, s3, s4, rfl, hb0, hz, hr, e1, e2, e3, e4⟩ := hp.at_ hj
    have hb1 := fun l => blk?_mono hb.le (hb0 l)
    have hr1 := fun l => row?_mono hb.le (hr l)
    obtain ⟨b1, b2, b3, b4⟩ := e1.facts
    obtain ⟨c1, c2, c3, c4⟩ := e2.facts
    obtain ⟨d1, d2, d3, d4⟩ := e3.facts
    obtain ⟨x1, x2, x3, x4⟩ := e4.facts
    have hw := w64_succ hj (by omega)
    rw [encLoop_at hj] at hS
    have hpl := encP_len (hL ps[i] (by simp))
    have hwp : ps[i].wt ≤ 1048576 := by
      have := sumBy_le (g := Pr.wt) (List.getElem_mem hj)
      simp only [wtC] at hwt; omega
    refine goh_ ?_
    refine s_wproto hb e1 e2 e3 e4 (hL ps[i] (by simp)) (fun v hv => ?_) (by omega) fun m5 hb5 => ?_
    · obtain ⟨j, hj', rfl⟩ := List.getElem_of_mem hv
      exact hP.cst i hj j hj'
    have hb5' := hb5
    obtain ⟨jw, s5, ew, w1, w2, w3, w4⟩ := hb5'
    cases ew
    obtain ⟨y1, y2, y3, y4⟩ := w3.facts
    have hl5 := w3.r.len'
    rw [List.length_map] at hl5
    by_cases hbig : 1000000 < (b ++ encP ps[i]).length
    · rw [if_pos hbig] at hS
      rw [← hS] at h
      have h := h _ hb5.le
      have c9 : ((1000000 : Int) < ((b ++ encP ps[i]).length : Int)) = True := by rw [eq_iff_iff, iff_true]; omega
      exact gox_
    · rw [if_neg hbig] at hS
      have c9 : ((1000000 : Int) < ((b ++ encP ps[i]).length : Int)) = False := by rw [eq_iff_iff, iff_false]; omega
      refine goh_ ?_
      exact next _ _ _ _ _ (by omega) ⟨i + 1, _, g4, g19, g20, rfl, hb5, by omega, hS, by omega, rfl⟩
  · rw [show i = ps.length by omega, List.drop_length] at hS
    simp only [encLoop] at hS
    rw [← hS] at h
    obtain ⟨jw, s5, ew, w1, w2, w3, w4⟩ := hb
    cases ew
    obtain ⟨y1, y2, y3, y4⟩ := w3.facts
    have h := h _ _ w3
    exact gox_
end Go.Proofs.YtdonkjepjobhnaaDoor.IM
namespace Go.Proofs.IM
open Go Go.Proofs.Flt
/-- Only these rows of one's own have changed. -/
structure Ch (own : List Nat) (m m' : Mem) : Prop where
  ro : m'.ro = m.ro
  gl : m'.gl = m.gl
  len : m'.hp.length = m.hp.length
  far : ∀ j, j ∉ own → m'.hp[j]? = m.hp[j]?
theorem Ch.refl (own : List Nat) (m : Mem) : Ch own m m := ⟨rfl, rfl, rfl, fun _ _ => rfl⟩
theorem Ch.trans {own : List Nat} {m m' m'' : Mem} (a : Ch own m m') (b : Ch own m' m'') : Ch own m m'' := ⟨b.ro.trans a.ro, b.gl.trans a.gl, b.len.trans a.len, fun j h => (b.far j h).trans (a.far j h)⟩
theorem Ch.sub {own own' : List Nat} {m m' : Mem} (a : Ch own m m') (h : ∀ j ∈ own, j ∈ own') : Ch own' m m' := ⟨a.ro, a.gl, a.len, fun j hj => a.far j fun hj' => hj (h j hj')⟩
theorem Ch.set {own : List Nat} {m m' : Mem} (a : Ch own m m') {j : Nat} (hj : j ∈ own) (B : Blk) : Ch own m { m' with hp := m'.hp.set j B } := ⟨a.ro, a.gl, by simp [a.len], fun i hi => by
  show (m'.hp.set j B)[i]? = _
  rw [List.getElem?_set, if_neg (by rintro rfl; exact hi hj)]
  exact a.far i hi⟩
theorem Ch.le {own : List Nat} {m0 m m' : Mem} (a : Ch own m m') (h : m0.le m) (ho : ∀ j ∈ own, m0.hp.length ≤ j) : m0.le m' := ⟨a.ro.trans h.ro, a.gl.trans h.gl, fun j B hj => by
  have hlt := (List.getElem?_eq_some_iff.1 hj).1
  rw [a.far j fun hj' => by have := ho j hj'; omega]
  exact h.hp j B hj⟩
/-- Rows of which the first i have been marked. -/
def mkRows (mk : Nat → List AV) (st k : Nat) (rows : List (List AV)) (i : Nat) : List (List AV) := ((List.range i).map fun a => mk (k + st * a)) ++ rows.drop i
theorem mkRows_0 {mk : Nat → List AV} {st k : Nat} {rows : List (List AV)} : mkRows mk st k rows 0 = rows := rfl
theorem mkRows_len {mk : Nat → List AV} {st k i : Nat} {rows : List (List AV)} (h : i ≤ rows.length) : (mkRows mk st k rows i).length = rows.length := by simp [mkRows]; omega
theorem mkRows_get {mk : Nat → List AV} {st k i : Nat} {rows : List (List AV)} : (mkRows mk st k rows i)[i]? = rows[i]? := by
  simp [mkRows, List.getElem?_append_right]
theorem mkRows_set {mk : Nat → List AV} {st k i : Nat} {rows : List (List AV)} (h : i < rows.length) : (mkRows mk st k rows i).set i (mk (k + st * i)) = mkRows mk st k rows (i + 1) := by
  unfold mkRows
  rw [List.set_append, if_neg (by simp), List.range_succ, List.map_append]
  simp only [List.length_map, List.length_range, Nat.sub_self]
  rw [List.drop_eq_getElem_cons h, List.set_cons_zero, List.append_assoc]; rfl
theorem mkRows_take {mk : Nat → List AV} {st k n : Nat} {rows : List (List AV)} (h : n ≤ rows.length) : (mkRows mk st k rows n).take n = (List.range n).map fun a => mk (k + st * a) := by
  unfold mkRows
  rw [List.take_append_of_le_length (by simp)]
  exact List.take_of_length_le (by simp)
def mkL {α : Type} (f : Nat → α) (st k n : Nat) : List α := (List.range n).map fun a => f (k + st * a)
theorem mkL_len {α : Type} {f : Nat → α} {st k n : Nat} : (mkL f st k n).length = n := by simp [mkL]
theorem mkL_map {α β : Type} {f : Nat → α} {g : α → β} {st k n : Nat} : (mkL f st k n).map g = mkL (fun a => g (f a)) st k n := by simp [mkL]
theorem mkL_get {α : Type} {f : Nat → α} {st k n i : Nat} (h : i < n) : (mkL f st k n)[i]'(by rw [mkL_len]; exact h) = f (k + st * i) := by simp [mkL]
/-- The text of a mark. -/
def dg (n : Nat) : List UInt8 := if h : n = 0 then [] else dg (n / 10) ++ [UInt8.ofNat (48 + n % 10)]
theorem dg_pos {n : Nat} (h : n ≠ 0) : dg n = dg (n / 10) ++ [UInt8.ofNat (48 + n % 10)] := by rw [dg, dif_neg h]
theorem dg_0 : dg 0 = [] := by rw [dg, dif_pos rfl]
def mT (k : Nat) : ByteArray := ⟨(109 :: dg k).toArray⟩
theorem dg_len : ∀ n, (dg n).length ≤ n := by
  intro n
  induction n using Nat.strongRecOn with
  | _ n ih =>
    by_cases h : n = 0
    · subst h; rw [dg_0]; simp
    · rw [dg_pos h]
      have := ih (n / 10) (by omega)
      simp; omega
theorem str_app (a b : List UInt8) : (⟨a.toArray⟩ : ByteArray) ++ ⟨b.toArray⟩ = ⟨(a ++ b).toArray⟩ := by
  apply ByteArray.ext
  simp
theorem bR_lc {l : Loc} {m : Mem} {d : Nat} {v : Int} {b : UInt8} (h : v = (b.toNat : Int)) : (rows? (upd l d (some ⟨[[.int .u8 v]], 1⟩)) m (.lc d) 0 1).bind bytes? = some [b] := by
  subst h; simp [rows?, blk?, upd, bytes?]
theorem nan_nearest (s : Bool) (mag : Nat) (place : Int) : nan (Ieee.double.nearest s mag place) = false := by
  unfold Ieee.Format.nearest
  simp only [dbl_word, dbl_inf]
  split
  · exact nan_word _ _ (by decide)
  · exact nan_word _ _ (Nat.min_le_right _ _)
theorem nan_i2f (n : Int) : nan (i2f n) = false := by
  unfold i2f FloatKind.nearest FloatKind.encode
  exact nan_nearest _ _ _
end Go.Proofs.IM
namespace Go.Proofs.YtdonkjepjobhnaaDoor.IM
open Go Go.Proofs.IM Go.Proofs.Flt
set_option maxHeartbeats 8000000
set_option maxRecDepth 100000
theorem s_markText {k : Nat} {m : Mem} {K : AR → Mem → Prop} (h1 : 1 ≤ k) (h2 : k ≤ 2 ^ 40) (h : K (.ret (.str (mT k))) m) : Sim Tryd.prog 105 [.int .i64 k] m K := by
  refine entry (cxok [12]) Tryd.func105 rfl rfl (by decide) (by decide) ?_
  have c0 : ((k : Int) ≤ 0) = False := by rw [eq_iff_iff, iff_false]; omega
  refine goh_ ?_
  clear c0
  refine loop_ (fun k' t l c m' => m' = m ∧ ∃ (x : Nat) (b : List UInt8), t 0 = .int .i64 x ∧ t 3 = .str ⟨b.toArray⟩ ∧ dg x ++ b = dg k ∧ x ≤ 2 ^ 40 ∧ k' = x) k ?_ ?_
  · exact ⟨rfl, k, [], rfl, rfl, by simp, h2, rfl⟩
  intro k' t l c m1 KN ⟨hm, x, b, g0, g3, hS, hx, hk⟩ next
  subst m1
  have hbl : b.length ≤ k := by
    have := congrArg List.length hS
    have h3 := dg_len k
    simp only [List.length_append] at this; omega
  refine goh_ ?_
  refine ⟨fun hd => ?_, fun hd => ?_⟩
  · have hx0 : x ≠ 0 := by omega
    have e1 : IntKind.u8.wrap (IntKind.i64.wrap (48 + (x : Int).tmod 10)) = ((UInt8.ofNat (48 + x % 10)).toNat : Int) := by
      rw [Int.tmod_eq_emod_of_nonneg (by omega), i64_wrap, u8_wrap]; simp only [UInt8.toNat_ofNat']; omega
    have e2 := @bR_lc l m (c + 6) _ (UInt8.ofNat (48 + x % 10)) rfl
    have e3 : w64 ((x : Int).tdiv 10) = ((x / 10 : Nat) : Int) := by
      rw [Int.tdiv_eq_ediv_of_nonneg (by omega), w64_id (by omega)]; omega
    have e4 : ((ByteArray.mk [UInt8.ofNat (48 + x % 10)].toArray).size + (ByteArray.mk b.toArray).size ≤ 9223372036854775807) = True := by
      rw [eq_iff_iff, iff_true]
      show 1 + b.toArray.size ≤ 9223372036854775807
      rw [List.size_toArray]; omega
    have e5 := str_app
    refine goh_ ?_
    refine next _ _ _ _ _ ?_ ⟨rfl, x / 10, [UInt8.ofNat (48 + x % 10)] ++ b, rfl, rfl, ?_, by omega, rfl⟩
    · omega
    · rw [← List.append_assoc, ← dg_pos hx0]; exact hS
  · have hx0 : x = 0 := by omega
    rw [hx0, dg_0, List.nil_append] at hS
    subst hS
    have e4 : ((ByteArray.mk #[109]).size + (ByteArray.mk (dg k).toArray).size ≤ 9223372036854775807) = True := by
      rw [eq_iff_iff, iff_true]
      show 1 + (dg k).toArray.size ≤ 9223372036854775807
      rw [List.size_toArray]; omega
    have e5 : (ByteArray.mk #[109]) ++ (ByteArray.mk (dg k).toArray) = mT k := str_app [109] (dg k)
    exact gox_
/-- The same bytes in two places. -/
theorem s_eqByteS {s s' : AV} {bs : List UInt8} {m : Mem} {K : AR → Mem → Prop} (hs : SlR m 1 s (bs.map bR)) (hs' : SlR m 1 s' (bs.map bR)) (hl : bs.length ≤ 2 ^ 40) (h : K (.ret (.bool true)) m) : Sim Tryd.prog 13 [s, s'] m K := by
  refine entry (cxok []) Tryd.func13 rfl rfl (by decide) (by decide) ?_
  have l1 := hs.len'
  have l2 := hs'.len'
  rw [List.length_map] at l1 l2
  refine goh_ ?_
  refine loop_ (fun k t l c m' => m' = m ∧ ∃ (i : Nat), t 0 = s ∧ t 1 = s' ∧ t 5 = .int .i64 i ∧ i ≤ bs.length ∧ k = bs.length - i) bs.length ?_ ?_
  · exact ⟨rfl, 0, rfl, rfl, rfl, by omega, by omega⟩
  intro k t l c m1 KN ⟨hm, i, h0, h1, h5, hi, hk⟩ next
  subst m1
  refine goh_ ?_
  intro hc
  have hj : i < bs.length := by omega
  obtain ⟨a, i0, cap, B, rfl, hb, hz, hr⟩ := hs.some_ (j := i) (by simpa using hj)
  obtain ⟨a', i0', cap', B', rfl, hb', hz', hr'⟩ := hs'.some_ (j := i) (by simpa using hj)
  replace hr := fun l => hr l i (by simpa using hj)
  replace hr' := fun l => hr' l i (by simpa using hj)
  simp only [List.getElem_map] at hr hr'
  have hbR : ∀ b : UInt8, bR b = [.int .u8 (b.toNat : Int)] := fun _ => rfl
  have hw := w64_succ hj (by omega)
  refine goh_ ?_
  refine draw_ [(0, .pure), (1, .pure), (2, .pure), (3, .read), (4, .pure), (5, .pure), (6, .pure), (7, .read), (8, .pure)] (by kernel_rfl) ?_
  refine goh_ ?_
  exact next _ _ _ _ _ (by omega) ⟨rfl, i + 1, h0, h1, rfl, by omega, rfl⟩
def mB (k : Nat) : UInt8 := UInt8.ofNat k
theorem s_markByteS {s : AV} {bs : List UInt8} {j k : Nat} {m : Mem} {K : AR → Mem → Prop} (hs : s = .nils ∧ bs = [] ∨ BufO m s bs j) (hl : bs.length ≤ 2 ^ 30) (hk : k ≤ 2 ^ 39)
    (h : ∀ m', Ch [j] m m' → (s = .nils ∨ BufO m' s (mkL mB 1 k bs.length) j) → K (.ret (.int .i64 ((k + bs.length : Nat) : Int))) m') : Sim Tryd.prog 14 [s, .int .i64 k] m K := by
  refine entry (cxok []) Tryd.func14 rfl rfl (by decide) (by decide) ?_
  rcases hs with ⟨rfl, rfl⟩ | hs
  · have h := h m (Ch.refl _ _) (.inl rfl)
    simp only [List.length_nil, Nat.add_zero] at h
    refine goh_ ?_
    refine loop_n (KN0 := fun _ _ => True) 1 ?_
    rw [rounds_s]
    exact gox_
  obtain ⟨c0, B, rfl, b1, b2, b3, b4, b5⟩ := hs
  have hjl : j < m.hp.length := (List.getElem?_eq_some_iff.1 b1).1
  refine goh_ ?_
  refine loop_ (fun k' t l c m' => ∃ (i : Nat), t 0 = .sl (.hp j) 0 bs.length c0 ∧ t 1 = .int .i64 ((k + i : Nat) : Int) ∧ t 5 = .int .i64 i ∧ Ch [j] m m' ∧ m'.hp[j]? = some ⟨mkRows (fun a => bR (mB a)) 1 k B.rows i, 1⟩ ∧ i ≤ bs.length ∧ k' = bs.length - i) bs.length ?_ ?_
  · exact ⟨0, rfl, rfl, rfl, Ch.refl _ _, by rw [mkRows_0, b1, ← b2], by omega, by omega⟩
  intro k' t l c m1 KN ⟨i, g0, g1, g5, hch, hb, hi, hk'⟩ next
  have hjl' : j < m1.hp.length := by rw [hch.len]; exact hjl
  refine goh_ ?_
  refine ⟨fun hc => ?_, fun hc => ?_⟩
  · have hj : i < bs.length := by omega
    have e0 : (0 ≤ (i : Int) ∧ (i : Int) < bs.length) = True := by rw [eq_iff_iff, iff_true]; omega
    have e1 : (mkRows (fun a => bR (mB a)) 1 k B.rows i)[i]? = some [.int .u8 (bs[i].toNat : Int)] := by
      rw [mkRows_get]
      have : (B.rows.take bs.length)[i]? = (bs.map bR)[i]? := by rw [b5]
      rw [List.getElem?_take_of_lt hj] at this
      rw [this]; simp [hj, bR]
    have e2 : IntKind.u8.wrap ((k + i : Nat) : Int) = ((mB (k + 1 * i)).toNat : Int) := by rw [Nat.one_mul]; exact byteN _
    have e3 : (mkRows (fun a => bR (mB a)) 1 k B.rows i).set i [.int .u8 ((mB (k + 1 * i)).toNat : Int)] = mkRows (fun a => bR (mB a)) 1 k B.rows (i + 1) := mkRows_set (by omega)
    have e4 : w64 (((k + i : Nat) : Int) + 1) = ((k + (i + 1) : Nat) : Int) := by rw [w64_id (by omega)]; omega
    have hw := w64_succ hj (by omega)
    refine goh_ ?_
    exact next _ _ _ _ _ (by omega) ⟨i + 1, g0, rfl, rfl, hch.set (by simp) _, by simp [hjl'], by omega, rfl⟩
  · have hj : i = bs.length := by omega
    rw [hj] at hb
    have h := h m1 hch (.inr ⟨c0, _, by rw [mkL_len], hb, rfl, by rw [mkRows_len (by omega)]; exact b3, by rw [mkL_len]; exact b4, by rw [mkL_len, mkRows_take (by omega), mkL_map]; rfl⟩)
    exact gox_
theorem s_heldByteS {s : AV} {n k : Nat} {m : Mem} {K : AR → Mem → Prop} (hs : SlR m 1 s ((mkL mB 1 k n).map bR)) (hl : n ≤ 2 ^ 30) (hk : k ≤ 2 ^ 39) (h : K (.ret (.int .i64 ((k + n : Nat) : Int))) m) : Sim Tryd.prog 31 [s, .int .i64 k] m K := by
  refine entry (cxok []) Tryd.func31 rfl rfl (by decide) (by decide) ?_
  have l1 := hs.len'
  rw [List.length_map, mkL_len] at l1
  refine goh_ ?_
  refine loop_ (fun k' t l c m' => m' = m ∧ ∃ (i : Nat), t 0 = s ∧ t 1 = .int .i64 ((k + i : Nat) : Int) ∧ t 5 = .int .i64 i ∧ i ≤ n ∧ k' = n - i) n ?_ ?_
  · exact ⟨rfl, 0, rfl, rfl, rfl, by omega, by omega⟩
  intro k' t l c m1 KN ⟨hm, i, g0, g1, g5, hi, hk'⟩ next
  subst m1
  refine goh_ ?_
  refine ⟨fun hc => ?_, fun hc => ?_⟩
  · have hj : i < n := by omega
    obtain ⟨a, i0, cap, B, rfl, hb, hz, hr⟩ := hs.some_ (j := i) (by rw [List.length_map, mkL_len]; exact hj)
    replace hr := fun l => hr l i (by rw [List.length_map, mkL_len]; exact hj)
    simp only [List.getElem_map, mkL_get hj] at hr
    have hbR : bR (mB (k + 1 * i)) = [.int .u8 ((mB (k + 1 * i)).toNat : Int)] := rfl
    have e2 : IntKind.u8.wrap ((k + i : Nat) : Int) = ((mB (k + 1 * i)).toNat : Int) := by rw [Nat.one_mul]; exact byteN _
    have e4 : w64 (((k + i : Nat) : Int) + 1) = ((k + (i + 1) : Nat) : Int) := by rw [w64_id (by omega)]; omega
    have hw := w64_succ hj (by omega)
    have hml : (mkL mB 1 k n).length = n := mkL_len
    refine goh_ ?_
    exact next _ _ _ _ _ (by omega) ⟨rfl, i + 1, g0, rfl, rfl, by omega, rfl⟩
  · have hj : i = n := by omega
    exact gox_
end Go.Proofs.YtdonkjepjobhnaaDoor.IM
