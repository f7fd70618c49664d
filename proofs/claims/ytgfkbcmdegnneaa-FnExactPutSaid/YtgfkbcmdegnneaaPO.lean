/- From what reads as data to the abstract machine's memory: what comes in lies in rows that are read alone. -/
import Derived.Test.YtgfkbcmdegnneaaPN
import Derived.Test.YtgfkbcmdegnneaaIT
import Derived.ProofKit
import Derived.OpenShut
import Derived.Deep.Slices
import Derived.Deep.Fields
import Derived.Shelf.Abstract
namespace Go.Proofs.IM
open Go Go.RowKit Go.ChangeShapes Go.WideShapes Go.Deep
set_option linter.unusedVariables false
abbrev i64 (x : Int) : Prop := -9223372036854775808 ≤ x ∧ x ≤ 9223372036854775807
structure V.good (v : V) : Prop where
  k : i64 v.k
  n : i64 v.n
  f : v.f < 18446744073709551616
  s : v.s.size ≤ 9223372036854775807
  r : i64 v.r
structure Pa.good (p : Pa) : Prop where
  k : p.k.good
  v : p.v.good
  turn : Go.Proofs.IM.i64 p.turn
/-- Whatever reads as data of type t has z cells, and these are what R says of some a that is good. -/
def Opn {α : Type} (P : Program) (t : TypeId) (z : Nat) (R : World → α → List Value → Prop) (G : α → Prop) (D : α → (H : Type) → DataW H → Prop) : Prop :=
  P.cellsOf t = z ∧ ∀ {H : Type} {enc : TypeId × Value → H} {w : World} {base : Nat} {held : Bool} {fuel : Nat} {cs : List Value} {x : DataW H × List MemPlace},
    DataW.trod enc P w base (fun _ => true) held fuel t cs = some x → cs.length = z ∧ ∃ a, R w a cs ∧ G a ∧ D a H x.1
def anyD {α : Type} : α → (H : Type) → DataW H → Prop := fun _ _ _ => True
section
variable {P : Program} {t e : TypeId}
theorem opn_i64 (ht : P.underlying t = some (.int .i64)) (hz : P.cellsOf t = 1) : Opn P t 1 (fun _ (n : Int) cs => cs = [.int .i64 n]) i64 (fun n H d => d = .lit (.int .i64 n)) := by
  refine ⟨hz, fun {H enc w base held fuel cs x} h => ?_⟩
  obtain ⟨n, rfl, h2, hw⟩ := DataW.trod_int ht h
  refine ⟨rfl, n, rfl, by simpa [Lit.wf, IntKind.min, IntKind.max, IntKind.signed, IntKind.bits] using hw, by rw [h2]⟩
theorem opn_u8 (ht : P.underlying t = some (.int .u8)) (hz : P.cellsOf t = 1) : Opn P t 1 (fun _ (n : Int) cs => cs = [.int .u8 n]) (fun n => 0 ≤ n ∧ n ≤ 255) (fun n H d => d = .lit (.int .u8 n)) := by
  refine ⟨hz, fun {H enc w base held fuel cs x} h => ?_⟩
  obtain ⟨n, rfl, h2, hw⟩ := DataW.trod_int ht h
  refine ⟨rfl, n, rfl, by simpa [Lit.wf, IntKind.min, IntKind.max, IntKind.signed, IntKind.bits] using hw, by rw [h2]⟩
theorem opn_bool (ht : P.underlying t = some .bool) (hz : P.cellsOf t = 1) : Opn P t 1 (fun _ (b : Bool) cs => cs = [.bool b]) (fun _ => True) anyD := by
  refine ⟨hz, fun {H enc w base held fuel cs x} h => ?_⟩
  obtain ⟨b, rfl, _⟩ := DataW.trod_bool ht h
  exact ⟨rfl, b, rfl, trivial, trivial⟩
theorem opn_str (ht : P.underlying t = some .string) (hz : P.cellsOf t = 1) : Opn P t 1 (fun _ (s : ByteArray) cs => cs = [.string s]) (fun s => s.size ≤ 9223372036854775807) anyD := by
  refine ⟨hz, fun {H enc w base held fuel cs x} h => ?_⟩
  obtain ⟨s, rfl, _, hs⟩ := DataW.trod_string ht h
  exact ⟨rfl, s, rfl, hs, trivial⟩
theorem opn_flt (ht : P.underlying t = some (.float .f64)) (hz : P.cellsOf t = 1) : Opn P t 1 (fun _ (b : Nat) cs => cs = [.float .f64 b]) (fun b => b < 18446744073709551616) anyD := by
  refine ⟨hz, fun {H enc w base held fuel cs x} h => ?_⟩
  cases fuel with
  | zero => simp [DataW.trod] at h
  | succ n =>
    unfold DataW.trod at h
    rw [ht] at h
    split at h <;> simp_all
    rename_i k1 k2 b1 e1
    subst e1
    exact ⟨by simpa [Lit.wf] using h.1.2, trivial⟩
/-- A slice's one cell, and what it reads as. -/
def RdSl {α : Type} (z : Nat) (R : World → α → List Value → Prop) (w : World) (xs : List α) (v : Value) : Prop :=
  (xs = [] ∧ (v = .slice none 0 0 ∨ ∃ a, v = .slice (some a) 0 0)) ∨
  ∃ b f c, v = .slice (some ⟨b, f, none⟩) xs.length c ∧ b < w.heap.size ∧ ∀ (j : Nat) (p : α), xs[j]? = some p → ∃ c', c'.length = z ∧ R w p c' ∧ ∀ (i : Nat) (u : Value), c'[i]? = some u → w.cell? ⟨b, f + j * z + i, none⟩ = some u
theorem opn_slice {α : Type} {z : Nat} {R : World → α → List Value → Prop} {G : α → Prop} {D : α → (H : Type) → DataW H → Prop} (ht : P.underlying t = some (.slice e)) (hc : P.cellsOf t = 1) (hz : 0 < z) (he : Opn P e z R G D) :
    Opn P t 1 (fun w xs cs => ∃ v, cs = [v] ∧ RdSl z R w xs v) (fun xs => xs.length ≤ 9223372036854775807 ∧ ∀ x ∈ xs, G x)
      (fun xs H d => ∀ (es spare : List (DataW H)), d = .slice es spare → es.length = xs.length ∧ ∀ (j : Nat) (x : α) (y : DataW H), xs[j]? = some x → es[j]? = some y → D x H y) := by
  refine ⟨hc, fun {H enc w base held fuel cs x} h => ?_⟩
  obtain ⟨hez, he⟩ := he
  rcases open_slice ht h with ⟨rfl, rfl⟩ | ⟨a, len, cap, m, n, Dt, Pl, rfl, hb, hl, hm, hmm, rfl, hi⟩
  · exact ⟨rfl, [], ⟨_, rfl, .inl ⟨rfl, .inl rfl⟩⟩, ⟨by simp, fun x hx => by simp at hx⟩, fun es spare h => by cases h⟩
  · simp only [if_true] at hmm
    subst hmm
    simp only [maxLen] at hm
    by_cases h0 : m = 0
    · have hl0 : len = 0 := by omega
      subst h0 hl0
      refine ⟨rfl, [], ⟨_, rfl, .inl ⟨rfl, .inr ⟨a, rfl⟩⟩⟩, ⟨by simp, fun x hx => by simp at hx⟩, fun es spare h => ?_⟩
      simp only [DataW.slice.injEq] at h
      obtain ⟨rfl, -⟩ := h
      exact ⟨rfl, fun j x y hx => by simp at hx⟩
    · obtain ⟨cs0, hc0, -⟩ := hi 0 (by omega)
      obtain ⟨-, hl0, hat0⟩ := World.cells?_some hc0
      have hcell : ∃ u, w.cell? a = some u := by
        have h1 := hat0 0 (by omega)
        simp only [Nat.zero_mul, Addr.add, if_true] at h1
        rw [h1]
        exact ⟨cs0[0]'(by omega), by simp⟩
      have hsp : a.spot = none ∧ a.block < w.heap.size := by
        obtain ⟨u, hu⟩ := hcell
        unfold World.cell? at hu
        split at hu
        · rename_i c ty fr hb'
          split at hu
          · cases hu
          · rename_i hs
            refine ⟨by simpa using hs, (Array.getElem?_eq_some_iff.1 hb').1⟩
        · cases hu
      obtain ⟨b, f, sp⟩ := a
      obtain ⟨rfl, hbl⟩ := hsp
      have add_ : ∀ f n, Addr.add ⟨b, f, none⟩ n = ⟨b, f + n, none⟩ := by
        intro f n
        unfold Addr.add
        split
        · rename_i e0; subst e0; rfl
        · rfl
      have key : ∀ l, l ≤ len → ∃ xs : List α, xs.length = l ∧ (∀ x ∈ xs, G x) ∧ (∀ (j : Nat) (p : α), xs[j]? = some p → D p H (Dt j) ∧ ∃ c', c'.length = z ∧ R w p c' ∧ ∀ (i : Nat) (u : Value), c'[i]? = some u → w.cell? ⟨b, f + j * z + i, none⟩ = some u) := by
        intro l
        induction l with
        | zero => exact fun _ => ⟨[], rfl, fun x hx => by simp at hx, fun j p hj => by simp at hj⟩
        | succ l ih =>
          intro hl'
          obtain ⟨xs, h1, h2, h3⟩ := ih (by omega)
          obtain ⟨cs', hc', ht'⟩ := hi l (by omega)
          obtain ⟨q1, q, hR, hG, hD⟩ := he ht'
          obtain ⟨-, hcl, hat⟩ := World.cells?_some hc'
          refine ⟨xs ++ [q], by simp [h1], fun x hx => ?_, fun j p hj => ?_⟩
          · rcases List.mem_append.1 hx with hx | hx
            · exact h2 x hx
            · rw [List.mem_singleton.1 hx]; exact hG
          · rcases Nat.lt_or_ge j xs.length with hlt | hge
            · rw [List.getElem?_append_left hlt] at hj
              exact h3 j p hj
            · rw [List.getElem?_append_right hge] at hj
              have hj0 : j - xs.length = 0 := by
                rcases Nat.eq_zero_or_pos (j - xs.length) with h0 | h0
                · exact h0
                · rw [List.getElem?_eq_none (by simp; omega)] at hj; cases hj
              rw [hj0] at hj
              simp only [List.getElem?_cons_zero, Option.some.injEq] at hj
              subst hj
              obtain rfl : j = l := by omega
              refine ⟨hD, cs', q1, hR, fun i u hu => ?_⟩
              have hilt : i < P.cellsOf e := by
                rcases Nat.lt_or_ge i cs'.length with h0 | h0
                · omega
                · rw [List.getElem?_eq_none h0] at hu; cases hu
              have := hat i hilt
              rw [add_, add_, hu, hez] at this
              exact this
      obtain ⟨xs, h1, h2, h3⟩ := key len (Nat.le_refl _)
      refine ⟨rfl, xs, ⟨_, rfl, .inr ⟨b, f, m, by rw [h1], hbl, fun j p hj => (h3 j p hj).2⟩⟩, ⟨by omega, h2⟩, fun es spare hs => ?_⟩
      simp only [DataW.slice.injEq] at hs
      obtain ⟨rfl, -⟩ := hs
      refine ⟨by simp [h1], fun j x y hx hy => ?_⟩
      have hjl : j < len := by have := (List.getElem?_eq_some_iff.1 hx).1; omega
      rw [List.getElem?_map, List.getElem?_range hjl] at hy
      simp only [Option.map_some, Option.some.injEq] at hy
      subst hy
      exact (h3 j x hx).1
/-- A field of a struct that reads as data. -/
theorem fld_opn {α : Type} {z : Nat} {R : World → α → List Value → Prop} {G : α → Prop} {D : α → (H : Type) → DataW H → Prop} {H : Type} {enc : TypeId × Value → H} {w : World} {base : Nat} {held : Bool} {n : Nat} {cs : List Value} {ys : List (DataW H × List MemPlace)} {fs : Array Field}
    (hyl : ys.length = fs.size) (hf : ∀ (i : Nat) (f : Field), fs[i]? = some f → DataW.trod enc P w base (fun _ => true) held n f.type ((cs.drop f.offset).take (P.cellsOf f.type)) = ys[i]?) (i : Nat) (f : Field) (hi : fs[i]? = some f)
    (ho : Opn P f.type z R G D) : ∃ x, R w x ((cs.drop f.offset).take z) ∧ G x := by
  have h1 := hf i f hi
  have hlt : i < ys.length := by rw [hyl]; exact (Array.getElem?_eq_some_iff.1 hi).1
  rw [List.getElem?_eq_getElem hlt, ho.1] at h1
  obtain ⟨-, x, hR, hG, -⟩ := ho.2 h1
  exact ⟨x, hR, hG⟩
end
theorem take1 {cs : List Value} {o : Nat} {v : Value} (h : (cs.drop o).take 1 = [v]) : cs[o]? = some v := by
  have : ((cs.drop o).take 1)[0]? = some v := by rw [h]; rfl
  simpa using this
theorem list_ext_n {cs ds : List Value} (hl : cs.length = ds.length) (h : ∀ i, i < ds.length → cs[i]? = ds[i]?) : cs = ds := by
  apply List.ext_getElem?
  intro i
  rcases Nat.lt_or_ge i ds.length with h1 | h1
  · exact h i h1
  · rw [List.getElem?_eq_none h1, List.getElem?_eq_none (by omega)]
/-! ### the machine's memory -/
abbrev RoT := List (Nat × Nat × Blk)
/-- The rows of the table lie where it says. -/
def ROk (E : Env) (m : Mem) (L : RoT) : Prop := ∀ (j b f : Nat) (B : Blk), L[j]? = some (b, f, B) → E.r j = some (b, f, B.sz) ∧ m.ro j = some B
theorem ROk.pre {E : Env} {m : Mem} {L X : RoT} (h : ROk E m (L ++ X)) : ROk E m L := fun j b f B hj => h j b f B (by
  have := (List.getElem?_eq_some_iff.1 hj).1
  rw [List.getElem?_append_left this]; exact hj)
def EntOk (w : World) (L X : RoT) : Prop := ∀ (E : Env) (m : Mem), ROk E m L → ∀ q ∈ X, q.1 < w.heap.size ∧ CR E q.2.2.rows q.2.2.sz (fun k => w.cell? ⟨q.1, q.2.1 + k, none⟩)
theorem EntOk.nil {w : World} {L : RoT} : EntOk w L [] := fun _ _ _ q hq => by cases hq
theorem EntOk.more {w : World} {L X Y : RoT} (h : EntOk w L X) : EntOk w (L ++ Y) X := fun E m hr => h E m hr.pre
theorem EntOk.app {w : World} {L X Y : RoT} (h : EntOk w L X) (k : EntOk w L Y) : EntOk w L (X ++ Y) := fun E m hr q hq => (List.mem_append.1 hq).elim (h E m hr q) (k E m hr q)
section
variable {α : Type} {z : Nat} {w : World}
/-- A slice whose elements hold scalars. -/
theorem flat_slice {vals : α → List Value} {av : α → List AV} (hav : ∀ x, (av x).length = z ∧ ∀ (E : Env) (i : Nat) (c : AV), (av x)[i]? = some c → ∃ v, (vals x)[i]? = some v ∧ VC E c v) {xs : List α} {v : Value}
    (h : RdSl z (fun _ x cs => cs = vals x) w xs v) (L : RoT) : ∃ X s, EntOk w (L ++ X) X ∧ ∀ (E : Env) (m : Mem), ROk E m (L ++ X) → VC E s v ∧ SlR m z s (xs.map av) := by
  rcases h with ⟨rfl, rfl | ⟨a, rfl⟩⟩ | ⟨b, f, c, rfl, hb, hx⟩
  · exact ⟨[], .nils, EntOk.nil, fun E m _ => ⟨⟨.nils, rfl⟩, rfl⟩⟩
  · exact ⟨[], .emp a, EntOk.nil, fun E m _ => ⟨⟨.emp a, rfl⟩, rfl⟩⟩
  · refine ⟨[(b, f, ⟨xs.map av, z⟩)], .sl (.ro L.length) 0 xs.length c, fun E m _ q hq => ?_, fun E m hr => ?_⟩
    · rw [List.mem_singleton] at hq
      subst hq
      refine ⟨hb, fun i row hi => ?_⟩
      rw [List.getElem?_map, Option.map_eq_some_iff] at hi
      obtain ⟨x, hxi, rfl⟩ := hi
      refine ⟨(hav x).1, fun o u ho => ?_⟩
      obtain ⟨c', _, rfl, hc⟩ := hx i x hxi
      obtain ⟨y, hy, hv⟩ := (hav x).2 E o u ho
      exact ⟨y, by have := hc o y hy; show w.cell? ⟨b, f + (i * z + o), none⟩ = some y; rw [← Nat.add_assoc]; exact this, hv⟩
    · obtain ⟨h1, h2⟩ := hr L.length b f ⟨xs.map av, z⟩ (by simp)
      refine ⟨⟨?_, rfl⟩, fun j => by simp, ⟨xs.map av, z⟩, h2, rfl, by simp, by rw [List.drop_zero]; exact List.take_of_length_le (by simp)⟩
      have := VR.sl (E := E) (L := noPl) (.ro L.length) 0 xs.length c (b, f, z) h1
      simpa [adr] using this
end
/-! ### the data of the program -/
def V.vals (v : V) : List Value := [.int .i64 v.k, .int .i64 v.n, .float .f64 v.f, .string v.s, .int .i64 v.r]
theorem V.hav (v : V) : v.av.length = 5 ∧ ∀ (E : Env) (i : Nat) (c : AV), v.av[i]? = some c → ∃ x, v.vals[i]? = some x ∧ VC E c x := by
  refine ⟨rfl, fun E i c h => ?_⟩
  rcases i with _ | _ | _ | _ | _ | i <;> simp [V.av] at h <;> subst h <;> exact ⟨_, rfl, by constructor, rfl⟩
def Pa.vals (p : Pa) : List Value := [.int .i64 p.k.k, .int .i64 p.k.n, .float .f64 p.k.f, .string p.k.s, .int .i64 p.k.r, .int .i64 p.v.k, .int .i64 p.v.n, .float .f64 p.v.f, .string p.v.s, .int .i64 p.v.r, .int .i64 p.turn]
theorem Pa.hav (v : Pa) : v.av.length = 11 ∧ ∀ (E : Env) (i : Nat) (c : AV), v.av[i]? = some c → ∃ x, v.vals[i]? = some x ∧ VC E c x := by
  refine ⟨rfl, fun E i c h => ?_⟩
  rcases i with _ | _ | _ | _ | _ | _ | _ | _ | _ | _ | _ | i <;> simp [Pa.av] at h <;> subst h <;> exact ⟨_, rfl, by constructor, rfl⟩
def envOf (W : World) (L : RoT) : Env := ⟨fun _ => none, fun j => (L[j]?).map fun q => (q.1, q.2.1, q.2.2.sz), W.heap.size, W⟩
def memOf (L : RoT) (gl : Nat → AV) : Mem := ⟨fun j => (L[j]?).map fun q => q.2.2, gl, []⟩
theorem rOk_of (W : World) (L : RoT) (gl : Nat → AV) : ROk (envOf W L) (memOf L gl) L := fun j b f B h => by simp [envOf, memOf, h]
theorem mr_of {W : World} {L : RoT} (h : EntOk W L L) {gl : Nat → AV} (hgl : ∀ g, VR (envOf W L) noPl (gl g) (.pointer (some ⟨g, 0, none⟩))) : MR (envOf W L) (memOf L gl) W where
  bel := Below.refl _ _
  bsz := Nat.le_refl _
  hp j B hj := by simp [memOf] at hj
  hpd j _ := rfl
  hpb j b s hj := by simp [envOf] at hj
  inj j j' b s s' hj := by simp [envOf] at hj
  ro j B hj := by
    simp only [memOf, Option.map_eq_some_iff] at hj
    obtain ⟨q, hq, rfl⟩ := hj
    obtain ⟨k1, k2⟩ := h _ _ (rOk_of W L gl) q (List.mem_of_getElem? hq)
    exact ⟨q.1, q.2.1, by simp [envOf, hq], k1, k2⟩
  gl := hgl
/-- A function with a body, told as a call. -/
theorem Sim.calls {P : Program} {f : FuncId} {fn : Func} {c : Code} (hf : P.funcs[f]? = some fn) (hname : (fn.name == "runtime.NumGoroutine") = false) (hb : fn.body = some c) {args : List AV} {m : Mem} {K : AR → Mem → Prop} (h : Sim P f args m K)
    {E : Env} {w : World} {xs : Array Value} (hm : MR E m w) (hx : VRs E noPl args xs) : Calls P f xs w (SimEnd E w K) := by
  rcases h E w xs hm hx with ⟨-, h⟩ | ⟨r, x, h, -⟩
  · exact h
  · rw [Go.Proofs.enters_of hf hname hb] at h
    cases h
end Go.Proofs.IM
namespace Go.Proofs.Ytgfkbcmdegnneaa.IM
open Go Go.Proofs.IM Go.RowKit Go.ChangeShapes Go.WideShapes
set_option maxRecDepth 100000
theorem oI : Opn Try.prog 3 1 (fun _ (n : Int) cs => cs = [.int .i64 n]) i64 (fun n H d => d = .lit (.int .i64 n)) := opn_i64 Try.underlying3 (by kernel_rfl)
theorem oI64 : Opn Try.prog 2 1 (fun _ (n : Int) cs => cs = [.int .i64 n]) i64 (fun n H d => d = .lit (.int .i64 n)) := opn_i64 Try.underlying2 (by kernel_rfl)
theorem oS : Opn Try.prog 9 1 (fun _ (s : ByteArray) cs => cs = [.string s]) (fun s => s.size ≤ 9223372036854775807) anyD := opn_str Try.underlying9 (by kernel_rfl)
theorem oF : Opn Try.prog 25 1 (fun _ (b : Nat) cs => cs = [.float .f64 b]) (fun b => b < 18446744073709551616) anyD := opn_flt Try.underlying25 (by kernel_rfl)
theorem oV : Opn Try.prog 27 5 (fun _ v cs => cs = V.vals v) V.good anyD := by
  refine ⟨by kernel_rfl, fun {H enc w base held fuel cs x} h => ?_⟩
  obtain ⟨ys, n, _, _, hlen, hyl, hf⟩ := DataW.trod_struct Try.underlying27 h
  obtain ⟨x0, h0, g0⟩ := fld_opn hyl hf 0 _ rfl oI
  obtain ⟨x1, h1, g1⟩ := fld_opn hyl hf 1 _ rfl oI64
  obtain ⟨x2, h2, g2⟩ := fld_opn hyl hf 2 _ rfl oF
  obtain ⟨x3, h3, g3⟩ := fld_opn hyl hf 3 _ rfl oS
  obtain ⟨x4, h4, g4⟩ := fld_opn hyl hf 4 _ rfl oI
  have hc : cs.length = 5 := hlen.trans (by kernel_rfl)
  refine ⟨hc, ⟨x0, x1, x2, x3, x4⟩, list_ext_n hc fun i hi => ?_, ⟨g0, g1, g2, g3, g4⟩, trivial⟩
  rcases i with _ | _ | _ | _ | _ | i
  · exact take1 h0
  · exact take1 h1
  · exact take1 h2
  · exact take1 h3
  · exact take1 h4
  · simp [V.vals] at hi; omega
theorem oPa : Opn Try.prog 51 11 (fun _ v cs => cs = Pa.vals v) Pa.good anyD := by
  refine ⟨by kernel_rfl, fun {H enc w base held fuel cs x} h => ?_⟩
  obtain ⟨ys, n, _, _, hlen, hyl, hf⟩ := DataW.trod_struct Try.underlying51 h
  obtain ⟨x0, h0, g0⟩ := fld_opn hyl hf 0 _ rfl oV
  obtain ⟨x1, h1, g1⟩ := fld_opn hyl hf 1 _ rfl oV
  obtain ⟨x2, h2, g2⟩ := fld_opn hyl hf 2 _ rfl oI
  have hc : cs.length = 11 := hlen.trans (by kernel_rfl)
  refine ⟨hc, ⟨x0, x1, x2⟩, ?_, ⟨g0, g1, g2⟩, trivial⟩
  have h0 : (cs.drop 0).take 5 = V.vals x0 := h0
  have h1 : (cs.drop 5).take 5 = V.vals x1 := h1
  have h2 : (cs.drop 10).take 1 = [.int .i64 x2] := h2
  match cs, hc, h0, h1, h2 with
  | [a0, a1, a2, a3, a4, a5, a6, a7, a8, a9, a10], _, h0, h1, h2 =>
    simp only [V.vals, List.drop, List.take, List.cons.injEq, and_true] at h0 h1 h2
    obtain ⟨rfl, rfl, rfl, rfl, rfl⟩ := h0
    obtain ⟨rfl, rfl, rfl, rfl, rfl⟩ := h1
    obtain rfl := h2
    rfl
theorem oT : Opn Try.prog 24 2 (fun w (x : List Pa × Int) cs => ∃ v, cs = [v, .int .i64 x.2] ∧ RdSl 11 (fun _ p cs => cs = Pa.vals p) w x.1 v) (fun x => (x.1.length ≤ 9223372036854775807 ∧ ∀ p ∈ x.1, p.good) ∧ i64 x.2) anyD := by
  refine ⟨by kernel_rfl, fun {H enc w base held fuel cs x} h => ?_⟩
  obtain ⟨ys, n, _, _, hlen, hyl, hf⟩ := DataW.trod_struct Try.underlying24 h
  obtain ⟨x0, ⟨v, h0, r0⟩, g0⟩ := fld_opn hyl hf 0 _ rfl (opn_slice Try.underlying22 (by kernel_rfl) (by decide) oPa)
  obtain ⟨x1, h1, g1⟩ := fld_opn hyl hf 1 _ rfl oI
  have hc : cs.length = 2 := hlen.trans (by kernel_rfl)
  refine ⟨hc, ⟨x0, x1⟩, ⟨v, list_ext_n hc fun i hi => ?_, r0⟩, ⟨g0, g1⟩, trivial⟩
  rcases i with _ | _ | i
  · exact take1 h0
  · exact take1 h1
  · simp at hi; omega
end Go.Proofs.Ytgfkbcmdegnneaa.IM
