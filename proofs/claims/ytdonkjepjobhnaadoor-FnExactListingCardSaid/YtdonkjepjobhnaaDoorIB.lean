/- How an abstract state lies in a world, and that it goes on lying there when the world grows or one of the call's own rows is written. -/
import Derived.Test.YtdonkjepjobhnaaDoorIA
namespace Go.Proofs.IM
open Go Go.RowKit
set_option linter.unusedVariables false
set_option linter.unusedSimpArgs false
/-- How the abstract places lie in the world: of each heap row its block and its element's size; of what came in also where it begins. -/
structure Env where
  h : Nat → Option (Nat × Nat)
  r : Nat → Option (Nat × Nat × Nat)
  base : Nat
  w0 : World
abbrev Pl := Nat → Option (Nat × Nat)
def noPl : Pl := fun _ => none
def pos (E : Env) (L : Pl) : AA → Option (Nat × Nat × Nat)
  | .hp j => (E.h j).map fun p => (p.1, 0, p.2)
  | .lc j => (L j).map fun p => (p.1, 0, p.2)
  | .ro j => E.r j
def adr (p : Nat × Nat × Nat) (i o : Nat) : Addr := ⟨p.1, p.2.1 + i * p.2.2 + o, none⟩
inductive VR (E : Env) (L : Pl) : AV → Value → Prop
  | int (k : IntKind) (n : Int) : VR E L (.int k n) (.int k n)
  | bool (b : Bool) : VR E L (.bool b) (.bool b)
  | str (s : ByteArray) : VR E L (.str s) (.string s)
  | flt (n : Nat) : VR E L (.flt n) (.float .f64 n)
  | ptr (a : AA) (i o : Nat) (p : Nat × Nat × Nat) (h : pos E L a = some p) : VR E L (.ptr a i o) (.pointer (some (adr p i o)))
  | nilp : VR E L .nilp (.pointer none)
  | sl (a : AA) (i n c : Nat) (p : Nat × Nat × Nat) (h : pos E L a = some p) : VR E L (.sl a i n c) (.slice (some (adr p i 0)) n c)
  | nils : VR E L .nils (.slice none 0 0)
  | emp (a : Addr) : VR E L (.emp a) (.slice (some a) 0 0)
  | agg (cs : List AV) (vs : Array Value) (hl : cs.length = vs.size) (h : ∀ (i : Nat) (c : AV) (v : Value), cs[i]? = some c → vs[i]? = some v → VR E L c v) : VR E L (.agg cs) (.agg vs)
  | tup (cs : List AV) (vs : Array Value) (hl : cs.length = vs.size) (h : ∀ (i : Nat) (c : AV) (v : Value), cs[i]? = some c → vs[i]? = some v → VR E L c v) : VR E L (.tup cs) (.tuple vs)
  | raw (v : Value) : VR E L (.raw v) v
  | undef (v : Value) : VR E L .undef v
structure Env.le (E E' : Env) : Prop where
  h : ∀ j p, E.h j = some p → E'.h j = some p
  r : E'.r = E.r
  base : E'.base = E.base
  w0 : E'.w0 = E.w0
theorem Env.le.refl (E : Env) : E.le E := ⟨fun _ _ h => h, rfl, rfl, rfl⟩
theorem Env.le.trans {E E' E'' : Env} (a : E.le E') (b : E'.le E'') : E.le E'' := ⟨fun j p h => b.h j p (a.h j p h), b.r.trans a.r, b.base.trans a.base, b.w0.trans a.w0⟩
def Pl.le (L L' : Pl) : Prop := ∀ j p, L j = some p → L' j = some p
theorem Pl.le.refl (L : Pl) : L.le L := fun _ _ h => h
theorem Pl.le.trans {L L' L'' : Pl} (a : L.le L') (b : L'.le L'') : L.le L'' := fun j p h => b j p (a j p h)
theorem noPl_le (L : Pl) : noPl.le L := fun j p h => by cases h
theorem pos_mono {E E' : Env} {L L' : Pl} (hE : E.le E') (hL : L.le L') {a : AA} {p : Nat × Nat × Nat} (h : pos E L a = some p) : pos E' L' a = some p := by
  cases a with
  | ro j => simpa [pos, hE.r] using h
  | hp j =>
    simp only [pos, Option.map_eq_some_iff] at h ⊢
    obtain ⟨q, hq, rfl⟩ := h
    exact ⟨q, hE.h _ _ hq, rfl⟩
  | lc j =>
    simp only [pos, Option.map_eq_some_iff] at h ⊢
    obtain ⟨q, hq, rfl⟩ := h
    exact ⟨q, hL _ _ hq, rfl⟩
theorem VR.mono {E E' : Env} {L L' : Pl} (hE : E.le E') (hL : L.le L') {v : AV} {x : Value} (h : VR E L v x) : VR E' L' v x := by
  induction h with
  | int k n => exact .int k n
  | bool b => exact .bool b
  | str s => exact .str s
  | flt n => exact .flt n
  | ptr a i o p h => exact .ptr a i o p (pos_mono hE hL h)
  | nilp => exact .nilp
  | sl a i n c p h => exact .sl a i n c p (pos_mono hE hL h)
  | nils => exact .nils
  | emp a => exact .emp a
  | agg cs vs hl h ih => exact .agg cs vs hl ih
  | tup cs vs hl h ih => exact .tup cs vs hl ih
  | raw v => exact .raw v
  | undef v => exact .undef v
theorem VR.pub1 {E : Env} {L : Pl} {v : AV} {x : Value} (h : VR E L v x) (hp : v.pub1 = true) (L' : Pl) : VR E L' v x := by
  cases h with
  | int k n => exact .int k n
  | bool b => exact .bool b
  | str s => exact .str s
  | flt n => exact .flt n
  | ptr a i o p h =>
    cases a with
    | lc j => simp [AV.pub1] at hp
    | ro j => exact .ptr _ i o p h
    | hp j => exact .ptr _ i o p h
  | nilp => exact .nilp
  | sl a i n c p h =>
    cases a with
    | lc j => simp [AV.pub1] at hp
    | ro j => exact .sl _ i n c p h
    | hp j => exact .sl _ i n c p h
  | nils => exact .nils
  | emp a => exact .emp a
  | agg cs vs hl h => simp [AV.pub1] at hp
  | tup cs vs hl h => simp [AV.pub1] at hp
  | raw v => simp [AV.pub1] at hp
  | undef v => simp [AV.pub1] at hp
theorem VR.pub2 {E : Env} {L : Pl} {v : AV} {x : Value} (h : VR E L v x) (hp : v.pub2 = true) (L' : Pl) : VR E L' v x := by
  have h0 := h
  cases h with
  | agg cs vs hl h =>
    simp only [AV.pub2, List.all_eq_true] at hp
    exact .agg cs vs hl fun i c v hc hv => (h i c v hc hv).pub1 (hp c (List.mem_of_getElem? hc)) L'
  | _ => exact h0.pub1 (by simpa [AV.pub2] using hp) L'
theorem VR.pub3 {E : Env} {L : Pl} {v : AV} {x : Value} (h : VR E L v x) (hp : v.pub3 = true) (L' : Pl) : VR E L' v x := by
  unfold AV.pub3 at hp
  rw [Bool.or_eq_true] at hp
  rcases hp with hp | hp
  · exact h.pub2 hp L'
  · cases h with
    | undef => exact .undef _
    | raw => exact .raw _
    | _ => cases hp
theorem VR.pub {E : Env} {L : Pl} {v : AV} {x : Value} (h : VR E L v x) (hp : v.pub = true) (L' : Pl) : VR E L' v x := by
  have h0 := h
  cases h with
  | tup cs vs hl h =>
    simp only [AV.pub, List.all_eq_true] at hp
    exact .tup cs vs hl fun i c v hc hv => (h i c v hc hv).pub3 (hp c (List.mem_of_getElem? hc)) L'
  | _ => exact h0.pub2 (by simpa [AV.pub] using hp) L'
theorem VR.one {E : Env} {L : Pl} {v : AV} {x : Value} (h : VR E L v x) (hp : v.pub1 = true) : x.oneCell' = true := by
  cases h <;> first | rfl | (simp [AV.pub1] at hp)
/-- The constants. -/
theorem VR.of1 (E : Env) (L : Pl) (v : Value) : VR E L (of1 v) v := by
  unfold IM.of1
  split <;> first | exact .int _ _ | exact .bool _ | exact .str _ | exact .flt _ | exact .nilp | exact .nils | exact .undef _
theorem VR.ofV (E : Env) (L : Pl) (v : Value) : VR E L (ofV v) v := by
  unfold IM.ofV
  split
  · rename_i cs
    refine .agg _ _ (by simp) fun i c v hc hv => ?_
    simp only [List.getElem?_map, Array.getElem?_toList, hv, Option.map_some, Option.some.injEq] at hc
    subst hc
    exact VR.of1 E L v
  · exact VR.of1 E L v
/-- A cell: its value, which holds no private address and is known. -/
def VC (E : Env) (v : AV) (x : Value) : Prop := VR E noPl v x ∧ v.pub1 = true
theorem VC.mono {E E' : Env} (hE : E.le E') {v : AV} {x : Value} (h : VC E v x) : VC E' v x := ⟨h.1.mono hE (Pl.le.refl _), h.2⟩
/-- Rows of cells, as they lie from some place on. -/
def CR (E : Env) (rows : List (List AV)) (sz : Nat) (get : Nat → Option Value) : Prop :=
  ∀ (i : Nat) (row : List AV), rows[i]? = some row → row.length = sz ∧ ∀ (o : Nat) (v : AV), row[o]? = some v → ∃ x, get (i * sz + o) = some x ∧ VC E v x
theorem CR.mono {E E' : Env} (hE : E.le E') {rows : List (List AV)} {sz : Nat} {get : Nat → Option Value} (h : CR E rows sz get) : CR E' rows sz get :=
  fun i row hi => ⟨(h i row hi).1, fun o v ho => let ⟨x, hx, hv⟩ := (h i row hi).2 o v ho; ⟨x, hx, hv.mono hE⟩⟩
/-- A row of the world that nobody shares. (Of a row without parts nothing is known but that it is there.) -/
def At (E : Env) (w : World) (b : Nat) (B : Blk) : Prop := b < w.heap.size ∧ (B.rows ≠ [] → ∃ cs ty, w.heap[b]? = some (.cells cs ty (0, 0)) ∧ CR E B.rows B.sz (cs[·]?))
theorem At.mk' {E : Env} {w : World} {b : Nat} {B : Blk} {cs : Array Value} {ty : TypeId} (a : w.heap[b]? = some (.cells cs ty (0, 0))) (c : CR E B.rows B.sz (cs[·]?)) : At E w b B := ⟨(Array.getElem?_eq_some_iff.1 a).1, fun _ => ⟨cs, ty, a, c⟩⟩
theorem At.mono {E E' : Env} (hE : E.le E') {w : World} {b : Nat} {B : Blk} (h : At E w b B) : At E' w b B := ⟨h.1, fun hn => let ⟨cs, ty, a, c⟩ := h.2 hn; ⟨cs, ty, a, c.mono hE⟩⟩
theorem At.lt {E : Env} {w : World} {b : Nat} {B : Blk} (h : At E w b B) : b < w.heap.size := h.1
theorem At.same {E : Env} {w w' : World} {b : Nat} {B : Blk} (h : At E w b B) (he : w'.heap[b]? = w.heap[b]?) : At E w' b B := by
  refine ⟨?_, fun hn => ?_⟩
  · have h1 := h.1
    rcases Nat.lt_or_ge b w'.heap.size with c | c
    · exact c
    · rw [Array.getElem?_eq_none c, Array.getElem?_eq_getElem h1] at he
      cases he
  · exact let ⟨cs, ty, a, c⟩ := h.2 hn; ⟨cs, ty, he.trans a, c⟩
/-- What is known of the rows that are exactly so. -/
def GhOk (E : Env) (m : Mem) (w : World) : Prop :=
  ∃ os : List (Nat × Obj), os.length = m.gl.gst.rows.length ∧
    (∀ (i j : Nat) (p : Nat × Obj), m.gl.gst.rows[i]? = some j → os[i]? = some p → (∃ s, m.hp[j]? = some ⟨[], s⟩ ∧ E.h j = some (p.1, s)) ∧ w.heap[p.1]? = some p.2) ∧ m.gl.gst.pr os
theorem GhOk.step {E E' : Env} {m m' : Mem} {w w' : World} (h : GhOk E m w) (hg : m'.gl = m.gl)
    (hh : ∀ j s b, m.hp[j]? = some ⟨[], s⟩ → E.h j = some (b, s) → m'.hp[j]? = some ⟨[], s⟩ ∧ E'.h j = some (b, s) ∧ w'.heap[b]? = w.heap[b]?) : GhOk E' m' w' := by
  obtain ⟨os, h1, h2, h3⟩ := h
  unfold GhOk
  rw [hg]
  refine ⟨os, h1, fun i j p hi hp => ?_, h3⟩
  obtain ⟨⟨s, a1, a2⟩, a3⟩ := h2 i j p hi hp
  obtain ⟨b1, b2, b3⟩ := hh j s p.1 a1 a2
  exact ⟨⟨s, b1, b2⟩, b3.trans a3⟩
theorem GhOk.none {E : Env} {m : Mem} {w : World} (h : m.gl.gst = Gho.none) : GhOk E m w := by
  unfold GhOk
  rw [h]
  exact ⟨[], rfl, fun i j p hi => (by cases hi), trivial⟩
structure MR (E : Env) (m : Mem) (w : World) : Prop where
  bel : Below E.base E.w0 w
  bsz : E.base ≤ E.w0.heap.size
  hp : ∀ j B, m.hp[j]? = some B → ∃ b, E.h j = some (b, B.sz) ∧ At E w b B
  hpd : ∀ j, m.hp.length ≤ j → E.h j = none
  hpb : ∀ j b s, E.h j = some (b, s) → E.base ≤ b
  inj : ∀ j j' b s s', E.h j = some (b, s) → E.h j' = some (b, s') → j = j'
  ro : ∀ j B, m.ro j = some B → ∃ b f, E.r j = some (b, f, B.sz) ∧ b < E.base ∧ CR E B.rows B.sz (fun k => E.w0.cell? ⟨b, f + k, none⟩)
  gl : ∀ g, VR E noPl (m.gl g) (.pointer (some ⟨g, 0, none⟩))
  fc : m.gl.fact E.w0
  gh : GhOk E m w
structure LR (E : Env) (L : Pl) (l : Loc) (w : World) : Prop where
  at_ : ∀ j B, l j = some B → ∃ b, L j = some (b, B.sz) ∧ At E w b B
  dom : ∀ j, l j = none → L j = none
  lb : ∀ j b s, L j = some (b, s) → E.base ≤ b
  inj : ∀ j j' b s s', L j = some (b, s) → L j' = some (b, s') → j = j'
  far : ∀ j k b s s', L j = some (b, s) → E.h k ≠ some (b, s')
/-- Since the function's entry. -/
structure En (Ei : Env) (wi : World) (E : Env) (L : Pl) (w : World) : Prop where
  le : Ei.le E
  sz : wi.heap.size ≤ w.heap.size
  fr : ∀ b, b < wi.heap.size → (∀ j s, Ei.h j ≠ some (b, s)) → w.heap[b]? = wi.heap[b]?
  ownh : ∀ j b s, E.h j = some (b, s) → wi.heap.size ≤ b ∨ Ei.h j = some (b, s)
  ownl : ∀ j b s, L j = some (b, s) → wi.heap.size ≤ b
theorem MR.h_lt {E : Env} {m : Mem} {w : World} (h : MR E m w) {j b s : Nat} (hj : E.h j = some (b, s)) : b < w.heap.size := by
  rcases Nat.lt_or_ge j m.hp.length with hl | hl
  · obtain ⟨b', hb, ha⟩ := h.hp j m.hp[j] (by simp [hl])
    rw [hj] at hb
    cases hb
    exact ha.lt
  · rw [h.hpd j hl] at hj; cases hj
theorem LR.l_lt {E : Env} {L : Pl} {l : Loc} {w : World} (h : LR E L l w) {j b s : Nat} (hj : L j = some (b, s)) : b < w.heap.size := by
  cases hl : l j with
  | none => rw [h.dom j hl] at hj; cases hj
  | some B =>
    obtain ⟨b', hb, ha⟩ := h.at_ j B hl
    rw [hj] at hb
    cases hb
    exact ha.lt
/-- All three, in one state of a function. -/
structure Rel (Ei : Env) (wi : World) (E : Env) (L : Pl) (l : Loc) (m : Mem) (w : World) : Prop where
  m : MR E m w
  l : LR E L l w
  e : En Ei wi E L w
/-- The world has the same memory. -/
structure SameMem (w w' : World) : Prop where
  heap : w'.heap = w.heap
  os : w'.os = w.os
  tape : w'.tape = w.tape
  output : w'.output = w.output
theorem SameMem.refl (w : World) : SameMem w w := ⟨rfl, rfl, rfl, rfl⟩
section
variable {Ei E : Env} {wi w w' : World} {L : Pl} {l : Loc} {m : Mem}
theorem Rel.same (h : Rel Ei wi E L l m w) (s : SameMem w w') : Rel Ei wi E L l m w' where
  m := ⟨h.m.bel.trans ⟨s.os, s.tape, s.output, by rw [s.heap]; exact Nat.le_refl _, fun k _ => by rw [s.heap]⟩, h.m.bsz, fun j B hj => let ⟨b, e, a⟩ := h.m.hp j B hj; ⟨b, e, a.same (by rw [s.heap])⟩, h.m.hpd, h.m.hpb, h.m.inj, h.m.ro, h.m.gl, h.m.fc, h.m.gh.step rfl fun j s' b a1 a2 => ⟨a1, a2, by rw [s.heap]⟩⟩
  l := ⟨fun j B hj => let ⟨b, e, a⟩ := h.l.at_ j B hj; ⟨b, e, a.same (by rw [s.heap])⟩, h.l.dom, h.l.lb, h.l.inj, h.l.far⟩
  e := ⟨h.e.le, by rw [s.heap]; exact h.e.sz, fun b hb hn => by rw [s.heap]; exact h.e.fr b hb hn, h.e.ownh, h.e.ownl⟩
theorem heap_push_lt (w : World) (o : Obj) {b : Nat} (hb : b < w.heap.size) : (w.alloc o).heap[b]? = w.heap[b]? := by
  show (w.heap.push o)[b]? = _
  rw [Array.getElem?_push, if_neg (by omega)]
theorem heap_push_eq (w : World) (o : Obj) : (w.alloc o).heap[w.heap.size]? = some o := by
  show (w.heap.push o)[w.heap.size]? = _
  simp
/-- A new heap row. -/
theorem Rel.newHp (h : Rel Ei wi E L l m w) (cs : Array Value) (ty : TypeId) (B : Blk) (hB : CR E B.rows B.sz (cs[·]?)) :
    Rel Ei wi { E with h := upd E.h m.hp.length (some (w.heap.size, B.sz)) } L l (m.push B) (w.alloc (.cells cs ty)) ∧ E.le { E with h := upd E.h m.hp.length (some (w.heap.size, B.sz)) } := by
  have hle : E.le { E with h := upd E.h m.hp.length (some (w.heap.size, B.sz)) } := ⟨fun j p hj => by
    by_cases e : j = m.hp.length
    · subst e; rw [h.m.hpd _ (Nat.le_refl _)] at hj; cases hj
    · simpa [upd, e] using hj, rfl, rfl, rfl⟩
  have hbw : E.base ≤ w.heap.size := Nat.le_trans h.m.bsz h.m.bel.size
  refine ⟨⟨⟨h.m.bel.trans ⟨rfl, rfl, rfl, by simp, fun k hk => heap_push_lt w _ (Nat.lt_of_lt_of_le hk hbw)⟩, h.m.bsz, ?_, ?_, ?_, ?_, ?_, fun g => (h.m.gl g).mono hle (Pl.le.refl _), h.m.fc, h.m.gh.step rfl fun j s b a1 a2 => ⟨by have := (List.getElem?_eq_some_iff.1 a1).1; simp only [Mem.push]; rw [List.getElem?_append_left this]; exact a1, hle.h _ _ a2, heap_push_lt w _ (h.m.h_lt a2)⟩⟩, ⟨?_, h.l.dom, h.l.lb, h.l.inj, ?_⟩, ⟨h.e.le.trans hle, by simp; exact Nat.le_succ_of_le h.e.sz, ?_, ?_, h.e.ownl⟩⟩, hle⟩
  · intro j B' hj
    simp only [Mem.push, List.getElem?_append] at hj
    by_cases e : j < m.hp.length
    · rw [if_pos e] at hj
      obtain ⟨b, hb, ha⟩ := h.m.hp j B' hj
      exact ⟨b, hle.h _ _ hb, (ha.same (heap_push_lt w _ ha.lt)).mono hle⟩
    · rw [if_neg e] at hj
      have : j = m.hp.length := by
        rcases Nat.lt_or_ge (j - m.hp.length) 1 with h1 | h1
        · omega
        · rw [List.getElem?_eq_none (by simpa using h1)] at hj; cases hj
      subst this
      simp at hj
      subst hj
      exact ⟨w.heap.size, by simp [upd], .mk' (heap_push_eq w _) (hB.mono hle)⟩
  · intro j hj
    simp [Mem.push] at hj
    have : j ≠ m.hp.length := by omega
    simp [upd, this]
    exact h.m.hpd j (by omega)
  · intro j b s hj
    by_cases e : j = m.hp.length
    · simp [upd, e] at hj; show E.base ≤ b; omega
    · simp [upd, e] at hj; exact h.m.hpb j b s hj
  · intro j j' b s s' hj hj'
    by_cases e : j = m.hp.length <;> by_cases e' : j' = m.hp.length <;> simp [upd, e, e'] at hj hj'
    · omega
    · have := h.m.h_lt hj'; omega
    · have := h.m.h_lt hj; omega
    · exact h.m.inj j j' b s s' hj hj'
  · intro j B' hj
    obtain ⟨b, f, a1, a2, a3⟩ := h.m.ro j B' hj
    exact ⟨b, f, a1, a2, a3.mono hle⟩
  · intro j B' hj
    obtain ⟨b, hb, ha⟩ := h.l.at_ j B' hj
    exact ⟨b, hb, (ha.same (heap_push_lt w _ ha.lt)).mono hle⟩
  · intro j k b s s' hj hk
    by_cases e : k = m.hp.length
    · simp [upd, e] at hk
      have := h.l.l_lt hj
      omega
    · simp [upd, e] at hk
      exact h.l.far j k b s s' hj hk
  · intro b hb hn
    rw [heap_push_lt w _ (Nat.lt_of_lt_of_le hb h.e.sz)]
    exact h.e.fr b hb hn
  · intro j b s hj
    by_cases e : j = m.hp.length
    · simp [upd, e] at hj
      have := h.e.sz
      left; omega
    · simp [upd, e] at hj; exact h.e.ownh j b s hj
/-- A new private variable. -/
theorem Rel.newLc (h : Rel Ei wi E L l m w) (cs : Array Value) (ty : TypeId) (B : Blk) (hB : CR E B.rows B.sz (cs[·]?)) (d : Nat) (hd : L d = none) :
    Rel Ei wi E (upd L d (some (w.heap.size, B.sz))) (upd l d (some B)) m (w.alloc (.cells cs ty)) ∧ L.le (upd L d (some (w.heap.size, B.sz))) := by
  have hle : L.le (upd L d (some (w.heap.size, B.sz))) := fun j p hj => by
    by_cases e : j = d
    · subst e; rw [hd] at hj; cases hj
    · simpa [upd, e] using hj
  have hbw : E.base ≤ w.heap.size := Nat.le_trans h.m.bsz h.m.bel.size
  refine ⟨⟨⟨h.m.bel.trans ⟨rfl, rfl, rfl, by simp, fun k hk => heap_push_lt w _ (Nat.lt_of_lt_of_le hk hbw)⟩, h.m.bsz, ?_, h.m.hpd, h.m.hpb, h.m.inj, h.m.ro, h.m.gl, h.m.fc, h.m.gh.step rfl fun j s b a1 a2 => ⟨a1, a2, heap_push_lt w _ (h.m.h_lt a2)⟩⟩, ⟨?_, ?_, ?_, ?_, ?_⟩, ⟨h.e.le, by simp; exact Nat.le_succ_of_le h.e.sz, ?_, h.e.ownh, ?_⟩⟩, hle⟩
  · intro j B' hj
    obtain ⟨b, hb, ha⟩ := h.m.hp j B' hj
    exact ⟨b, hb, ha.same (heap_push_lt w _ ha.lt)⟩
  · intro j B' hj
    by_cases e : j = d
    · simp [upd, e] at hj ⊢
      subst hj
      exact ⟨_, ⟨rfl, rfl⟩, .mk' (heap_push_eq w _) hB⟩
    · simp [upd, e] at hj ⊢
      obtain ⟨b, hb, ha⟩ := h.l.at_ j B' hj
      exact ⟨b, hb, ha.same (heap_push_lt w _ ha.lt)⟩
  · intro j hj
    by_cases e : j = d
    · simp [upd, e] at hj
    · simp [upd, e] at hj ⊢; exact h.l.dom j hj
  · intro j b s hj
    by_cases e : j = d
    · simp [upd, e] at hj; omega
    · simp [upd, e] at hj; exact h.l.lb j b s hj
  · intro j j' b s s' hj hj'
    by_cases e : j = d <;> by_cases e' : j' = d <;> simp [upd, e, e'] at hj hj'
    · omega
    · have := h.l.l_lt hj'; omega
    · have := h.l.l_lt hj; omega
    · exact h.l.inj j j' b s s' hj hj'
  · intro j k b s s' hj hk
    by_cases e : j = d
    · simp [upd, e] at hj
      have := h.m.h_lt hk
      omega
    · simp [upd, e] at hj
      exact h.l.far j k b s s' hj hk
  · intro b hb hn
    rw [heap_push_lt w _ (Nat.lt_of_lt_of_le hb h.e.sz)]
    exact h.e.fr b hb hn
  · intro j b s hj
    by_cases e : j = d
    · simp [upd, e] at hj
      have := h.e.sz
      omega
    · simp [upd, e] at hj; exact h.e.ownl j b s hj
/-- One row of cells has been written, and nothing else. -/
structure Wrote (w w' : World) (b : Nat) (cs : Array Value) : Prop where
  at_ : ∃ ty, w'.heap[b]? = some (.cells cs ty (0, 0))
  sz : w'.heap.size = w.heap.size
  far : ∀ k, k ≠ b → w'.heap[k]? = w.heap[k]?
  os : w'.os = w.os
  tape : w'.tape = w.tape
  output : w'.output = w.output
theorem Rel.wroteHp (h : Rel Ei wi E L l m w) {j b : Nat} {B B' : Blk} (hj : m.hp[j]? = some B) (hb : E.h j = some (b, B.sz)) (hs : B'.sz = B.sz) {cs : Array Value}
    (hB : CR E B'.rows B'.sz (cs[·]?)) (hw : Wrote w w' b cs) (hne : B.rows ≠ []) : Rel Ei wi E L l { m with hp := m.hp.set j B' } w' := by
  have hlt : j < m.hp.length := (List.getElem?_eq_some_iff.1 hj).1
  refine ⟨⟨h.m.bel.trans ⟨hw.os, hw.tape, hw.output, by rw [hw.sz]; exact Nat.le_refl _, fun k hk => hw.far k (by have := h.m.hpb j b _ hb; omega)⟩, h.m.bsz, ?_, ?_, h.m.hpb, h.m.inj, h.m.ro, h.m.gl, h.m.fc, h.m.gh.step rfl fun k s b' a1 a2 => ?_⟩, ⟨?_, h.l.dom, h.l.lb, h.l.inj, h.l.far⟩, ⟨h.e.le, by rw [hw.sz]; exact h.e.sz, ?_, h.e.ownh, h.e.ownl⟩⟩
  · intro k B'' hk
    by_cases e : k = j
    · subst e
      simp [hlt] at hk
      subst hk
      obtain ⟨ty, ht⟩ := hw.at_
      exact ⟨b, by rw [hs]; exact hb, .mk' ht hB⟩
    · simp [List.getElem?_set, Ne.symm e] at hk
      obtain ⟨b', hb', ha⟩ := h.m.hp k B'' hk
      exact ⟨b', hb', ha.same (hw.far b' fun e' => e (h.m.inj k j b' _ _ hb' (e' ▸ hb)))⟩
  · intro k hk
    exact h.m.hpd k (by simpa using hk)
  · have hkj : k ≠ j := fun e => by
      subst e
      rw [hj] at a1
      cases a1
      exact hne rfl
    exact ⟨by simp [List.getElem?_set, Ne.symm hkj, a1], a2, hw.far b' fun e' => hkj (h.m.inj k j b' _ _ a2 (e' ▸ hb))⟩
  · intro k B'' hk
    obtain ⟨b', hb', ha⟩ := h.l.at_ k B'' hk
    exact ⟨b', hb', ha.same (hw.far b' fun e' => h.l.far k j b' _ B.sz hb' (e' ▸ hb))⟩
  · intro k hk hn
    rw [hw.far k fun e => ?_]
    · exact h.e.fr k hk hn
    · subst e
      rcases h.e.ownh j k _ hb with h1 | h1
      · omega
      · exact hn j _ h1
theorem Rel.wroteLc (h : Rel Ei wi E L l m w) {j b : Nat} {B B' : Blk} (hj : l j = some B) (hb : L j = some (b, B.sz)) (hs : B'.sz = B.sz) {cs : Array Value}
    (hB : CR E B'.rows B'.sz (cs[·]?)) (hw : Wrote w w' b cs) : Rel Ei wi E L (upd l j (some B')) m w' := by
  refine ⟨⟨h.m.bel.trans ⟨hw.os, hw.tape, hw.output, by rw [hw.sz]; exact Nat.le_refl _, fun k hk => hw.far k (by have := h.l.lb j b _ hb; omega)⟩, h.m.bsz, ?_, h.m.hpd, h.m.hpb, h.m.inj, h.m.ro, h.m.gl, h.m.fc, h.m.gh.step rfl fun k s b' a1 a2 => ⟨a1, a2, hw.far b' fun e' => h.l.far j k b' B.sz _ (e' ▸ hb) a2⟩⟩, ⟨?_, ?_, h.l.lb, h.l.inj, h.l.far⟩, ⟨h.e.le, by rw [hw.sz]; exact h.e.sz, ?_, h.e.ownh, h.e.ownl⟩⟩
  · intro k B'' hk
    obtain ⟨b', hb', ha⟩ := h.m.hp k B'' hk
    exact ⟨b', hb', ha.same (hw.far b' fun e' => h.l.far j k b' B.sz _ (e' ▸ hb) hb')⟩
  · intro k B'' hk
    by_cases e : k = j
    · subst e
      simp [upd] at hk
      subst hk
      obtain ⟨ty, ht⟩ := hw.at_
      exact ⟨b, by rw [hs]; exact hb, .mk' ht hB⟩
    · simp [upd, e] at hk
      obtain ⟨b', hb', ha⟩ := h.l.at_ k B'' hk
      exact ⟨b', hb', ha.same (hw.far b' fun e' => e (h.l.inj k j b' _ _ hb' (e' ▸ hb)))⟩
  · intro k hk
    by_cases e : k = j
    · simp [upd, e] at hk
    · simp [upd, e] at hk; exact h.l.dom k hk
  · intro k hk hn
    rw [hw.far k fun e => ?_]
    · exact h.e.fr k hk hn
    · subst e
      have := h.e.ownl j k _ hb
      omega
theorem MR.wg (h : MR E m w) (g : Gho) (hg : GhOk E (m.wg g) w) : MR E (m.wg g) w := ⟨h.bel, h.bsz, h.hp, h.hpd, h.hpb, h.inj, h.ro, h.gl, h.fc, hg⟩
theorem MR.wgN (h : MR E m w) : MR E (m.wg .none) w := h.wg _ (.none rfl)
theorem Rel.wg (h : Rel Ei wi E L l m w) (g : Gho) (hg : GhOk E (m.wg g) w) : Rel Ei wi E L l (m.wg g) w := ⟨h.m.wg g hg, h.l, h.e⟩
/-- A new row, of which nothing is known but what the ghost says. -/
theorem Rel.newGho (h : Rel Ei wi E L l m w) (cs : Array Value) (ty : TypeId) (s : Nat) :
    Rel Ei wi { E with h := upd E.h m.hp.length (some (w.heap.size, s)) } L l ((m.push ⟨[], s⟩).wg ⟨[m.hp.length], fun os => ∃ b, os = [(b, .cells cs ty (0, 0))]⟩) (w.alloc (.cells cs ty)) ∧ E.le { E with h := upd E.h m.hp.length (some (w.heap.size, s)) } := by
  obtain ⟨h1, h2⟩ := h.newHp cs ty ⟨[], s⟩ (fun i row hi => by simp at hi)
  refine ⟨h1.wg _ ⟨[(w.heap.size, .cells cs ty (0, 0))], rfl, fun i j p hi hp => ?_, _, rfl⟩, h2⟩
  rcases i with _ | i
  · simp only [Mem.wg, List.getElem?_cons_zero, Option.some.injEq] at hi hp
    subst hi hp
    exact ⟨⟨s, by simp [Mem.push, Mem.wg], by simp [upd]⟩, heap_push_eq w _⟩
  · simp at hp
end
end Go.Proofs.IM
