/- Walks and laws, joined into one text. -/
import Derived.Test.YtdonkjepjobhnaaDoorIX
import Derived.Lib.Builder
import Derived.Lib.UnsafeStr
import Derived.Lib.AppendStr
import Derived.Test.YtdonkjepjobhnaaDoorIU
import Derived.Test.YtdonkjepjobhnaaDoorChecked
import Derived.Lib.Walk
import Derived.WalkKit
import Derived.ProofKit
import Derived.Laws.Externs
import Derived.Laws.IdiomCopy
import Derived.Laws.BitsLemmas
import Derived.Shelf.Strings.Fields
import Derived.Test.YtdonkjepjobhnaaDoorProg
import Derived.Test.YtdonkjepjobhnaaDoorQN
import Derived.Test.YtdonkjepjobhnaaDoorQA
import Derived.Test.YtdonkjepjobhnaaDoorQM
import Derived.Test.YtdonkjepjobhnaaDoorQB
set_option linter.unusedSimpArgs false
set_option linter.unusedVariables false
set_option linter.unnecessarySimpa false
namespace Go.Proofs.IM
open Go Go.RowKit
set_option linter.unusedVariables false
set_option linter.unusedSimpArgs false
def bufOk (e : TypeId) (rest : List (Nat × Obj)) (v : Value) (l : List UInt8) : Option Nat → Prop
  | none => rest = [] ∧ v = .slice none 0 0 ∧ l = []
  | some _ => ∃ b2 cur cap, rest = [(b2, .cells cur e (0, 0))] ∧ v = .slice (some ⟨b2, 0, none⟩) l.length cap ∧ l.length ≤ cap ∧ cap ≤ maxLen ∧ cur.size = cap ∧ cur.toList.take l.length = Lib.byteCells l
/-- The row j is a builder that holds the bytes l; its buffer is the row g, or none. -/
def bld (T e : TypeId) (j : Nat) (g : Option Nat) (l : List UInt8) : Gho :=
  ⟨j :: g.toList, fun os => ∃ b p v rest, os = (b, .cells #[p, v] T (0, 0)) :: rest ∧ (p = .pointer none ∨ p = .pointer (some ⟨b, 0, none⟩)) ∧ bufOk e rest v l g⟩
/-- More is known. -/
def Gho.le (a b : Gho) : Prop := a.rows = b.rows ∧ ∀ os, a.pr os → b.pr os
theorem Gho.le.refl (a : Gho) : a.le a := ⟨rfl, fun _ h => h⟩
/-- A builder in the world. -/
def BufW (e : TypeId) (w : World) (v : Value) (l : List UInt8) : Prop :=
  (v = .slice none 0 0 ∧ l = []) ∨ ∃ g cap cur, v = .slice (some ⟨g, 0, none⟩) l.length cap ∧ w.heap[g]? = some (.cells cur e (0, 0)) ∧ l.length ≤ cap ∧ cap ≤ maxLen ∧ cur.size = cap ∧ cur.toList.take l.length = Lib.byteCells l
theorem BufW.owns {e : TypeId} {w : World} {v : Value} {l : List UInt8} (h : BufW e w v l) : w.ownsRow 0 e 1 v l.length (Lib.byteCells l) := by
  refine ⟨by simp [Lib.byteCells_length], ?_⟩
  rcases h with ⟨rfl, rfl⟩ | ⟨g, cap, cur, rfl, h1, h2, h3, h4, h5⟩
  · exact .inl ⟨rfl, rfl⟩
  · exact .inr ⟨g, cap, cur, rfl, Nat.zero_le _, h1, h2, h3, by omega, by rw [Nat.mul_one]; exact h5⟩
theorem grown_buf (w : World) (e : TypeId) (l : List UInt8) (s : ByteArray) (old : Nat) (h63 : l.length + s.size ≤ maxLen) :
    BufW e (w.drew.alloc (.cells ((Lib.byteCells l).toArray ++ (Lib.strCells s).toArray ++ Builtin.zeroCells (Value.int .u8 0).cells (grownCap w (l.length + s.size) old e - (l.length + s.size))) e))
      (.slice (some ⟨w.heap.size, 0, none⟩) (l.length + s.size) (grownCap w (l.length + s.size) old e)) (l ++ s.data.toList) := by
  have hsz : s.data.toList.length = s.size := by rw [Array.length_toList]; rfl
  have hge := grownCap_ge w (l.length + s.size) old e
  have hcm : grownCap w (l.length + s.size) old e ≤ maxLen := grownCap_le_maxLen w (l.length + s.size) old e h63
  have hz1 : (Value.int IntKind.u8 0).cells.size = 1 := rfl
  refine .inr ⟨w.heap.size, _, _, by rw [List.length_append, hsz], heap_push_eq w.drew _, by rw [List.length_append, hsz]; exact hge, hcm, ?_, ?_⟩
  · simp only [Array.size_append, List.size_toArray, size_zeroCells, hz1, Lib.byteCells_length, Lib.strCells_length]
    omega
  · have hlen : (Lib.byteCells l ++ Lib.strCells s).length = (l ++ s.data.toList).length := by simp [Lib.byteCells_length, Lib.strCells_length, hsz]
    simp only [Array.toList_append, Lib.byteCells_append, ← Lib.strCells_eq]
    rw [← hlen]
    exact List.take_left
/-- What appending a string does to a buffer: in place, or in a new block. -/
theorem run_buf {P : Program} (w : World) (t u ty e : TypeId) (i : TypeInfo) (ht : P.underlying t = some (.slice e)) (hu : P.underlying u = some .string) (hi : P.info? e = some i) (hz : i.zero = some (.int .u8 0))
    (hsize : i.size = 1) (hby : i.bytes = 1) (v : Value) (l : List UInt8) (hv : BufW e w v l) (s : ByteArray) (hs : s.size ≠ 0) (hbytes : l.length + s.size ≤ 140737488355328) :
    ∃ v' w', (Builtin.append_ #[t, u] ty #[v, .string s]).run P w = .ok v' w' ∧ BufW e w' v' (l ++ s.data.toList) ∧ w'.os = w.os ∧ w'.tape = w.tape ∧ w'.output = w.output ∧ w.heap.size ≤ w'.heap.size ∧
      ((∃ g n n' c c', v = .slice (some ⟨g, 0, none⟩) n c ∧ v' = .slice (some ⟨g, 0, none⟩) n' c' ∧ w'.heap.size = w.heap.size ∧ ∀ k, k ≠ g → w'.heap[k]? = w.heap[k]?) ∨ (∃ n' c', v' = .slice (some ⟨w.heap.size, 0, none⟩) n' c' ∧ ∀ k, k < w.heap.size → w'.heap[k]? = w.heap[k]?)) := by
  have hsz : s.data.toList.length = s.size := by rw [Array.length_toList]; rfl
  have h63 : l.length + s.size ≤ maxLen := by unfold maxLen; omega
  rcases hv with ⟨rfl, rfl⟩ | ⟨g, cap, cur, rfl, hg, hnc, hcm, hcs, htake⟩
  · have hr := Go.run_append_nil_string (P := P) w t u ty e i (.int .u8 0) ht hu hi hz s (by omega) (by simp at hbytes; omega) (by rw [hby]; simp at hbytes; omega)
    have e1 : (s.data.map fun b => Value.int .u8 b.toNat) = (Lib.strCells s).toArray := by
      apply Array.ext'
      simp [Lib.strCells]
    rw [e1] at hr
    have hb := grown_buf w e [] s 0 h63
    simp only [List.length_nil, Nat.zero_add, Lib.byteCells, List.map_nil, Array.empty_append] at hb
    exact ⟨_, _, hr, hb, rfl, rfl, rfl, by simp, .inr ⟨_, _, rfl, fun k hk => heap_push_lt w.drew _ hk⟩⟩
  · have hown : w.ownsRow 0 e 1 (.slice (some ⟨g, 0, none⟩) l.length cap) l.length (Lib.byteCells l) := BufW.owns (.inr ⟨g, cap, cur, rfl, hg, hnc, hcm, hcs, htake⟩)
    by_cases hroom : l.length + s.size ≤ cap
    · have hr := Lib.run_append_room_string (P := P) w t u ty e i ht hu hi hsize g l.length cap cur hg s hroom (by omega)
      refine ⟨_, _, hr, .inr ⟨g, cap, _, by rw [List.length_append, hsz], setRow_heap w g cur _ e _ hg, by rw [List.length_append, hsz]; exact hroom, hcm, ?_, ?_⟩, rfl, rfl, rfl, by simp [World.setRow], .inl ⟨g, _, _, _, _, rfl, rfl, by simp [World.setRow], fun k hk => setRow_other w g k _ hk⟩⟩
      · simp only [List.size_toArray, List.length_append, List.length_take, List.length_drop, Array.length_toList, Lib.strCells_length]
        omega
      · have hlen : (Lib.byteCells l ++ Lib.strCells s).length = (l ++ s.data.toList).length := by simp [Lib.byteCells_length, Lib.strCells_length, hsz]
        rw [htake, ← hlen, Lib.byteCells_append, ← Lib.strCells_eq]
        exact List.take_left
    · have holds : ∀ j u, (Lib.byteCells l)[j]? = some u → w.cell? ((⟨g, 0, none⟩ : Addr).add j) = some u := hown.cells (g := g) rfl
      have hr := Lib.run_append_grow_string (P := P) w t u ty e i (.int .u8 0) ht hu hi hz ⟨g, 0, none⟩ l.length cap (Lib.byteCells l) (by rw [hsize, Lib.byteCells_length, Nat.mul_one]) holds s (by omega) (by unfold maxLen at h63; omega) (by rw [hby]; exact growslice_fits (by omega) (by omega))
      exact ⟨_, _, hr, grown_buf w e l s cap h63, rfl, rfl, rfl, by simp, .inr ⟨_, _, rfl, fun k hk => heap_push_lt w.drew _ hk⟩⟩
structure BufStep (e : TypeId) (w : World) (v : Value) (l' : List UInt8) (v' : Value) (w' : World) : Prop where
  buf : BufW e w' v' l'
  os : w'.os = w.os
  tape : w'.tape = w.tape
  output : w'.output = w.output
  sz : w.heap.size ≤ w'.heap.size
  how : (∃ g n n' c c', v = .slice (some ⟨g, 0, none⟩) n c ∧ v' = .slice (some ⟨g, 0, none⟩) n' c' ∧ w'.heap.size = w.heap.size ∧ ∀ k, k ≠ g → w'.heap[k]? = w.heap[k]?) ∨ (∃ n' c', v' = .slice (some ⟨w.heap.size, 0, none⟩) n' c' ∧ ∀ k, k < w.heap.size → w'.heap[k]? = w.heap[k]?)
theorem wpList_buf {P : Program} {ops : Array Oper} {rest : List Oper} {o : Oper} {a : Act} {w : World} {Q : Exit → Act → World → Prop} (hgd : o.guard = none) (sl x : Operand) (t u : TypeId)
    (ho : o.op = .call { callee := .builtin .append, args := #[sl, x], argTypes := #[t, u] })
    (e : TypeId) (i : TypeInfo) (ht : P.underlying t = some (.slice e)) (hu : P.underlying u = some .string) (hi : P.info? e = some i) (hz : i.zero = some (.int .u8 0))
    (hsize : i.size = 1) (hby : i.bytes = 1) (v : Value) (l : List UInt8) (hs : a.eval sl = v) (hv : BufW e w v l) (s : ByteArray) (hx : a.eval x = .string s) (hs0 : s.size ≠ 0) (hbytes : l.length + s.size ≤ 140737488355328)
    (h : ∀ v' w', BufStep e w v (l ++ s.data.toList) v' w' → wpList P ops Q rest (a.put o.dst v') w') :
    wpList P ops Q (o :: rest) a w := by
  refine wpList_plain hgd fun K hK => ?_
  obtain ⟨v', w', hr, h2, h3, h4, h5, h6, h7⟩ := run_buf (P := P) w t u o.type e i ht hu hi hz hsize hby v l hv s hs0 hbytes
  unfold Oper.wp execOp
  simp only [ho, resolve, invoke, builtin, Sem.run_bind, Sem.run_pure, Result.andThen_ok, List.map_toArray, List.map_cons, List.map_nil, hs, hx, hr]
  exact hK _ _ (h v' w' ⟨h2, h3, h4, h5, h6, h7⟩)
/-- What WriteString leaves. -/
structure Wr (T e : TypeId) (b : Nat) (v : Value) (l' : List UInt8) (w w' : World) (v' : Value) : Prop where
  at_ : w'.heap[b]? = some (.cells #[.pointer (some ⟨b, 0, none⟩), v'] T (0, 0))
  buf : BufW e w' v' l'
  os : w'.os = w.os
  tape : w'.tape = w.tape
  output : w'.output = w.output
  sz : w.heap.size ≤ w'.heap.size
  how : (∃ g n n' c c', v = .slice (some ⟨g, 0, none⟩) n c ∧ v' = .slice (some ⟨g, 0, none⟩) n' c' ∧ ∀ k, k < w.heap.size → k ≠ b → k ≠ g → w'.heap[k]? = w.heap[k]?) ∨
    (∃ n' c', v' = .slice (some ⟨w.heap.size, 0, none⟩) n' c' ∧ ∀ k, k < w.heap.size → k ≠ b → w'.heap[k]? = w.heap[k]?)
end Go.Proofs.IM
namespace Go.Proofs.IM
open Go Go.RowKit
set_option linter.unusedVariables false
set_option linter.unusedSimpArgs false
theorem bld_out {E : Env} {m : Mem} {w : World} {T e j : Nat} {g : Option Nat} {l : List UInt8} (hm : MR E m w) (hg : m.gl.gst.le (bld T e j g l)) :
    ∃ b s p v, E.h j = some (b, s) ∧ m.hp[j]? = some ⟨[], s⟩ ∧ w.heap[b]? = some (.cells #[p, v] T (0, 0)) ∧ (p = .pointer none ∨ p = .pointer (some ⟨b, 0, none⟩)) ∧ BufW e w v l ∧
      (∀ g' n c, v = .slice (some ⟨g', 0, none⟩) n c → ∃ j2 s2, g = some j2 ∧ E.h j2 = some (g', s2) ∧ m.hp[j2]? = some ⟨[], s2⟩) := by
  obtain ⟨os, h1, h2, h3⟩ := hm.gh
  rw [hg.1] at h1 h2
  replace h3 := hg.2 os h3
  obtain ⟨b, p, v, rest, rfl, hp, hb⟩ := h3
  obtain ⟨⟨s, a1, a2⟩, a3⟩ := h2 0 j _ rfl rfl
  refine ⟨b, s, p, v, a2, a1, a3, hp, ?_, ?_⟩
  · cases g with
    | none => exact .inl ⟨hb.2.1, hb.2.2⟩
    | some j2 =>
      obtain ⟨b2, cur, cap, rfl, rfl, c1, c2, c3, c4⟩ := hb
      obtain ⟨-, a6⟩ := h2 1 j2 _ rfl rfl
      exact .inr ⟨b2, cap, cur, rfl, a6, c1, c2, c3, c4⟩
  · intro g' n c hv
    cases g with
    | none =>
      rw [hb.2.1] at hv
      cases hv
    | some j2 =>
      obtain ⟨b2, cur, cap, rfl, rfl, c1, c2, c3, c4⟩ := hb
      obtain ⟨⟨s2, a4, a5⟩, a6⟩ := h2 1 j2 _ rfl rfl
      cases hv
      exact ⟨j2, s2, rfl, a5, a4⟩
/-- The world has changed in rows of which nothing is known. -/
theorem MR.unknown {E : Env} {m : Mem} {w w' : World} (h : MR E m w) (ho : w'.os = w.os) (ht : w'.tape = w.tape) (hp : w'.output = w.output) (hs : w.heap.size ≤ w'.heap.size)
    (hf : ∀ k, k < w.heap.size → w'.heap[k]? = w.heap[k]? ∨ ∃ j s, m.hp[j]? = some ⟨[], s⟩ ∧ E.h j = some (k, s)) : MR E (m.wg .none) w' where
  bel := h.bel.trans ⟨ho, ht, hp, hs, fun k hk => by
    have hkw : k < w.heap.size := Nat.lt_of_lt_of_le hk (Nat.le_trans h.bsz h.bel.size)
    rcases hf k hkw with h1 | ⟨j, s, -, h2⟩
    · exact h1
    · have := h.hpb j k s h2
      omega⟩
  bsz := h.bsz
  hp := fun j B hj => by
    obtain ⟨b, e, a⟩ := h.hp j B hj
    refine ⟨b, e, ?_⟩
    rcases hf b a.lt with h1 | ⟨j', s, h2, h3⟩
    · exact a.same h1
    · have := h.inj j j' b _ _ e h3
      subst this
      have : B = ⟨[], s⟩ := Option.some.inj (hj.symm.trans h2)
      subst this
      exact ⟨Nat.lt_of_lt_of_le a.lt hs, fun hn => (hn rfl).elim⟩
  hpd := h.hpd
  hpb := h.hpb
  inj := h.inj
  ro := h.ro
  gl := h.gl
  fc := h.fc
  gh := .none rfl
/-- A block that is there already becomes a row of which nothing is known. -/
theorem MR.pushRow {E : Env} {m : Mem} {w : World} (h : MR E m w) (hn : m.gl.gst = .none) {b : Nat} (s : Nat) (hb : b < w.heap.size) (hbb : E.base ≤ b) (hun : ∀ j s, E.h j ≠ some (b, s)) :
    MR { E with h := upd E.h m.hp.length (some (b, s)) } (m.push ⟨[], s⟩) w ∧ E.le { E with h := upd E.h m.hp.length (some (b, s)) } := by
  have hle : E.le { E with h := upd E.h m.hp.length (some (b, s)) } := ⟨fun j p hj => by
    by_cases e : j = m.hp.length
    · subst e; rw [h.hpd _ (Nat.le_refl _)] at hj; cases hj
    · simpa [upd, e] using hj, rfl, rfl, rfl⟩
  refine ⟨⟨h.bel, h.bsz, ?_, ?_, ?_, ?_, ?_, fun g => (h.gl g).mono hle (Pl.le.refl _), h.fc, .none hn⟩, hle⟩
  · intro j B' hj
    simp only [Mem.push, List.getElem?_append] at hj
    by_cases e : j < m.hp.length
    · rw [if_pos e] at hj
      obtain ⟨b', hb', ha⟩ := h.hp j B' hj
      exact ⟨b', hle.h _ _ hb', ha.mono hle⟩
    · rw [if_neg e] at hj
      have : j = m.hp.length := by
        rcases Nat.lt_or_ge (j - m.hp.length) 1 with h1 | h1
        · omega
        · rw [List.getElem?_eq_none (by simpa using h1)] at hj; cases hj
      subst this
      simp at hj
      subst hj
      exact ⟨b, by simp [upd], hb, fun hn => (hn rfl).elim⟩
  · intro j hj
    simp [Mem.push] at hj
    have : j ≠ m.hp.length := by omega
    simp [upd, this]
    exact h.hpd j (by omega)
  · intro j b' s' hj
    by_cases e : j = m.hp.length
    · simp [upd, e] at hj; show E.base ≤ b'; omega
    · simp [upd, e] at hj; exact h.hpb j b' s' hj
  · intro j j' b' s' s'' hj hj'
    by_cases e : j = m.hp.length <;> by_cases e' : j' = m.hp.length <;> simp [upd, e, e'] at hj hj'
    · omega
    · exact (hun j' s'' (by rw [hj', hj.1])).elim
    · exact (hun j s' (by rw [hj, hj'.1])).elim
    · exact h.inj j j' b' s' s'' hj hj'
  · intro j B' hj
    obtain ⟨b', f, a1, a2, a3⟩ := h.ro j B' hj
    exact ⟨b', f, a1, a2, a3.mono hle⟩
theorem bld_in {E : Env} {m : Mem} {w w' : World} {T e j : Nat} {g : Option Nat} {l' : List UInt8} (hm : MR E m w) {b s : Nat} {v v' : Value} (hj : E.h j = some (b, s)) (hmj : m.hp[j]? = some ⟨[], s⟩) (hTe : T ≠ e)
    (hbuf : ∀ g' n c, v = .slice (some ⟨g', 0, none⟩) n c → ∃ j2 s2, g = some j2 ∧ E.h j2 = some (g', s2) ∧ m.hp[j2]? = some ⟨[], s2⟩) (h : Wr T e b v l' w w' v') :
    ∃ E' hs g', MR E' (({ m with hp := m.hp ++ hs }).wg (bld T e j g' l')) w' ∧ E.le E' ∧ (∀ k, k < w.heap.size → (∀ j s, E.h j ≠ some (k, s)) → w'.heap[k]? = w.heap[k]?) ∧ (∀ j b s, E'.h j = some (b, s) → w.heap.size ≤ b ∨ E.h j = some (b, s)) := by
  rcases h.how with ⟨gb, n, n', c, c', rfl, rfl, hf⟩ | ⟨n', c', rfl, hf⟩
  · obtain ⟨j2, s2, rfl, b1, b2⟩ := hbuf gb n c rfl
    have hM := hm.unknown h.os h.tape h.output h.sz fun k hk => by
      by_cases e1 : k = b
      · subst e1; exact .inr ⟨j, s, hmj, hj⟩
      · by_cases e2 : k = gb
        · subst e2; exact .inr ⟨j2, s2, b2, b1⟩
        · exact .inl (hf k hk e1 e2)
    refine ⟨E, [], some j2, ?_, Env.le.refl E, fun k hk hu => hf k hk (fun e1 => hu j s (e1 ▸ hj)) (fun e2 => hu j2 s2 (e2 ▸ b1)), fun j b s hj => .inr hj⟩
    rw [List.append_nil]
    refine hM.wg _ ?_
    rcases h.buf with ⟨hc, -⟩ | ⟨g0, cap, cur, hv', hgb, c1, c2, c3, c4⟩
    · cases hc
    cases hv'
    refine ⟨[(b, .cells #[.pointer (some ⟨b, 0, none⟩), .slice (some ⟨gb, 0, none⟩) l'.length c'] T (0, 0)), (gb, .cells cur e (0, 0))], rfl, fun i k p hi hp => ?_, b, _, _, _, rfl, .inr rfl, gb, cur, c', rfl, rfl, c1, c2, c3, c4⟩
    rcases i with _ | _ | i
    · simp only [Mem.wg, bld, List.getElem?_cons_zero, Option.some.injEq] at hi hp
      subst hi hp
      exact ⟨⟨s, hmj, hj⟩, h.at_⟩
    · simp only [Mem.wg, bld, Option.toList_some, List.getElem?_cons_succ, List.getElem?_cons_zero, Option.some.injEq] at hi hp
      subst hi hp
      exact ⟨⟨s2, b2, b1⟩, hgb⟩
    · simp at hp
  · have hM := hm.unknown h.os h.tape h.output h.sz fun k hk => by
      by_cases e1 : k = b
      · subst e1; exact .inr ⟨j, s, hmj, hj⟩
      · exact .inl (hf k hk e1)
    rcases h.buf with ⟨hc, -⟩ | ⟨g0, cap, cur, hv', hgb, c1, c2, c3, c4⟩
    · cases hc
    cases hv'
    have hbw : E.base ≤ w.heap.size := Nat.le_trans hm.bsz hm.bel.size
    obtain ⟨hM1, hle⟩ := hM.pushRow rfl 1 (b := w.heap.size) (Array.getElem?_eq_some_iff.1 hgb).1 hbw (fun j s hjj => by have := hm.h_lt hjj; omega)
    have hml : j < m.hp.length := (List.getElem?_eq_some_iff.1 hmj).1
    refine ⟨_, [⟨[], 1⟩], some m.hp.length, hM1.wg _ ?_, hle, fun k hk hu => hf k hk (fun e1 => hu j s (e1 ▸ hj)), fun k b' s' hk => ?_⟩
    · refine ⟨[(b, .cells #[.pointer (some ⟨b, 0, none⟩), .slice (some ⟨w.heap.size, 0, none⟩) l'.length c'] T (0, 0)), (w.heap.size, .cells cur e (0, 0))], rfl, fun i k p hi hp => ?_, b, _, _, _, rfl, .inr rfl, w.heap.size, cur, c', rfl, rfl, c1, c2, c3, c4⟩
      rcases i with _ | _ | i
      · simp only [Mem.wg, bld, List.getElem?_cons_zero, Option.some.injEq] at hi hp
        subst hi hp
        exact ⟨⟨s, by simp only [Mem.wg, Mem.push]; rw [List.getElem?_append_left hml]; exact hmj, hle.h _ _ hj⟩, h.at_⟩
      · simp only [Mem.wg, bld, Option.toList_some, List.getElem?_cons_succ, List.getElem?_cons_zero, Option.some.injEq] at hi hp
        subst hi hp
        exact ⟨⟨1, by simp [Mem.wg, Mem.push], by simp [upd, Mem.wg]⟩, hgb⟩
      · simp at hp
    · by_cases e1 : k = m.hp.length
      · subst e1
        simp [upd, Mem.wg] at hk
        left; omega
      · right
        simpa [upd, e1, Mem.wg] using hk
/-- A function that writes into the builder. -/
theorem sim_write {P : Program} {f : FuncId} {m : Mem} {K : AR → Mem → Prop} {T e j : Nat} {g : Option Nat} {l l' : List UInt8} {args : List AV} {r : AV} (hc : callable P f = true) (hg : m.gl.gst.le (bld T e j g l)) (hTe : T ≠ e)
    (hK : ∀ hs g', K (.ret r) (({ m with hp := m.hp ++ hs }).wg (bld T e j g' l')))
    (h : ∀ (E : Env) (w : World) (xs : Array Value) (b s : Nat) (p v : Value), VRs E noPl args xs → E.h j = some (b, s) → w.heap[b]? = some (.cells #[p, v] T (0, 0)) → (p = .pointer none ∨ p = .pointer (some ⟨b, 0, none⟩)) → BufW e w v l →
      Calls P f xs w fun y w' => ∃ x v', y = .returned x ∧ (∀ E, VR E noPl r x) ∧ Wr T e b v l' w w' v') : Sim P f args m K := by
  intro E w xs hm hx
  obtain ⟨b, s, p, v, h1, h2, h3, h4, h5, h6⟩ := bld_out hm hg
  refine .inl ⟨hc, (h E w xs b s p v hx h1 h3 h4 h5).mono ?_⟩
  rintro y w' ⟨x, v', rfl, hv, hw⟩
  obtain ⟨E', hs, g', k1, k2, k3, k4⟩ := bld_in (l' := l') hm h1 h2 hTe h6 hw
  exact ⟨E', _, k2, k1, hw.sz, k3, k4, .inl ⟨r, x, rfl, hv E', hK hs g'⟩⟩
/-- A function that reads the builder, and leaves nothing known of it. -/
theorem sim_reads {P : Program} {f : FuncId} {m : Mem} {K : AR → Mem → Prop} {T e j : Nat} {g : Option Nat} {l : List UInt8} {args : List AV} {r : AV} (hc : callable P f = true) (hg : m.gl.gst.le (bld T e j g l))
    (hK : K (.ret r) (m.wg .none))
    (h : ∀ (E : Env) (w : World) (xs : Array Value) (b s : Nat) (p v : Value), VRs E noPl args xs → E.h j = some (b, s) → w.heap[b]? = some (.cells #[p, v] T (0, 0)) → BufW e w v l →
      Calls P f xs w fun y w' => ∃ x, y = .returned x ∧ (∀ E, VR E noPl r x) ∧ w'.os = w.os ∧ w'.tape = w.tape ∧ w'.output = w.output ∧ w.heap.size ≤ w'.heap.size ∧ ∀ k, k < w.heap.size → (∀ n c, v ≠ .slice (some ⟨k, 0, none⟩) n c) → w'.heap[k]? = w.heap[k]?) : Sim P f args m K := by
  intro E w xs hm hx
  obtain ⟨b, s, p, v, h1, h2, h3, h4, h5, h6⟩ := bld_out hm hg
  refine .inl ⟨hc, (h E w xs b s p v hx h1 h3 h5).mono ?_⟩
  rintro y w' ⟨x, rfl, hv, ho, ht, hp, hs, hf⟩
  have hf' : ∀ k, k < w.heap.size → w'.heap[k]? = w.heap[k]? ∨ ∃ j s, m.hp[j]? = some ⟨[], s⟩ ∧ E.h j = some (k, s) := fun k hk => by
    by_cases hh : ∃ n c, v = .slice (some ⟨k, 0, none⟩) n c
    · obtain ⟨n, c, hh⟩ := hh
      obtain ⟨j2, s2, -, q1, q2⟩ := h6 k n c hh
      exact .inr ⟨j2, s2, q2, q1⟩
    · exact .inl (hf k hk fun n c hv => hh ⟨n, c, hv⟩)
  refine ⟨E, _, Env.le.refl E, hm.unknown ho ht hp hs hf', hs, fun k hk hu => ?_, fun j b s hj => .inr hj, .inl ⟨r, x, rfl, hv E, hK⟩⟩
  rcases hf' k hk with q | ⟨j2, s2, -, q⟩
  · exact q
  · exact (hu j2 s2 q).elim
end Go.Proofs.IM
namespace Go.Proofs.IM
open Go Go.RowKit
theorem freeze_far (w : World) (g n : Nat) (hn : n ≠ 0) : (w.freeze ⟨g, 0, none⟩ n).os = w.os ∧ (w.freeze ⟨g, 0, none⟩ n).tape = w.tape ∧ (w.freeze ⟨g, 0, none⟩ n).output = w.output ∧ (w.freeze ⟨g, 0, none⟩ n).heap.size = w.heap.size ∧ ∀ k, g ≠ k → (w.freeze ⟨g, 0, none⟩ n).heap[k]? = w.heap[k]? := by
  unfold World.freeze
  rw [if_neg hn]
  exact ⟨rfl, rfl, rfl, by simp, fun k hk => by simp [Array.getElem?_modify, hk]⟩
theorem BufW.far {e : TypeId} {w w' : World} {v : Value} {l : List UInt8} (h : BufW e w v l) (hf : ∀ g, (∀ n c, v = .slice (some ⟨g, 0, none⟩) n c → w'.heap[g]? = w.heap[g]?)) : BufW e w' v l := by
  rcases h with h | ⟨g, cap, cur, rfl, h1, h2⟩
  · exact .inl h
  · exact .inr ⟨g, cap, cur, rfl, (hf g _ _ rfl).trans h1, h2⟩
theorem BufW.ne {e T : TypeId} (hTe : T ≠ e) {w : World} {v : Value} {l : List UInt8} (h : BufW e w v l) {b : Nat} {cs : Array Value} (hb : w.heap[b]? = some (.cells cs T (0, 0))) (n c : Nat) : v ≠ .slice (some ⟨b, 0, none⟩) n c := by
  rintro rfl
  rcases h with ⟨h, -⟩ | ⟨g, cap, cur, hv, h1, -⟩
  · cases h
  · cases hv
    rw [hb] at h1
    simp only [Option.some.injEq, Obj.cells.injEq] at h1
    exact hTe h1.2.1
theorem VRs.one' {E : Env} {L : Pl} {a : AV} {xs : Array Value} (h : VRs E L [a] xs) : ∃ x, xs = #[x] ∧ VR E L a x := by
  obtain ⟨h1, h2⟩ := h
  obtain ⟨xs⟩ := xs
  match xs with
  | [x] => exact ⟨x, rfl, h2 0 a x rfl rfl⟩
  | [] => simp at h1
  | _ :: _ :: _ => simp at h1
theorem VRs.two' {E : Env} {L : Pl} {a b : AV} {xs : Array Value} (h : VRs E L [a, b] xs) : ∃ x y, xs = #[x, y] ∧ VR E L a x ∧ VR E L b y := by
  obtain ⟨h1, h2⟩ := h
  obtain ⟨xs⟩ := xs
  match xs with
  | [x, y] => exact ⟨x, y, rfl, h2 0 a x rfl rfl, h2 1 b y rfl rfl⟩
  | [] => simp at h1
  | [_] => simp at h1
  | _ :: _ :: _ :: _ => simp at h1
end Go.Proofs.IM
namespace Go.Proofs.YtdonkjepjobhnaaDoor.IM
open Go Go.RowKit Go.Proofs.IM
set_option maxHeartbeats 8000000
set_option maxRecDepth 100000
theorem neB : (123 : TypeId) ≠ 5 := by decide
theorem sizeB : (Tryd.prog.info? 123).map (·.size) = some 2 := by kernel_rfl
theorem liesB : liesAt Tryd.prog Tryd.prog.depth 123 (2 / Tryd.prog.cellsOf 123) 0 123 1 = true := by kernel_rfl
theorem infoB : (Tryd.prog.info? 5).map (fun i => (i.zero, i.size, i.bytes)) = some (some (.int .u8 0), 1, 1) := by kernel_rfl
theorem cellsB : Tryd.prog.cellsOf 5 = 1 := by kernel_rfl
theorem cc_used (b : Nat) (w : World) (h0 : w.cell? ⟨b, 0, none⟩ = some (.pointer (some ⟨b, 0, none⟩))) :
    Calls Tryd.prog 149 #[.pointer (some ⟨b, 0, none⟩)] w fun e w' => e = .returned (.tuple #[]) ∧ w' = w := by
  obtain ⟨j, hj, _⟩ := Option.map_eq_some_iff.1 sizeB
  go_enter Tryd.func149, Tryd.ntmps149
  go_wp2
  rw [Lib.run_neq_ptr_same w _ Tryd.underlying121 hj]
  go_wp2
  go_end0
  exact ⟨rfl, rfl⟩
theorem cc_fresh (b : Nat) (w : World) (h0 : w.cell? ⟨b, 0, none⟩ = some (.pointer none)) (hsh : w.shape? b = some (123, 2)) (hfz : w.frozen? ⟨b, 0, none⟩ = false) :
    Calls Tryd.prog 149 #[.pointer (some ⟨b, 0, none⟩)] w fun e w' => e = .returned (.tuple #[]) ∧ w' = w.setCell ⟨b, 0, none⟩ (.pointer (some ⟨b, 0, none⟩)) := by
  obtain ⟨j, hj, hjs⟩ := Option.map_eq_some_iff.1 sizeB
  go_enter Tryd.func149, Tryd.ntmps149
  go_wp2
  rw [Lib.run_to_unsafe w ⟨b, 0, none⟩ Tryd.underlying121 Tryd.underlying204 hj (by rw [hjs]; decide) hsh (Nat.zero_lt_succ 1)]
  simp only [Result.andThen]
  rw [Oper.upon_value]
  go_wp2
  rw [run_callFunc_extern Tryd.func177 (by kernel_rfl) (by kernel_rfl) (by kernel_rfl) (e := Extern.AbiNoEscape.same) (by kernel_rfl)]
  rw [Lib.run_noEscape]
  simp only [Result.andThen]
  rw [Oper.upon_value]
  go_wp2
  rw [Lib.run_from_unsafe w ⟨b, 0, none⟩ Tryd.underlying204 Tryd.underlying121 hj hsh liesB]
  simp only [Result.andThen]
  rw [Oper.upon_value]
  go_wp2
  go_end0
  exact ⟨rfl, rfl⟩
theorem cc (b : Nat) (p v : Value) (w : World) (hb : w.heap[b]? = some (.cells #[p, v] 123 (0, 0))) (hp : p = .pointer none ∨ p = .pointer (some ⟨b, 0, none⟩)) :
    Calls Tryd.prog 149 #[.pointer (some ⟨b, 0, none⟩)] w fun e w' => e = .returned (.tuple #[]) ∧ w'.heap[b]? = some (.cells #[.pointer (some ⟨b, 0, none⟩), v] 123 (0, 0)) ∧ w'.os = w.os ∧ w'.tape = w.tape ∧ w'.output = w.output ∧ w'.heap.size = w.heap.size ∧ ∀ k, k ≠ b → w'.heap[k]? = w.heap[k]? := by
  rcases hp with rfl | rfl
  · refine (cc_fresh b w (by simp [World.cell?, hb]) (by simp [World.shape?, hb]) (by simp [World.frozen?, hb])).mono ?_
    rintro e w' ⟨rfl, rfl⟩
    exact ⟨rfl, by simp [World.setCell, Array.getElem?_modify, hb], rfl, rfl, rfl, by simp [World.setCell], fun k hk => by simp [World.setCell, Array.getElem?_modify, Ne.symm hk]⟩
  · refine (cc_used b w (by simp [World.cell?, hb])).mono ?_
    rintro e w' ⟨rfl, rfl⟩
    exact ⟨rfl, hb, rfl, rfl, rfl, rfl, fun _ _ => rfl⟩
theorem writeString (b : Nat) (p v : Value) (l : List UInt8) (s : ByteArray) (w : World) (hb : w.heap[b]? = some (.cells #[p, v] 123 (0, 0))) (hp : p = .pointer none ∨ p = .pointer (some ⟨b, 0, none⟩)) (hv : BufW 5 w v l) (hs : s.size ≠ 0) (hlen : l.length + s.size ≤ 140737488355328) :
    Calls Tryd.prog 92 #[.pointer (some ⟨b, 0, none⟩), .string s] w fun e w' => e = .returned (.tuple #[.int .i64 s.size, .nilIface]) ∧ ∃ v', Wr 123 5 b v (l ++ s.data.toList) w w' v' := by
  obtain ⟨i0, hi, hz0, hz1, hz2⟩ := info_parts infoB
  go_enter Tryd.func92, Tryd.ntmps92
  go_wp2_with (go_at_call 149; refine (cc b p v _ hb hp).mono ?_)
  rintro e w1 ⟨rfl, hbk, ho1, ht1, hp1, hs1, hf1⟩
  have hv1 : BufW 5 w1 v l := BufW.far hv fun g n c hg => hf1 g fun e => by
    subst e
    exact BufW.ne neB hv hb n c hg
  have c0 : w1.cell? ⟨b, 0, none⟩ = some (.pointer (some ⟨b, 0, none⟩)) := by rw [Lib.cell_of_heap hbk]; rfl
  have c1 : w1.cell? ⟨b, 1, none⟩ = some v := by rw [Lib.cell_of_heap hbk]; rfl
  go_wp2_with (at_builtin; refine wpList_buf rfl _ _ 22 9 rfl 5 i0 Tryd.underlying22 Tryd.underlying9 hi hz0 hz1 hz2 v l rfl hv1 s rfl hs hlen ?_)
  intro v' w2 ⟨hb', ho2, ht2, hp2, hs2, how⟩
  have hlt : b < w1.heap.size := (Array.getElem?_eq_some_iff.1 hbk).1
  have hne := BufW.ne neB hv1 hbk
  have hb2 : w2.heap[b]? = some (.cells #[.pointer (some ⟨b, 0, none⟩), v] 123 (0, 0)) := by
    rcases how with ⟨g, n, n', c, c', hvg, -, -, hf⟩ | ⟨n', c', -, hf⟩
    · rw [hf b fun e => hne n c (e ▸ hvg)]; exact hbk
    · rw [hf b hlt]; exact hbk
  have d0 : w2.cell? ⟨b, 0, none⟩ = some (.pointer (some ⟨b, 0, none⟩)) := by rw [Lib.cell_of_heap hb2]; rfl
  have d1 : w2.cell? ⟨b, 1, none⟩ = some v := by rw [Lib.cell_of_heap hb2]; rfl
  have f1 : w2.frozen? ⟨b, 1, none⟩ = false := Lib.frozen_of_heap hb2 1
  have hne' := BufW.ne neB hb' hb2
  obtain ⟨ao, n', cap, rfl⟩ : ∃ ao n' cap, v' = .slice ao n' cap := by
    rcases how with ⟨g, n, n', c, c', -, hv', -⟩ | ⟨n', c', hv', -⟩
    · exact ⟨_, _, _, hv'⟩
    · exact ⟨_, _, _, hv'⟩
  go_wp2
  go_ret2
  have hfar : ∀ k, k ≠ b → (w2.setCell ⟨b, 1, none⟩ (.slice ao n' cap)).heap[k]? = w2.heap[k]? := fun k hk => by simp [World.setCell, Array.getElem?_modify, Ne.symm hk]
  refine ⟨rfl, .slice ao n' cap, ?_, BufW.far hb' fun g n c hg => hfar g fun e => hne' n c (e ▸ hg), ho2.trans ho1, ht2.trans ht1, hp2.trans hp1, ?_, ?_⟩
  · simp [World.setCell, Array.getElem?_modify, hb2]
  · have : (w2.setCell ⟨b, 1, none⟩ (.slice ao n' cap)).heap.size = w2.heap.size := by simp [World.setCell]
    omega
  · rcases how with ⟨g, n, n2, c, c2, hvg, hvg', -, hf⟩ | ⟨n2, c2, hvg', hf⟩
    · exact .inl ⟨g, n, n2, c, c2, hvg, hvg', fun k hk e1 e2 => by rw [hfar k e1, hf k e2, hf1 k e1]⟩
    · exact .inr ⟨n2, c2, by rw [hvg', hs1], fun k hk e1 => by rw [hfar k e1, hf k (by omega), hf1 k e1]⟩
theorem builderString (b : Nat) (p v : Value) (l : List UInt8) (w : World) (hb : w.heap[b]? = some (.cells #[p, v] 123 (0, 0))) (hv : BufW 5 w v l) (h0 : l ≠ []) :
    Calls Tryd.prog 95 #[.pointer (some ⟨b, 0, none⟩)] w fun e w' => e = .returned (.string ⟨l.toArray⟩) ∧ w'.os = w.os ∧ w'.tape = w.tape ∧ w'.output = w.output ∧ w'.heap.size = w.heap.size ∧ ∀ k, (∀ n c, v ≠ .slice (some ⟨k, 0, none⟩) n c) → w'.heap[k]? = w.heap[k]? := by
  have hl0 : l.length ≠ 0 := by simpa using h0
  have hown := hv.owns
  rcases hv with ⟨-, hc⟩ | ⟨g, cap, cur, rfl, hg, hnc, hcm, hcs, htake⟩
  · exact (h0 hc).elim
  have c1 : w.drew.cell? ⟨b, 1, none⟩ = some (.slice (some ⟨g, 0, none⟩) l.length cap) := by
    have : w.drew.heap[b]? = some (.cells #[p, .slice (some ⟨g, 0, none⟩) l.length cap] 123 (0, 0)) := hb
    rw [Lib.cell_of_heap this]; rfl
  have hSD : (Builtin.unsafeSliceData_ #[22] 177 #[.slice (some ⟨g, 0, none⟩) l.length cap]).run Tryd.prog w.drew = .ok (.pointer (some ⟨g, 0, none⟩)) w.drew :=
    Lib.run_unsafeSliceData_row _ _ _ _ _ _ (by omega)
  have hUS : (Builtin.unsafeString_ #[177, 3] 9 #[.pointer (some ⟨g, 0, none⟩), .int .i64 l.length]).run Tryd.prog w.drew = .ok (.string ⟨l.toArray⟩) (w.drew.freeze ⟨g, 0, none⟩ l.length) := by
    refine Lib.run_unsafeString_row w.drew 177 3 9 5 Tryd.underlying177 cellsB g cur.size (by have hg' : w.drew.heap[g]? = some (.cells cur 5 (0, 0)) := hg; simp [World.shape?, hg']) l h0 (by omega) (by unfold maxLen at hcm; omega) ?_
    intro j x hx
    have := hown.cells (g := g) rfl j (.int .u8 x.toNat) (by simp [Lib.byteCells, hx])
    exact this
  go_enter Tryd.func95, Tryd.ntmps95
  go_wp2
  go_region
  all_goals (go_wp2; go_ret)
  all_goals
    obtain ⟨f1, f2, f3, f4, f5⟩ := freeze_far w.drew g l.length hl0
    exact ⟨rfl, f1, f2, f3, f4, fun k hk => f5 k fun e => hk l.length cap (by rw [e])⟩
theorem s_WriteString {j : Nat} {g : Option Nat} {l : List UInt8} {s : ByteArray} {m : Mem} {K : AR → Mem → Prop} (hg : m.gl.gst.le (bld 123 5 j g l)) (hs : s.size ≠ 0) (hlen : l.length + s.size ≤ 140737488355328)
    (hK : ∀ hs g', K (.ret (.tup [.int .i64 s.size, .undef])) (({ m with hp := m.hp ++ hs }).wg (bld 123 5 j g' (l ++ s.data.toList)))) : Sim Tryd.prog 92 [.ptr (.hp j) 0 0, .str s] m K :=
  sim_write (by kernel_rfl) hg neB hK fun E w xs b z p v hx hj hb hp hv => by
    obtain ⟨x, y, rfl, h1, h2⟩ := VRs.two' hx
    cases h2
    cases h1 with
    | ptr a i o q hq =>
      have hq' : q = (b, 0, z) := by
        simp only [pos, hj, Option.map_some, Option.some.injEq] at hq
        exact hq.symm
      subst hq'
      have := writeString b p v l s w hb hp hv hs hlen
      simp only [adr, Nat.zero_mul, Nat.add_zero]
      refine this.mono ?_
      rintro e w' ⟨rfl, v', h⟩
      exact ⟨_, v', rfl, fun E => .tup _ _ rfl fun i c y hc hy => (by rcases i with _ | _ | i <;> simp at hc hy <;> subst hc hy <;> constructor), h⟩
theorem s_BuilderString {j : Nat} {g : Option Nat} {l : List UInt8} {m : Mem} {K : AR → Mem → Prop} (hg : m.gl.gst.le (bld 123 5 j g l)) (h0 : l ≠ [])
    (hK : K (.ret (.str ⟨l.toArray⟩)) (m.wg .none)) : Sim Tryd.prog 95 [.ptr (.hp j) 0 0] m K :=
  sim_reads (by kernel_rfl) hg hK fun E w xs b z p v hx hj hb hv => by
    obtain ⟨x, rfl, h1⟩ := VRs.one' hx
    cases h1 with
    | ptr a i o q hq =>
      have hq' : q = (b, 0, z) := by
        simp only [pos, hj, Option.map_some, Option.some.injEq] at hq
        exact hq.symm
      subst hq'
      simp only [adr, Nat.zero_mul, Nat.add_zero]
      refine (builderString b p v l w hb hv h0).mono ?_
      rintro e w' ⟨rfl, h1, h2, h3, h4, h5⟩
      exact ⟨_, rfl, fun E => .str _, h1, h2, h3, by omega, fun k _ hk => h5 k hk⟩
end Go.Proofs.YtdonkjepjobhnaaDoor.IM
namespace Go.Proofs.YtdonkjepjobhnaaDoor.Sh
open Go Go.Proofs Go.Shelf
def lays157_ren : Go.Shelf.Ren := ⟨fun | 157 => 91 | 229 => 147 | 199 => 148 | 261 => 176 | 311 => 194 | 312 => 195 | n => n, fun | 9 => 9 | 31 => 119 | 3 => 3 | 5 => 5 | 4 => 4 | 119 => 174 | 0 => 0 | 40 => 176 | 152 => 198 | 21 => 21 | 154 => 200 | 51 => 201 | 141 => 203 | 196 => 224 | 193 => 221 | 198 => 227 | 49 => 225 | 194 => 222 | 201 => 230 | 226 => 236 | 46 => 145 | 227 => 237 | n => n, fun | 0 => 1 | 6 => 3 | n => n⟩
theorem lays157 : Go.Proofs.Lays.n157 Tryd.prog lays157_ren := {
  mixed := by kernel_rfl
  f157 := Tryd.func91.trans (congrArg some (by kernel_rfl))
  f199 := Tryd.func148.trans (congrArg some (by kernel_rfl))
  f229 := Tryd.func147.trans (congrArg some (by kernel_rfl))
  f261 := Tryd.func176.trans (congrArg some (by kernel_rfl))
  f311 := Tryd.func194.trans (congrArg some (by kernel_rfl))
  f312 := Tryd.func195.trans (congrArg some (by kernel_rfl))
  t0 := Tryd.underlying0
  a0 := Tryd.isAgg0
  z0 := Tryd.sizeOf0
  v0 := Tryd.zeroValue0
  t3 := Tryd.underlying3
  a3 := Tryd.isAgg3
  z3 := Tryd.sizeOf3
  v3 := Tryd.zeroValue3
  t4 := Tryd.underlying4
  a4 := Tryd.isAgg4
  z4 := Tryd.sizeOf4
  v4 := Tryd.zeroValue4
  t5 := Tryd.underlying5
  a5 := Tryd.isAgg5
  z5 := Tryd.sizeOf5
  v5 := Tryd.zeroValue5
  t9 := Tryd.underlying9
  a9 := Tryd.isAgg9
  z9 := Tryd.sizeOf9
  v9 := Tryd.zeroValue9
  t21 := Tryd.underlying21
  a21 := Tryd.isAgg21
  z21 := Tryd.sizeOf21
  v21 := Tryd.zeroValue21
  t31 := Tryd.underlying119
  a31 := Tryd.isAgg119
  z31 := Tryd.sizeOf119
  v31 := Tryd.zeroValue119
  t40 := Tryd.underlying176
  a40 := Tryd.isAgg176
  z40 := Tryd.sizeOf176
  v40 := Tryd.zeroValue176
  t46 := Tryd.underlying145
  a46 := Tryd.isAgg145
  z46 := Tryd.sizeOf145
  v46 := Tryd.zeroValue145
  t49 := Tryd.underlying225
  a49 := Tryd.isAgg225
  z49 := Tryd.sizeOf225
  v49 := Tryd.zeroValue225
  t51 := Tryd.underlying201
  a51 := Tryd.isAgg201
  z51 := Tryd.sizeOf201
  v51 := Tryd.zeroValue201
  t119 := Tryd.underlying174
  a119 := Tryd.isAgg174
  z119 := Tryd.sizeOf174
  t141 := Tryd.underlying203
  a141 := Tryd.isAgg203
  z141 := Tryd.sizeOf203
  v141 := Tryd.zeroValue203
  t152 := Tryd.underlying198
  a152 := Tryd.isAgg198
  z152 := Tryd.sizeOf198
  v152 := Tryd.zeroValue198
  t154 := Tryd.underlying200
  a154 := Tryd.isAgg200
  z154 := Tryd.sizeOf200
  v154 := Tryd.zeroValue200
  t193 := Tryd.underlying221
  a193 := Tryd.isAgg221
  z193 := Tryd.sizeOf221
  v193 := Tryd.zeroValue221
  t194 := Tryd.underlying222
  a194 := Tryd.isAgg222
  z194 := Tryd.sizeOf222
  v194 := Tryd.zeroValue222
  t196 := Tryd.underlying224
  a196 := Tryd.isAgg224
  z196 := Tryd.sizeOf224
  v196 := Tryd.zeroValue224
  t198 := Tryd.underlying227
  a198 := Tryd.isAgg227
  z198 := Tryd.sizeOf227
  v198 := Tryd.zeroValue227
  t201 := Tryd.underlying230
  a201 := Tryd.isAgg230
  z201 := Tryd.sizeOf230
  v201 := Tryd.zeroValue230
  t226 := Tryd.underlying236
  a226 := Tryd.isAgg236
  z226 := Tryd.sizeOf236
  v226 := Tryd.zeroValue236
  t227 := Tryd.underlying237
  a227 := Tryd.isAgg237
  z227 := Tryd.sizeOf237
  v227 := Tryd.zeroValue237
  g0 := by kernel_rfl
  g6 := by kernel_rfl }
open Go.RowKit Go.Lib in
theorem strings_Fields (s : ByteArray) (w : World) (hs : s.size < 4294967281) (hascii : ∀ (j : Nat) b, s.data.toList[j]? = some b → b.toNat < 128) (htab : Lib.TabIs Tryd.prog w "strings.asciiSpace" .u8 Lib.asciiSpaceTab) :
    Calls Tryd.prog 91 #[.string s] w fun e w' =>
      e = .returned (.slice (some ⟨w.heap.size, 0, none⟩) (Lib.fields s.data.toList).length (Lib.fields s.data.toList).length) ∧ w' = w.alloc (.cells ((Lib.fields s.data.toList).map fun l => Value.string ⟨l.toArray⟩).toArray 9) := Any.strings_Fields lays157 (by kernel_rfl) (by kernel_rfl) s w hs hascii htab
end Go.Proofs.YtdonkjepjobhnaaDoor.Sh
namespace Go.Proofs.IM
open Go Go.RowKit
set_option linter.unusedVariables false
/-- A function that answers a new row, and changes nothing else. -/
theorem sim_push {P : Program} {f : FuncId} {args : List AV} {m : Mem} {K : AR → Mem → Prop} {r : AV} {B : Blk} (hc : callable P f = true) (hK : K (.ret r) (m.push B))
    (h : ∀ (E : Env) (w : World) (xs : Array Value), MR E m w → VRs E noPl args xs → Calls P f xs w fun e w' => ∃ cs ty x, w' = w.alloc (.cells cs ty) ∧ e = .returned x ∧ CR E B.rows B.sz (cs[·]?) ∧ ∀ E' : Env, E'.h m.hp.length = some (w.heap.size, B.sz) → VR E' noPl r x) : Sim P f args m K := by
  intro E w xs hm hx
  refine .inl ⟨hc, (h E w xs hm hx).mono ?_⟩
  rintro e w' ⟨cs, ty, x, rfl, rfl, hB, hv⟩
  have hR : Rel E w E noPl (fun _ => none) m w := ⟨hm, ⟨fun j B hj => (by cases hj), fun _ _ => rfl, fun j b s hj => (by cases hj), fun j j' b s s' hj => (by cases hj), fun j k b s s' hj => (by cases hj)⟩,
    ⟨Env.le.refl E, Nat.le_refl _, fun _ _ _ => rfl, fun j b s hj => .inr hj, fun j b s hj => (by cases hj)⟩⟩
  obtain ⟨h1, h2⟩ := hR.newHp cs ty B hB
  exact ⟨_, _, h2, h1.m, by simp, fun b hb _ => heap_push_lt w _ hb, h1.e.ownh, .inl ⟨r, x, rfl, hv _ (by simp [upd]), hK⟩⟩
def opB : List UInt8 := [45, 32, 108, 105, 110, 101, 32, 97, 116, 32, 116, 105, 99, 107, 32, 99, 111, 110, 115, 116, 32, 109, 111, 118, 101, 32, 98, 111, 120, 32, 103, 101, 116, 32, 112, 117, 116, 32, 117, 112, 103, 101, 116, 32, 117, 112, 112, 117, 116, 32, 102, 110, 32, 116, 97, 98, 108,
  101, 32, 114, 97, 119, 32, 114, 97, 119, 97, 108, 108, 32, 105, 110, 100, 101, 120, 32, 115, 101, 116, 32, 117, 110, 97, 114, 121, 32, 98, 105, 110, 97, 114, 121, 32, 106, 117, 109, 112, 32, 105, 102, 32, 117, 110, 108, 101, 115, 115, 32, 108, 105, 115, 116, 32, 97,
  100, 100, 32, 106, 111, 105, 110, 32, 102, 105, 114, 115, 116, 32, 112, 105, 99, 107, 32, 99, 111, 112, 121, 32, 99, 97, 108, 108, 32, 114, 101, 116, 117, 114, 110, 32, 116, 104, 114, 111, 119, 32, 116, 114, 121, 32, 101, 110, 100, 116, 114, 121, 32, 115, 99, 111, 112,
  101, 32, 107, 101, 101, 112, 32, 100, 101, 102, 101, 114, 32, 108, 101, 97, 118, 101, 32, 102, 111, 114, 32, 102, 111, 114, 116, 101, 115, 116, 32, 102, 111, 114, 110, 101, 120, 116, 32, 101, 97, 99, 104, 32, 101, 97, 99, 104, 110, 101, 120, 116, 32, 100, 114, 111, 112]
/-- The names of the operations. -/
def namesS : List (List UInt8) := [[], [108, 105, 110, 101], [97, 116], [116, 105, 99, 107], [99, 111, 110, 115, 116], [109, 111, 118, 101], [98, 111, 120], [103, 101, 116], [112, 117, 116], [117, 112, 103, 101, 116], [117, 112, 112, 117, 116], [102, 110], [116, 97, 98, 108, 101], [114, 97, 119], [114, 97, 119, 97, 108, 108], [105, 110, 100, 101, 120], [115, 101, 116], [117, 110, 97, 114, 121], [98, 105, 110, 97, 114, 121], [106, 117, 109, 112], [105, 102], [117, 110, 108, 101, 115, 115], [108, 105, 115, 116], [97, 100, 100], [106, 111, 105, 110], [102, 105, 114, 115, 116], [112, 105, 99, 107], [99, 111, 112, 121], [99, 97, 108, 108], [114, 101, 116, 117, 114, 110], [116, 104, 114, 111, 119], [116, 114, 121], [101, 110, 100, 116, 114, 121], [115, 99, 111, 112, 101], [107, 101, 101, 112], [100, 101, 102, 101, 114], [108, 101, 97, 118, 101], [102, 111, 114], [102, 111, 114, 116, 101, 115, 116], [102, 111, 114, 110, 101, 120, 116], [101, 97, 99, 104], [101, 97, 99, 104, 110, 101, 120, 116], [100, 114, 111, 112]]
def namesI : List (List UInt8) := [45] :: namesS.tail
theorem fields_names : Lib.fields opB = namesI := by decide +kernel
theorem opB_ascii : ∀ b ∈ opB, b.toNat < 128 := by decide +kernel
def strR (l : List UInt8) : List AV := [.str ⟨l.toArray⟩]
theorem CR.strs (E : Env) (ls : List (List UInt8)) : CR E (ls.map strR) 1 ((ls.map fun l => Value.string ⟨l.toArray⟩).toArray[·]?) := by
  intro i row hi
  rw [List.getElem?_map, Option.map_eq_some_iff] at hi
  obtain ⟨l, hl, rfl⟩ := hi
  refine ⟨rfl, fun o v ho => ?_⟩
  rcases o with _ | o
  · simp only [strR, List.getElem?_cons_zero, Option.some.injEq] at ho
    subst ho
    exact ⟨.string ⟨l.toArray⟩, by simp [hl], .str _, rfl⟩
  · simp [strR] at ho
end Go.Proofs.IM
namespace Go.Proofs.YtdonkjepjobhnaaDoor.IM
open Go Go.Proofs.IM Go.Proofs.Flt
set_option maxHeartbeats 8000000
set_option maxRecDepth 100000
theorem gSp : Tryd.prog.globalNamed "strings.asciiSpace" = some 1 := by kernel_rfl
abbrev LSp (m : Mem) : Prop := Laid Tryd.prog m 1 "strings.asciiSpace" .u8 Lib.asciiSpaceTab
theorem s_Fields {s : ByteArray} {m : Mem} {K : AR → Mem → Prop} (hl : LSp m) (hs : s.data.toList = opB) (h : K (.ret (.sl (.hp m.hp.length) 0 43 43)) (m.push ⟨namesI.map strR, 1⟩)) : Sim Tryd.prog 91 [.str s] m K :=
  sim_push (by kernel_rfl) h fun E w xs hm hx => by
    obtain ⟨x, rfl, h1⟩ := VRs.one hx
    cases h1
    have hsz : s.size = opB.length := by rw [← hs, Array.length_toList]; rfl
    refine (Sh.strings_Fields s w (by rw [hsz]; decide) (fun j b hb => opB_ascii b (by rw [← hs]; exact List.mem_of_getElem? hb)) (hl.at_ gSp hm)).mono ?_
    rintro e w' ⟨rfl, rfl⟩
    rw [hs, fields_names]
    refine ⟨_, _, _, rfl, rfl, CR.strs E namesI, fun E' hE => ?_⟩
    exact hmk_sl 43 43 (p := (w.heap.size, 0, 1)) (by simp only [pos, hE, Option.map_some]) rfl
end Go.Proofs.YtdonkjepjobhnaaDoor.IM
namespace Go.Proofs.IM
open Go Go.Proofs.Flt
def fldT (xs : List Int) : List UInt8 := xs.flatMap fun x => 32 :: decI x
def nmT (op : Int) : List UInt8 := namesS.getD op.toNat []
def headT (p i : Nat) (x : I) : List UInt8 := decI p ++ [58] ++ decI i ++ [32] ++ nmT x.op
def lineT (p i : Nat) (x : I) : List UInt8 := headT p i x ++ fldT [x.a, x.b, x.c, x.d]
def insL (p : Nat) : List I → Nat → List UInt8
  | [], _ => []
  | x :: r, i => (lineT p i x ++ [10]) ++ insL p r (i + 1)
def prL : List Pr → Nat → List UInt8
  | [], _ => []
  | q :: r, p => insL p q.ins 0 ++ prL r (p + 1)
def listT (ps : List Pr) : List UInt8 := if (shapeF ps).1 ≠ 0 then [] else prL ps 0
theorem insL_at {p i : Nat} {xs : List I} (h : i < xs.length) : insL p (xs.drop i) i = (lineT p i xs[i] ++ [10]) ++ insL p (xs.drop (i + 1)) (i + 1) := by
  rw [List.drop_eq_getElem_cons h]; rfl
theorem prL_at {i : Nat} {ps : List Pr} (h : i < ps.length) : prL (ps.drop i) i = insL i ps[i].ins 0 ++ prL (ps.drop (i + 1)) (i + 1) := by
  rw [List.drop_eq_getElem_cons h]; rfl
theorem nm_len : ∀ (k : Nat), (namesS.getD k []).length ≤ 10 := by
  intro k
  by_cases h : k < namesS.length
  · have : ∀ k : Fin namesS.length, (namesS.getD k []).length ≤ 10 := by decide
    exact this ⟨k, h⟩
  · simp [List.getD, List.getElem?_eq_none (by omega : namesS.length ≤ k)]
theorem decN_len {n : Nat} (h : n ≤ 9223372036854775807) : (decI n).length ≤ 20 := decI_len ⟨by omega, by omega⟩
theorem head_len {p i : Nat} {x : I} (hp : p ≤ 9223372036854775807) (hi : i ≤ 9223372036854775807) : (headT p i x).length ≤ 52 := by
  have := decN_len hp
  have := decN_len hi
  have := nm_len x.op.toNat
  simp only [headT, nmT, List.length_append, List.length_cons, List.length_nil]; omega
theorem fld_len : ∀ {xs : List Int}, (∀ x ∈ xs, i64 x) → (fldT xs).length ≤ 21 * xs.length
  | [], _ => by simp [fldT]
  | x :: xs, h => by
    have h1 := decI_len (h x (by simp))
    have h2 := fld_len (xs := xs) fun y hy => h y (by simp [hy])
    have : fldT (x :: xs) = (32 :: decI x) ++ fldT xs := rfl
    rw [this]
    simp only [List.length_append, List.length_cons]; omega
theorem I.good.all {x : I} (h : x.good) : ∀ y ∈ [x.a, x.b, x.c, x.d], i64 y := by
  intro y hy
  simp only [List.mem_cons, List.mem_nil_iff, or_false] at hy
  rcases hy with rfl | rfl | rfl | rfl
  · exact h.a
  · exact h.b
  · exact h.c
  · exact h.d
theorem line_len {p i : Nat} {x : I} (hp : p ≤ 9223372036854775807) (hi : i ≤ 9223372036854775807) (hx : x.good) : (lineT p i x).length ≤ 136 := by
  have h1 := head_len (x := x) hp hi
  have h2 := fld_len hx.all
  simp only [lineT, List.length_append]
  simp only [List.length_cons, List.length_nil] at h2
  omega
theorem insL_len {p : Nat} (hp : p ≤ 9223372036854775807) : ∀ {xs : List I} {i : Nat}, (∀ x ∈ xs, x.good) → i + xs.length ≤ 9223372036854775807 → (insL p xs i).length ≤ 137 * xs.length
  | [], _, _, _ => by simp [insL]
  | x :: xs, i, h, hi => by
    simp only [List.length_cons] at hi
    have h1 := line_len (p := p) (i := i) hp (by omega) (h x (by simp))
    have h2 := insL_len hp (xs := xs) (i := i + 1) (fun y hy => h y (by simp [hy])) (by omega)
    simp only [insL, List.length_append, List.length_cons, List.length_nil]; omega
def sIns (ps : List Pr) : Nat := sumBy (fun p => p.ins.length) ps
theorem prL_len : ∀ {ps : List Pr} {p : Nat}, (∀ q ∈ ps, q.good) → p + ps.length ≤ 9223372036854775807 → (prL ps p).length ≤ 137 * sIns ps
  | [], _, _, _ => by simp [prL]
  | q :: ps, p, h, hp => by
    simp only [List.length_cons] at hp
    have hq := h q (by simp)
    have h1 := insL_len (p := p) (xs := q.ins) (i := 0) (by omega) hq.insn (by have := hq.ins; omega)
    have h2 := prL_len (ps := ps) (p := p + 1) (fun y hy => h y (by simp [hy])) (by omega)
    simp only [prL, sIns, sumBy, List.length_append] at h2 ⊢; omega
theorem tot_sum : ∀ {ps : List Pr} {a : Nat}, a + sIns ps ≤ 9223372036854775807 → totL ps a = ((a + sIns ps : Nat) : Int)
  | [], a, _ => by simp [totL, sIns, sumBy]
  | q :: ps, a, h => by
    simp only [sIns, sumBy] at h
    have e : w64 ((a : Int) + q.ins.length) = ((a + q.ins.length : Nat) : Int) := by rw [w64_id (by omega)]; omega
    rw [totL, e, tot_sum (by simp only [sIns]; omega)]
    simp only [sIns, sumBy]; omega
theorem sIns_wt : ∀ {ps : List Pr}, sIns ps ≤ sumBy Pr.wt ps
  | [] => by simp [sIns, sumBy]
  | q :: ps => by
    have := sIns_wt (ps := ps)
    simp only [sIns, sumBy, Pr.wt] at this ⊢; omega
theorem text_len {ps : List Pr} (hP : Parts ps) (hL : ∀ q ∈ ps, q.good) (hwt : wtC ps ≤ 1048576) : (prL ps 0).length ≤ 1000000 := by
  have h1 := prL_len (ps := ps) (p := 0) hL (by have := hP.n1; omega)
  have h2 := sIns_wt (ps := ps)
  have h3 := tot_sum (ps := ps) (a := 0) (by simp only [wtC] at hwt; omega)
  have h4 := hP.tot
  rw [show ((0 : Nat) : Int) = 0 from rfl] at h3
  rw [h3] at h4
  omega
theorem text_ne {ps : List Pr} (hP : Parts ps) : prL ps 0 ≠ [] := by
  have h0 : 0 < ps.length := by have := hP.n0; omega
  have h1 := hP.ins0 0 h0
  have h2 := prL_at (i := 0) h0
  rw [List.drop_zero] at h2
  have h3 := insL_at (p := 0) (i := 0) (xs := ps[0].ins) (by omega)
  rw [List.drop_zero] at h3
  rw [h2, h3]
  simp
theorem insS_op {n : Nat} {p : Pr} {x : I} {last : Bool} (h : insS n p x last = true) : 1 ≤ x.op ∧ x.op ≤ 42 := by
  by_cases hop : x.op < 1 ∨ 42 < x.op
  · rw [insS, roles_out hop] at h; cases h
  · omega
theorem nmT_at {op : Int} (h : 1 ≤ op ∧ op ≤ 42) : (namesS.map strR)[op.toNat]? = some [.str ⟨(nmT op).toArray⟩] ∧ (namesI.map strR)[op.toNat]? = some [.str ⟨(nmT op).toArray⟩] := by
  have h1 : op.toNat < namesS.length := by have : namesS.length = 43 := rfl; omega
  refine ⟨by simp [nmT, strR, h1], ?_⟩
  obtain ⟨k, hk⟩ : ∃ k, op.toNat = k + 1 := ⟨op.toNat - 1, by omega⟩
  have h2 : k < namesS.tail.length := by have : namesS.tail.length = 42 := rfl; omega
  simp only [namesI, hk, List.map_cons, List.getElem?_cons_succ, nmT, strR, List.getElem?_map, List.getElem?_eq_getElem h2, Option.map_some]
  have e : namesS.getD (k + 1) [] = namesS.tail.getD k [] := rfl
  rw [e, List.getD, List.getElem?_eq_getElem h2]
  rfl
end Go.Proofs.IM
namespace Go.Proofs.YtdonkjepjobhnaaDoor.IM
open Go Go.Proofs.IM Go.Proofs.Flt
set_option maxHeartbeats 8000000
set_option maxRecDepth 100000
theorem s_l4name {op : Int} {m : Mem} {K : AR → Mem → Prop} (ho : 1 ≤ op ∧ op ≤ 42) (h : K (.ret (.str ⟨(nmT op).toArray⟩)) m) : Sim Tryd.prog 89 [.int .i64 op] m K := by
  refine entry (cxok [4]) Tryd.func89 rfl rfl (by decide) (by decide) ?_
  have e1 := (nmT_at ho).1
  simp only [namesS, strR, List.map_cons, List.map_nil] at e1
  have e2 : 0 ≤ op := by omega
  have e3 : op < 43 := by omega
  exact gox_
end Go.Proofs.YtdonkjepjobhnaaDoor.IM
namespace Go.Proofs.IM
open Go Go.Proofs.Flt
set_option linter.unusedVariables false
/-- Bytes that are appended to a slice of one's own, behind m0. -/
structure GL (m0 m : Mem) (q : AV) (acc : List UInt8) (own : List Nat) : Prop where
  le : m0.le m
  sl : SlG m 1 q (acc.map bR) own
  new : ∀ k ∈ own, m0.hp.length ≤ k
theorem GL.push {m0 m : Mem} {q : AV} {acc : List UInt8} {own : List Nat} (h : GL m0 m q acc own) (B : Blk) : GL m0 (m.push B) q acc own :=
  ⟨h.le.trans (Mem.le.push m B), h.sl.ext fun j hj => by
    have := h.sl.lt.1 j hj
    show (m.hp ++ [B])[j]? = _
    rw [List.getElem?_append_left this], h.new⟩
theorem GL.app {m0 m m' : Mem} {q q' : AV} {acc : List UInt8} {b : UInt8} {own own' : List Nat} (h : GL m0 m q acc own) (h1 : m'.ro = m.ro) (h2 : m'.gl = m.gl) (h3 : SlG m' 1 q' (acc.map bR ++ [bR b]) own')
    (h4 : m.hp.length ≤ m'.hp.length) (h5 : ∀ k, k < m.hp.length → k ∉ own → m'.hp[k]? = m.hp[k]?) (h6 : ∀ k ∈ own', k ∈ own ∨ m.hp.length ≤ k) : GL m0 m' q' (acc ++ [b]) own' := by
  have hlen := h.le.len
  refine ⟨⟨h1.trans h.le.ro, h2.trans h.le.gl, fun k B hk => ?_⟩, by rw [List.map_append]; exact h3, fun k hk => ?_⟩
  · have hk0 := (List.getElem?_eq_some_iff.1 hk).1
    rw [h5 k (by omega) (fun hm => by have := h.new k hm; omega)]
    exact h.le.hp k B hk
  · rcases h6 k hk with h' | h'
    · exact h.new k h'
    · omega
theorem bti_l {l : List UInt8} {n : Nat} (h : n < l.length) : bti ⟨l.toArray⟩ (n : Int) = ((l.getD n 0).toNat : Int) := by
  have h2 : ((n : Int).toNat) < (ByteArray.mk l.toArray).size := by rw [str_sz]; simpa using h
  unfold bti
  rw [dif_pos h2]
  have : (ByteArray.mk l.toArray)[(n : Int).toNat]'h2 = l[n] := by
    show l.toArray[(n : Int).toNat]'_ = l[n]
    simp
  rw [this, List.getD, List.getElem?_eq_getElem h]
  rfl
theorem take_succ_getD {l : List UInt8} {n : Nat} (h : n < l.length) : l.take (n + 1) = l.take n ++ [l.getD n 0] := by
  rw [List.take_add_one, List.getD, List.getElem?_eq_getElem h]
  rfl
theorem fld_take {xs : List Int} {n : Nat} (h : n < xs.length) : fldT (xs.take (n + 1)) = fldT (xs.take n) ++ (32 :: decI (xs.getD n 0)) := by
  have e : xs.take (n + 1) = xs.take n ++ [xs.getD n 0] := by
    rw [List.take_add_one, List.getD, List.getElem?_eq_getElem h]
    rfl
  rw [e]
  simp only [fldT, List.flatMap_append, List.flatMap_cons, List.flatMap_nil, List.append_nil]
theorem len3 {a b : List UInt8} (h : a.length + b.length ≤ 1000000000) : (a.length + b.length ≤ 9223372036854775807) = True := by
  rw [eq_iff_iff, iff_true]; omega
end Go.Proofs.IM
namespace Go.Proofs.YtdonkjepjobhnaaDoor.IM
open Go Go.Proofs.IM Go.Proofs.Flt
set_option maxHeartbeats 16000000
set_option maxRecDepth 100000
theorem s_dec {n : Int} {m : Mem} {K : AR → Mem → Prop} (hn : -9223372036854775808 ≤ n ∧ n ≤ 9223372036854775807) (h : K (.ret (.str ⟨(decI n).toArray⟩)) m) : Sim Tryd.prog 45 [.int .i64 n] m K :=
  s_l1decimal hn (by rw [decT_I]; exact h)
theorem s_specListing {s : AV} {ps : List Pr} {m : Mem} {K : AR → Mem → Prop} (hp : PsR m s ps) (hl : ps.length ≤ 9223372036854775807) (hL : ∀ p ∈ ps, p.good) (hwt : wtC ps ≤ 1048576)
    (h : ∀ m', m.le m' → K (.ret (.str ⟨(listT ps).toArray⟩)) m') :
    Sim Tryd.prog 32 [.agg [s]] m K := by
  refine entry (cxok []) Tryd.func32 rfl rfl (by decide) (by decide) ?_
  obtain ⟨a1, a2, a3, a4⟩ := hp.facts
  have hok := fun p hp => (hL p hp).ok
  refine goh_ ?_
  refine s_specCheckShape hp (by omega) hok ?_
  intro m0 hm0
  replace h := fun m' (hm' : m0.le m') => h m' (hm0.trans hm')
  replace hp := hp.mono hm0
  have hlen := hp.len'
  clear hm0
  simp only [F3.av]
  by_cases g : (shapeF ps).1 = 0
  rotate_left
  · have h := h _ (Mem.le.refl _)
    simp only [listT, if_pos g] at h
    have e : ((shapeF ps).1 != 0) = true := by simpa using g
    exact gox_
  have hP : Parts ps := by
    by_cases g2 : (partsF ps).1 = 0
    · exact (shape_parts g2).1
    · simp only [shapeF, if_pos g2] at g
      exact (g2 g).elim
  simp only [listT, g, ne_eq, not_true_eq_false, if_false] at h
  have htl := text_len hP hL hwt
  have hne := text_ne hP
  have n1 := hP.n1
  have e : ((shapeF ps).1 != 0) = false := by simpa using g
  refine goh_ ?_
  clear e
  refine loop_ (fun k t l c m1 => ∃ (i : Nat) (acc : List UInt8) (q : AV) (own : List Nat), t 4 = q ∧ GL m0 m1 q acc own ∧ t 19 = s ∧ t 20 = .int .i64 ps.length ∧ t 21 = .int .i64 i ∧ i ≤ ps.length ∧ k = ps.length - i ∧ acc ++ prL (ps.drop i) i = prL ps 0) ps.length ?_ ?_
  · exact ⟨0, [], .nils, [], rfl, ⟨Mem.le.refl _, SlG.nil _ _, by simp⟩, rfl, rfl, rfl, by omega, by omega, by simp⟩
  intro k t l c m1 KN ⟨i, acc, q, own, h4, hG, h19, h20, h21, hi, hk, hS⟩ next
  have hlen1 := (hp.mono hG.le).len'
  obtain ⟨q1, q2, q3, q4⟩ := hG.sl.facts
  refine goh_ ?_
  refine ⟨fun hd => ?_, fun hd => ?_⟩
  rotate_left
  · have hin : i = ps.length := by omega
    subst hin
    rw [List.drop_length] at hS
    simp only [prL, List.append_nil] at hS
    have h := h _ hG.le
    subst hS
    obtain ⟨_, hG2, _⟩ := hG
    rcases hG2 with ⟨-, hc, -⟩ | ⟨j, B, rfl, w1, w2, w3, w4, -⟩
    · simp only [List.map_eq_nil_iff] at hc
      exact (hne hc).elim
    have hrows : ∀ l, (rows? l m1 (.hp j) 0 (prL ps 0).length).bind bytes? = some (prL ps 0) := fun l => by
      simp only [List.length_map] at w3 w4
      simp only [rows?, blk?, w1, Option.bind_some]
      rw [if_pos (by omega), List.drop_zero, w4, Option.bind_some, bytes_bR]
    simp only [List.length_map] at *
    exact gox_
  have hj : i < ps.length := by omega
  obtain ⟨a, i0, c', B, s1, s2, s3, s4, rfl, hb, hz, hr, e1, e2, e3, e4⟩ := hp.at_ hj
  obtain ⟨b1, b2, b3, b4⟩ := e1.facts
  obtain ⟨c1, c2, c3, c4⟩ := e2.facts
  obtain ⟨d1, d2, d3, d4⟩ := e3.facts
  obtain ⟨f1, f2, f3, f4⟩ := e4.facts
  have hw := w64_succ hj (by omega)
  have hb1 := fun l => blk?_mono hG.le (hb l)
  have hr1 := fun l => row?_mono hG.le (hr l)
  have l3 := (e3.mono hG.le).len'
  rw [List.length_map] at l3
  have hgd := hL ps[i] (by simp)
  have hl3 := hgd.ins
  rw [prL_at hj] at hS
  refine goh_ ?_
  refine loop_ (fun k t l c2 m1 => ∃ (j : Nat) (acc : List UInt8) (q : AV) (own : List Nat), t 4 = q ∧ GL m0 m1 q acc own ∧ t 19 = .sl a i0 ps.length c' ∧ t 20 = .int .i64 ps.length ∧ t 21 = .int .i64 i ∧ t 5 = .int .i64 i ∧ t 27 = s3 ∧ t 28 = .int .i64 ps[i].ins.length ∧ t 29 = .int .i64 j ∧ j ≤ ps[i].ins.length ∧ k = ps[i].ins.length - j ∧ acc ++ (insL i (ps[i].ins.drop j) j ++ prL (ps.drop (i + 1)) (i + 1)) = prL ps 0) ps[i].ins.length ?_ ?_
  · exact ⟨0, acc, q, own, h4, hG, h19, h20, h21, rfl, rfl, rfl, rfl, by omega, by omega, hS⟩
  clear hS h4 h19 h20 h21 hb1 hr1 l3 hlen1 hG q1 q2 q3 q4 hb hr
  clear acc q own
  intro k t l c2 m1 KN2 ⟨j, acc, q, own, h4, hG, h19, h20, h21, h5, h27, h28, h29, hj', hk', hS⟩ next2
  have e3' := e3.mono hG.le
  obtain ⟨q1, q2, q3, q4⟩ := hG.sl.facts
  refine goh_ ?_
  refine ⟨fun hd2 => ?_, fun hd2 => ?_⟩
  rotate_left
  · have hjn : j = ps[i].ins.length := by omega
    rw [hjn, List.drop_length] at hS
    simp only [insL, List.nil_append] at hS
    exact next _ _ _ _ _ (by omega) ⟨i + 1, acc, q, own, h4, hG, h19, h20, rfl, by omega, rfl, hS⟩
  have hjc : j < ps[i].ins.length := by omega
  have hw5 := w64_succ hjc (by omega)
  obtain ⟨a5, i5, c5, B5, rfl, hb5, hz5, hr5⟩ := e3'.some_ (j := j) (by simpa using hjc)
  have hr5 := fun l => hr5 l j (by simpa using hjc)
  simp only [List.getElem_map] at hr5
  rw [insL_at hjc] at hS
  have hop := insS_op (hP.ins i hj j hjc)
  have hx := hgd.insn ps[i].ins[j] (by simp)
  refine goh_ ?_
  generalize hxx : ps[i].ins[j] = x at *
  have hhd := head_len (p := i) (i := j) (x := x) (by omega) (by omega)
  have hdef : headT i j x = decI i ++ [58] ++ decI j ++ [32] ++ nmT x.op := rfl
  have hd1 := congrArg List.length hdef
  simp only [List.length_append, List.length_cons, List.length_nil] at hd1
  have sa := @str_app
  have sz := @str_sz
  refine draw_ [(0, .pure), (3, .pure), (7, .pure), (8, .read), (1, .step [8]), (2, .pure), (4, .step [8]), (5, .pure), (6, .pure), (9, .step []), (10, .pure), (11, .pure)] (by kernel_rfl) ?_
  refine goh_ ?_
  refine s_dec (by omega) ?_
  have y1 : ((decI (i : Int)).length + 1 ≤ 9223372036854775807) = True := by rw [eq_iff_iff, iff_true]; omega
  refine goh_ ?_
  refine s_dec (by omega) ?_
  have y2 := len3 (a := decI i ++ [58]) (b := decI j) (by simp only [List.length_append, List.length_cons, List.length_nil]; omega)
  have y3 : ((decI (i : Int) ++ [58] ++ decI (j : Int)).length + 1 ≤ 9223372036854775807) = True := by rw [eq_iff_iff, iff_true]; simp only [List.length_append, List.length_cons, List.length_nil]; omega
  refine goh_ ?_
  refine s_l4name hop ?_
  have y4 := len3 (a := decI i ++ [58] ++ decI j ++ [32]) (b := nmT x.op) (by simp only [List.length_append, List.length_cons, List.length_nil]; omega)
  refine goh_ ?_
  rw [← hdef] at *
  refine s_l3fields ?_
  have hGB := hG.push ⟨[[.int .i64 x.a], [.int .i64 x.b], [.int .i64 x.c], [.int .i64 x.d]], 1⟩
  have hrow : ∀ f, f < 4 → ∀ l, row? l (m1.push ⟨[[.int .i64 x.a], [.int .i64 x.b], [.int .i64 x.c], [.int .i64 x.d]], 1⟩) (.hp m1.hp.length) f = some [.int .i64 ([x.a, x.b, x.c, x.d].getD f 0)] := by
    intro f hf l
    simp only [row?, blk?, push_at, Option.bind_some]
    have : f = 0 ∨ f = 1 ∨ f = 2 ∨ f = 3 := by omega
    rcases this with rfl | rfl | rfl | rfl <;> rfl
  have hblk : ∀ l, blk? l (m1.push ⟨[[.int .i64 x.a], [.int .i64 x.b], [.int .i64 x.c], [.int .i64 x.d]], 1⟩) (.hp m1.hp.length) = some ⟨[[.int .i64 x.a], [.int .i64 x.b], [.int .i64 x.c], [.int .i64 x.d]], 1⟩ := fun l => push_at
  generalize m1.push ⟨[[.int .i64 x.a], [.int .i64 x.b], [.int .i64 x.c], [.int .i64 x.d]], 1⟩ = mB at *
  generalize m1.hp.length = J at *
  clear y1 y2 y3 y4 hd1 hdef hb5 hr5 hz5 q1 q2 q3 q4 e3'
  refine goh_ ?_
  refine loop_ (fun k t l c m' => m' = mB ∧ ∃ f : Nat, f ≤ 4 ∧ k = 4 - f ∧ t 4 = q ∧ t 19 = .sl a i0 ps.length c' ∧ t 20 = .int .i64 ps.length ∧ t 21 = .int .i64 i ∧ t 5 = .int .i64 i ∧ t 27 = .sl a5 i5 ps[i].ins.length c5 ∧ t 28 = .int .i64 ps[i].ins.length ∧ t 29 = .int .i64 j ∧ t 9 = .str ⟨(headT i j x ++ fldT ([x.a, x.b, x.c, x.d].take f)).toArray⟩ ∧ t 46 = .sl (.hp J) 0 4 4 ∧ t 47 = .int .i64 4 ∧ t 48 = .int .i64 f) 4 ?_ ?_
  · exact ⟨rfl, 0, by omega, rfl, h4, h19, h20, h21, h5, by rw [List.length_map] at h27; exact h27, h28, h29, by rw [show fldT ([x.a, x.b, x.c, x.d].take 0) = [] from rfl, List.append_nil]; rfl, rfl, rfl, rfl⟩
  clear h4 h19 h20 h21 h5 h27 h28 h29
  intro k t l c3 m3 KN3 ⟨hm3, f, hf, hk3, h4, h19, h20, h21, h5, h27, h28, h29, h9, h46, h47, h48⟩ next3
  subst m3
  obtain ⟨q1, q2, q3, q4⟩ := hGB.sl.facts
  have hGB2 := hGB
  by_cases hf4 : f < 4
  · have hv := hx.all ([x.a, x.b, x.c, x.d].getD f 0) (by
      have : f = 0 ∨ f = 1 ∨ f = 2 ∨ f = 3 := by omega
      rcases this with rfl | rfl | rfl | rfl <;> simp)
    have hr6 := hrow f hf4
    clear hrow
    have hfl := fld_len (xs := [x.a, x.b, x.c, x.d].take f) fun y hy => hx.all y (List.mem_of_mem_take hy)
    have hfl2 : ([x.a, x.b, x.c, x.d].take f).length ≤ 4 := by rw [List.length_take]; simp only [List.length_cons, List.length_nil]; omega
    have hdl := decI_len hv
    rw [show fldT ([x.a, x.b, x.c, x.d].take f) = fldT ([x.a, x.b, x.c, x.d].take f) from rfl] at *
    have hft := fld_take (xs := [x.a, x.b, x.c, x.d]) (n := f) (by simpa using hf4)
    generalize [x.a, x.b, x.c, x.d].getD f 0 = v at *
    have hwf : w64 ((f : Int) + 1) = ((f + 1 : Nat) : Int) := by rw [w64_id (by omega)]; omega
    have hlt : (f : Int) < 4 := by omega
    refine goh_ ?_
    refine s_dec hv ?_
    have y1 : (1 + (decI v).length ≤ 9223372036854775807) = True := by rw [eq_iff_iff, iff_true]; omega
    have y2 : ((headT i j x ++ fldT ([x.a, x.b, x.c, x.d].take f)).length + ((decI v).length + 1) ≤ 9223372036854775807) = True := by rw [eq_iff_iff, iff_true, List.length_append]; omega
    refine goh_ ?_
    exact next3 _ _ _ _ _ (by omega) ⟨rfl, f + 1, by omega, rfl, h4, h19, h20, h21, h5, h27, h28, h29, by rw [hft, ← List.append_assoc]; rfl, h46, h47, rfl⟩
  obtain rfl : f = 4 := by omega
  clear next3 hrow hblk
  have hll := line_len (p := i) (i := j) (x := x) (by omega) (by omega) hx
  have hgen : headT i j x ++ fldT ([x.a, x.b, x.c, x.d].take 4) = lineT i j x := rfl
  rw [hgen] at h9
  clear hgen hhd
  generalize lineT i j x = ln at *
  refine goh_ ?_
  clear hGB h46 h47 h48
  have hGB := hGB2
  refine loop_ (fun k t l c m' => ∃ (n : Nat) (q : AV) (own : List Nat), n ≤ ln.length ∧ k = ln.length - n ∧ t 4 = q ∧ GL m0 m' q (acc ++ ln.take n) own ∧ t 19 = .sl a i0 ps.length c' ∧ t 20 = .int .i64 ps.length ∧ t 21 = .int .i64 i ∧ t 5 = .int .i64 i ∧ t 27 = .sl a5 i5 ps[i].ins.length c5 ∧ t 28 = .int .i64 ps[i].ins.length ∧ t 29 = .int .i64 j ∧ t 9 = .str ⟨ln.toArray⟩ ∧ t 12 = .int .i64 n) ln.length ?_ ?_
  · exact ⟨0, q, own, by omega, rfl, h4, by rw [List.take_zero, List.append_nil]; exact hGB, h19, h20, h21, h5, h27, h28, h29, h9, rfl⟩
  clear h4 h19 h20 h21 h5 h27 h28 h29 h9 hGB hGB2 q1 q2 q3 q4
  have hacc := congrArg List.length hS
  simp only [List.length_append, List.length_cons, List.length_nil] at hacc
  intro k t l c4 m4 KN4 ⟨n, q, own, hn, hk4, h4, hG, h19, h20, h21, h5, h27, h28, h29, h9, h12⟩ next4
  obtain ⟨q1, q2, q3, q4⟩ := hG.sl.facts
  by_cases hnl : n < ln.length
  · have hb := bti_l hnl
    have htk := take_succ_getD hnl
    have hwn : w64 ((n : Int) + 1) = ((n + 1 : Nat) : Int) := by rw [w64_id (by omega)]; omega
    generalize ln.getD n 0 = bb at *
    refine goh_ ?_
    refine ⟨fun hd3 => ?_, fun hd3 => by omega⟩
    refine ⟨by omega, ?_⟩
    have hG1 := hG.push ⟨[bR bb], 1⟩
    refine aApp_one (r := bR bb) rfl hG1.sl rfl (by decide) ?_ push_row rfl ?_ ?_
    · decide
    · rw [List.length_map, List.length_append, List.length_take]; omega
    intro s' m5 own' w1 w2 w3 w4 w5 w6
    have hG2 := hG1.app w1 w2 w3 w4 w5 w6
    rw [List.append_assoc, ← htk] at hG2
    clear hG1 w1 w2 w3 w4 w5 w6 htk hb
    obtain ⟨q1, q2, q3, q4⟩ := hG2.sl.facts
    refine goh_ ?_
    exact next4 _ _ _ _ _ (by omega) ⟨n + 1, s', own', by omega, rfl, rfl, hG2, h19, h20, h21, h5, h27, h28, h29, h9, rfl⟩
  obtain rfl : n = ln.length := by omega
  rw [List.take_length] at hG
  clear next4
  refine goh_ ?_
  refine ⟨fun hd3 => by omega, fun hd3 => ?_⟩
  have hG1 := hG.push ⟨[bR 10], 1⟩
  refine aApp_one (r := bR 10) rfl hG1.sl rfl (by decide) ?_ push_row rfl ?_ ?_
  · decide
  · rw [List.length_map, List.length_append]; omega
  intro s' m5 own' w1 w2 w3 w4 w5 w6
  have hG2 := hG1.app w1 w2 w3 w4 w5 w6
  clear hG1 w1 w2 w3 w4 w5 w6 hd3
  obtain ⟨q1, q2, q3, q4⟩ := hG2.sl.facts
  refine goh_ ?_
  exact next2 _ _ _ _ _ (by omega) ⟨j + 1, acc ++ ln ++ [10], s', own', rfl, hG2, h19, h20, h21, h5, by rw [List.length_map]; exact h27, h28, rfl, by omega, rfl, by rw [← hS]; simp only [List.append_assoc]⟩
end Go.Proofs.YtdonkjepjobhnaaDoor.IM
namespace Go.Proofs.IM
open Go Go.Proofs.Flt
set_option linter.unusedVariables false
theorem SlR.wg {m : Mem} {gh : Gho} {z : Nat} {s : AV} {rs : List (List AV)} (h : SlR (m.wg gh) z s rs) : SlR m z s rs := by
  cases s with
  | sl a i n c =>
    obtain ⟨h1, B, h2, h3⟩ := h
    refine ⟨h1, B, ?_, h3⟩
    cases a <;> exact h2
  | nils => exact h
  | emp _ => exact h
  | _ => exact h
theorem PrR.wg {m : Mem} {gh : Gho} {r : List AV} {p : Pr} (h : PrR (m.wg gh) r p) : PrR m r p :=
  let ⟨s1, s2, s3, s4, h0, h1, h2, h3, h4⟩ := h.ex
  ⟨s1, s2, s3, s4, h0, h1.wg, h2.wg, h3.wg, h4.wg⟩
theorem PsR.wg {m : Mem} {gh : Gho} {s : AV} {ps : List Pr} (h : PsR (m.wg gh) s ps) : PsR m s ps :=
  let ⟨rs, h1, h2, h3⟩ := h
  ⟨rs, h1.wg, h2, fun i r p hr hp => (h3 i r p hr hp).wg⟩
/-- The builder in the row J holds acc; what lay in m lies there still. -/
structure BM (T e : TypeId) (m M : Mem) (J : Nat) (acc : List UInt8) : Prop where
  le : m.le (M.wg m.gl.gst)
  gst : ∃ g, M.gl.gst.le (bld T e J g acc)
theorem BM.write {T e : TypeId} {m M : Mem} {J : Nat} {acc : List UInt8} (h : BM T e m M J acc) (hs : List Blk) (g : Option Nat) (acc' : List UInt8) : BM T e m (({ M with hp := M.hp ++ hs }).wg (bld T e J g acc')) J acc' :=
  ⟨⟨h.le.ro, h.le.gl, fun j B hj => by
    have h1 := h.le.hp j B hj
    have h2 := (List.getElem?_eq_some_iff.1 h1).1
    show (M.hp ++ hs)[j]? = some B
    rw [List.getElem?_append_left (l₁ := M.hp) h2]
    exact h1⟩, g, Gho.le.refl _⟩
theorem BM.ps {T e : TypeId} {m M : Mem} {J : Nat} {acc : List UInt8} (h : BM T e m M J acc) {s : AV} {ps : List Pr} (hp : PsR m s ps) : PsR M s ps := (hp.mono h.le).wg
theorem BM.blk {T e : TypeId} {m M : Mem} {J : Nat} {acc : List UInt8} (h : BM T e m M J acc) {l : IM.Loc} {a : AA} {B : Blk} (hb : blk? l m a = some B) : blk? l M a = some B := by
  have := blk?_mono h.le hb
  cases a <;> exact this
theorem BM.rw_ {T e : TypeId} {m M : Mem} {J : Nat} {acc : List UInt8} (h : BM T e m M J acc) {l : IM.Loc} {a : AA} {i : Nat} {r : List AV} (hb : row? l m a i = some r) : row? l M a i = some r := by
  have := row?_mono h.le hb
  cases a <;> exact this
theorem BM.sl {T e : TypeId} {m M : Mem} {J : Nat} {acc : List UInt8} (h : BM T e m M J acc) {z : Nat} {s : AV} {rs : List (List AV)} (hs : SlR m z s rs) : SlR M z s rs := (hs.mono h.le).wg
theorem BM.end_ {T e : TypeId} {m M : Mem} {J : Nat} {acc : List UInt8} (h : BM T e m M J acc) (hm : m.gl.gst = .none) : m.le (M.wg .none) := by
  have := h.le
  rw [hm] at this
  exact this
theorem BM.laid {T e : TypeId} {m M : Mem} {J : Nat} {acc : List UInt8} (h : BM T e m M J acc) {P : Program} {g : Nat} {name : String} {k : IntKind} {zs : List Int} (hl : Laid P m g name k zs) : Laid P M g name k zs := hl.mono h.le
theorem BM.row {T e : TypeId} {m M : Mem} {J : Nat} {acc : List UInt8} (h : BM T e m M J acc) {j : Nat} {B : Blk} (hj : m.hp[j]? = some B) : M.hp[j]? = some B := h.le.hp j B hj
end Go.Proofs.IM
namespace Go.Proofs.YtdonkjepjobhnaaDoor.IM
open Go Go.Proofs.IM Go.Proofs.Flt
set_option maxHeartbeats 16000000
set_option maxRecDepth 100000
theorem infoB2 : (Tryd.prog.info? 123).map (fun i => (i.zero, i.size)) = some (some (.agg #[.pointer none, .slice none 0 0]), 2) := by kernel_rfl
theorem allocB_ {l : IM.Loc} {m : Mem} {K : KS} {x : Option TI} {f : TI → Prop} (hx : x = none) (h : ∀ M, BM 123 5 m M m.hp.length [] → K (.ptr (.hp m.hp.length) 0 0) l M) : allocK Tryd.prog 123 l m K x f := by
  subst hx
  obtain ⟨i, hi, hz⟩ := Option.map_eq_some_iff.1 infoB2
  simp only [Prod.mk.injEq] at hz
  refine ⟨i, _, hi, hz.1, h _ ⟨Mem.le.push m ⟨[], i.size⟩, none, rfl, ?_⟩⟩
  rintro os ⟨b, rfl⟩
  exact ⟨b, _, _, [], rfl, .inl rfl, rfl, rfl, rfl⟩
theorem s_write {m M : Mem} {J : Nat} {acc : List UInt8} {K : AR → Mem → Prop} (hB : BM 123 5 m M J acc) (b : List UInt8) (hb : b ≠ []) (hlen : acc.length + b.length ≤ 140737488355328)
    (hK : ∀ M', BM 123 5 m M' J (acc ++ b) → K (.ret (.tup [.int .i64 b.length, .undef])) M') : Sim Tryd.prog 92 [.ptr (.hp J) 0 0, .str ⟨b.toArray⟩] M K := by
  obtain ⟨g, hg⟩ := hB.gst
  have hsz : (ByteArray.mk b.toArray).size = b.length := str_sz
  refine s_WriteString hg (by rw [hsz]; simpa using hb) (by rw [hsz]; exact hlen) fun hs g' => ?_
  rw [hsz]
  have : (ByteArray.mk b.toArray).data.toList = b := by simp
  rw [this]
  exact hK _ (hB.write hs g' _)
theorem s_implListing {s : AV} {ps : List Pr} {m : Mem} {K : AR → Mem → Prop} (hF : FormsR 0 m) (hT : L10 m) (hSp : LSp m) (hg : m.gl.gst = .none) (hp : PsR m s ps) (hl : ps.length ≤ 9223372036854775807) (hL : ∀ p ∈ ps, p.good) (hwt : wtC ps ≤ 1048576)
    (h : ∀ m', m.le m' → K (.ret (.str ⟨(listT ps).toArray⟩)) m') :
    Sim Tryd.prog 33 [.agg [s]] m K := by
  refine entry (cxok []) Tryd.func33 rfl rfl (by decide) (by decide) ?_
  obtain ⟨a1, a2, a3, a4⟩ := hp.facts
  have hok := fun p hp => (hL p hp).ok
  refine goh_ ?_
  refine s_implCheckShape hF hp (by omega) hok ?_
  intro m0 hm0
  replace h := fun m' (hm' : m0.le m') => h m' (hm0.trans hm')
  replace hp := hp.mono hm0
  replace hT := hT.mono hm0
  replace hSp := hSp.mono hm0
  replace hg : m0.gl.gst = .none := by rw [hm0.gl]; exact hg
  have hlen := hp.len'
  clear hm0 hF
  simp only [F3.av]
  refine goh_ ?_
  refine bin_agg_ (aggEqF _ _ _ _ _ _) ?_
  by_cases g : (shapeF ps).1 = 0
  rotate_left
  · have h := h _ (Mem.le.refl _)
    simp only [listT, if_pos g] at h
    have e : ((shapeF ps).1 == 0) = false := by simpa using g
    exact gox_
  obtain ⟨hP, hE⟩ := shape_zero g
  rw [hE]
  simp only [listT, g, ne_eq, not_true_eq_false, if_false] at h
  have htl := text_len hP hL hwt
  have hne := text_ne hP
  have n1 := hP.n1
  refine goh_ ?_
  refine s_Fields hSp rfl ?_
  have hT2 := hT.mono (Mem.le.push m0 ⟨namesI.map strR, 1⟩)
  have hp2 := hp.mono (Mem.le.push m0 ⟨namesI.map strR, 1⟩)
  have hg2 : (m0.push ⟨namesI.map strR, 1⟩).gl.gst = .none := hg
  have hn2 : (m0.push ⟨namesI.map strR, 1⟩).hp[m0.hp.length]? = some ⟨namesI.map strR, 1⟩ := push_at
  replace h := fun m' (hm' : (m0.push ⟨namesI.map strR, 1⟩).le m') => h m' ((Mem.le.push m0 _).trans hm')
  generalize m0.push ⟨namesI.map strR, 1⟩ = m2 at *
  refine goh_ ?_
  refine allocB_ rfl fun M hB => ?_
  have hJ : m2.hp.length = m2.hp.length := rfl
  generalize m2.hp.length = J at *
  generalize m0.hp.length = jn at *
  have hlen2 := (hB.ps hp2).len'
  refine goh_ ?_
  clear hlen hlen2 hJ a1 a2 a3 a4
  refine loop_ (fun k t l c m1 => ∃ (i : Nat) (acc : List UInt8), t 3 = .sl (.hp jn) 0 43 43 ∧ t 4 = .ptr (.hp J) 0 0 ∧ t 17 = s ∧ t 18 = .int .i64 ps.length ∧ t 19 = .int .i64 i ∧ BM 123 5 m2 m1 J acc ∧ i ≤ ps.length ∧ k = ps.length - i ∧ acc ++ prL (ps.drop i) i = prL ps 0) ps.length ?_ ?_
  · exact ⟨0, [], rfl, rfl, rfl, rfl, rfl, hB, by omega, by omega, by simp⟩
  clear hB
  intro k t l c m1 KN ⟨i, acc, h3, h4, h17, h18, h19, hB, hi, hk, hS⟩ next
  refine goh_ ?_
  refine ⟨fun hd => ?_, fun hd => ?_⟩
  rotate_left
  · have hin : i = ps.length := by omega
    subst hin
    rw [List.drop_length] at hS
    simp only [prL, List.append_nil] at hS
    subst hS
    obtain ⟨gi, hgi⟩ := hB.gst
    refine s_BuilderString hgi hne ?_
    have h := h _ (hB.end_ hg2)
    exact gox_
  have hj : i < ps.length := by omega
  obtain ⟨a, i0, c', B, s1, s2, s3, s4, rfl, hb, hz, hr, e1, e2, e3, e4⟩ := hp2.at_ hj
  obtain ⟨b1, b2, b3, b4⟩ := e1.facts
  obtain ⟨c1, c2, c3, c4⟩ := e2.facts
  obtain ⟨d1, d2, d3, d4⟩ := e3.facts
  obtain ⟨f1, f2, f3, f4⟩ := e4.facts
  have hw := w64_succ hj (by omega)
  have hb1 := fun l => hB.blk (hb l)
  have hr1 := fun l => hB.rw_ (hr l)
  have l3 := (hB.sl e3).len'
  rw [List.length_map] at l3
  have hgd := hL ps[i] (by simp)
  have hl3 := hgd.ins
  rw [prL_at hj] at hS
  refine goh_ ?_
  refine loop_ (fun k t l c m1 => ∃ (j : Nat) (acc : List UInt8), t 3 = .sl (.hp jn) 0 43 43 ∧ t 4 = .ptr (.hp J) 0 0 ∧ t 17 = .sl a i0 ps.length c' ∧ t 18 = .int .i64 ps.length ∧ t 19 = .int .i64 i ∧ t 5 = .int .i64 i ∧ t 25 = s3 ∧ t 26 = .int .i64 ps[i].ins.length ∧ t 27 = .int .i64 j ∧ BM 123 5 m2 m1 J acc ∧ j ≤ ps[i].ins.length ∧ k = ps[i].ins.length - j ∧ acc ++ (insL i (ps[i].ins.drop j) j ++ prL (ps.drop (i + 1)) (i + 1)) = prL ps 0) ps[i].ins.length ?_ ?_
  · exact ⟨0, acc, h3, h4, h17, h18, h19, rfl, rfl, rfl, rfl, hB, by omega, by omega, hS⟩
  clear hS h3 h4 h17 h18 h19 hb1 hr1 l3 hB hb hr
  clear acc
  intro k t l c2 m1 KN2 ⟨j, acc, h3, h4, h17, h18, h19, h5, h25, h26, h27, hB, hj', hk', hS⟩ next2
  refine goh_ ?_
  refine ⟨fun hd2 => ?_, fun hd2 => ?_⟩
  rotate_left
  · have hjn : j = ps[i].ins.length := by omega
    rw [hjn, List.drop_length] at hS
    simp only [insL, List.nil_append] at hS
    exact next _ _ _ _ _ (by omega) ⟨i + 1, acc, h3, h4, h17, h18, rfl, hB, by omega, rfl, hS⟩
  have hjc : j < ps[i].ins.length := by omega
  have hw5 := w64_succ hjc (by omega)
  obtain ⟨a5, i5, c5, B5, rfl, hb5, hz5, hr5⟩ := e3.some_ (j := j) (by simpa using hjc)
  have hb6 := fun l => hB.blk (hb5 l)
  have hr6 := fun l => hB.rw_ (hr5 l j (by simpa using hjc))
  simp only [List.getElem_map] at hr6
  clear hb5 hr5
  rw [insL_at hjc] at hS
  have hop := insS_op (hP.ins i hj j hjc)
  have hx := hgd.insn ps[i].ins[j] (by simp)
  refine goh_ ?_
  generalize hxx : ps[i].ins[j] = x at *
  have hhd := head_len (p := i) (i := j) (x := x) (by omega) (by omega)
  have hdef : headT i j x = decI i ++ [58] ++ decI j ++ [32] ++ nmT x.op := rfl
  have hd1 := congrArg List.length hdef
  simp only [List.length_append, List.length_cons, List.length_nil] at hd1
  have sa := @str_app
  have sz := @str_sz
  have hTm := hB.laid hT2
  have hnr := (nmT_at hop).2
  have hnb := hB.row hn2
  have ho0 : 0 ≤ x.op := by omega
  have ho1 : x.op < 43 := by omega
  refine draw_ [(0, .pure), (3, .pure), (7, .pure), (8, .pure), (9, .read), (10, .pure), (11, .read), (1, .step [9, 11]), (2, .pure), (4, .step [9, 11]), (5, .pure), (6, .pure), (12, .pure), (13, .step [])] (by kernel_rfl) ?_
  refine goh_ ?_
  refine s_Itoa hTm (by omega) ?_
  have y1 : ((decI (i : Int)).length + 1 ≤ 9223372036854775807) = True := by rw [eq_iff_iff, iff_true]; omega
  refine goh_ ?_
  refine s_Itoa hTm (by omega) ?_
  have y2 : ((decI (i : Int) ++ [58]).length + (decI (j : Int)).length ≤ 9223372036854775807) = True := by rw [eq_iff_iff, iff_true]; simp only [List.length_append, List.length_cons, List.length_nil]; omega
  have y3 : ((decI (i : Int) ++ [58] ++ decI (j : Int)).length + 1 ≤ 9223372036854775807) = True := by rw [eq_iff_iff, iff_true]; simp only [List.length_append, List.length_cons, List.length_nil]; omega
  have y4 : ((decI (i : Int) ++ [58] ++ decI (j : Int) ++ [32]).length + (nmT x.op).length ≤ 9223372036854775807) = True := by rw [eq_iff_iff, iff_true]; simp only [List.length_append, List.length_cons, List.length_nil]; omega
  refine goh_ ?_
  have hacc := congrArg List.length hS
  simp only [List.length_append, List.length_cons, List.length_nil] at hacc
  have hll : (lineT i j x).length = (headT i j x).length + (fldT [x.a, x.b, x.c, x.d]).length := by rw [lineT, List.length_append]
  refine s_write hB _ (by simp) (by simp only [List.length_append, List.length_cons, List.length_nil]; omega) fun M1 hB1 => ?_
  rw [← hdef] at *
  clear y1 y2 y3 y4 hnr hnb hdef hd1 hb6 hr6
  refine goh_ ?_
  refine s_fields ?_
  refine goh_ ?_
  have hall := hx.all
  refine loop_ (fun k t l c m' => ∃ f : Nat, f ≤ 4 ∧ k = 4 - f ∧ t 3 = .sl (.hp jn) 0 43 43 ∧ t 4 = .ptr (.hp J) 0 0 ∧ t 17 = .sl a i0 ps.length c' ∧ t 18 = .int .i64 ps.length ∧ t 19 = .int .i64 i ∧ t 5 = .int .i64 i ∧ t 25 = .sl a5 i5 ps[i].ins.length c5 ∧ t 26 = .int .i64 ps[i].ins.length ∧ t 27 = .int .i64 j ∧ t 47 = .agg [.int .i64 x.a, .int .i64 x.b, .int .i64 x.c, .int .i64 x.d] ∧ t 48 = .int .i64 f ∧ BM 123 5 m2 m' J (acc ++ headT i j x ++ fldT ([x.a, x.b, x.c, x.d].take f))) 4 ?_ ?_
  · exact ⟨0, by omega, rfl, h3, h4, h17, h18, h19, h5, by rw [List.length_map] at h25; exact h25, h26, h27, rfl, rfl, by rw [show fldT ([x.a, x.b, x.c, x.d].take 0) = [] from rfl, List.append_nil]; exact hB1⟩
  clear h3 h4 h17 h18 h19 h5 h25 h26 h27 hB hB1 hTm
  intro k t l c3 m3 KN3 ⟨f, hf, hk3, h3, h4, h17, h18, h19, h5, h25, h26, h27, h47, h48, hB⟩ next3
  by_cases hf4 : f < 4
  · have hlt : (f : Int) < 4 := by omega
    have h4c : f = 0 ∨ f = 1 ∨ f = 2 ∨ f = 3 := by omega
    have hv := hall ([x.a, x.b, x.c, x.d].getD f 0) (by rcases h4c with rfl | rfl | rfl | rfl <;> simp)
    have hix : (if f * 1 ≤ 3 then ([.int .i64 x.a, .int .i64 x.b, .int .i64 x.c, .int .i64 x.d] : List AV)[f * 1]? else none) = some (.int .i64 ([x.a, x.b, x.c, x.d].getD f 0)) := by
      rcases h4c with rfl | rfl | rfl | rfl <;> rfl
    have hfl := fld_len (xs := [x.a, x.b, x.c, x.d].take f) fun y hy => hall y (List.mem_of_mem_take hy)
    have hfl2 : ([x.a, x.b, x.c, x.d].take f).length ≤ 4 := by rw [List.length_take]; simp only [List.length_cons, List.length_nil]; omega
    have hft := fld_take (xs := [x.a, x.b, x.c, x.d]) (n := f) (by simpa using hf4)
    have hdl := decI_len hv
    clear h4c
    generalize [x.a, x.b, x.c, x.d].getD f 0 = v at *
    have hwf : w64 ((f : Int) + 1) = ((f + 1 : Nat) : Int) := by rw [w64_id (by omega)]; omega
    refine goh_ ?_
    refine s_Itoa (hB.laid hT2) hv ?_
    have y1 : (1 + (decI v).length ≤ 9223372036854775807) = True := by rw [eq_iff_iff, iff_true]; omega
    refine goh_ ?_
    refine s_write hB (32 :: decI v) (by simp) (by simp only [List.length_append, List.length_cons]; omega) fun M2 hB2 => ?_
    refine goh_ ?_
    exact next3 _ _ _ _ _ (by omega) ⟨f + 1, by omega, rfl, h3, h4, h17, h18, h19, h5, h25, h26, h27, h47, rfl, by rw [hft, ← List.append_assoc]; exact hB2⟩
  obtain rfl : f = 4 := by omega
  clear next3
  have hgen : acc ++ headT i j x ++ fldT ([x.a, x.b, x.c, x.d].take 4) = acc ++ lineT i j x := by rw [List.append_assoc]; rfl
  rw [hgen] at hB
  refine goh_ ?_
  refine s_write hB [10] (by simp) (by simp only [List.length_append, List.length_cons, List.length_nil]; omega) fun M2 hB2 => ?_
  refine goh_ ?_
  exact next2 _ _ _ _ _ (by omega) ⟨j + 1, acc ++ lineT i j x ++ [10], h3, h4, h17, h18, h19, h5, by rw [List.length_map]; exact h25, h26, rfl, hB2, by omega, rfl, by rw [← hS]; simp only [List.append_assoc]⟩
end Go.Proofs.YtdonkjepjobhnaaDoor.IM
namespace Go.Proofs.YtdonkjepjobhnaaDoor.IM
open Go Go.Proofs.IM Go.Proofs.Flt
set_option maxHeartbeats 8000000
set_option maxRecDepth 100000
theorem s_FnExactListing {s : AV} {ps : List Pr} {m : Mem} {K : AR → Mem → Prop} (hF : FormsR 0 m) (hT : L10 m) (hSp : LSp m) (hg : m.gl.gst = .none) (hp : PsR m s ps) (hl : ps.length ≤ 9223372036854775807) (hL : ∀ p ∈ ps, p.good)
    (h : ∀ m', m.le m' → K (.ret (.bool true)) m') :
    Sim Tryd.prog 8 [.agg [s]] m K := by
  refine entry (cxok []) Tryd.func8 rfl rfl (by decide) (by decide) ?_
  obtain ⟨a1, a2, a3, a4⟩ := hp.facts
  have hok := fun p hp => (hL p hp).ok
  refine goh_ ?_
  refine s_szCode hp (by omega) hok ?_
  refine goh_ ?_
  refine ⟨fun hd => by have h := h _ (Mem.le.refl _); exact gox_, fun hd => ?_⟩
  have hwt := szC_eq hL hl hd
  obtain ⟨hl', hfit⟩ := fit_of hwt
  clear hd
  refine s_toCode hp hl' hfit ?_
  intro m1 own1 hm1 ho1 hr1
  refine goh_ ?_
  refine s_specListing ho1.r hl hL hwt fun m2 hm2 => ?_
  have hm12 := hm1.trans hm2
  refine goh_ ?_
  refine s_toCode (hp.mono hm12) hl' hfit ?_
  intro m3 own3 hm3 ho3 hr3
  have hm13 := hm12.trans hm3
  refine goh_ ?_
  refine s_implListing (hF.mono hm13) (hT.mono hm13) (hSp.mono hm13) (by rw [hm13.gl]; exact hg) ho3.r hl hL hwt fun m4 hm4 => ?_
  have hm14 := hm13.trans hm4
  have e0 : ((listT ps).toArray.toList == (listT ps).toArray.toList) = true := by simp
  refine goh_ ?_
  refine draw_ [(0, .read), (1, .read), (2, .step [0]), (3, .step []), (4, .pure)] (by kernel_rfl) ?_
  refine goh_ ?_
  refine s_toCode (hp.mono hm14) hl' hfit ?_
  intro m5 own5 hm5 ho5 hr5
  have ho3' := ho3.ext (m' := m5) fun j hj => by
    have := (List.getElem?_eq_getElem (hr3 j hj).2 (l := m3.hp))
    rw [this]; exact (hm4.trans hm5).hp _ _ this
  refine goh_ ?_
  refine s_eqCode ho3'.r ho5.r (by omega) hok ?_
  have h := h _ (hm14.trans hm5)
  exact gox_
end Go.Proofs.YtdonkjepjobhnaaDoor.IM
