/- Reading and writing rows of cells: what lies in the world behind it. -/
import Derived.Test.YtdonkjepjobhnaaDoorIC
namespace Go.Proofs.IM
open Go Go.RowKit
set_option linter.unusedVariables false
set_option linter.unusedSimpArgs false
set_option linter.unnecessarySimpa false
section
variable {Ei E : Env} {wi w w' : World} {L : Pl} {l : Loc} {m : Mem}
/-- A block that is known: where it lies, and its cells. -/
theorem Rel.blk (h : Rel Ei wi E L l m w) {a : AA} {B : Blk} (hb : blk? l m a = some B) :
    ∃ p, pos E L a = some p ∧ p.2.2 = B.sz ∧ CR E B.rows B.sz (fun k => w.cell? ⟨p.1, p.2.1 + k, none⟩) := by
  cases a with
  | ro j =>
    obtain ⟨b, f, h1, h2, h3⟩ := h.m.ro j B hb
    refine ⟨(b, f, B.sz), h1, rfl, fun i row hi => ⟨(h3 i row hi).1, fun o v ho => ?_⟩⟩
    obtain ⟨x, hx, hv⟩ := (h3 i row hi).2 o v ho
    exact ⟨x, (h.m.bel.cell (p := ⟨b, f + (i * B.sz + o), none⟩) h2).trans hx, hv⟩
  | hp j =>
    obtain ⟨b, h1, -, hh⟩ := h.m.hp j B hb
    refine ⟨(b, 0, B.sz), by simp [pos, h1], rfl, fun i row hi => ?_⟩
    obtain ⟨cs, ty, h2, h3⟩ := hh (by intro e; rw [e] at hi; simp at hi)
    refine ⟨(h3 i row hi).1, fun o v ho => ?_⟩
    obtain ⟨x, hx, hv⟩ := (h3 i row hi).2 o v ho
    exact ⟨x, by simpa [World.cell?, h2] using hx, hv⟩
  | lc j =>
    obtain ⟨b, h1, -, hh⟩ := h.l.at_ j B hb
    refine ⟨(b, 0, B.sz), by simp [pos, h1], rfl, fun i row hi => ?_⟩
    obtain ⟨cs, ty, h2, h3⟩ := hh (by intro e; rw [e] at hi; simp at hi)
    refine ⟨(h3 i row hi).1, fun o v ho => ?_⟩
    obtain ⟨x, hx, hv⟩ := (h3 i row hi).2 o v ho
    exact ⟨x, by simpa [World.cell?, h2] using hx, hv⟩
theorem adr_add (p : Nat × Nat × Nat) (i o k : Nat) : (adr p i o).add k = adr p i (o + k) := by
  unfold adr Addr.add
  split <;> simp_all [Nat.add_assoc]
/-- A stretch of a row, as a list of values. -/
theorem CR.part {rows : List (List AV)} {sz i : Nat} {row : List AV} {get : Nat → Option Value} (h : CR E rows sz get) (hi : rows[i]? = some row) (o n : Nat) (hn : o + n ≤ row.length) :
    ∃ xs : List Value, xs.length = n ∧ (∀ (j : Nat) (v : Value), xs[j]? = some v → get (i * sz + (o + j)) = some v) ∧ ∀ (j : Nat) (c : AV) (v : Value), ((row.drop o).take n)[j]? = some c → xs[j]? = some v → VC E c v := by
  induction n with
  | zero => exact ⟨[], rfl, by simp, by simp⟩
  | succ n ih =>
    obtain ⟨xs, h1, h2, h3⟩ := ih (by omega)
    obtain ⟨x, hx, hv⟩ := (h i row hi).2 (o + n) row[o + n] (by simp [show o + n < row.length by omega])
    refine ⟨xs ++ [x], by simp [h1], fun j v hj => ?_, fun j c v hc hj => ?_⟩
    · by_cases e : j < n
      · rw [List.getElem?_append_left (by omega)] at hj; exact h2 j v hj
      · have : j = n := by
          have := (List.getElem?_eq_some_iff.1 hj).1
          simp [h1] at this; omega
        subst this
        rw [List.getElem?_append_right (by omega)] at hj
        simp [h1] at hj
        rw [← hj]; exact hx
    · by_cases e : j < n
      · rw [List.getElem?_append_left (by omega)] at hj
        refine h3 j c v ?_ hj
        simp only [List.getElem?_take, List.getElem?_drop] at hc ⊢
        rw [if_pos e]
        rwa [if_pos (by omega)] at hc
      · have : j = n := by
          have := (List.getElem?_eq_some_iff.1 hj).1
          simp [h1] at this; omega
        subst this
        rw [List.getElem?_append_right (by omega)] at hj
        simp [h1] at hj
        simp only [List.getElem?_take, List.getElem?_drop] at hc
        rw [if_pos (by omega), List.getElem?_eq_getElem (by omega)] at hc
        cases hc
        rw [← hj]; exact hv
/-- Whole rows, as a list of values. -/
theorem CR.rows_ {rows : List (List AV)} {sz : Nat} {get : Nat → Option Value} (h : CR E rows sz get) (i n : Nat) (hn : i + n ≤ rows.length) :
    ∃ xs : List Value, xs.length = n * sz ∧ (∀ (j : Nat) (v : Value), xs[j]? = some v → get (i * sz + j) = some v) ∧ CR E ((rows.drop i).take n) sz (xs[·]?) := by
  induction n with
  | zero => exact ⟨[], by simp, by simp, fun j row hj => by simp at hj⟩
  | succ n ih =>
    obtain ⟨xs, h1, h2, h3⟩ := ih (by omega)
    have hi : rows[i + n]? = some rows[i + n] := by simp [show i + n < rows.length by omega]
    obtain ⟨ys, g1, g2, g3⟩ := h.part hi 0 rows[i + n].length (by omega)
    have hs := (h _ _ hi).1
    rw [hs] at g1
    have e1 : (n + 1) * sz = n * sz + sz := by rw [Nat.add_mul, Nat.one_mul]
    refine ⟨xs ++ ys, by simp [h1, g1, e1], fun j v hj => ?_, fun r row hr => ?_⟩
    · by_cases e : j < n * sz
      · rw [List.getElem?_append_left (by omega)] at hj; exact h2 j v hj
      · rw [List.getElem?_append_right (by omega)] at hj
        have := g2 _ _ hj
        rw [h1, Nat.add_mul, Nat.zero_add] at this
        rwa [show i * sz + n * sz + (j - n * sz) = i * sz + j by omega] at this
    · by_cases e : r < n
      · have hr' : ((rows.drop i).take n)[r]? = some row := by
          simp only [List.getElem?_take, List.getElem?_drop] at hr ⊢
          rw [if_pos e]
          rwa [if_pos (by omega)] at hr
        refine ⟨(h3 r row hr').1, fun o v ho => ?_⟩
        obtain ⟨x, hx, hv⟩ := (h3 r row hr').2 o v ho
        exact ⟨x, by
          have := (List.getElem?_eq_some_iff.1 hx).1
          show (xs ++ ys)[r * sz + o]? = some x
          rw [List.getElem?_append_left this]; exact hx, hv⟩
      · have hrn : r = n := by
          have := (List.getElem?_eq_some_iff.1 hr).1
          simp at this; omega
        subst hrn
        simp only [List.getElem?_take, List.getElem?_drop] at hr
        rw [if_pos (by omega), hi] at hr
        cases hr
        refine ⟨hs, fun o v ho => ?_⟩
        have ho' := (List.getElem?_eq_some_iff.1 ho).1
        have hy : ys[o]? = some ys[o] := by simp [show o < ys.length by omega]
        refine ⟨ys[o], ?_, g3 o v _ (by simpa [List.getElem?_take, ho'] using ho) hy⟩
        show (xs ++ ys)[r * sz + o]? = _
        rw [List.getElem?_append_right (by omega), h1, show r * sz + o - r * sz = o by omega]
        exact hy
theorem CR.append {r1 r2 : List (List AV)} {sz : Nat} {c1 c2 : Array Value} (h1 : CR E r1 sz (c1[·]?)) (h2 : CR E r2 sz (c2[·]?)) (hs : c1.size = r1.length * sz) : CR E (r1 ++ r2) sz ((c1 ++ c2)[·]?) := by
  intro i row hi
  by_cases e : i < r1.length
  · rw [List.getElem?_append_left e] at hi
    refine ⟨(h1 i row hi).1, fun o v ho => ?_⟩
    obtain ⟨x, hx, hv⟩ := (h1 i row hi).2 o v ho
    refine ⟨x, ?_, hv⟩
    have := (Array.getElem?_eq_some_iff.1 hx).1
    show (c1 ++ c2)[i * sz + o]? = some x
    rw [Array.getElem?_append_left this]; exact hx
  · rw [List.getElem?_append_right (by omega)] at hi
    refine ⟨(h2 _ row hi).1, fun o v ho => ?_⟩
    obtain ⟨x, hx, hv⟩ := (h2 _ row hi).2 o v ho
    refine ⟨x, ?_, hv⟩
    show (c1 ++ c2)[i * sz + o]? = some x
    have e2 : i * sz = r1.length * sz + (i - r1.length) * sz := by rw [← Nat.add_mul]; congr 1; omega
    rw [Array.getElem?_append_right (by omega), hs, e2, show r1.length * sz + (i - r1.length) * sz + o - r1.length * sz = (i - r1.length) * sz + o by omega]
    exact hx
theorem CR.one {cs : List AV} {xs : Array Value} (h : VRs E noPl cs xs) (hp : cs.all AV.pub1 = true) (n : Nat) (hn : cs.length = n) : CR E [cs] n (xs[·]?) := by
  intro i row hi
  have : i = 0 := by have := (List.getElem?_eq_some_iff.1 hi).1; simp at this; omega
  subst this
  simp at hi
  subst hi
  refine ⟨hn, fun o v ho => ?_⟩
  have ho' := (List.getElem?_eq_some_iff.1 ho).1
  have hx : xs[o]? = some (xs[o]'(by rw [← h.1]; exact ho')) := by simp [← h.1, ho']
  exact ⟨_, by simpa using hx, h.2 o v _ ho hx, (List.all_eq_true.1 hp) v (List.mem_of_getElem? ho)⟩
theorem CR.zeros {z : List AV} {zs : Array Value} (h : VRs E noPl z zs) (hp : z.all AV.pub1 = true) (hz : 0 < zs.size) (n : Nat) : CR E (List.replicate n z) z.length ((Builtin.zeroCells zs n)[·]?) := by
  intro i row hi
  have hi' := (List.getElem?_eq_some_iff.1 hi).1
  simp at hi'
  rw [List.getElem?_replicate, if_pos hi'] at hi
  cases hi
  refine ⟨rfl, fun o v ho => ?_⟩
  have ho' := (List.getElem?_eq_some_iff.1 ho).1
  have hzl : o < zs.size := by rw [← h.1]; exact ho'
  have hb : i * z.length + o < n * zs.size := by
    rw [h.1]
    have : (i + 1) * zs.size ≤ n * zs.size := Nat.mul_le_mul_right _ (by omega)
    rw [Nat.add_mul] at this; omega
  have hmod : (i * z.length + o) % zs.size = o := by rw [h.1, Nat.mul_comm, Nat.mul_add_mod, Nat.mod_eq_of_lt hzl]
  refine ⟨zs[o], ?_, h.2 o v _ ho (by simp [hzl]), (List.all_eq_true.1 hp) v (List.mem_of_getElem? ho)⟩
  show (Builtin.zeroCells zs n)[i * z.length + o]? = some zs[o]
  simp only [Builtin.zeroCells, Array.getElem?_map, Array.getElem?_range, hb, if_pos, Option.map_some, hmod]
  simp [hzl]
/-- Written cells: a stretch of one row. -/
theorem CR.splice {rows : List (List AV)} {sz i o : Nat} {row ys : List AV} {cs : Array Value} {vs : List Value} (h : CR E rows sz (cs[·]?)) (hi : rows[i]? = some row) (hv : VRs E noPl ys vs.toArray) (hp : ys.all AV.pub1 = true)
    (ho : o + ys.length ≤ row.length) :
    CR E (rows.set i (IM.splice row o ys)) sz ((cs.toList.take (i * sz + o) ++ vs ++ cs.toList.drop (i * sz + o + vs.length)).toArray[·]?) ∧ i * sz + o + vs.length ≤ cs.size := by
  have hl : ys.length = vs.length := by simpa using hv.1
  have hr := (h i row hi).1
  have hil := (List.getElem?_eq_some_iff.1 hi).1
  have hend : i * sz + o + vs.length ≤ cs.size := by
    rcases Nat.eq_zero_or_pos vs.length with e | e
    · by_cases e2 : o < row.length
      · obtain ⟨x, hx, -⟩ := (h i row hi).2 o row[o] (by simp [e2])
        have := (Array.getElem?_eq_some_iff.1 hx).1
        omega
      · by_cases e3 : 0 < row.length
        · obtain ⟨x, hx, -⟩ := (h i row hi).2 (row.length - 1) row[row.length - 1] (by simp [e3])
          have := (Array.getElem?_eq_some_iff.1 hx).1
          omega
        · have e4 : sz = 0 := by omega
          have : o = 0 := by omega
          subst this; subst e4
          simp [e]
    · obtain ⟨x, hx, -⟩ := (h i row hi).2 (o + vs.length - 1) row[o + vs.length - 1] (by simp [show o + vs.length - 1 < row.length by omega])
      have := (Array.getElem?_eq_some_iff.1 hx).1
      omega
  refine ⟨?_, hend⟩
  have get : ∀ k, (cs.toList.take (i * sz + o) ++ vs ++ cs.toList.drop (i * sz + o + vs.length)).toArray[k]? = if i * sz + o ≤ k ∧ k < i * sz + o + vs.length then vs[k - (i * sz + o)]? else cs[k]? := by
    intro k
    simp only [List.getElem?_toArray, List.append_assoc, List.getElem?_append, List.length_take, List.getElem?_take, List.getElem?_drop, Array.length_toList]
    have e1 : min (i * sz + o) cs.size = i * sz + o := by omega
    rw [e1]
    by_cases c1 : k < i * sz + o
    · rw [if_pos c1, if_pos c1, if_neg (by omega)]; simp
    · rw [if_neg c1]
      by_cases c2 : k < i * sz + o + vs.length
      · rw [if_pos (by omega), if_pos ⟨by omega, c2⟩]
      · rw [if_neg (by omega), if_neg (by omega)]
        simp; congr 1; omega
  have slen : (IM.splice row o ys).length = row.length := by simp [IM.splice]; omega
  intro r row' hr'
  by_cases e : r = i
  · subst e
    rw [List.getElem?_set_self hil] at hr'
    cases hr'
    refine ⟨slen.trans hr, fun q v hq => ?_⟩
    show ∃ x, (cs.toList.take (r * sz + o) ++ vs ++ cs.toList.drop (r * sz + o + vs.length)).toArray[r * sz + q]? = some x ∧ _
    rw [get]
    simp only [IM.splice, List.append_assoc, List.getElem?_append, List.length_take, List.getElem?_take, List.getElem?_drop] at hq
    have e1 : min o row.length = o := by omega
    rw [e1] at hq
    by_cases c1 : q < o
    · rw [if_pos c1, if_pos c1] at hq
      rw [if_neg (by omega)]
      exact (h r row hi).2 q v hq
    · rw [if_neg c1] at hq
      by_cases c2 : q - o < ys.length
      · rw [if_pos c2] at hq
        rw [if_pos ⟨by omega, by omega⟩, show r * sz + q - (r * sz + o) = q - o by omega]
        have : (vs.toArray)[q - o]? = some vs[q - o] := by simp [show q - o < vs.length by omega]
        exact ⟨_, by simpa using this, hv.2 _ _ _ hq this, (List.all_eq_true.1 hp) v (List.mem_of_getElem? hq)⟩
      · rw [if_neg c2] at hq
        rw [if_neg (by omega)]
        refine (h r row hi).2 q v ?_
        rwa [show o + ys.length + (q - o - ys.length) = q by omega] at hq
  · rw [List.getElem?_set_ne (Ne.symm e)] at hr'
    refine ⟨(h r row' hr').1, fun q v hq => ?_⟩
    obtain ⟨x, hx, hv'⟩ := (h r row' hr').2 q v hq
    refine ⟨x, ?_, hv'⟩
    show (cs.toList.take (i * sz + o) ++ vs ++ cs.toList.drop (i * sz + o + vs.length)).toArray[r * sz + q]? = some x
    rw [get]
    have hq' := (List.getElem?_eq_some_iff.1 hq).1
    have hr2 := (h r row' hr').1
    rw [if_neg ?_]
    · exact hx
    · rintro ⟨g1, g2⟩
      rcases Nat.lt_or_gt_of_ne e with c | c
      · have : (r + 1) * sz ≤ i * sz := Nat.mul_le_mul_right _ c
        rw [Nat.add_mul] at this; omega
      · have : (i + 1) * sz ≤ r * sz := Nat.mul_le_mul_right _ c
        rw [Nat.add_mul] at this; omega
/-- Written rows. -/
theorem CR.spliceRows {rows ys : List (List AV)} {sz i : Nat} {cs : Array Value} {vs : List Value} (h : CR E rows sz (cs[·]?)) (hv : CR E ys sz (vs.toArray[·]?)) (hl : vs.length = ys.length * sz) (hi : i + ys.length ≤ rows.length) (hend : i * sz + vs.length ≤ cs.size) :
    CR E (IM.splice rows i ys) sz ((cs.toList.take (i * sz) ++ vs ++ cs.toList.drop (i * sz + vs.length)).toArray[·]?) := by
  have get : ∀ k, (cs.toList.take (i * sz) ++ vs ++ cs.toList.drop (i * sz + vs.length)).toArray[k]? = if i * sz ≤ k ∧ k < i * sz + vs.length then vs[k - i * sz]? else cs[k]? := by
    intro k
    simp only [List.getElem?_toArray, List.append_assoc, List.getElem?_append, List.length_take, List.getElem?_take, List.getElem?_drop, Array.length_toList]
    have e1 : min (i * sz) cs.size = i * sz := by omega
    rw [e1]
    by_cases c1 : k < i * sz
    · rw [if_pos c1, if_pos c1, if_neg (by omega)]; simp
    · rw [if_neg c1]
      by_cases c2 : k < i * sz + vs.length
      · rw [if_pos (by omega), if_pos ⟨by omega, c2⟩]
      · rw [if_neg (by omega), if_neg (by omega)]
        simp; congr 1; omega
  intro r row hr
  simp only [IM.splice, List.append_assoc, List.getElem?_append, List.length_take, List.getElem?_take, List.getElem?_drop] at hr
  have e1 : min i rows.length = i := by omega
  rw [e1] at hr
  by_cases c1 : r < i
  · rw [if_pos c1, if_pos c1] at hr
    refine ⟨(h r row hr).1, fun o v ho => ?_⟩
    obtain ⟨x, hx, hv'⟩ := (h r row hr).2 o v ho
    refine ⟨x, ?_, hv'⟩
    show (cs.toList.take (i * sz) ++ vs ++ cs.toList.drop (i * sz + vs.length)).toArray[r * sz + o]? = some x
    have ho' := (List.getElem?_eq_some_iff.1 ho).1
    have hs := (h r row hr).1
    have : (r + 1) * sz ≤ i * sz := Nat.mul_le_mul_right _ c1
    rw [Nat.add_mul] at this
    rw [get, if_neg (by omega)]; exact hx
  · rw [if_neg c1] at hr
    by_cases c2 : r - i < ys.length
    · rw [if_pos c2] at hr
      refine ⟨(hv _ row hr).1, fun o v ho => ?_⟩
      obtain ⟨x, hx, hv'⟩ := (hv _ row hr).2 o v ho
      refine ⟨x, ?_, hv'⟩
      show (cs.toList.take (i * sz) ++ vs ++ cs.toList.drop (i * sz + vs.length)).toArray[r * sz + o]? = some x
      have ho' := (List.getElem?_eq_some_iff.1 ho).1
      have hs := (hv _ row hr).1
      have a1 : r * sz = i * sz + (r - i) * sz := by rw [← Nat.add_mul]; congr 1; omega
      have a2 : (r - i + 1) * sz ≤ ys.length * sz := Nat.mul_le_mul_right _ c2
      rw [Nat.add_mul] at a2
      rw [get, if_pos ⟨by omega, by omega⟩, show r * sz + o - i * sz = (r - i) * sz + o by omega]
      simpa using hx
    · rw [if_neg c2, show i + ys.length + (r - i - ys.length) = r by omega] at hr
      refine ⟨(h r row hr).1, fun o v ho => ?_⟩
      obtain ⟨x, hx, hv'⟩ := (h r row hr).2 o v ho
      refine ⟨x, ?_, hv'⟩
      show (cs.toList.take (i * sz) ++ vs ++ cs.toList.drop (i * sz + vs.length)).toArray[r * sz + o]? = some x
      have a1 : (i + ys.length) * sz ≤ r * sz := Nat.mul_le_mul_right _ (by omega)
      rw [Nat.add_mul] at a1
      rw [get, if_neg (by omega)]; exact hx
theorem CR.size {rows : List (List AV)} {sz i : Nat} {cs : Array Value} (h : CR E rows sz (cs[·]?)) (hz : 0 < sz) (hi : i ≤ rows.length) : i * sz ≤ cs.size := by
  rcases Nat.eq_zero_or_pos i with e | e
  · subst e; simp
  · have hr : rows[i - 1]? = some rows[i - 1] := by simp [show i - 1 < rows.length by omega]
    have hl := (h _ _ hr).1
    obtain ⟨x, hx, -⟩ := (h _ _ hr).2 (sz - 1) rows[i - 1][sz - 1] (by simp [hl, hz])
    have := (Array.getElem?_eq_some_iff.1 hx).1
    have a : i * sz = (i - 1) * sz + sz := by
      have : i = (i - 1) + 1 := by omega
      conv => lhs; rw [this, Nat.add_mul, Nat.one_mul]
    omega
/-- The row is written: what is known behind it. -/
theorem wrote_setRow (w : World) {b : Nat} {cs : Array Value} {ty : TypeId} (h : w.heap[b]? = some (.cells cs ty (0, 0))) (cs' : Array Value) : Wrote w (w.setRow b cs') b cs' where
  at_ := ⟨ty, setRow_heap w b cs cs' ty (0, 0) h⟩
  sz := by simp [World.setRow]
  far k hk := by simp [World.setRow, Array.getElem?_modify, Ne.symm hk]
  os := rfl
  tape := rfl
  output := rfl
/-- A block of one's own is written as setBlk says. -/
theorem Rel.write (h : Rel Ei wi E L l m w) {a : AA} {B B' : Blk} {l' : Loc} {m' : Mem} (hb : blk? l m a = some B) (hs : setBlk l m a B' = some (l', m')) (hz : B'.sz = B.sz) (hne : B.rows ≠ []) :
    ∃ b cs ty, pos E L a = some (b, 0, B.sz) ∧ w.heap[b]? = some (.cells cs ty (0, 0)) ∧ CR E B.rows B.sz (cs[·]?) ∧ ∀ cs', CR E B'.rows B'.sz (cs'[·]?) → Rel Ei wi E L l' m' (w.setRow b cs') := by
  cases a with
  | ro j => simp [setBlk] at hs
  | hp j =>
    obtain ⟨b, h1, -, hh⟩ := h.m.hp j B hb
    obtain ⟨cs, ty, h2, h3⟩ := hh hne
    simp only [setBlk, Option.some.injEq, Prod.mk.injEq] at hs
    obtain ⟨rfl, rfl⟩ := hs
    exact ⟨b, cs, ty, by simp [pos, h1], h2, h3, fun cs' hc => h.wroteHp hb h1 hz hc (wrote_setRow w h2 cs') hne⟩
  | lc j =>
    obtain ⟨b, h1, -, hh⟩ := h.l.at_ j B hb
    obtain ⟨cs, ty, h2, h3⟩ := hh hne
    simp only [setBlk, Option.some.injEq, Prod.mk.injEq] at hs
    obtain ⟨rfl, rfl⟩ := hs
    exact ⟨b, cs, ty, by simp [pos, h1], h2, h3, fun cs' hc => h.wroteLc hb h1 hz hc (wrote_setRow w h2 cs')⟩
end
end Go.Proofs.IM
