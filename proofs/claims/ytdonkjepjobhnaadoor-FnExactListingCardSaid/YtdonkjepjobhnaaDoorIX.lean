/- The data of the program, in plain Lean, as rows of cells. -/
import Derived.Test.YtdonkjepjobhnaaDoorIV
namespace Go.Proofs.IM
open Go
structure V where
  k : Int
  n : Int
  f : Nat
  s : ByteArray
  r : Int
def V.av (v : V) : List AV := [.int .i64 v.k, .int .i64 v.n, .flt v.f, .str v.s, .int .i64 v.r]
structure U where
  loc : Bool
  ix : Int
def U.av (u : U) : List AV := [.bool u.loc, .int .i64 u.ix]
structure I where
  op : Int
  a : Int
  b : Int
  c : Int
  d : Int
def I.av (i : I) : List AV := [.int .i64 i.op, .int .i64 i.a, .int .i64 i.b, .int .i64 i.c, .int .i64 i.d]
structure Nm where
  s : ByteArray
  reg : Int
  lo : Int
  hi : Int
def Nm.av (n : Nm) : List AV := [.str n.s, .int .i64 n.reg, .int .i64 n.lo, .int .i64 n.hi]
structure Pr where
  s : ByteArray
  line : Int
  params : Int
  rest : Bool
  regs : Int
  ups : List U
  consts : List V
  ins : List I
  named : List Nm
def Pr.ok (p : Pr) : Prop := p.ups.length < 2 ^ 63 ∧ p.consts.length < 2 ^ 63 ∧ p.ins.length < 2 ^ 63 ∧ p.named.length < 2 ^ 63
abbrev w64 := IntKind.wrap .i64
/-- What a proto's row reads as. -/
structure PrR (m : Mem) (r : List AV) (p : Pr) : Prop where
  ex : ∃ s1 s2 s3 s4, r = [.str p.s, .int .i64 p.line, .int .i64 p.params, .bool p.rest, .int .i64 p.regs, s1, s2, s3, s4] ∧ SlR m 2 s1 (p.ups.map U.av) ∧ SlR m 5 s2 (p.consts.map V.av) ∧ SlR m 5 s3 (p.ins.map I.av) ∧ SlR m 4 s4 (p.named.map Nm.av)
theorem PrR.mono {m m' : Mem} (hm : m.le m') {r : List AV} {p : Pr} (h : PrR m r p) : PrR m' r p :=
  let ⟨s1, s2, s3, s4, h0, h1, h2, h3, h4⟩ := h.ex
  ⟨s1, s2, s3, s4, h0, h1.mono hm, h2.mono hm, h3.mono hm, h4.mono hm⟩
/-- What a slice of protos reads as. -/
def PsR (m : Mem) (s : AV) (ps : List Pr) : Prop := ∃ rs, SlR m 9 s rs ∧ rs.length = ps.length ∧ ∀ (i : Nat) (r : List AV) (p : Pr), rs[i]? = some r → ps[i]? = some p → PrR m r p
theorem PsR.mono {m m' : Mem} (hm : m.le m') {s : AV} {ps : List Pr} (h : PsR m s ps) : PsR m' s ps :=
  let ⟨rs, h1, h2, h3⟩ := h
  ⟨rs, h1.mono hm, h2, fun i r p hr hp => (h3 i r p hr hp).mono hm⟩
theorem PsR.facts {m : Mem} {s : AV} {ps : List Pr} (h : PsR m s ps) : s.pub1 = true ∧ s.pub2 = true ∧ AV.pub s = true ∧ s.cells = [s] := let ⟨_, h1, _⟩ := h; h1.facts
theorem w64_id {x : Int} (h : -9223372036854775808 ≤ x ∧ x < 9223372036854775808) : w64 x = x := by
  have h1 : (IntKind.i64).bits = 64 := rfl
  simp only [w64, IntKind.wrap]
  simp [h1, IntKind.signed]
  omega
/-- A slice in rows of one's own. -/
def SlO (m : Mem) (z : Nat) (s : AV) (rs : List (List AV)) (own : List Nat) : Prop :=
  (s = .nils ∧ rs = [] ∧ own = []) ∨ ∃ (j n c : Nat) (B : Blk), s = .sl (.hp j) 0 n c ∧ m.hp[j]? = some B ∧ B.sz = z ∧ n ≤ B.rows.length ∧ B.rows.take n = rs ∧ own = [j]
theorem SlO.r {m : Mem} {z : Nat} {s : AV} {rs : List (List AV)} {own : List Nat} (h : SlO m z s rs own) : SlR m z s rs := by
  rcases h with ⟨rfl, rfl, rfl⟩ | ⟨j, n, c, B, rfl, h1, h2, h3, h4, rfl⟩
  · rfl
  · exact ⟨fun j' => by simp, B, h1, h2, by omega, by simpa using h4⟩
theorem SlO.ext {m m' : Mem} {z : Nat} {s : AV} {rs : List (List AV)} {own : List Nat} (h : SlO m z s rs own) (he : ∀ j ∈ own, m'.hp[j]? = m.hp[j]?) : SlO m' z s rs own := by
  rcases h with ⟨rfl, rfl, rfl⟩ | ⟨j, n, c, B, rfl, h1, h2, h3, h4, rfl⟩
  · exact .inl ⟨rfl, rfl, rfl⟩
  · exact .inr ⟨j, n, c, B, rfl, (he j (by simp)).trans h1, h2, h3, h4, rfl⟩
def PrO (m : Mem) (r : List AV) (p : Pr) (own : List Nat) : Prop := ∃ s1 s2 s3 s4 o1 o2 o3 o4, r = [.str p.s, .int .i64 p.line, .int .i64 p.params, .bool p.rest, .int .i64 p.regs, s1, s2, s3, s4] ∧
  SlO m 2 s1 (p.ups.map U.av) o1 ∧ SlO m 5 s2 (p.consts.map V.av) o2 ∧ SlO m 5 s3 (p.ins.map I.av) o3 ∧ SlO m 4 s4 (p.named.map Nm.av) o4 ∧ own = o1 ++ o2 ++ o3 ++ o4
theorem PrO.r {m : Mem} {r : List AV} {p : Pr} {own : List Nat} (h : PrO m r p own) : PrR m r p :=
  let ⟨s1, s2, s3, s4, _, _, _, _, h0, h1, h2, h3, h4, _⟩ := h
  ⟨s1, s2, s3, s4, h0, h1.r, h2.r, h3.r, h4.r⟩
theorem PrO.ext {m m' : Mem} {r : List AV} {p : Pr} {own : List Nat} (h : PrO m r p own) (he : ∀ j ∈ own, m'.hp[j]? = m.hp[j]?) : PrO m' r p own := by
  obtain ⟨s1, s2, s3, s4, o1, o2, o3, o4, h0, h1, h2, h3, h4, rfl⟩ := h
  exact ⟨s1, s2, s3, s4, o1, o2, o3, o4, h0, h1.ext fun j hj => he j (by simp [hj]), h2.ext fun j hj => he j (by simp [hj]), h3.ext fun j hj => he j (by simp [hj]), h4.ext fun j hj => he j (by simp [hj]), rfl⟩
/-- Protos in rows of one's own; no two of these are the same. -/
def PsO (m : Mem) (s : AV) (ps : List Pr) (own : List Nat) : Prop := ∃ (rs : List (List AV)) (o : List Nat) (os : List (List Nat)), SlO m 9 s rs o ∧ rs.length = ps.length ∧ os.length = ps.length ∧
  (∀ (i : Nat) (r : List AV) (p : Pr) (w : List Nat), rs[i]? = some r → ps[i]? = some p → os[i]? = some w → PrO m r p w) ∧ own = o ++ os.flatten ∧ own.Nodup
theorem PsO.r {m : Mem} {s : AV} {ps : List Pr} {own : List Nat} (h : PsO m s ps own) : PsR m s ps := by
  obtain ⟨rs, o, os, h1, h2, h3, h4, -, -⟩ := h
  refine ⟨rs, h1.r, h2, fun i r p hr hp => ?_⟩
  have : i < os.length := by have := (List.getElem?_eq_some_iff.1 hp).1; omega
  exact (h4 i r p os[i] hr hp (by simp [this])).r
theorem PsO.ext {m m' : Mem} {s : AV} {ps : List Pr} {own : List Nat} (h : PsO m s ps own) (he : ∀ j ∈ own, m'.hp[j]? = m.hp[j]?) : PsO m' s ps own := by
  obtain ⟨rs, o, os, h1, h2, h3, h4, rfl, h6⟩ := h
  exact ⟨rs, o, os, h1.ext fun j hj => he j (by simp [hj]), h2, h3, fun i r p w hr hp hw => (h4 i r p w hr hp hw).ext fun j hj => he j (by simp only [List.mem_append, List.mem_flatten]; exact .inr ⟨w, List.mem_of_getElem? hw, hj⟩), rfl, h6⟩
/-- A row that is being filled. -/
def fillR {α : Type} (A : List α) (z : α) (i : Nat) : List α := A.take i ++ List.replicate (A.length - i) z
theorem fillR_0 {α : Type} (A : List α) (z : α) : fillR A z 0 = List.replicate A.length z := by simp [fillR]
theorem fillR_end {α : Type} (A : List α) (z : α) : fillR A z A.length = A := by simp [fillR]
theorem fillR_get {α : Type} {A : List α} {z : α} {i : Nat} (h : i < A.length) : (fillR A z i)[i]? = some z := by
  simp only [fillR]
  rw [List.getElem?_append_right (by simp; omega)]
  simp only [List.length_take, List.getElem?_replicate]
  rw [if_pos (by omega)]
theorem fillR_set {α : Type} {A : List α} {z : α} {i : Nat} (h : i < A.length) : (fillR A z i).set i A[i] = fillR A z (i + 1) := by
  have e : A.length - i = (A.length - (i + 1)) + 1 := by omega
  have e2 : A.take (i + 1) = A.take i ++ [A[i]] := by rw [List.take_add_one]; simp [h]
  have e3 : (A.take i).length = i := by simp; omega
  simp only [fillR]
  rw [e, List.replicate_succ, List.set_append, if_neg (by omega), e3, Nat.sub_self, List.set_cons_zero, e2, List.append_assoc]
  rfl
def Pr.fit (p : Pr) : Prop := p.ups.length < 2 ^ 40 ∧ p.consts.length < 2 ^ 40 ∧ p.ins.length < 2 ^ 40 ∧ p.named.length < 2 ^ 40
def Mem.push4 (m : Mem) (p : Pr) : Mem := (((m.push ⟨p.ups.map U.av, 2⟩).push ⟨p.consts.map V.av, 5⟩).push ⟨p.ins.map I.av, 5⟩).push ⟨p.named.map Nm.av, 4⟩
theorem push4_hp (m : Mem) (p : Pr) : (m.push4 p).hp = m.hp ++ [⟨p.ups.map U.av, 2⟩, ⟨p.consts.map V.av, 5⟩, ⟨p.ins.map I.av, 5⟩, ⟨p.named.map Nm.av, 4⟩] := by simp [Mem.push4, Mem.push]
theorem push4_old {m : Mem} {p : Pr} {j : Nat} (h : j < m.hp.length) : (m.push4 p).hp[j]? = m.hp[j]? := by rw [push4_hp, List.getElem?_append_left h]
theorem push4_len {m : Mem} {p : Pr} : (m.push4 p).hp.length = m.hp.length + 4 := by rw [push4_hp]; simp
theorem push4_le (m : Mem) (p : Pr) : m.le (m.push4 p) := ⟨rfl, rfl, fun j B h => (push4_old (List.getElem?_eq_some_iff.1 h).1).trans h⟩
def prRow (k : Nat) (p : Pr) : List AV := [.str p.s, .int .i64 p.line, .int .i64 p.params, .bool p.rest, .int .i64 p.regs, .sl (.hp k) 0 p.ups.length p.ups.length, .sl (.hp (k + 1)) 0 p.consts.length p.consts.length, .sl (.hp (k + 2)) 0 p.ins.length p.ins.length, .sl (.hp (k + 3)) 0 p.named.length p.named.length]
theorem PrO_push4 (m : Mem) (p : Pr) : PrO (m.push4 p) (prRow m.hp.length p) p [m.hp.length, m.hp.length + 1, m.hp.length + 2, m.hp.length + 3] := by
  refine ⟨_, _, _, _, [m.hp.length], [m.hp.length + 1], [m.hp.length + 2], [m.hp.length + 3], rfl, .inr ⟨_, _, _, ⟨p.ups.map U.av, 2⟩, rfl, ?_, rfl, by simp, List.take_of_length_le (by simp), rfl⟩, .inr ⟨_, _, _, ⟨p.consts.map V.av, 5⟩, rfl, ?_, rfl, by simp, List.take_of_length_le (by simp), rfl⟩, .inr ⟨_, _, _, ⟨p.ins.map I.av, 5⟩, rfl, ?_, rfl, by simp, List.take_of_length_le (by simp), rfl⟩, .inr ⟨_, _, _, ⟨p.named.map Nm.av, 4⟩, rfl, ?_, rfl, by simp, List.take_of_length_le (by simp), rfl⟩, rfl⟩ <;>
    rw [push4_hp, List.getElem?_append_right (by omega)] <;> simp
theorem push_at {m : Mem} {B : Blk} : (m.push B).hp[m.hp.length]? = some B := by simp [Mem.push]
theorem push2_0 {m : Mem} {A B : Blk} : ((m.push A).push B).hp[m.hp.length]? = some A := by simp [Mem.push]
theorem push2_1 {m : Mem} {A B : Blk} : ((m.push A).push B).hp[m.hp.length + 1]? = some B := by simp [Mem.push]
theorem push3_0 {m : Mem} {A B D : Blk} : (((m.push A).push B).push D).hp[m.hp.length]? = some A := by simp [Mem.push]
theorem push3_1 {m : Mem} {A B D : Blk} : (((m.push A).push B).push D).hp[m.hp.length + 1]? = some B := by simp [Mem.push]
theorem push3_2 {m : Mem} {A B D : Blk} : (((m.push A).push B).push D).hp[m.hp.length + 2]? = some D := by simp [Mem.push]
theorem push4_0 {m : Mem} {A B D E : Blk} : ((((m.push A).push B).push D).push E).hp[m.hp.length]? = some A := by simp [Mem.push]
theorem push4_1 {m : Mem} {A B D E : Blk} : ((((m.push A).push B).push D).push E).hp[m.hp.length + 1]? = some B := by simp [Mem.push]
theorem push4_2 {m : Mem} {A B D E : Blk} : ((((m.push A).push B).push D).push E).hp[m.hp.length + 2]? = some D := by simp [Mem.push]
theorem push4_3 {m : Mem} {A B D E : Blk} : ((((m.push A).push B).push D).push E).hp[m.hp.length + 3]? = some E := by simp [Mem.push]
theorem push_len {m : Mem} {B : Blk} : (m.push B).hp.length = m.hp.length + 1 := by simp [Mem.push]
theorem push_set {m : Mem} {B B' : Blk} : ({ (m.push B) with hp := (m.push B).hp.set m.hp.length B' } : Mem) = m.push B' := by simp [Mem.push]
end Go.Proofs.IM
