/- How an argument that reads as data is told by a kind: whole numbers, floats, bools, strings, slices, structs in line; with what is known of the numbers and sizes in it. No condition. -/
import Derived.Test.YtdjlbfaiccdbfaaWFlt
import Derived.ProofKit
import Derived.Deep.Slices
import Derived.Deep.Fields
namespace Go.Proofs.YtdjlbfaiccdbfaaW.PrintWords
open Go.ChangeShapes Go.WideShapes Go.RowKit Go.Deep

/-- Whatever reads as data of type t is what the kind d says. -/
def Opens {α : Type} (P : Program) (t : TypeId) (d : Kd α) (G : α → Prop) : Prop :=
  ∀ {H : Type} {enc : TypeId × Value → H} {w : World} {base : Nat} {spare : Nat → Bool} {held : Bool} {fuel : Nat} {cs : List Value} {x : DataW H × List MemPlace},
    DataW.trod enc P w base spare held fuel t cs = some x → ∃ a, d.K w a cs ∧ G a
section
variable {P : Program} {t e : TypeId}
theorem opens_int {k : IntKind} (ht : P.underlying t = some (.int k)) : Opens P t (Kd.int k) (fun n => (Lit.int k n).wf = true) := by
  intro H enc w base spare held fuel cs x h
  obtain ⟨n, rfl, _, hw⟩ := DataW.trod_int ht h
  exact ⟨n, rfl, hw⟩
theorem opens_i64 (ht : P.underlying t = some (.int .i64)) : Opens P t (Kd.int .i64) (fun n => -9223372036854775808 ≤ n ∧ n ≤ 9223372036854775807) := by
  intro H enc w base spare held fuel cs x h
  obtain ⟨n, hK, hw⟩ := opens_int ht h
  exact ⟨n, hK, by simpa [Lit.wf, IntKind.min, IntKind.max, IntKind.signed, IntKind.bits] using hw⟩
theorem opens_u8 (ht : P.underlying t = some (.int .u8)) : Opens P t (Kd.int .u8) (fun n => 0 ≤ n ∧ n ≤ 255) := by
  intro H enc w base spare held fuel cs x h
  obtain ⟨n, hK, hw⟩ := opens_int ht h
  exact ⟨n, hK, by simpa [Lit.wf, IntKind.min, IntKind.max, IntKind.signed, IntKind.bits] using hw⟩
theorem opens_bool (ht : P.underlying t = some .bool) : Opens P t Kd.bool (fun _ => True) := by
  intro H enc w base spare held fuel cs x h
  obtain ⟨b, rfl, _⟩ := DataW.trod_bool ht h
  exact ⟨b, rfl, trivial⟩
theorem opens_string (ht : P.underlying t = some .string) : Opens P t Kd.string (fun s => s.size ≤ 9223372036854775807) := by
  intro H enc w base spare held fuel cs x h
  obtain ⟨s, rfl, _, hs⟩ := DataW.trod_string ht h
  exact ⟨s, rfl, hs⟩
theorem opens_flt (ht : P.underlying t = some (.float .f64)) : Opens P t Kd.flt (fun b => b < 18446744073709551616) := by
  intro H enc w base spare held fuel cs x h
  cases fuel with
  | zero => simp [DataW.trod] at h
  | succ n =>
    unfold DataW.trod at h
    rw [ht] at h
    split at h <;> simp_all
    rename_i k1 k2 b1 e1
    subst e1
    exact ⟨b1, rfl, by simpa [Lit.wf] using h.1.2⟩
theorem slice_list {α : Type} {d : Kd α} {G : α → Prop} (hd : Opens P e d G) {H : Type} {enc : TypeId × Value → H} {w : World} {base : Nat} {spare : Nat → Bool} {held : Bool} {n : Nat} {D : Nat → DataW H} {Pl : Nat → List MemPlace} {a : Addr} {m : Nat}
    (hi : ∀ i, i < m → ∃ cs', w.cells? base (a.add (i * P.cellsOf e)) (P.cellsOf e) = some cs' ∧ DataW.trod enc P w base spare held n e cs' = some (D i, Pl i)) :
    ∀ l, l ≤ m → ∃ xs : List α, xs.length = l ∧ (∀ x ∈ xs, G x) ∧ ∀ j p, xs[j]? = some p → ∃ c, c.length = P.cellsOf e ∧ d.K w p c ∧ ∀ i u, c[i]? = some u → w.cell? (a.add (j * P.cellsOf e + i)) = some u := by
  intro l
  induction l with
  | zero => exact fun _ => ⟨[], rfl, fun x hx => by simp at hx, fun j p hj => by simp at hj⟩
  | succ l ih =>
    intro hl
    obtain ⟨xs, h1, h2, h3⟩ := ih (by omega)
    obtain ⟨cs', hc, ht'⟩ := hi l (by omega)
    obtain ⟨q, hK, hG⟩ := hd ht'
    obtain ⟨_, hcl, hat⟩ := World.cells?_some hc
    refine ⟨xs ++ [q], by simp [h1], fun x hx => ?_, fun j p hj => ?_⟩
    · rcases List.mem_append.1 hx with hx | hx
      · exact h2 x hx
      · rw [List.mem_singleton.1 hx]; exact hG
    · rcases Nat.lt_or_ge j xs.length with hlt | hge
      · rw [List.getElem?_append_left hlt] at hj
        exact h3 j p hj
      · rw [List.getElem?_append_right hge] at hj
        have hj0 : j - xs.length = 0 := by
          rcases Nat.eq_zero_or_pos (j - xs.length) with h0 | h0
          · exact h0
          · rw [List.getElem?_eq_none (by simp; omega)] at hj; cases hj
        rw [hj0] at hj
        simp only [List.getElem?_cons_zero, Option.some.injEq] at hj
        subst hj
        obtain rfl : j = l := by omega
        refine ⟨cs', hcl, hK, fun i u hu => ?_⟩
        have hilt : i < P.cellsOf e := by
          rcases Nat.lt_or_ge i cs'.length with h0 | h0
          · omega
          · rw [List.getElem?_eq_none h0] at hu; cases hu
        rw [← Go.Deep.add_add, hat i hilt, hu]
theorem opens_slice {α : Type} {d : Kd α} {G : α → Prop} (ht : P.underlying t = some (.slice e)) (hd : Opens P e d G) (hC : P.cellsOf e = d.sz) : Opens P t (Kd.slice e d) (fun xs => (∀ x ∈ xs, G x) ∧ xs.length ≤ 9223372036854775807) := by
  intro H enc w base spare held fuel cs x h
  rcases open_slice ht h with ⟨rfl, _⟩ | ⟨a, len, cap, m, n, D, Pl, rfl, hb, hl, hm, hmm, _, hi⟩
  · exact ⟨[], ⟨none, 0, rfl, Nat.le_refl _, Kd.C_nil d w⟩, fun x hx => by simp at hx, by simp⟩
  · have hle : len ≤ m := by rw [hmm]; split <;> omega
    obtain ⟨xs, h1, h2, h3⟩ := slice_list hd hi len hle
    simp only [maxLen] at hm
    refine ⟨xs, ⟨some a, cap, by rw [h1], by omega, rfl, by omega, fun _ => ⟨a, rfl, fun j p hj => ?_⟩⟩, h2, by omega⟩
    obtain ⟨c, hcl, hK, hcell⟩ := h3 j p hj
    rw [hC] at hcl hcell
    exact ⟨c, hcl, hK, hcell⟩
end
section
variable {α β : Type} {a : Kd α} {b : Kd β} {w : World} {cs : List Value} {o n : Nat}
theorem pair_from {x : α} {y : β} (h0 : a.K w x ((cs.drop o).take n)) (h1 : b.K w y (cs.drop (o + n))) : (Kd.pair a b).K w (x, y) (cs.drop o) :=
  ⟨(cs.drop o).take n, cs.drop (o + n), by rw [← List.drop_drop, List.take_append_drop], h0, h1⟩
theorem last_from {x : α} (h : a.K w x ((cs.drop o).take n)) (hl : cs.length = o + n) : a.K w x (cs.drop o) := by
  rwa [List.take_of_length_le (by simp; omega)] at h
end
/-- A field of a struct that reads as data. -/
theorem field_opens {α : Type} {P : Program} {d : Kd α} {G : α → Prop} {H : Type} {enc : TypeId × Value → H} {w : World} {base : Nat} {spare : Nat → Bool} {held : Bool} {n : Nat} {cs : List Value} {ys : List (DataW H × List MemPlace)} {fs : Array Field}
    (hyl : ys.length = fs.size) (hf : ∀ (i : Nat) (f : Field), fs[i]? = some f → DataW.trod enc P w base spare held n f.type ((cs.drop f.offset).take (P.cellsOf f.type)) = ys[i]?) (i : Nat) (f : Field) (hi : fs[i]? = some f) (m : Nat) (hm : P.cellsOf f.type = m)
    (ho : Opens P f.type d G) : ∃ x, d.K w x ((cs.drop f.offset).take m) ∧ G x := by
  have h1 := hf i f hi
  have hlt : i < ys.length := by rw [hyl]; exact (Array.getElem?_eq_some_iff.1 hi).1
  rw [List.getElem?_eq_getElem hlt, hm] at h1
  exact ho h1
end Go.Proofs.YtdjlbfaiccdbfaaW.PrintWords
