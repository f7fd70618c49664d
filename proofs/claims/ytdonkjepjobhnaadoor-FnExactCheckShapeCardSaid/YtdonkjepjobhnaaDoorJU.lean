/- How the program's types read: the code that comes in, the forms. -/
import Derived.Test.YtdonkjepjobhnaaDoorJT
import Derived.Test.YtdonkjepjobhnaaDoorIT
namespace Go.Proofs.YtdonkjepjobhnaaDoor.IM
open Go Go.Proofs.IM Go.RowKit Go.ChangeShapes Go.WideShapes
set_option maxRecDepth 100000
theorem oI : Opn Tryd.prog 3 1 (fun _ (n : Int) cs => cs = [.int .i64 n]) i64 (fun n H d => d = .lit (.int .i64 n)) := opn_i64 Tryd.underlying3 (by kernel_rfl)
theorem oI64 : Opn Tryd.prog 2 1 (fun _ (n : Int) cs => cs = [.int .i64 n]) i64 (fun n H d => d = .lit (.int .i64 n)) := opn_i64 Tryd.underlying2 (by kernel_rfl)
theorem oB : Opn Tryd.prog 4 1 (fun _ (b : Bool) cs => cs = [.bool b]) (fun _ => True) anyD := opn_bool Tryd.underlying4 (by kernel_rfl)
theorem oS : Opn Tryd.prog 9 1 (fun _ (s : ByteArray) cs => cs = [.string s]) (fun s => s.size ≤ 9223372036854775807) anyD := opn_str Tryd.underlying9 (by kernel_rfl)
theorem oF : Opn Tryd.prog 33 1 (fun _ (b : Nat) cs => cs = [.float .f64 b]) (fun b => b < 18446744073709551616) anyD := opn_flt Tryd.underlying33 (by kernel_rfl)
theorem oV : Opn Tryd.prog 35 5 (fun _ v cs => cs = V.vals v) V.good anyD := by
  refine ⟨by kernel_rfl, fun {H enc w base held fuel cs x} h => ?_⟩
  obtain ⟨ys, n, _, _, hlen, hyl, hf⟩ := DataW.trod_struct Tryd.underlying35 h
  obtain ⟨x0, h0, g0⟩ := fld_opn hyl hf 0 _ rfl oI
  obtain ⟨x1, h1, g1⟩ := fld_opn hyl hf 1 _ rfl oI64
  obtain ⟨x2, h2, g2⟩ := fld_opn hyl hf 2 _ rfl oF
  obtain ⟨x3, h3, g3⟩ := fld_opn hyl hf 3 _ rfl oS
  obtain ⟨x4, h4, g4⟩ := fld_opn hyl hf 4 _ rfl oI
  have hc : cs.length = 5 := hlen.trans (by kernel_rfl)
  refine ⟨hc, ⟨x0, x1, x2, x3, x4⟩, list_ext_n hc fun i hi => ?_, ⟨g0, g1, g2, g3, g4⟩, trivial⟩
  rcases i with _ | _ | _ | _ | _ | i
  · exact take1 h0
  · exact take1 h1
  · exact take1 h2
  · exact take1 h3
  · exact take1 h4
  · simp [V.vals] at hi; omega
theorem oU : Opn Tryd.prog 217 2 (fun _ v cs => cs = U.vals v) (fun u => i64 u.ix) anyD := by
  refine ⟨by kernel_rfl, fun {H enc w base held fuel cs x} h => ?_⟩
  obtain ⟨ys, n, _, _, hlen, hyl, hf⟩ := DataW.trod_struct Tryd.underlying217 h
  obtain ⟨x0, h0, g0⟩ := fld_opn hyl hf 0 _ rfl oB
  obtain ⟨x1, h1, g1⟩ := fld_opn hyl hf 1 _ rfl oI
  have hc : cs.length = 2 := hlen.trans (by kernel_rfl)
  refine ⟨hc, ⟨x0, x1⟩, list_ext_n hc fun i hi => ?_, g1, trivial⟩
  rcases i with _ | _ | i
  · exact take1 h0
  · exact take1 h1
  · simp [U.vals] at hi; omega
theorem oN : Opn Tryd.prog 219 5 (fun _ v cs => cs = I.vals v) I.good anyD := by
  refine ⟨by kernel_rfl, fun {H enc w base held fuel cs x} h => ?_⟩
  obtain ⟨ys, n, _, _, hlen, hyl, hf⟩ := DataW.trod_struct Tryd.underlying219 h
  obtain ⟨x0, h0, g0⟩ := fld_opn hyl hf 0 _ rfl oI
  obtain ⟨x1, h1, g1⟩ := fld_opn hyl hf 1 _ rfl oI
  obtain ⟨x2, h2, g2⟩ := fld_opn hyl hf 2 _ rfl oI
  obtain ⟨x3, h3, g3⟩ := fld_opn hyl hf 3 _ rfl oI
  obtain ⟨x4, h4, g4⟩ := fld_opn hyl hf 4 _ rfl oI
  have hc : cs.length = 5 := hlen.trans (by kernel_rfl)
  refine ⟨hc, ⟨x0, x1, x2, x3, x4⟩, list_ext_n hc fun i hi => ?_, ⟨g0, g1, g2, g3, g4⟩, trivial⟩
  rcases i with _ | _ | _ | _ | _ | i
  · exact take1 h0
  · exact take1 h1
  · exact take1 h2
  · exact take1 h3
  · exact take1 h4
  · simp [I.vals] at hi; omega
theorem oNm : Opn Tryd.prog 215 4 (fun _ v cs => cs = Nm.vals v) Nm.good anyD := by
  refine ⟨by kernel_rfl, fun {H enc w base held fuel cs x} h => ?_⟩
  obtain ⟨ys, n, _, _, hlen, hyl, hf⟩ := DataW.trod_struct Tryd.underlying215 h
  obtain ⟨x0, h0, g0⟩ := fld_opn hyl hf 0 _ rfl oS
  obtain ⟨x1, h1, g1⟩ := fld_opn hyl hf 1 _ rfl oI
  obtain ⟨x2, h2, g2⟩ := fld_opn hyl hf 2 _ rfl oI
  obtain ⟨x3, h3, g3⟩ := fld_opn hyl hf 3 _ rfl oI
  have hc : cs.length = 4 := hlen.trans (by kernel_rfl)
  refine ⟨hc, ⟨x0, x1, x2, x3⟩, list_ext_n hc fun i hi => ?_, ⟨g0, g1, g2, g3⟩, trivial⟩
  rcases i with _ | _ | _ | _ | i
  · exact take1 h0
  · exact take1 h1
  · exact take1 h2
  · exact take1 h3
  · simp [Nm.vals] at hi; omega
theorem oP : Opn Tryd.prog 153 9 RdP Pr.good anyD := by
  refine ⟨by kernel_rfl, fun {H enc w base held fuel cs x} h => ?_⟩
  obtain ⟨ys, n, _, _, hlen, hyl, hf⟩ := DataW.trod_struct Tryd.underlying153 h
  obtain ⟨x0, h0, g0⟩ := fld_opn hyl hf 0 _ rfl oS
  obtain ⟨x1, h1, g1⟩ := fld_opn hyl hf 1 _ rfl oI
  obtain ⟨x2, h2, g2⟩ := fld_opn hyl hf 2 _ rfl oI
  obtain ⟨x3, h3, g3⟩ := fld_opn hyl hf 3 _ rfl oB
  obtain ⟨x4, h4, g4⟩ := fld_opn hyl hf 4 _ rfl oI
  obtain ⟨x5, ⟨v5, h5, r5⟩, g5⟩ := fld_opn hyl hf 5 _ rfl (opn_slice Tryd.underlying148 (by kernel_rfl) (by decide) oU)
  obtain ⟨x6, ⟨v6, h6, r6⟩, g6⟩ := fld_opn hyl hf 6 _ rfl (opn_slice Tryd.underlying149 (by kernel_rfl) (by decide) oV)
  obtain ⟨x7, ⟨v7, h7, r7⟩, g7⟩ := fld_opn hyl hf 7 _ rfl (opn_slice Tryd.underlying150 (by kernel_rfl) (by decide) oN)
  obtain ⟨x8, ⟨v8, h8, r8⟩, g8⟩ := fld_opn hyl hf 8 _ rfl (opn_slice Tryd.underlying151 (by kernel_rfl) (by decide) oNm)
  have hc : cs.length = 9 := hlen.trans (by kernel_rfl)
  refine ⟨hc, ⟨x0, x1, x2, x3, x4, x5, x6, x7, x8⟩, ⟨v5, v6, v7, v8, list_ext_n hc fun i hi => ?_, r5, r6, r7, r8⟩, ⟨g0, g1, g2, g4, g5.1, g6.1, g7.1, g8.1, g5.2, g6.2, g7.2, g8.2⟩, trivial⟩
  rcases i with _ | _ | _ | _ | _ | _ | _ | _ | _ | i
  · exact take1 h0
  · exact take1 h1
  · exact take1 h2
  · exact take1 h3
  · exact take1 h4
  · exact take1 h5
  · exact take1 h6
  · exact take1 h7
  · exact take1 h8
  · simp at hi; omega
theorem oC : Opn Tryd.prog 43 1 (fun w (ps : List Pr) cs => ∃ v, cs = [v] ∧ RdSl 9 RdP w ps v) (fun ps => ps.length ≤ 9223372036854775807 ∧ ∀ p ∈ ps, p.good) anyD := by
  refine ⟨by kernel_rfl, fun {H enc w base held fuel cs x} h => ?_⟩
  obtain ⟨ys, n, _, _, hlen, hyl, hf⟩ := DataW.trod_struct Tryd.underlying43 h
  obtain ⟨x0, ⟨v, h0, r0⟩, g0⟩ := fld_opn hyl hf 0 _ rfl (opn_slice Tryd.underlying41 (by kernel_rfl) (by decide) oP)
  have hc : cs.length = 1 := hlen.trans (by kernel_rfl)
  refine ⟨hc, x0, ⟨v, list_ext_n hc fun i hi => ?_, r0⟩, g0, trivial⟩
  rcases i with _ | i
  · exact take1 h0
  · simp at hi
theorem oForm : Opn Tryd.prog 160 4 (fun _ (r : List Int) cs => cs = rI r ∧ r.length = 4) (fun _ => True) (fun r H d => d = .agg (r.map fun n => .lit (.int .i64 n))) := by
  refine ⟨by kernel_rfl, fun {H enc w base held fuel cs x} h => ?_⟩
  obtain ⟨xs, m, rfl, rfl, hlen, hxl, hel⟩ := DataW.trod_array Tryd.underlying160 h
  have hz : Tryd.prog.cellsOf 158 = 1 := by kernel_rfl
  have hc : cs.length = 4 := hlen.trans (by kernel_rfl)
  have el : ∀ (i : Nat), i < 4 → ∃ n : Int, (cs.drop i).take 1 = [.int .i64 n] ∧ (xs[i]?).map Prod.fst = some (.lit (.int .i64 n)) := by
    intro i hi
    have h1 := hel i hi
    rw [hz, Nat.mul_one, List.getElem?_eq_getElem (by omega)] at h1
    obtain ⟨n, e1, e2, -⟩ := DataW.trod_int Tryd.underlying158 h1
    exact ⟨n, e1, by rw [List.getElem?_eq_getElem (by omega), Option.map_some, e2]⟩
  obtain ⟨n0, a0, b0⟩ := el 0 (by decide)
  obtain ⟨n1, a1, b1⟩ := el 1 (by decide)
  obtain ⟨n2, a2, b2⟩ := el 2 (by decide)
  obtain ⟨n3, a3, b3⟩ := el 3 (by decide)
  refine ⟨hc, [n0, n1, n2, n3], ⟨list_ext_n hc fun i hi => ?_, rfl⟩, trivial, ?_⟩
  · rcases i with _ | _ | _ | _ | i
    · exact take1 a0
    · exact take1 a1
    · exact take1 a2
    · exact take1 a3
    · simp [rI] at hi; omega
  · simp only [DataW.agg.injEq]
    apply List.ext_getElem?
    intro i
    rcases i with _ | _ | _ | _ | i
    · simpa using b0
    · simpa using b1
    · simpa using b2
    · simpa using b3
    · rw [List.getElem?_eq_none (by simp; omega), List.getElem?_eq_none (by simp)]
theorem oForms : Opn Tryd.prog 161 1 (fun w xs cs => ∃ v, cs = [v] ∧ RdSl 4 (fun _ (r : List Int) cs => cs = rI r ∧ r.length = 4) w xs v) (fun xs => xs.length ≤ 9223372036854775807 ∧ ∀ x ∈ xs, True)
      (fun xs H d => ∀ (es spare : List (DataW H)), d = .slice es spare → es.length = xs.length ∧ ∀ (j : Nat) (x : List Int) (y : DataW H), xs[j]? = some x → es[j]? = some y → y = .agg (x.map fun n => .lit (.int .i64 n))) :=
  opn_slice Tryd.underlying161 (by kernel_rfl) (by decide) oForm
end Go.Proofs.YtdonkjepjobhnaaDoor.IM
