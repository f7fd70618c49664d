/- Contracts of Go functions: each call comes to what a plain Lean function of the same name says; text written by a program of this workplace (wip/patch_print.py over the kit's print). -/
import Derived.Test.YtdjlbfaiccdbfaaPAllx0
import Derived.Test.YtdjlbfaiccdbfaaPAllx2
import Derived.Test.YtdjlbfaiccdbfaaPAllx4
import Derived.Test.YtdjlbfaiccdbfaaPAllx7
import Derived.Test.YtdjlbfaiccdbfaaPAllx10
namespace Go.Proofs.Ytdjlbfaiccdbfaa.PAll
open Go.RowKit Go.Proofs.YtdjlbfaiccdbfaaW.PrintWords Go.Proofs.YtdjlbfaiccdbfaaW.PrintLast Go.Proofs.YtdjlbfaiccdbfaaW.PrintMore
attribute [local go_sem] max2_int min2_int max_two min_two max_three min_three max_four min_four   -- for this text's walks alone
set_option linter.unusedVariables false
set_option linter.unusedSimpArgs false

/-! ### spec_Unary: function 30 -/
mutual
def spec_Unary.j0 : Nat → Int → Bool → Int → Int → Nat → ByteArray → Int → Option (Int × Int × Int × Nat × ByteArray × Int)
  | 0, _, _, _, _, _, _, _ => none
  | k + 1, x0, x22, x330000, x330001, x330002, x330003, x330004 => if x22 = true then ((spec_l1int.f (wrap64 (-x330001))).bind fun bt350 => ((spec_l1got.f bt350.1 bt350.2.1 bt350.2.2.1 bt350.2.2.2.1 bt350.2.2.2.2).bind fun bt355 => (some (bt355.1, bt355.2.1, bt355.2.2.1, bt355.2.2.2.1, bt355.2.2.2.2.1, bt355.2.2.2.2.2)))) else (if x0 = 19 then (spec_Unary.j1 k x0 (x330000 == 3) x330000 x330001 x330002 x330003 x330004) else (spec_Unary.j1 k x0 false x330000 x330001 x330002 x330003 x330004))
def spec_Unary.j1 : Nat → Int → Bool → Int → Int → Nat → ByteArray → Int → Option (Int × Int × Int × Nat × ByteArray × Int)
  | 0, _, _, _, _, _, _, _ => none
  | k + 1, x0, x34, x330000, x330001, x330002, x330003, x330004 => if x34 = true then ((spec_l1flt.f (fneg x330002)).bind fun bt361 => ((spec_l1got.f bt361.1 bt361.2.1 bt361.2.2.1 bt361.2.2.2.1 bt361.2.2.2.2).bind fun bt366 => (some (bt366.1, bt366.2.1, bt366.2.2.1, bt366.2.2.2.1, bt366.2.2.2.2.1, bt366.2.2.2.2.2)))) else (if x0 = 20 then (spec_Unary.j2 k x0 (x330000 == 2) x330000 x330001 x330002 x330003 x330004) else (spec_Unary.j2 k x0 false x330000 x330001 x330002 x330003 x330004))
def spec_Unary.j2 : Nat → Int → Bool → Int → Int → Nat → ByteArray → Int → Option (Int × Int × Int × Nat × ByteArray × Int)
  | 0, _, _, _, _, _, _, _ => none
  | k + 1, x0, x46, x330000, x330001, x330002, x330003, x330004 => if x46 = true then ((spec_l1int.f (Go.bits .xor .i64 (-1) x330001)).bind fun bt372 => ((spec_l1got.f bt372.1 bt372.2.1 bt372.2.2.1 bt372.2.2.2.1 bt372.2.2.2.2).bind fun bt377 => (some (bt377.1, bt377.2.1, bt377.2.2.1, bt377.2.2.2.1, bt377.2.2.2.2.1, bt377.2.2.2.2.2)))) else (if x0 = 22 then (spec_Unary.j3 k (x330000 == 4) x330000 x330001 x330002 x330003 x330004) else (spec_Unary.j3 k false x330000 x330001 x330002 x330003 x330004))
def spec_Unary.j3 : Nat → Bool → Int → Int → Nat → ByteArray → Int → Option (Int × Int × Int × Nat × ByteArray × Int)
  | 0, _, _, _, _, _, _ => none
  | k + 1, x58, x330000, x330001, x330002, x330003, x330004 => if x58 = true then ((spec_l1int.f (x330003.size : Int)).bind fun bt383 => ((spec_l1got.f bt383.1 bt383.2.1 bt383.2.2.1 bt383.2.2.2.1 bt383.2.2.2.2).bind fun bt388 => (some (bt388.1, bt388.2.1, bt388.2.2.1, bt388.2.2.2.1, bt388.2.2.2.2.1, bt388.2.2.2.2.2)))) else ((spec_l1fail.f 1).bind fun bt394 => (some (bt394.1, bt394.2.1, bt394.2.2.1, bt394.2.2.2.1, bt394.2.2.2.2.1, bt394.2.2.2.2.2)))
end
def spec_Unary.f (k : Nat) (a0 : Int) (a1_0 : Int) (a1_1 : Int) (a1_2 : Nat) (a1_3 : ByteArray) (a1_4 : Int) : Option (Int × Int × Int × Nat × ByteArray × Int) := (spec_ValueOk.f k a1_0 a1_1 a1_2 a1_3 a1_4).bind fun t331 => (if t331 = true then (if a0 = 21 then ((spec_Truth.f k a1_0 a1_1 a1_2 a1_3 a1_4).bind fun t338 => ((spec_l1bool.f (!t338)).bind fun bt339 => ((spec_l1got.f bt339.1 bt339.2.1 bt339.2.2.1 bt339.2.2.2.1 bt339.2.2.2.2).bind fun bt344 => (some (bt344.1, bt344.2.1, bt344.2.2.1, bt344.2.2.2.1, bt344.2.2.2.2.1, bt344.2.2.2.2.2))))) else (if a0 = 19 then (spec_Unary.j0 k a0 (a1_0 == 2) a1_0 a1_1 a1_2 a1_3 a1_4) else (spec_Unary.j0 k a0 false a1_0 a1_1 a1_2 a1_3 a1_4))) else ((spec_l1fail.f 1).bind fun bt332 => (some (bt332.1, bt332.2.1, bt332.2.2.1, bt332.2.2.2.1, bt332.2.2.2.2.1, bt332.2.2.2.2.2))))
theorem spec_Unary.mono_l : ∀ k, (∀ y0 y1 y2 y3 y4 y5 y6, LeO (spec_Unary.j0 k y0 y1 y2 y3 y4 y5 y6) (spec_Unary.j0 (k + 1) y0 y1 y2 y3 y4 y5 y6)) ∧ (∀ y0 y1 y2 y3 y4 y5 y6, LeO (spec_Unary.j1 k y0 y1 y2 y3 y4 y5 y6) (spec_Unary.j1 (k + 1) y0 y1 y2 y3 y4 y5 y6)) ∧ (∀ y0 y1 y2 y3 y4 y5 y6, LeO (spec_Unary.j2 k y0 y1 y2 y3 y4 y5 y6) (spec_Unary.j2 (k + 1) y0 y1 y2 y3 y4 y5 y6)) ∧ (∀ y0 y1 y2 y3 y4 y5, LeO (spec_Unary.j3 k y0 y1 y2 y3 y4 y5) (spec_Unary.j3 (k + 1) y0 y1 y2 y3 y4 y5))
  | 0 => ⟨fun _ _ _ _ _ _ _ r h => by simp [spec_Unary.j0] at h, fun _ _ _ _ _ _ _ r h => by simp [spec_Unary.j1] at h, fun _ _ _ _ _ _ _ r h => by simp [spec_Unary.j2] at h, fun _ _ _ _ _ _ r h => by simp [spec_Unary.j3] at h⟩
  | k + 1 => by
    obtain ⟨ih0, ih1, ih2, ih3⟩ := spec_Unary.mono_l k
    refine ⟨?_, ?_, ?_, ?_⟩
    · intro y0 y1 y2 y3 y4 y5 y6
      unfold spec_Unary.j0
      repeat' first
      | (with_reducible exact ih0 _ _ _ _ _ _ _)
      | (with_reducible exact ih1 _ _ _ _ _ _ _)
      | (with_reducible exact ih2 _ _ _ _ _ _ _)
      | (with_reducible exact ih3 _ _ _ _ _ _)
      | (with_reducible exact spec_Truth.mono _ _ _ _ _ _)
      | (with_reducible exact spec_ValueOk.mono _ _ _ _ _ _)
      | (with_reducible exact LeO.refl _)
      | (with_reducible exact LeO.none _)
      | (with_reducible refine LeO.ite ?_ ?_)
      | (with_reducible refine LeO.bind ?_ (fun _ => ?_))
      | exact ih0 _ _ _ _ _ _ _
      | exact ih1 _ _ _ _ _ _ _
      | exact ih2 _ _ _ _ _ _ _
      | exact ih3 _ _ _ _ _ _
      | exact spec_Truth.mono _ _ _ _ _ _
      | exact spec_ValueOk.mono _ _ _ _ _ _
      | exact LeO.none _
      | refine LeO.ite ?_ ?_
      | refine LeO.bind ?_ (fun _ => ?_)
    · intro y0 y1 y2 y3 y4 y5 y6
      unfold spec_Unary.j1
      repeat' first
      | (with_reducible exact ih0 _ _ _ _ _ _ _)
      | (with_reducible exact ih1 _ _ _ _ _ _ _)
      | (with_reducible exact ih2 _ _ _ _ _ _ _)
      | (with_reducible exact ih3 _ _ _ _ _ _)
      | (with_reducible exact spec_Truth.mono _ _ _ _ _ _)
      | (with_reducible exact spec_ValueOk.mono _ _ _ _ _ _)
      | (with_reducible exact LeO.refl _)
      | (with_reducible exact LeO.none _)
      | (with_reducible refine LeO.ite ?_ ?_)
      | (with_reducible refine LeO.bind ?_ (fun _ => ?_))
      | exact ih0 _ _ _ _ _ _ _
      | exact ih1 _ _ _ _ _ _ _
      | exact ih2 _ _ _ _ _ _ _
      | exact ih3 _ _ _ _ _ _
      | exact spec_Truth.mono _ _ _ _ _ _
      | exact spec_ValueOk.mono _ _ _ _ _ _
      | exact LeO.none _
      | refine LeO.ite ?_ ?_
      | refine LeO.bind ?_ (fun _ => ?_)
    · intro y0 y1 y2 y3 y4 y5 y6
      unfold spec_Unary.j2
      repeat' first
      | (with_reducible exact ih0 _ _ _ _ _ _ _)
      | (with_reducible exact ih1 _ _ _ _ _ _ _)
      | (with_reducible exact ih2 _ _ _ _ _ _ _)
      | (with_reducible exact ih3 _ _ _ _ _ _)
      | (with_reducible exact spec_Truth.mono _ _ _ _ _ _)
      | (with_reducible exact spec_ValueOk.mono _ _ _ _ _ _)
      | (with_reducible exact LeO.refl _)
      | (with_reducible exact LeO.none _)
      | (with_reducible refine LeO.ite ?_ ?_)
      | (with_reducible refine LeO.bind ?_ (fun _ => ?_))
      | exact ih0 _ _ _ _ _ _ _
      | exact ih1 _ _ _ _ _ _ _
      | exact ih2 _ _ _ _ _ _ _
      | exact ih3 _ _ _ _ _ _
      | exact spec_Truth.mono _ _ _ _ _ _
      | exact spec_ValueOk.mono _ _ _ _ _ _
      | exact LeO.none _
      | refine LeO.ite ?_ ?_
      | refine LeO.bind ?_ (fun _ => ?_)
    · intro y0 y1 y2 y3 y4 y5
      unfold spec_Unary.j3
      repeat' first
      | (with_reducible exact ih0 _ _ _ _ _ _ _)
      | (with_reducible exact ih1 _ _ _ _ _ _ _)
      | (with_reducible exact ih2 _ _ _ _ _ _ _)
      | (with_reducible exact ih3 _ _ _ _ _ _)
      | (with_reducible exact spec_Truth.mono _ _ _ _ _ _)
      | (with_reducible exact spec_ValueOk.mono _ _ _ _ _ _)
      | (with_reducible exact LeO.refl _)
      | (with_reducible exact LeO.none _)
      | (with_reducible refine LeO.ite ?_ ?_)
      | (with_reducible refine LeO.bind ?_ (fun _ => ?_))
      | exact ih0 _ _ _ _ _ _ _
      | exact ih1 _ _ _ _ _ _ _
      | exact ih2 _ _ _ _ _ _ _
      | exact ih3 _ _ _ _ _ _
      | exact spec_Truth.mono _ _ _ _ _ _
      | exact spec_ValueOk.mono _ _ _ _ _ _
      | exact LeO.none _
      | refine LeO.ite ?_ ?_
      | refine LeO.bind ?_ (fun _ => ?_)
theorem spec_Unary.mono : ∀ a0 a1 a2 a3 a4 a5 k, LeO (spec_Unary.f k a0 a1 a2 a3 a4 a5) (spec_Unary.f (k + 1) a0 a1 a2 a3 a4 a5) := by
  intro a0 a1 a2 a3 a4 a5 k
  obtain ⟨ih0, ih1, ih2, ih3⟩ := spec_Unary.mono_l k
  unfold spec_Unary.f
  repeat' first
      | (with_reducible exact ih0 _ _ _ _ _ _ _)
      | (with_reducible exact ih1 _ _ _ _ _ _ _)
      | (with_reducible exact ih2 _ _ _ _ _ _ _)
      | (with_reducible exact ih3 _ _ _ _ _ _)
      | (with_reducible exact spec_Truth.mono _ _ _ _ _ _)
      | (with_reducible exact spec_ValueOk.mono _ _ _ _ _ _)
      | (with_reducible exact LeO.refl _)
      | (with_reducible exact LeO.none _)
      | (with_reducible refine LeO.ite ?_ ?_)
      | (with_reducible refine LeO.bind ?_ (fun _ => ?_))
      | exact ih0 _ _ _ _ _ _ _
      | exact ih1 _ _ _ _ _ _ _
      | exact ih2 _ _ _ _ _ _ _
      | exact ih3 _ _ _ _ _ _
      | exact spec_Truth.mono _ _ _ _ _ _
      | exact spec_ValueOk.mono _ _ _ _ _ _
      | exact LeO.none _
      | refine LeO.ite ?_ ?_
      | refine LeO.bind ?_ (fun _ => ?_)
set_option maxHeartbeats 8000000 in
set_option maxRecDepth 100000 in
theorem spec_Unary.calls (k : Nat) (a0 : Int) (a1_0 : Int) (a1_1 : Int) (a1_2 : Nat) (a1_3 : ByteArray) (a1_4 : Int) (r1 : Int) (r2 : Int) (r3 : Int) (r4 : Nat) (r5 : ByteArray) (r6 : Int) (w : World) (h : spec_Unary.f k a0 a1_0 a1_1 a1_2 a1_3 a1_4 = some (r1, r2, r3, r4, r5, r6)) :
    Calls Try.prog 30 #[.int .i64 a0, .agg #[.int .i64 a1_0, .int .i64 a1_1, .float .f64 a1_2, .string a1_3, .int .i64 a1_4]] w fun e w' => e = .returned (.agg #[.int .i64 r1, .int .i64 r2, .int .i64 r3, .float .f64 r4, .string r5, .int .i64 r6]) ∧ Below w.heap.size w w' := by
  have hu28 := Try.underlying28
  have hu41 := Try.underlying41
  have HB := Aside0.mk (Below.refl w.heap.size w)
  have H : ((spec_ValueOk.f k a1_0 a1_1 a1_2 a1_3 a1_4).bind fun t331 => (if t331 = true then (if a0 = 21 then ((spec_Truth.f k a1_0 a1_1 a1_2 a1_3 a1_4).bind fun t338 => ((spec_l1bool.f (!t338)).bind fun bt339 => ((spec_l1got.f bt339.1 bt339.2.1 bt339.2.2.1 bt339.2.2.2.1 bt339.2.2.2.2).bind fun bt344 => (some (bt344.1, bt344.2.1, bt344.2.2.1, bt344.2.2.2.1, bt344.2.2.2.2.1, bt344.2.2.2.2.2))))) else (if a0 = 19 then (spec_Unary.j0 k a0 (a1_0 == 2) a1_0 a1_1 a1_2 a1_3 a1_4) else (spec_Unary.j0 k a0 false a1_0 a1_1 a1_2 a1_3 a1_4))) else ((spec_l1fail.f 1).bind fun bt332 => (some (bt332.1, bt332.2.1, bt332.2.2.1, bt332.2.2.2.1, bt332.2.2.2.2.1, bt332.2.2.2.2.2))))) = some (r1, r2, r3, r4, r5, r6) := h
  clear h
  replace H := Option.bind_eq_some_iff.mp H
  obtain ⟨t331, A30, H⟩ := H
  replace H : (if t331 = true then (if a0 = 21 then ((spec_Truth.f k a1_0 a1_1 a1_2 a1_3 a1_4).bind fun t338 => ((spec_l1bool.f (!t338)).bind fun bt339 => ((spec_l1got.f bt339.1 bt339.2.1 bt339.2.2.1 bt339.2.2.2.1 bt339.2.2.2.2).bind fun bt344 => (some (bt344.1, bt344.2.1, bt344.2.2.1, bt344.2.2.2.1, bt344.2.2.2.2.1, bt344.2.2.2.2.2))))) else (if a0 = 19 then (spec_Unary.j0 k a0 (a1_0 == 2) a1_0 a1_1 a1_2 a1_3 a1_4) else (spec_Unary.j0 k a0 false a1_0 a1_1 a1_2 a1_3 a1_4))) else ((spec_l1fail.f 1).bind fun bt332 => (some (bt332.1, bt332.2.1, bt332.2.2.1, bt332.2.2.2.1, bt332.2.2.2.2.1, bt332.2.2.2.2.2)))) = some (r1, r2, r3, r4, r5, r6) := H
  have A3 := Aside0.mk A30
  clear A30
  by_cases c4 : t331 = true
  rotate_left 1
  · replace c4 := Bool.eq_false_iff.mpr c4
    subst c4
    have H1 : ((spec_l1fail.f 1).bind fun bt332 => (some (bt332.1, bt332.2.1, bt332.2.2.1, bt332.2.2.2.1, bt332.2.2.2.2.1, bt332.2.2.2.2.2))) = some (r1, r2, r3, r4, r5, r6) := by rw [if_neg (show ¬ (false = true) by decide)] at H; exact H
    clear H
    have H := H1
    clear H1
    replace H := Option.bind_eq_some_iff.mp H
    obtain ⟨⟨t332, t333, t334, t335, t336, t337⟩, A760, H⟩ := H
    replace H : (some (t332, t333, t334, t335, t336, t337)) = some (r1, r2, r3, r4, r5, r6) := H
    have A76 := Aside0.mk A760
    clear A760
    simp only [Option.some.injEq, Prod.mk.injEq] at H
    obtain ⟨rfl, rfl, rfl, rfl, rfl, rfl⟩ := H
    go_enter Try.func30, Try.ntmps30
    go_wp2_with (first | ((with_reducible refine gate_dst (N := 3) rfl ?_); refine box_event rfl (N := 3) rfl (cs := #[.int .i64 a1_0, .int .i64 a1_1, .float .f64 a1_2, .string a1_3, .int .i64 a1_4]) (t := 28) (by first | (go_simp; done) | (go_simp; rfl)) ?_; intro gb329 hg w77 hbox hb; have BK329 := Aside0.mk (hbox); have GW329 := (gws hg (hbe HB.out) : Aside0 (w.heap.size ≤ gb329)); have GE329 := (gws hg (hbe HB.out) : Aside0 (w.heap.size ≤ gb329)); replace HB := hbs HB.out hb; clear hb hbox hg) | ((with_reducible refine gate_dst (N := 4) rfl ?_); refine box_event rfl (N := 4) rfl (cs := #[.int .i64 0, .int .i64 0, .int .i64 0, .float .f64 0, .string (⟨#[]⟩ : ByteArray), .int .i64 0]) (t := 41) (by first | (go_simp; done) | (go_simp; rfl)) ?_; intro gb330 hg w78 hbox hb; have BK330 := Aside0.mk (hbox); have GW330 := (gws hg (hbe1 HB.out GE329.out) : Aside0 (w.heap.size ≤ gb330)); have GE330 := (gws hg (hbe1 HB.out GE329.out) : Aside0 (w.heap.size ≤ gb330)); replace HB := hbs1 HB.out GE329.out hb; have NB329_330 := nlt hg BK329.out; have NB330_329 := ngt hg BK329.out; replace BK329 := bku BK329.out hb; clear hb hbox hg; have hnb79 := NB329_330.out; have hnc79 := NB330_329.out; obtain ⟨hcz80_0, hcz80_1, hcz80_2, hcz80_3, hcz80_4, hfz80_0, hfz80_1, hfz80_2, hfz80_3, hfz80_4⟩ := cells5 BK329.out) | ((with_reducible refine gate_callee (f := 17) rfl ?_); refine goesS (some 6) rfl Try.func17 #[.agg #[.int .i64 a1_0, .int .i64 a1_1, .float .f64 a1_2, .string a1_3, .int .i64 a1_4]] rfl ?_; (with_reducible refine (spec_ValueOk.calls k a1_0 a1_1 a1_2 a1_3 a1_4 false _ A3.out).mono ?_); rintro e w81 ⟨rfl, hb⟩; refine ⟨_, rfl, ?_⟩; replace BK329 := bku BK329.out hb; replace BK330 := bku BK330.out hb; replace HB := hbs2 HB.out GE329.out GE330.out hb; (try clear hb); (try clear hb2); (try clear hk); (try clear hi)) | ((with_reducible refine gate_callee (f := 58) rfl ?_); refine goesS (some 8) rfl Try.func58 #[.int .i64 1] rfl ?_; (with_reducible refine (spec_l1fail.calls 1 t332 t333 t334 t335 t336 t337 _ A76.out).mono ?_); rintro e w82 ⟨rfl, hb⟩; refine ⟨_, rfl, ?_⟩; replace BK329 := bku BK329.out hb; replace BK330 := bku BK330.out hb; replace HB := hbs2 HB.out GE329.out GE330.out hb; (try clear hb); (try clear hb2); (try clear hk); (try clear hi); obtain ⟨hcz83_0, hcz83_1, hcz83_2, hcz83_3, hcz83_4, hcz83_5, hfz83_0, hfz83_1, hfz83_2, hfz83_3, hfz83_4, hfz83_5⟩ := cells6 BK330.out))
    refine bodyPost_ret (results_cell_row rfl _ _ gb330 41 #[.int .i64 t332, .int .i64 t333, .int .i64 t334, .float .f64 t335, .string t336, .int .i64 t337] (0, 0) _ rfl (by (with_reducible repeat (first | refine blk_drewN ?_ _ | refine blk_drew ?_ | refine blk_alloc ?_ _)); refine blk_put (cs := #[.int .i64 t332, .int .i64 t333, .int .i64 t334, .float .f64 t335, .string t336, .int .i64 0]) ?_ 5 _ rfl; (with_reducible repeat (first | refine blk_drewN ?_ _ | refine blk_drew ?_ | refine blk_alloc ?_ _)); refine blk_put (cs := #[.int .i64 t332, .int .i64 t333, .int .i64 t334, .float .f64 t335, .string (⟨#[]⟩ : ByteArray), .int .i64 0]) ?_ 4 _ rfl; (with_reducible repeat (first | refine blk_drewN ?_ _ | refine blk_drew ?_ | refine blk_alloc ?_ _)); refine blk_put (cs := #[.int .i64 t332, .int .i64 t333, .int .i64 t334, .float .f64 0, .string (⟨#[]⟩ : ByteArray), .int .i64 0]) ?_ 3 _ rfl; (with_reducible repeat (first | refine blk_drewN ?_ _ | refine blk_drew ?_ | refine blk_alloc ?_ _)); refine blk_put (cs := #[.int .i64 t332, .int .i64 t333, .int .i64 0, .float .f64 0, .string (⟨#[]⟩ : ByteArray), .int .i64 0]) ?_ 2 _ rfl; (with_reducible repeat (first | refine blk_drewN ?_ _ | refine blk_drew ?_ | refine blk_alloc ?_ _)); refine blk_put (cs := #[.int .i64 t332, .int .i64 0, .int .i64 0, .float .f64 0, .string (⟨#[]⟩ : ByteArray), .int .i64 0]) ?_ 1 _ rfl; (with_reducible repeat (first | refine blk_drewN ?_ _ | refine blk_drew ?_ | refine blk_alloc ?_ _)); refine blk_put (cs := #[.int .i64 0, .int .i64 0, .int .i64 0, .float .f64 0, .string (⟨#[]⟩ : ByteArray), .int .i64 0]) ?_ 0 _ rfl; (with_reducible repeat (first | refine blk_drewN ?_ _ | refine blk_drew ?_ | refine blk_alloc ?_ _)); exact BK330.out) Try.underlying41 rfl (by kernel_rfl)) rfl ?_
    exact ⟨by first | rfl | (simp <;> rfl) | (simp [*] <;> rfl), hbe2 HB.out GE329.out GE330.out⟩
  subst c4
  have H1 : (if a0 = 21 then ((spec_Truth.f k a1_0 a1_1 a1_2 a1_3 a1_4).bind fun t338 => ((spec_l1bool.f (!t338)).bind fun bt339 => ((spec_l1got.f bt339.1 bt339.2.1 bt339.2.2.1 bt339.2.2.2.1 bt339.2.2.2.2).bind fun bt344 => (some (bt344.1, bt344.2.1, bt344.2.2.1, bt344.2.2.2.1, bt344.2.2.2.2.1, bt344.2.2.2.2.2))))) else (if a0 = 19 then (spec_Unary.j0 k a0 (a1_0 == 2) a1_0 a1_1 a1_2 a1_3 a1_4) else (spec_Unary.j0 k a0 false a1_0 a1_1 a1_2 a1_3 a1_4))) = some (r1, r2, r3, r4, r5, r6) := by rw [if_pos rfl] at H; exact H
  clear H
  have H := H1
  clear H1
  by_cases c5 : a0 = 21
  · rw [if_pos c5] at H
    have c5b0 : (a0 == 21) = true := beq_iff_eq.mpr c5
    have c5b1 : (a0 != 21) = false := bne_eq_false_iff_eq.mpr c5
    clear c5
    replace H := Option.bind_eq_some_iff.mp H
    obtain ⟨t338, A60, H⟩ := H
    replace H : ((spec_l1bool.f (!t338)).bind fun bt339 => ((spec_l1got.f bt339.1 bt339.2.1 bt339.2.2.1 bt339.2.2.2.1 bt339.2.2.2.2).bind fun bt344 => (some (bt344.1, bt344.2.1, bt344.2.2.1, bt344.2.2.2.1, bt344.2.2.2.2.1, bt344.2.2.2.2.2)))) = some (r1, r2, r3, r4, r5, r6) := H
    have A6 := Aside0.mk A60
    clear A60
    replace H := Option.bind_eq_some_iff.mp H
    obtain ⟨⟨t339, t340, t341, t342, t343⟩, A70, H⟩ := H
    replace H : ((spec_l1got.f t339 t340 t341 t342 t343).bind fun bt344 => (some (bt344.1, bt344.2.1, bt344.2.2.1, bt344.2.2.2.1, bt344.2.2.2.2.1, bt344.2.2.2.2.2))) = some (r1, r2, r3, r4, r5, r6) := H
    have A7 := Aside0.mk A70
    clear A70
    replace H := Option.bind_eq_some_iff.mp H
    obtain ⟨⟨t344, t345, t346, t347, t348, t349⟩, A80, H⟩ := H
    replace H : (some (t344, t345, t346, t347, t348, t349)) = some (r1, r2, r3, r4, r5, r6) := H
    have A8 := Aside0.mk A80
    clear A80
    simp only [Option.some.injEq, Prod.mk.injEq] at H
    obtain ⟨rfl, rfl, rfl, rfl, rfl, rfl⟩ := H
    go_enter Try.func30, Try.ntmps30
    go_wp2_with (first | ((with_reducible refine gate_dst (N := 3) rfl ?_); refine box_event rfl (N := 3) rfl (cs := #[.int .i64 a1_0, .int .i64 a1_1, .float .f64 a1_2, .string a1_3, .int .i64 a1_4]) (t := 28) (by first | (go_simp; done) | (go_simp; rfl)) ?_; intro gb329 hg w9 hbox hb; have BK329 := Aside0.mk (hbox); have GW329 := (gws hg (hbe HB.out) : Aside0 (w.heap.size ≤ gb329)); have GE329 := (gws hg (hbe HB.out) : Aside0 (w.heap.size ≤ gb329)); replace HB := hbs HB.out hb; clear hb hbox hg) | ((with_reducible refine gate_dst (N := 4) rfl ?_); refine box_event rfl (N := 4) rfl (cs := #[.int .i64 0, .int .i64 0, .int .i64 0, .float .f64 0, .string (⟨#[]⟩ : ByteArray), .int .i64 0]) (t := 41) (by first | (go_simp; done) | (go_simp; rfl)) ?_; intro gb330 hg w10 hbox hb; have BK330 := Aside0.mk (hbox); have GW330 := (gws hg (hbe1 HB.out GE329.out) : Aside0 (w.heap.size ≤ gb330)); have GE330 := (gws hg (hbe1 HB.out GE329.out) : Aside0 (w.heap.size ≤ gb330)); replace HB := hbs1 HB.out GE329.out hb; have NB329_330 := nlt hg BK329.out; have NB330_329 := ngt hg BK329.out; replace BK329 := bku BK329.out hb; clear hb hbox hg; have hnb11 := NB329_330.out; have hnc11 := NB330_329.out; obtain ⟨hcz12_0, hcz12_1, hcz12_2, hcz12_3, hcz12_4, hfz12_0, hfz12_1, hfz12_2, hfz12_3, hfz12_4⟩ := cells5 BK329.out) | ((with_reducible refine gate_callee (f := 17) rfl ?_); refine goesS (some 6) rfl Try.func17 #[.agg #[.int .i64 a1_0, .int .i64 a1_1, .float .f64 a1_2, .string a1_3, .int .i64 a1_4]] rfl ?_; (with_reducible refine (spec_ValueOk.calls k a1_0 a1_1 a1_2 a1_3 a1_4 true _ A3.out).mono ?_); rintro e w13 ⟨rfl, hb⟩; refine ⟨_, rfl, ?_⟩; replace BK329 := bku BK329.out hb; replace BK330 := bku BK330.out hb; replace HB := hbs2 HB.out GE329.out GE330.out hb; (try clear hb); (try clear hb2); (try clear hk); (try clear hi); obtain ⟨hcz14_0, hcz14_1, hcz14_2, hcz14_3, hcz14_4, hfz14_0, hfz14_1, hfz14_2, hfz14_3, hfz14_4⟩ := cells5 BK329.out) | ((with_reducible refine gate_callee (f := 20) rfl ?_); refine goesS (some 12) rfl Try.func20 #[.agg #[.int .i64 a1_0, .int .i64 a1_1, .float .f64 a1_2, .string a1_3, .int .i64 a1_4]] rfl ?_; (with_reducible refine (spec_Truth.calls k a1_0 a1_1 a1_2 a1_3 a1_4 t338 _ A6.out).mono ?_); rintro e w15 ⟨rfl, hb⟩; refine ⟨_, rfl, ?_⟩; replace BK329 := bku BK329.out hb; replace BK330 := bku BK330.out hb; replace HB := hbs2 HB.out GE329.out GE330.out hb; (try clear hb); (try clear hb2); (try clear hk); (try clear hi)) | ((with_reducible refine gate_callee (f := 67) rfl ?_); refine goesS (some 14) rfl Try.func67 #[.bool (!t338)] rfl ?_; (with_reducible refine (spec_l1bool.calls (!t338) t339 t340 t341 t342 t343 _ A7.out).mono ?_); rintro e w16 ⟨rfl, hb⟩; refine ⟨_, rfl, ?_⟩; replace BK329 := bku BK329.out hb; replace BK330 := bku BK330.out hb; replace HB := hbs2 HB.out GE329.out GE330.out hb; (try clear hb); (try clear hb2); (try clear hk); (try clear hi)) | ((with_reducible refine gate_callee (f := 61) rfl ?_); refine goesS (some 15) rfl Try.func61 #[.agg #[.int .i64 t339, .int .i64 t340, .float .f64 t341, .string t342, .int .i64 t343]] rfl ?_; (with_reducible refine (spec_l1got.calls t339 t340 t341 t342 t343 t344 t345 t346 t347 t348 t349 _ A8.out).mono ?_); rintro e w17 ⟨rfl, hb⟩; refine ⟨_, rfl, ?_⟩; replace BK329 := bku BK329.out hb; replace BK330 := bku BK330.out hb; replace HB := hbs2 HB.out GE329.out GE330.out hb; (try clear hb); (try clear hb2); (try clear hk); (try clear hi); obtain ⟨hcz18_0, hcz18_1, hcz18_2, hcz18_3, hcz18_4, hcz18_5, hfz18_0, hfz18_1, hfz18_2, hfz18_3, hfz18_4, hfz18_5⟩ := cells6 BK330.out))
    refine bodyPost_ret (results_cell_row rfl _ _ gb330 41 #[.int .i64 t344, .int .i64 t345, .int .i64 t346, .float .f64 t347, .string t348, .int .i64 t349] (0, 0) _ rfl (by (with_reducible repeat (first | refine blk_drewN ?_ _ | refine blk_drew ?_ | refine blk_alloc ?_ _)); refine blk_put (cs := #[.int .i64 t344, .int .i64 t345, .int .i64 t346, .float .f64 t347, .string t348, .int .i64 0]) ?_ 5 _ rfl; (with_reducible repeat (first | refine blk_drewN ?_ _ | refine blk_drew ?_ | refine blk_alloc ?_ _)); refine blk_put (cs := #[.int .i64 t344, .int .i64 t345, .int .i64 t346, .float .f64 t347, .string (⟨#[]⟩ : ByteArray), .int .i64 0]) ?_ 4 _ rfl; (with_reducible repeat (first | refine blk_drewN ?_ _ | refine blk_drew ?_ | refine blk_alloc ?_ _)); refine blk_put (cs := #[.int .i64 t344, .int .i64 t345, .int .i64 t346, .float .f64 0, .string (⟨#[]⟩ : ByteArray), .int .i64 0]) ?_ 3 _ rfl; (with_reducible repeat (first | refine blk_drewN ?_ _ | refine blk_drew ?_ | refine blk_alloc ?_ _)); refine blk_put (cs := #[.int .i64 t344, .int .i64 t345, .int .i64 0, .float .f64 0, .string (⟨#[]⟩ : ByteArray), .int .i64 0]) ?_ 2 _ rfl; (with_reducible repeat (first | refine blk_drewN ?_ _ | refine blk_drew ?_ | refine blk_alloc ?_ _)); refine blk_put (cs := #[.int .i64 t344, .int .i64 0, .int .i64 0, .float .f64 0, .string (⟨#[]⟩ : ByteArray), .int .i64 0]) ?_ 1 _ rfl; (with_reducible repeat (first | refine blk_drewN ?_ _ | refine blk_drew ?_ | refine blk_alloc ?_ _)); refine blk_put (cs := #[.int .i64 0, .int .i64 0, .int .i64 0, .float .f64 0, .string (⟨#[]⟩ : ByteArray), .int .i64 0]) ?_ 0 _ rfl; (with_reducible repeat (first | refine blk_drewN ?_ _ | refine blk_drew ?_ | refine blk_alloc ?_ _)); exact BK330.out) Try.underlying41 rfl (by kernel_rfl)) rfl ?_
    exact ⟨by first | rfl | (simp <;> rfl) | (simp [*] <;> rfl), hbe2 HB.out GE329.out GE330.out⟩
  rw [if_neg c5] at H
  have c5b0 : (a0 == 21) = false := beq_eq_false_iff_ne.mpr c5
  have c5b1 : (a0 != 21) = true := bne_iff_ne.mpr c5
  have HC19 := Aside0.mk H
  clear H
  go_enter Try.func30, Try.ntmps30
  go_upto_region 5 with (first | ((with_reducible refine gate_dst (N := 3) rfl ?_); refine box_event rfl (N := 3) rfl (cs := #[.int .i64 a1_0, .int .i64 a1_1, .float .f64 a1_2, .string a1_3, .int .i64 a1_4]) (t := 28) (by first | (go_simp; done) | (go_simp; rfl)) ?_; intro gb329 hg w20 hbox hb; have BK329 := Aside0.mk (hbox); have GW329 := (gws hg (hbe HB.out) : Aside0 (w.heap.size ≤ gb329)); have GE329 := (gws hg (hbe HB.out) : Aside0 (w.heap.size ≤ gb329)); replace HB := hbs HB.out hb; clear hb hbox hg) | ((with_reducible refine gate_dst (N := 4) rfl ?_); refine box_event rfl (N := 4) rfl (cs := #[.int .i64 0, .int .i64 0, .int .i64 0, .float .f64 0, .string (⟨#[]⟩ : ByteArray), .int .i64 0]) (t := 41) (by first | (go_simp; done) | (go_simp; rfl)) ?_; intro gb330 hg w21 hbox hb; have BK330 := Aside0.mk (hbox); have GW330 := (gws hg (hbe1 HB.out GE329.out) : Aside0 (w.heap.size ≤ gb330)); have GE330 := (gws hg (hbe1 HB.out GE329.out) : Aside0 (w.heap.size ≤ gb330)); replace HB := hbs1 HB.out GE329.out hb; have NB329_330 := nlt hg BK329.out; have NB330_329 := ngt hg BK329.out; replace BK329 := bku BK329.out hb; clear hb hbox hg; have hnb22 := NB329_330.out; have hnc22 := NB330_329.out; obtain ⟨hcz23_0, hcz23_1, hcz23_2, hcz23_3, hcz23_4, hfz23_0, hfz23_1, hfz23_2, hfz23_3, hfz23_4⟩ := cells5 BK329.out) | ((with_reducible refine gate_callee (f := 17) rfl ?_); refine goesS (some 6) rfl Try.func17 #[.agg #[.int .i64 a1_0, .int .i64 a1_1, .float .f64 a1_2, .string a1_3, .int .i64 a1_4]] rfl ?_; (with_reducible refine (spec_ValueOk.calls k a1_0 a1_1 a1_2 a1_3 a1_4 true _ A3.out).mono ?_); rintro e w24 ⟨rfl, hb⟩; refine ⟨_, rfl, ?_⟩; replace BK329 := bku BK329.out hb; replace BK330 := bku BK330.out hb; replace HB := hbs2 HB.out GE329.out GE330.out hb; (try clear hb); (try clear hb2); (try clear hk); (try clear hi)))
  (try simp only [Act.put, List.setIfInBounds_toArray, List.set_cons_zero, List.set_cons_succ])
  go_cut [22] (fun v22 wc => ∃ (kq : Nat) (x22_18 : Bool), v22 = .bool x22_18 ∧ Aside0 (spec_Unary.j0 kq a0 x22_18 a1_0 a1_1 a1_2 a1_3 a1_4 = some (r1, r2, r3, r4, r5, r6)) ∧ Aside0 (kq ≤ k) ∧ Aside0 (wc.heap[gb329]? = some (.cells #[.int .i64 a1_0, .int .i64 a1_1, .float .f64 a1_2, .string a1_3, .int .i64 a1_4] 28 (0, 0))) ∧ Aside0 (wc.heap[gb330]? = some (.cells #[.int .i64 0, .int .i64 0, .int .i64 0, .float .f64 0, .string (⟨#[]⟩ : ByteArray), .int .i64 0] 41 (0, 0))) ∧ Aside0 (Below w.heap.size w wc))
  case first =>
    have H := HC19.out
    clear HC19
    by_cases c25 : a0 = 19
    rotate_left 1
    · rw [if_neg c25] at H
      have c25b0 : (a0 == 19) = false := beq_eq_false_iff_ne.mpr c25
      have c25b1 : (a0 != 19) = true := bne_iff_ne.mpr c25
      (first | rw [c25b0] | (simp only [i64_w, i32_w]; rw [c25b0]) | skip)
      have H' := Aside0.mk H
      clear H
      go_wp2
      go_meet
      case rel => exact ⟨_, (false), (by first | rfl | (simp; done) | (simp [*]; done)), H', ⟨by first | omega | exact Nat.le_refl _⟩, ⟨by (with_reducible repeat (first | refine blk_drewN ?_ _ | refine blk_drew ?_ | refine blk_alloc ?_ _)); exact BK329.out⟩, ⟨by (with_reducible repeat (first | refine blk_drewN ?_ _ | refine blk_drew ?_ | refine blk_alloc ?_ _)); exact BK330.out⟩, ⟨by repeat (first | (with_reducible first | exact HB.out | apply below_alloc | apply pw_below_drewN | apply below_drew1 | refine below_set ?_ GE329.out | refine below_set ?_ GE330.out) | exact HB.out)⟩⟩
    rw [if_pos c25] at H
    have c25b0 : (a0 == 19) = true := beq_iff_eq.mpr c25
    have c25b1 : (a0 != 19) = false := bne_eq_false_iff_eq.mpr c25
    clear c25
    (first | rw [c25b0] | (simp only [i64_w, i32_w]; rw [c25b0]) | skip)
    have H' := Aside0.mk H
    clear H
    have hnb26 := NB329_330.out
    have hnc26 := NB330_329.out
    obtain ⟨hcz27_0, hcz27_1, hcz27_2, hcz27_3, hcz27_4, hfz27_0, hfz27_1, hfz27_2, hfz27_3, hfz27_4⟩ := cells5 BK329.out
    go_wp2
    go_meet
    case rel => exact ⟨_, ((a1_0 == 2)), (by first | rfl | (simp; done) | (simp [*]; done)), H', ⟨by first | omega | exact Nat.le_refl _⟩, ⟨by (with_reducible repeat (first | refine blk_drewN ?_ _ | refine blk_drew ?_ | refine blk_alloc ?_ _)); exact BK329.out⟩, ⟨by (with_reducible repeat (first | refine blk_drewN ?_ _ | refine blk_drew ?_ | refine blk_alloc ?_ _)); exact BK330.out⟩, ⟨by repeat (first | (with_reducible first | exact HB.out | apply below_alloc | apply pw_below_drewN | apply below_drew1 | refine below_set ?_ GE329.out | refine below_set ?_ GE330.out) | exact HB.out)⟩⟩
  clear HC19
  try clear c4
  try clear c5
  try clear c5b0
  try clear c5b1
  try clear hcz23_0
  try clear hcz23_1
  try clear hcz23_2
  try clear hcz23_3
  try clear hcz23_4
  try clear hfz23_0
  try clear hfz23_1
  try clear hfz23_2
  try clear hfz23_3
  try clear hfz23_4
  obtain ⟨kq, x22_18, rfl, HA, HJ18, BK329, BK330, HB⟩ := hcut
  rcases kq with _ | kj18
  · exact absurd HA.out (by simp [spec_Unary.j0])
  have H := HA.out
  clear HA
  simp only [spec_Unary.j0] at H
  by_cases c28 : x22_18 = true
  · subst c28
    have H1 : ((spec_l1int.f (wrap64 (-a1_1))).bind fun bt350 => ((spec_l1got.f bt350.1 bt350.2.1 bt350.2.2.1 bt350.2.2.2.1 bt350.2.2.2.2).bind fun bt355 => (some (bt355.1, bt355.2.1, bt355.2.2.1, bt355.2.2.2.1, bt355.2.2.2.2.1, bt355.2.2.2.2.2)))) = some (r1, r2, r3, r4, r5, r6) := by rw [if_pos rfl] at H; exact H
    clear H
    have H := H1
    clear H1
    replace H := Option.bind_eq_some_iff.mp H
    obtain ⟨⟨t350, t351, t352, t353, t354⟩, A290, H⟩ := H
    replace H : ((spec_l1got.f t350 t351 t352 t353 t354).bind fun bt355 => (some (bt355.1, bt355.2.1, bt355.2.2.1, bt355.2.2.2.1, bt355.2.2.2.2.1, bt355.2.2.2.2.2))) = some (r1, r2, r3, r4, r5, r6) := H
    have A29 := Aside0.mk A290
    clear A290
    replace H := Option.bind_eq_some_iff.mp H
    obtain ⟨⟨t355, t356, t357, t358, t359, t360⟩, A300, H⟩ := H
    replace H : (some (t355, t356, t357, t358, t359, t360)) = some (r1, r2, r3, r4, r5, r6) := H
    have A30 := Aside0.mk A300
    clear A300
    simp only [Option.some.injEq, Prod.mk.injEq] at H
    obtain ⟨rfl, rfl, rfl, rfl, rfl, rfl⟩ := H
    have hnb31 := NB329_330.out
    have hnc31 := NB330_329.out
    obtain ⟨hcz32_0, hcz32_1, hcz32_2, hcz32_3, hcz32_4, hfz32_0, hfz32_1, hfz32_2, hfz32_3, hfz32_4⟩ := cells5 BK329.out
    go_wp2_with (first | ((with_reducible refine gate_callee (f := 62) rfl ?_); refine goesS (some 26) rfl Try.func62 #[.int .i64 (wrap64 (-a1_1))] rfl ?_; (with_reducible refine (spec_l1int.calls (wrap64 (-a1_1)) t350 t351 t352 t353 t354 _ A29.out).mono ?_); rintro e w33 ⟨rfl, hb⟩; refine ⟨_, rfl, ?_⟩; replace BK329 := bku BK329.out hb; replace BK330 := bku BK330.out hb; replace HB := hbs2 HB.out GE329.out GE330.out hb; (try clear hb); (try clear hb2); (try clear hk); (try clear hi)) | ((with_reducible refine gate_callee (f := 61) rfl ?_); refine goesS (some 27) rfl Try.func61 #[.agg #[.int .i64 t350, .int .i64 t351, .float .f64 t352, .string t353, .int .i64 t354]] rfl ?_; (with_reducible refine (spec_l1got.calls t350 t351 t352 t353 t354 t355 t356 t357 t358 t359 t360 _ A30.out).mono ?_); rintro e w34 ⟨rfl, hb⟩; refine ⟨_, rfl, ?_⟩; replace BK329 := bku BK329.out hb; replace BK330 := bku BK330.out hb; replace HB := hbs2 HB.out GE329.out GE330.out hb; (try clear hb); (try clear hb2); (try clear hk); (try clear hi); obtain ⟨hcz35_0, hcz35_1, hcz35_2, hcz35_3, hcz35_4, hcz35_5, hfz35_0, hfz35_1, hfz35_2, hfz35_3, hfz35_4, hfz35_5⟩ := cells6 BK330.out))
    refine bodyPost_ret (results_cell_row rfl _ _ gb330 41 #[.int .i64 t355, .int .i64 t356, .int .i64 t357, .float .f64 t358, .string t359, .int .i64 t360] (0, 0) _ rfl (by (with_reducible repeat (first | refine blk_drewN ?_ _ | refine blk_drew ?_ | refine blk_alloc ?_ _)); refine blk_put (cs := #[.int .i64 t355, .int .i64 t356, .int .i64 t357, .float .f64 t358, .string t359, .int .i64 0]) ?_ 5 _ rfl; (with_reducible repeat (first | refine blk_drewN ?_ _ | refine blk_drew ?_ | refine blk_alloc ?_ _)); refine blk_put (cs := #[.int .i64 t355, .int .i64 t356, .int .i64 t357, .float .f64 t358, .string (⟨#[]⟩ : ByteArray), .int .i64 0]) ?_ 4 _ rfl; (with_reducible repeat (first | refine blk_drewN ?_ _ | refine blk_drew ?_ | refine blk_alloc ?_ _)); refine blk_put (cs := #[.int .i64 t355, .int .i64 t356, .int .i64 t357, .float .f64 0, .string (⟨#[]⟩ : ByteArray), .int .i64 0]) ?_ 3 _ rfl; (with_reducible repeat (first | refine blk_drewN ?_ _ | refine blk_drew ?_ | refine blk_alloc ?_ _)); refine blk_put (cs := #[.int .i64 t355, .int .i64 t356, .int .i64 0, .float .f64 0, .string (⟨#[]⟩ : ByteArray), .int .i64 0]) ?_ 2 _ rfl; (with_reducible repeat (first | refine blk_drewN ?_ _ | refine blk_drew ?_ | refine blk_alloc ?_ _)); refine blk_put (cs := #[.int .i64 t355, .int .i64 0, .int .i64 0, .float .f64 0, .string (⟨#[]⟩ : ByteArray), .int .i64 0]) ?_ 1 _ rfl; (with_reducible repeat (first | refine blk_drewN ?_ _ | refine blk_drew ?_ | refine blk_alloc ?_ _)); refine blk_put (cs := #[.int .i64 0, .int .i64 0, .int .i64 0, .float .f64 0, .string (⟨#[]⟩ : ByteArray), .int .i64 0]) ?_ 0 _ rfl; (with_reducible repeat (first | refine blk_drewN ?_ _ | refine blk_drew ?_ | refine blk_alloc ?_ _)); exact BK330.out) Try.underlying41 rfl (by kernel_rfl)) rfl ?_
    exact ⟨by first | rfl | (simp <;> rfl) | (simp [*] <;> rfl), hbe2 HB.out GE329.out GE330.out⟩
  replace c28 := Bool.eq_false_iff.mpr c28
  subst c28
  have H1 : (if a0 = 19 then (spec_Unary.j1 kj18 a0 (a1_0 == 3) a1_0 a1_1 a1_2 a1_3 a1_4) else (spec_Unary.j1 kj18 a0 false a1_0 a1_1 a1_2 a1_3 a1_4)) = some (r1, r2, r3, r4, r5, r6) := by rw [if_neg (show ¬ (false = true) by decide)] at H; exact H
  clear H
  have H := H1
  clear H1
  have HC36 := Aside0.mk H
  clear H
  go_upto_region 7 with (fail)
  go_cut [34] (fun v34 wc => ∃ (kq : Nat) (x34_35 : Bool), v34 = .bool x34_35 ∧ Aside0 (spec_Unary.j1 kq a0 x34_35 a1_0 a1_1 a1_2 a1_3 a1_4 = some (r1, r2, r3, r4, r5, r6)) ∧ Aside0 (kq ≤ kj18) ∧ Aside0 (wc.heap[gb329]? = some (.cells #[.int .i64 a1_0, .int .i64 a1_1, .float .f64 a1_2, .string a1_3, .int .i64 a1_4] 28 (0, 0))) ∧ Aside0 (wc.heap[gb330]? = some (.cells #[.int .i64 0, .int .i64 0, .int .i64 0, .float .f64 0, .string (⟨#[]⟩ : ByteArray), .int .i64 0] 41 (0, 0))) ∧ Aside0 (Below w.heap.size w wc))
  case first =>
    have H := HC36.out
    clear HC36
    by_cases c37 : a0 = 19
    rotate_left 1
    · rw [if_neg c37] at H
      have c37b0 : (a0 == 19) = false := beq_eq_false_iff_ne.mpr c37
      have c37b1 : (a0 != 19) = true := bne_iff_ne.mpr c37
      (first | rw [c37b0] | (simp only [i64_w, i32_w]; rw [c37b0]) | skip)
      have H' := Aside0.mk H
      clear H
      go_wp2
      go_meet
      case rel => exact ⟨_, (false), (by first | rfl | (simp; done) | (simp [*]; done)), H', ⟨by have := HJ18.out; first | omega | exact Nat.le_refl _⟩, ⟨by (with_reducible repeat (first | refine blk_drewN ?_ _ | refine blk_drew ?_ | refine blk_alloc ?_ _)); exact BK329.out⟩, ⟨by (with_reducible repeat (first | refine blk_drewN ?_ _ | refine blk_drew ?_ | refine blk_alloc ?_ _)); exact BK330.out⟩, ⟨by repeat (first | (with_reducible first | exact HB.out | apply below_alloc | apply pw_below_drewN | apply below_drew1 | refine below_set ?_ GE329.out | refine below_set ?_ GE330.out) | exact HB.out)⟩⟩
    rw [if_pos c37] at H
    have c37b0 : (a0 == 19) = true := beq_iff_eq.mpr c37
    have c37b1 : (a0 != 19) = false := bne_eq_false_iff_eq.mpr c37
    clear c37
    (first | rw [c37b0] | (simp only [i64_w, i32_w]; rw [c37b0]) | skip)
    have H' := Aside0.mk H
    clear H
    have hnb38 := NB329_330.out
    have hnc38 := NB330_329.out
    obtain ⟨hcz39_0, hcz39_1, hcz39_2, hcz39_3, hcz39_4, hfz39_0, hfz39_1, hfz39_2, hfz39_3, hfz39_4⟩ := cells5 BK329.out
    go_wp2
    go_meet
    case rel => exact ⟨_, ((a1_0 == 3)), (by first | rfl | (simp; done) | (simp [*]; done)), H', ⟨by have := HJ18.out; first | omega | exact Nat.le_refl _⟩, ⟨by (with_reducible repeat (first | refine blk_drewN ?_ _ | refine blk_drew ?_ | refine blk_alloc ?_ _)); exact BK329.out⟩, ⟨by (with_reducible repeat (first | refine blk_drewN ?_ _ | refine blk_drew ?_ | refine blk_alloc ?_ _)); exact BK330.out⟩, ⟨by repeat (first | (with_reducible first | exact HB.out | apply below_alloc | apply pw_below_drewN | apply below_drew1 | refine below_set ?_ GE329.out | refine below_set ?_ GE330.out) | exact HB.out)⟩⟩
  clear HC36
  try clear c4
  try clear c5
  try clear c5b0
  try clear c5b1
  try clear c28
  try clear hcz23_0
  try clear hcz23_1
  try clear hcz23_2
  try clear hcz23_3
  try clear hcz23_4
  try clear hfz23_0
  try clear hfz23_1
  try clear hfz23_2
  try clear hfz23_3
  try clear hfz23_4
  obtain ⟨kq, x34_35, rfl, HA, HJ35, BK329, BK330, HB⟩ := hcut
  rcases kq with _ | kj35
  · exact absurd HA.out (by simp [spec_Unary.j1])
  have H := HA.out
  clear HA
  simp only [spec_Unary.j1] at H
  by_cases c40 : x34_35 = true
  · subst c40
    have H1 : ((spec_l1flt.f (fneg a1_2)).bind fun bt361 => ((spec_l1got.f bt361.1 bt361.2.1 bt361.2.2.1 bt361.2.2.2.1 bt361.2.2.2.2).bind fun bt366 => (some (bt366.1, bt366.2.1, bt366.2.2.1, bt366.2.2.2.1, bt366.2.2.2.2.1, bt366.2.2.2.2.2)))) = some (r1, r2, r3, r4, r5, r6) := by rw [if_pos rfl] at H; exact H
    clear H
    have H := H1
    clear H1
    replace H := Option.bind_eq_some_iff.mp H
    obtain ⟨⟨t361, t362, t363, t364, t365⟩, A410, H⟩ := H
    replace H : ((spec_l1got.f t361 t362 t363 t364 t365).bind fun bt366 => (some (bt366.1, bt366.2.1, bt366.2.2.1, bt366.2.2.2.1, bt366.2.2.2.2.1, bt366.2.2.2.2.2))) = some (r1, r2, r3, r4, r5, r6) := H
    have A41 := Aside0.mk A410
    clear A410
    replace H := Option.bind_eq_some_iff.mp H
    obtain ⟨⟨t366, t367, t368, t369, t370, t371⟩, A420, H⟩ := H
    replace H : (some (t366, t367, t368, t369, t370, t371)) = some (r1, r2, r3, r4, r5, r6) := H
    have A42 := Aside0.mk A420
    clear A420
    simp only [Option.some.injEq, Prod.mk.injEq] at H
    obtain ⟨rfl, rfl, rfl, rfl, rfl, rfl⟩ := H
    have hnb43 := NB329_330.out
    have hnc43 := NB330_329.out
    obtain ⟨hcz44_0, hcz44_1, hcz44_2, hcz44_3, hcz44_4, hfz44_0, hfz44_1, hfz44_2, hfz44_3, hfz44_4⟩ := cells5 BK329.out
    go_wp2_with (first | ((with_reducible refine gate_callee (f := 68) rfl ?_); refine goesS (some 38) rfl Try.func68 #[.float .f64 (fneg a1_2)] rfl ?_; (with_reducible refine (spec_l1flt.calls (fneg a1_2) t361 t362 t363 t364 t365 _ A41.out).mono ?_); rintro e w45 ⟨rfl, hb⟩; refine ⟨_, rfl, ?_⟩; replace BK329 := bku BK329.out hb; replace BK330 := bku BK330.out hb; replace HB := hbs2 HB.out GE329.out GE330.out hb; (try clear hb); (try clear hb2); (try clear hk); (try clear hi)) | ((with_reducible refine gate_callee (f := 61) rfl ?_); refine goesS (some 39) rfl Try.func61 #[.agg #[.int .i64 t361, .int .i64 t362, .float .f64 t363, .string t364, .int .i64 t365]] rfl ?_; (with_reducible refine (spec_l1got.calls t361 t362 t363 t364 t365 t366 t367 t368 t369 t370 t371 _ A42.out).mono ?_); rintro e w46 ⟨rfl, hb⟩; refine ⟨_, rfl, ?_⟩; replace BK329 := bku BK329.out hb; replace BK330 := bku BK330.out hb; replace HB := hbs2 HB.out GE329.out GE330.out hb; (try clear hb); (try clear hb2); (try clear hk); (try clear hi); obtain ⟨hcz47_0, hcz47_1, hcz47_2, hcz47_3, hcz47_4, hcz47_5, hfz47_0, hfz47_1, hfz47_2, hfz47_3, hfz47_4, hfz47_5⟩ := cells6 BK330.out))
    refine bodyPost_ret (results_cell_row rfl _ _ gb330 41 #[.int .i64 t366, .int .i64 t367, .int .i64 t368, .float .f64 t369, .string t370, .int .i64 t371] (0, 0) _ rfl (by (with_reducible repeat (first | refine blk_drewN ?_ _ | refine blk_drew ?_ | refine blk_alloc ?_ _)); refine blk_put (cs := #[.int .i64 t366, .int .i64 t367, .int .i64 t368, .float .f64 t369, .string t370, .int .i64 0]) ?_ 5 _ rfl; (with_reducible repeat (first | refine blk_drewN ?_ _ | refine blk_drew ?_ | refine blk_alloc ?_ _)); refine blk_put (cs := #[.int .i64 t366, .int .i64 t367, .int .i64 t368, .float .f64 t369, .string (⟨#[]⟩ : ByteArray), .int .i64 0]) ?_ 4 _ rfl; (with_reducible repeat (first | refine blk_drewN ?_ _ | refine blk_drew ?_ | refine blk_alloc ?_ _)); refine blk_put (cs := #[.int .i64 t366, .int .i64 t367, .int .i64 t368, .float .f64 0, .string (⟨#[]⟩ : ByteArray), .int .i64 0]) ?_ 3 _ rfl; (with_reducible repeat (first | refine blk_drewN ?_ _ | refine blk_drew ?_ | refine blk_alloc ?_ _)); refine blk_put (cs := #[.int .i64 t366, .int .i64 t367, .int .i64 0, .float .f64 0, .string (⟨#[]⟩ : ByteArray), .int .i64 0]) ?_ 2 _ rfl; (with_reducible repeat (first | refine blk_drewN ?_ _ | refine blk_drew ?_ | refine blk_alloc ?_ _)); refine blk_put (cs := #[.int .i64 t366, .int .i64 0, .int .i64 0, .float .f64 0, .string (⟨#[]⟩ : ByteArray), .int .i64 0]) ?_ 1 _ rfl; (with_reducible repeat (first | refine blk_drewN ?_ _ | refine blk_drew ?_ | refine blk_alloc ?_ _)); refine blk_put (cs := #[.int .i64 0, .int .i64 0, .int .i64 0, .float .f64 0, .string (⟨#[]⟩ : ByteArray), .int .i64 0]) ?_ 0 _ rfl; (with_reducible repeat (first | refine blk_drewN ?_ _ | refine blk_drew ?_ | refine blk_alloc ?_ _)); exact BK330.out) Try.underlying41 rfl (by kernel_rfl)) rfl ?_
    exact ⟨by first | rfl | (simp <;> rfl) | (simp [*] <;> rfl), hbe2 HB.out GE329.out GE330.out⟩
  replace c40 := Bool.eq_false_iff.mpr c40
  subst c40
  have H1 : (if a0 = 20 then (spec_Unary.j2 kj35 a0 (a1_0 == 2) a1_0 a1_1 a1_2 a1_3 a1_4) else (spec_Unary.j2 kj35 a0 false a1_0 a1_1 a1_2 a1_3 a1_4)) = some (r1, r2, r3, r4, r5, r6) := by rw [if_neg (show ¬ (false = true) by decide)] at H; exact H
  clear H
  have H := H1
  clear H1
  have HC48 := Aside0.mk H
  clear H
  go_upto_region 9 with (fail)
  go_cut [46] (fun v46 wc => ∃ (kq : Nat) (x46_47 : Bool), v46 = .bool x46_47 ∧ Aside0 (spec_Unary.j2 kq a0 x46_47 a1_0 a1_1 a1_2 a1_3 a1_4 = some (r1, r2, r3, r4, r5, r6)) ∧ Aside0 (kq ≤ kj35) ∧ Aside0 (wc.heap[gb329]? = some (.cells #[.int .i64 a1_0, .int .i64 a1_1, .float .f64 a1_2, .string a1_3, .int .i64 a1_4] 28 (0, 0))) ∧ Aside0 (wc.heap[gb330]? = some (.cells #[.int .i64 0, .int .i64 0, .int .i64 0, .float .f64 0, .string (⟨#[]⟩ : ByteArray), .int .i64 0] 41 (0, 0))) ∧ Aside0 (Below w.heap.size w wc))
  case first =>
    have H := HC48.out
    clear HC48
    by_cases c49 : a0 = 20
    rotate_left 1
    · rw [if_neg c49] at H
      have c49b0 : (a0 == 20) = false := beq_eq_false_iff_ne.mpr c49
      have c49b1 : (a0 != 20) = true := bne_iff_ne.mpr c49
      (first | rw [c49b0] | (simp only [i64_w, i32_w]; rw [c49b0]) | skip)
      have H' := Aside0.mk H
      clear H
      go_wp2
      go_meet
      case rel => exact ⟨_, (false), (by first | rfl | (simp; done) | (simp [*]; done)), H', ⟨by have := HJ18.out; have := HJ35.out; first | omega | exact Nat.le_refl _⟩, ⟨by (with_reducible repeat (first | refine blk_drewN ?_ _ | refine blk_drew ?_ | refine blk_alloc ?_ _)); exact BK329.out⟩, ⟨by (with_reducible repeat (first | refine blk_drewN ?_ _ | refine blk_drew ?_ | refine blk_alloc ?_ _)); exact BK330.out⟩, ⟨by repeat (first | (with_reducible first | exact HB.out | apply below_alloc | apply pw_below_drewN | apply below_drew1 | refine below_set ?_ GE329.out | refine below_set ?_ GE330.out) | exact HB.out)⟩⟩
    rw [if_pos c49] at H
    have c49b0 : (a0 == 20) = true := beq_iff_eq.mpr c49
    have c49b1 : (a0 != 20) = false := bne_eq_false_iff_eq.mpr c49
    clear c49
    (first | rw [c49b0] | (simp only [i64_w, i32_w]; rw [c49b0]) | skip)
    have H' := Aside0.mk H
    clear H
    have hnb50 := NB329_330.out
    have hnc50 := NB330_329.out
    obtain ⟨hcz51_0, hcz51_1, hcz51_2, hcz51_3, hcz51_4, hfz51_0, hfz51_1, hfz51_2, hfz51_3, hfz51_4⟩ := cells5 BK329.out
    go_wp2
    go_meet
    case rel => exact ⟨_, ((a1_0 == 2)), (by first | rfl | (simp; done) | (simp [*]; done)), H', ⟨by have := HJ18.out; have := HJ35.out; first | omega | exact Nat.le_refl _⟩, ⟨by (with_reducible repeat (first | refine blk_drewN ?_ _ | refine blk_drew ?_ | refine blk_alloc ?_ _)); exact BK329.out⟩, ⟨by (with_reducible repeat (first | refine blk_drewN ?_ _ | refine blk_drew ?_ | refine blk_alloc ?_ _)); exact BK330.out⟩, ⟨by repeat (first | (with_reducible first | exact HB.out | apply below_alloc | apply pw_below_drewN | apply below_drew1 | refine below_set ?_ GE329.out | refine below_set ?_ GE330.out) | exact HB.out)⟩⟩
  clear HC48
  try clear c4
  try clear c5
  try clear c5b0
  try clear c5b1
  try clear c28
  try clear c40
  try clear hcz23_0
  try clear hcz23_1
  try clear hcz23_2
  try clear hcz23_3
  try clear hcz23_4
  try clear hfz23_0
  try clear hfz23_1
  try clear hfz23_2
  try clear hfz23_3
  try clear hfz23_4
  obtain ⟨kq, x46_47, rfl, HA, HJ47, BK329, BK330, HB⟩ := hcut
  rcases kq with _ | kj47
  · exact absurd HA.out (by simp [spec_Unary.j2])
  have H := HA.out
  clear HA
  simp only [spec_Unary.j2] at H
  by_cases c52 : x46_47 = true
  · subst c52
    have H1 : ((spec_l1int.f (Go.bits .xor .i64 (-1) a1_1)).bind fun bt372 => ((spec_l1got.f bt372.1 bt372.2.1 bt372.2.2.1 bt372.2.2.2.1 bt372.2.2.2.2).bind fun bt377 => (some (bt377.1, bt377.2.1, bt377.2.2.1, bt377.2.2.2.1, bt377.2.2.2.2.1, bt377.2.2.2.2.2)))) = some (r1, r2, r3, r4, r5, r6) := by rw [if_pos rfl] at H; exact H
    clear H
    have H := H1
    clear H1
    replace H := Option.bind_eq_some_iff.mp H
    obtain ⟨⟨t372, t373, t374, t375, t376⟩, A530, H⟩ := H
    replace H : ((spec_l1got.f t372 t373 t374 t375 t376).bind fun bt377 => (some (bt377.1, bt377.2.1, bt377.2.2.1, bt377.2.2.2.1, bt377.2.2.2.2.1, bt377.2.2.2.2.2))) = some (r1, r2, r3, r4, r5, r6) := H
    have A53 := Aside0.mk A530
    clear A530
    replace H := Option.bind_eq_some_iff.mp H
    obtain ⟨⟨t377, t378, t379, t380, t381, t382⟩, A540, H⟩ := H
    replace H : (some (t377, t378, t379, t380, t381, t382)) = some (r1, r2, r3, r4, r5, r6) := H
    have A54 := Aside0.mk A540
    clear A540
    simp only [Option.some.injEq, Prod.mk.injEq] at H
    obtain ⟨rfl, rfl, rfl, rfl, rfl, rfl⟩ := H
    have hnb55 := NB329_330.out
    have hnc55 := NB330_329.out
    obtain ⟨hcz56_0, hcz56_1, hcz56_2, hcz56_3, hcz56_4, hfz56_0, hfz56_1, hfz56_2, hfz56_3, hfz56_4⟩ := cells5 BK329.out
    go_wp2_with (first | ((with_reducible refine gate_callee (f := 62) rfl ?_); refine goesS (some 50) rfl Try.func62 #[.int .i64 (Go.bits .xor .i64 (-1) a1_1)] rfl ?_; (with_reducible refine (spec_l1int.calls (Go.bits .xor .i64 (-1) a1_1) t372 t373 t374 t375 t376 _ A53.out).mono ?_); rintro e w57 ⟨rfl, hb⟩; refine ⟨_, rfl, ?_⟩; replace BK329 := bku BK329.out hb; replace BK330 := bku BK330.out hb; replace HB := hbs2 HB.out GE329.out GE330.out hb; (try clear hb); (try clear hb2); (try clear hk); (try clear hi)) | ((with_reducible refine gate_callee (f := 61) rfl ?_); refine goesS (some 51) rfl Try.func61 #[.agg #[.int .i64 t372, .int .i64 t373, .float .f64 t374, .string t375, .int .i64 t376]] rfl ?_; (with_reducible refine (spec_l1got.calls t372 t373 t374 t375 t376 t377 t378 t379 t380 t381 t382 _ A54.out).mono ?_); rintro e w58 ⟨rfl, hb⟩; refine ⟨_, rfl, ?_⟩; replace BK329 := bku BK329.out hb; replace BK330 := bku BK330.out hb; replace HB := hbs2 HB.out GE329.out GE330.out hb; (try clear hb); (try clear hb2); (try clear hk); (try clear hi); obtain ⟨hcz59_0, hcz59_1, hcz59_2, hcz59_3, hcz59_4, hcz59_5, hfz59_0, hfz59_1, hfz59_2, hfz59_3, hfz59_4, hfz59_5⟩ := cells6 BK330.out))
    refine bodyPost_ret (results_cell_row rfl _ _ gb330 41 #[.int .i64 t377, .int .i64 t378, .int .i64 t379, .float .f64 t380, .string t381, .int .i64 t382] (0, 0) _ rfl (by (with_reducible repeat (first | refine blk_drewN ?_ _ | refine blk_drew ?_ | refine blk_alloc ?_ _)); refine blk_put (cs := #[.int .i64 t377, .int .i64 t378, .int .i64 t379, .float .f64 t380, .string t381, .int .i64 0]) ?_ 5 _ rfl; (with_reducible repeat (first | refine blk_drewN ?_ _ | refine blk_drew ?_ | refine blk_alloc ?_ _)); refine blk_put (cs := #[.int .i64 t377, .int .i64 t378, .int .i64 t379, .float .f64 t380, .string (⟨#[]⟩ : ByteArray), .int .i64 0]) ?_ 4 _ rfl; (with_reducible repeat (first | refine blk_drewN ?_ _ | refine blk_drew ?_ | refine blk_alloc ?_ _)); refine blk_put (cs := #[.int .i64 t377, .int .i64 t378, .int .i64 t379, .float .f64 0, .string (⟨#[]⟩ : ByteArray), .int .i64 0]) ?_ 3 _ rfl; (with_reducible repeat (first | refine blk_drewN ?_ _ | refine blk_drew ?_ | refine blk_alloc ?_ _)); refine blk_put (cs := #[.int .i64 t377, .int .i64 t378, .int .i64 0, .float .f64 0, .string (⟨#[]⟩ : ByteArray), .int .i64 0]) ?_ 2 _ rfl; (with_reducible repeat (first | refine blk_drewN ?_ _ | refine blk_drew ?_ | refine blk_alloc ?_ _)); refine blk_put (cs := #[.int .i64 t377, .int .i64 0, .int .i64 0, .float .f64 0, .string (⟨#[]⟩ : ByteArray), .int .i64 0]) ?_ 1 _ rfl; (with_reducible repeat (first | refine blk_drewN ?_ _ | refine blk_drew ?_ | refine blk_alloc ?_ _)); refine blk_put (cs := #[.int .i64 0, .int .i64 0, .int .i64 0, .float .f64 0, .string (⟨#[]⟩ : ByteArray), .int .i64 0]) ?_ 0 _ rfl; (with_reducible repeat (first | refine blk_drewN ?_ _ | refine blk_drew ?_ | refine blk_alloc ?_ _)); exact BK330.out) Try.underlying41 rfl (by kernel_rfl)) rfl ?_
    exact ⟨by first | rfl | (simp <;> rfl) | (simp [*] <;> rfl), hbe2 HB.out GE329.out GE330.out⟩
  replace c52 := Bool.eq_false_iff.mpr c52
  subst c52
  have H1 : (if a0 = 22 then (spec_Unary.j3 kj47 (a1_0 == 4) a1_0 a1_1 a1_2 a1_3 a1_4) else (spec_Unary.j3 kj47 false a1_0 a1_1 a1_2 a1_3 a1_4)) = some (r1, r2, r3, r4, r5, r6) := by rw [if_neg (show ¬ (false = true) by decide)] at H; exact H
  clear H
  have H := H1
  clear H1
  have HC60 := Aside0.mk H
  clear H
  go_upto_region 11 with (fail)
  go_cut [58] (fun v58 wc => ∃ (kq : Nat) (x58_59 : Bool), v58 = .bool x58_59 ∧ Aside0 (spec_Unary.j3 kq x58_59 a1_0 a1_1 a1_2 a1_3 a1_4 = some (r1, r2, r3, r4, r5, r6)) ∧ Aside0 (kq ≤ kj47) ∧ Aside0 (wc.heap[gb329]? = some (.cells #[.int .i64 a1_0, .int .i64 a1_1, .float .f64 a1_2, .string a1_3, .int .i64 a1_4] 28 (0, 0))) ∧ Aside0 (wc.heap[gb330]? = some (.cells #[.int .i64 0, .int .i64 0, .int .i64 0, .float .f64 0, .string (⟨#[]⟩ : ByteArray), .int .i64 0] 41 (0, 0))) ∧ Aside0 (Below w.heap.size w wc))
  case first =>
    have H := HC60.out
    clear HC60
    by_cases c61 : a0 = 22
    rotate_left 1
    · rw [if_neg c61] at H
      have c61b0 : (a0 == 22) = false := beq_eq_false_iff_ne.mpr c61
      have c61b1 : (a0 != 22) = true := bne_iff_ne.mpr c61
      (first | rw [c61b0] | (simp only [i64_w, i32_w]; rw [c61b0]) | skip)
      have H' := Aside0.mk H
      clear H
      go_wp2
      go_meet
      case rel => exact ⟨_, (false), (by first | rfl | (simp; done) | (simp [*]; done)), H', ⟨by have := HJ18.out; have := HJ35.out; have := HJ47.out; first | omega | exact Nat.le_refl _⟩, ⟨by (with_reducible repeat (first | refine blk_drewN ?_ _ | refine blk_drew ?_ | refine blk_alloc ?_ _)); exact BK329.out⟩, ⟨by (with_reducible repeat (first | refine blk_drewN ?_ _ | refine blk_drew ?_ | refine blk_alloc ?_ _)); exact BK330.out⟩, ⟨by repeat (first | (with_reducible first | exact HB.out | apply below_alloc | apply pw_below_drewN | apply below_drew1 | refine below_set ?_ GE329.out | refine below_set ?_ GE330.out) | exact HB.out)⟩⟩
    rw [if_pos c61] at H
    have c61b0 : (a0 == 22) = true := beq_iff_eq.mpr c61
    have c61b1 : (a0 != 22) = false := bne_eq_false_iff_eq.mpr c61
    clear c61
    (first | rw [c61b0] | (simp only [i64_w, i32_w]; rw [c61b0]) | skip)
    have H' := Aside0.mk H
    clear H
    have hnb62 := NB329_330.out
    have hnc62 := NB330_329.out
    obtain ⟨hcz63_0, hcz63_1, hcz63_2, hcz63_3, hcz63_4, hfz63_0, hfz63_1, hfz63_2, hfz63_3, hfz63_4⟩ := cells5 BK329.out
    go_wp2
    go_meet
    case rel => exact ⟨_, ((a1_0 == 4)), (by first | rfl | (simp; done) | (simp [*]; done)), H', ⟨by have := HJ18.out; have := HJ35.out; have := HJ47.out; first | omega | exact Nat.le_refl _⟩, ⟨by (with_reducible repeat (first | refine blk_drewN ?_ _ | refine blk_drew ?_ | refine blk_alloc ?_ _)); exact BK329.out⟩, ⟨by (with_reducible repeat (first | refine blk_drewN ?_ _ | refine blk_drew ?_ | refine blk_alloc ?_ _)); exact BK330.out⟩, ⟨by repeat (first | (with_reducible first | exact HB.out | apply below_alloc | apply pw_below_drewN | apply below_drew1 | refine below_set ?_ GE329.out | refine below_set ?_ GE330.out) | exact HB.out)⟩⟩
  clear HC60
  try clear c4
  try clear c5
  try clear c5b0
  try clear c5b1
  try clear c28
  try clear c40
  try clear c52
  try clear hcz23_0
  try clear hcz23_1
  try clear hcz23_2
  try clear hcz23_3
  try clear hcz23_4
  try clear hfz23_0
  try clear hfz23_1
  try clear hfz23_2
  try clear hfz23_3
  try clear hfz23_4
  obtain ⟨kq, x58_59, rfl, HA, HJ59, BK329, BK330, HB⟩ := hcut
  rcases kq with _ | kj59
  · exact absurd HA.out (by simp [spec_Unary.j3])
  have H := HA.out
  clear HA
  simp only [spec_Unary.j3] at H
  by_cases c64 : x58_59 = true
  rotate_left 1
  · replace c64 := Bool.eq_false_iff.mpr c64
    subst c64
    have H1 : ((spec_l1fail.f 1).bind fun bt394 => (some (bt394.1, bt394.2.1, bt394.2.2.1, bt394.2.2.2.1, bt394.2.2.2.2.1, bt394.2.2.2.2.2))) = some (r1, r2, r3, r4, r5, r6) := by rw [if_neg (show ¬ (false = true) by decide)] at H; exact H
    clear H
    have H := H1
    clear H1
    replace H := Option.bind_eq_some_iff.mp H
    obtain ⟨⟨t394, t395, t396, t397, t398, t399⟩, A720, H⟩ := H
    replace H : (some (t394, t395, t396, t397, t398, t399)) = some (r1, r2, r3, r4, r5, r6) := H
    have A72 := Aside0.mk A720
    clear A720
    simp only [Option.some.injEq, Prod.mk.injEq] at H
    obtain ⟨rfl, rfl, rfl, rfl, rfl, rfl⟩ := H
    go_wp2_with (first | ((with_reducible refine gate_callee (f := 58) rfl ?_); refine goesS (some 64) rfl Try.func58 #[.int .i64 1] rfl ?_; (with_reducible refine (spec_l1fail.calls 1 t394 t395 t396 t397 t398 t399 _ A72.out).mono ?_); rintro e w73 ⟨rfl, hb⟩; refine ⟨_, rfl, ?_⟩; replace BK329 := bku BK329.out hb; replace BK330 := bku BK330.out hb; replace HB := hbs2 HB.out GE329.out GE330.out hb; (try clear hb); (try clear hb2); (try clear hk); (try clear hi); have hnb74 := NB330_329.out; have hnc74 := NB329_330.out; obtain ⟨hcz75_0, hcz75_1, hcz75_2, hcz75_3, hcz75_4, hcz75_5, hfz75_0, hfz75_1, hfz75_2, hfz75_3, hfz75_4, hfz75_5⟩ := cells6 BK330.out))
    refine bodyPost_ret (results_cell_row rfl _ _ gb330 41 #[.int .i64 t394, .int .i64 t395, .int .i64 t396, .float .f64 t397, .string t398, .int .i64 t399] (0, 0) _ rfl (by (with_reducible repeat (first | refine blk_drewN ?_ _ | refine blk_drew ?_ | refine blk_alloc ?_ _)); refine blk_put (cs := #[.int .i64 t394, .int .i64 t395, .int .i64 t396, .float .f64 t397, .string t398, .int .i64 0]) ?_ 5 _ rfl; (with_reducible repeat (first | refine blk_drewN ?_ _ | refine blk_drew ?_ | refine blk_alloc ?_ _)); refine blk_put (cs := #[.int .i64 t394, .int .i64 t395, .int .i64 t396, .float .f64 t397, .string (⟨#[]⟩ : ByteArray), .int .i64 0]) ?_ 4 _ rfl; (with_reducible repeat (first | refine blk_drewN ?_ _ | refine blk_drew ?_ | refine blk_alloc ?_ _)); refine blk_put (cs := #[.int .i64 t394, .int .i64 t395, .int .i64 t396, .float .f64 0, .string (⟨#[]⟩ : ByteArray), .int .i64 0]) ?_ 3 _ rfl; (with_reducible repeat (first | refine blk_drewN ?_ _ | refine blk_drew ?_ | refine blk_alloc ?_ _)); refine blk_put (cs := #[.int .i64 t394, .int .i64 t395, .int .i64 0, .float .f64 0, .string (⟨#[]⟩ : ByteArray), .int .i64 0]) ?_ 2 _ rfl; (with_reducible repeat (first | refine blk_drewN ?_ _ | refine blk_drew ?_ | refine blk_alloc ?_ _)); refine blk_put (cs := #[.int .i64 t394, .int .i64 0, .int .i64 0, .float .f64 0, .string (⟨#[]⟩ : ByteArray), .int .i64 0]) ?_ 1 _ rfl; (with_reducible repeat (first | refine blk_drewN ?_ _ | refine blk_drew ?_ | refine blk_alloc ?_ _)); refine blk_put (cs := #[.int .i64 0, .int .i64 0, .int .i64 0, .float .f64 0, .string (⟨#[]⟩ : ByteArray), .int .i64 0]) ?_ 0 _ rfl; (with_reducible repeat (first | refine blk_drewN ?_ _ | refine blk_drew ?_ | refine blk_alloc ?_ _)); exact BK330.out) Try.underlying41 rfl (by kernel_rfl)) rfl ?_
    exact ⟨by first | rfl | (simp <;> rfl) | (simp [*] <;> rfl), hbe2 HB.out GE329.out GE330.out⟩
  subst c64
  have H1 : ((spec_l1int.f (a1_3.size : Int)).bind fun bt383 => ((spec_l1got.f bt383.1 bt383.2.1 bt383.2.2.1 bt383.2.2.2.1 bt383.2.2.2.2).bind fun bt388 => (some (bt388.1, bt388.2.1, bt388.2.2.1, bt388.2.2.2.1, bt388.2.2.2.2.1, bt388.2.2.2.2.2)))) = some (r1, r2, r3, r4, r5, r6) := by rw [if_pos rfl] at H; exact H
  clear H
  have H := H1
  clear H1
  replace H := Option.bind_eq_some_iff.mp H
  obtain ⟨⟨t383, t384, t385, t386, t387⟩, A650, H⟩ := H
  replace H : ((spec_l1got.f t383 t384 t385 t386 t387).bind fun bt388 => (some (bt388.1, bt388.2.1, bt388.2.2.1, bt388.2.2.2.1, bt388.2.2.2.2.1, bt388.2.2.2.2.2))) = some (r1, r2, r3, r4, r5, r6) := H
  have A65 := Aside0.mk A650
  clear A650
  replace H := Option.bind_eq_some_iff.mp H
  obtain ⟨⟨t388, t389, t390, t391, t392, t393⟩, A660, H⟩ := H
  replace H : (some (t388, t389, t390, t391, t392, t393)) = some (r1, r2, r3, r4, r5, r6) := H
  have A66 := Aside0.mk A660
  clear A660
  simp only [Option.some.injEq, Prod.mk.injEq] at H
  obtain ⟨rfl, rfl, rfl, rfl, rfl, rfl⟩ := H
  have hnb67 := NB329_330.out
  have hnc67 := NB330_329.out
  obtain ⟨hcz68_0, hcz68_1, hcz68_2, hcz68_3, hcz68_4, hfz68_0, hfz68_1, hfz68_2, hfz68_3, hfz68_4⟩ := cells5 BK329.out
  go_wp2_with (first | ((with_reducible refine gate_callee (f := 62) rfl ?_); refine goesS (some 62) rfl Try.func62 #[.int .i64 (a1_3.size : Int)] rfl ?_; (with_reducible refine (spec_l1int.calls (a1_3.size : Int) t383 t384 t385 t386 t387 _ A65.out).mono ?_); rintro e w69 ⟨rfl, hb⟩; refine ⟨_, rfl, ?_⟩; replace BK329 := bku BK329.out hb; replace BK330 := bku BK330.out hb; replace HB := hbs2 HB.out GE329.out GE330.out hb; (try clear hb); (try clear hb2); (try clear hk); (try clear hi)) | ((with_reducible refine gate_callee (f := 61) rfl ?_); refine goesS (some 63) rfl Try.func61 #[.agg #[.int .i64 t383, .int .i64 t384, .float .f64 t385, .string t386, .int .i64 t387]] rfl ?_; (with_reducible refine (spec_l1got.calls t383 t384 t385 t386 t387 t388 t389 t390 t391 t392 t393 _ A66.out).mono ?_); rintro e w70 ⟨rfl, hb⟩; refine ⟨_, rfl, ?_⟩; replace BK329 := bku BK329.out hb; replace BK330 := bku BK330.out hb; replace HB := hbs2 HB.out GE329.out GE330.out hb; (try clear hb); (try clear hb2); (try clear hk); (try clear hi); obtain ⟨hcz71_0, hcz71_1, hcz71_2, hcz71_3, hcz71_4, hcz71_5, hfz71_0, hfz71_1, hfz71_2, hfz71_3, hfz71_4, hfz71_5⟩ := cells6 BK330.out))
  refine bodyPost_ret (results_cell_row rfl _ _ gb330 41 #[.int .i64 t388, .int .i64 t389, .int .i64 t390, .float .f64 t391, .string t392, .int .i64 t393] (0, 0) _ rfl (by (with_reducible repeat (first | refine blk_drewN ?_ _ | refine blk_drew ?_ | refine blk_alloc ?_ _)); refine blk_put (cs := #[.int .i64 t388, .int .i64 t389, .int .i64 t390, .float .f64 t391, .string t392, .int .i64 0]) ?_ 5 _ rfl; (with_reducible repeat (first | refine blk_drewN ?_ _ | refine blk_drew ?_ | refine blk_alloc ?_ _)); refine blk_put (cs := #[.int .i64 t388, .int .i64 t389, .int .i64 t390, .float .f64 t391, .string (⟨#[]⟩ : ByteArray), .int .i64 0]) ?_ 4 _ rfl; (with_reducible repeat (first | refine blk_drewN ?_ _ | refine blk_drew ?_ | refine blk_alloc ?_ _)); refine blk_put (cs := #[.int .i64 t388, .int .i64 t389, .int .i64 t390, .float .f64 0, .string (⟨#[]⟩ : ByteArray), .int .i64 0]) ?_ 3 _ rfl; (with_reducible repeat (first | refine blk_drewN ?_ _ | refine blk_drew ?_ | refine blk_alloc ?_ _)); refine blk_put (cs := #[.int .i64 t388, .int .i64 t389, .int .i64 0, .float .f64 0, .string (⟨#[]⟩ : ByteArray), .int .i64 0]) ?_ 2 _ rfl; (with_reducible repeat (first | refine blk_drewN ?_ _ | refine blk_drew ?_ | refine blk_alloc ?_ _)); refine blk_put (cs := #[.int .i64 t388, .int .i64 0, .int .i64 0, .float .f64 0, .string (⟨#[]⟩ : ByteArray), .int .i64 0]) ?_ 1 _ rfl; (with_reducible repeat (first | refine blk_drewN ?_ _ | refine blk_drew ?_ | refine blk_alloc ?_ _)); refine blk_put (cs := #[.int .i64 0, .int .i64 0, .int .i64 0, .float .f64 0, .string (⟨#[]⟩ : ByteArray), .int .i64 0]) ?_ 0 _ rfl; (with_reducible repeat (first | refine blk_drewN ?_ _ | refine blk_drew ?_ | refine blk_alloc ?_ _)); exact BK330.out) Try.underlying41 rfl (by kernel_rfl)) rfl ?_
  exact ⟨by first | rfl | (simp <;> rfl) | (simp [*] <;> rfl), hbe2 HB.out GE329.out GE330.out⟩

end Go.Proofs.Ytdjlbfaiccdbfaa.PAll
