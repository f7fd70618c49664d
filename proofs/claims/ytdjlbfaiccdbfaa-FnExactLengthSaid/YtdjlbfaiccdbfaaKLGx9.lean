/- Cut down from the texts of the same job by wip/shake.py to what this claim reaches. -/
import Derived.Test.YtdjlbfaiccdbfaaKLGx0
import Derived.Test.YtdjlbfaiccdbfaaKLGx3
import Derived.Test.YtdjlbfaiccdbfaaKLGx8
namespace Go.Proofs.Ytdjlbfaiccdbfaa.PAll
open Go.RowKit Go.Proofs.YtdjlbfaiccdbfaaW.PrintWords Go.Proofs.YtdjlbfaiccdbfaaW.PrintLast Go.Proofs.YtdjlbfaiccdbfaaW.PrintMore
attribute [local go_sem] max2_int min2_int max_two min_two max_three min_three max_four min_four   -- for this text's walks alone
set_option linter.unusedVariables false
set_option linter.unusedSimpArgs false
mutual
def impl_Key.j0 : Nat → Bool → Int → Int → Nat → ByteArray → Int → Option (Int × Int × Int × Nat × ByteArray × Int)
  | 0, _, _, _, _, _, _ => none
  | k + 1, x21, x262000, x262001, x262002, x262003, x262004 => if x21 = true then ((impl_bad.f 5).bind fun bt270 => (some (bt270.1, bt270.2.1, bt270.2.2.1, bt270.2.2.2.1, bt270.2.2.2.2.1, bt270.2.2.2.2.2))) else (if x262000 = 3 then (if (fgeq x262002 14114281232179134464) = true then (if (flss x262002 4890909195324358656) = true then ((math_Trunc.f x262002).bind fun t276 => (impl_Key.j1 k (feq t276 x262002) x262000 x262001 x262002 x262003 x262004)) else (impl_Key.j1 k false x262000 x262001 x262002 x262003 x262004)) else (impl_Key.j1 k false x262000 x262001 x262002 x262003 x262004)) else (impl_Key.j1 k false x262000 x262001 x262002 x262003 x262004))
def impl_Key.j1 : Nat → Bool → Int → Int → Nat → ByteArray → Int → Option (Int × Int × Int × Nat × ByteArray × Int)
  | 0, _, _, _, _, _, _ => none
  | k + 1, x43, x262000, x262001, x262002, x262003, x262004 => if x43 = true then (if (f2iOk .i64 x262002) = true then ((impl_vInt.f (f2i x262002)).bind fun bt277 => ((impl_good.f bt277.1 bt277.2.1 bt277.2.2.1 bt277.2.2.2.1 bt277.2.2.2.2).bind fun bt282 => (some (bt282.1, bt282.2.1, bt282.2.2.1, bt282.2.2.2.1, bt282.2.2.2.2.1, bt282.2.2.2.2.2)))) else (none)) else ((impl_good.f x262000 x262001 x262002 x262003 x262004).bind fun bt288 => (some (bt288.1, bt288.2.1, bt288.2.2.1, bt288.2.2.2.1, bt288.2.2.2.2.1, bt288.2.2.2.2.2)))
end
def impl_Key.f (k : Nat) (a0_0 : Int) (a0_1 : Int) (a0_2 : Nat) (a0_3 : ByteArray) (a0_4 : Int) : Option (Int × Int × Int × Nat × ByteArray × Int) := (impl_ValueOk.f k a0_0 a0_1 a0_2 a0_3 a0_4).bind fun t263 => (if t263 = true then (if a0_0 = 0 then (impl_Key.j0 k true a0_0 a0_1 a0_2 a0_3 a0_4) else (if a0_0 = 3 then (impl_Key.j0 k (fne a0_2 a0_2) a0_0 a0_1 a0_2 a0_3 a0_4) else (impl_Key.j0 k false a0_0 a0_1 a0_2 a0_3 a0_4))) else ((impl_bad.f 1).bind fun bt264 => (some (bt264.1, bt264.2.1, bt264.2.2.1, bt264.2.2.2.1, bt264.2.2.2.2.1, bt264.2.2.2.2.2))))
set_option maxHeartbeats 8000000 in
set_option maxRecDepth 100000 in
theorem impl_Key.calls (k : Nat) (a0_0 : Int) (a0_1 : Int) (a0_2 : Nat) (a0_3 : ByteArray) (a0_4 : Int) (r1 : Int) (r2 : Int) (r3 : Int) (r4 : Nat) (r5 : ByteArray) (r6 : Int) (w : World) (h : impl_Key.f k a0_0 a0_1 a0_2 a0_3 a0_4 = some (r1, r2, r3, r4, r5, r6)) :
    Calls Try.prog 28 #[.agg #[.int .i64 a0_0, .int .i64 a0_1, .float .f64 a0_2, .string a0_3, .int .i64 a0_4]] w fun e w' => e = .returned (.agg #[.int .i64 r1, .int .i64 r2, .int .i64 r3, .float .f64 r4, .string r5, .int .i64 r6]) ∧ Below w.heap.size w w' := by
  have hu28 := Try.underlying28
  have hu41 := Try.underlying41
  have HB := Aside0.mk (Below.refl w.heap.size w)
  have H : ((impl_ValueOk.f k a0_0 a0_1 a0_2 a0_3 a0_4).bind fun t263 => (if t263 = true then (if a0_0 = 0 then (impl_Key.j0 k true a0_0 a0_1 a0_2 a0_3 a0_4) else (if a0_0 = 3 then (impl_Key.j0 k (fne a0_2 a0_2) a0_0 a0_1 a0_2 a0_3 a0_4) else (impl_Key.j0 k false a0_0 a0_1 a0_2 a0_3 a0_4))) else ((impl_bad.f 1).bind fun bt264 => (some (bt264.1, bt264.2.1, bt264.2.2.1, bt264.2.2.2.1, bt264.2.2.2.2.1, bt264.2.2.2.2.2))))) = some (r1, r2, r3, r4, r5, r6) := h
  clear h
  replace H := Option.bind_eq_some_iff.mp H
  obtain ⟨t263, A20, H⟩ := H
  replace H : (if t263 = true then (if a0_0 = 0 then (impl_Key.j0 k true a0_0 a0_1 a0_2 a0_3 a0_4) else (if a0_0 = 3 then (impl_Key.j0 k (fne a0_2 a0_2) a0_0 a0_1 a0_2 a0_3 a0_4) else (impl_Key.j0 k false a0_0 a0_1 a0_2 a0_3 a0_4))) else ((impl_bad.f 1).bind fun bt264 => (some (bt264.1, bt264.2.1, bt264.2.2.1, bt264.2.2.2.1, bt264.2.2.2.2.1, bt264.2.2.2.2.2)))) = some (r1, r2, r3, r4, r5, r6) := H
  have A2 := Aside0.mk A20
  clear A20
  by_cases c3 : t263 = true
  rotate_left 1
  · replace c3 := Bool.eq_false_iff.mpr c3
    subst c3
    have H1 : ((impl_bad.f 1).bind fun bt264 => (some (bt264.1, bt264.2.1, bt264.2.2.1, bt264.2.2.2.1, bt264.2.2.2.2.1, bt264.2.2.2.2.2))) = some (r1, r2, r3, r4, r5, r6) := by rw [if_neg (show ¬ (false = true) by decide)] at H; exact H
    clear H
    have H := H1
    clear H1
    replace H := Option.bind_eq_some_iff.mp H
    obtain ⟨⟨t264, t265, t266, t267, t268, t269⟩, A500, H⟩ := H
    replace H : (some (t264, t265, t266, t267, t268, t269)) = some (r1, r2, r3, r4, r5, r6) := H
    have A50 := Aside0.mk A500
    clear A500
    simp only [Option.some.injEq, Prod.mk.injEq] at H
    obtain ⟨rfl, rfl, rfl, rfl, rfl, rfl⟩ := H
    go_enter Try.func28, Try.ntmps28
    go_wp2_with (first | ((with_reducible refine gate_dst (N := 1) rfl ?_); refine box_event rfl (N := 1) rfl (cs := #[.int .i64 a0_0, .int .i64 a0_1, .float .f64 a0_2, .string a0_3, .int .i64 a0_4]) (t := 28) (by first | (go_simp; done) | (go_simp; rfl)) ?_; intro gb261 hg w51 hbox hb; have BK261 := Aside0.mk (hbox); have GW261 := (gws hg (hbe HB.out) : Aside0 (w.heap.size ≤ gb261)); have GE261 := (gws hg (hbe HB.out) : Aside0 (w.heap.size ≤ gb261)); replace HB := hbs HB.out hb; clear hb hbox hg) | ((with_reducible refine gate_dst (N := 2) rfl ?_); refine box_event rfl (N := 2) rfl (cs := #[.int .i64 0, .int .i64 0, .int .i64 0, .float .f64 0, .string (⟨#[]⟩ : ByteArray), .int .i64 0]) (t := 41) (by first | (go_simp; done) | (go_simp; rfl)) ?_; intro gb262 hg w52 hbox hb; have BK262 := Aside0.mk (hbox); have GW262 := (gws hg (hbe1 HB.out GE261.out) : Aside0 (w.heap.size ≤ gb262)); have GE262 := (gws hg (hbe1 HB.out GE261.out) : Aside0 (w.heap.size ≤ gb262)); replace HB := hbs1 HB.out GE261.out hb; have NB261_262 := nlt hg BK261.out; have NB262_261 := ngt hg BK261.out; replace BK261 := bku BK261.out hb; clear hb hbox hg; have hnb53 := NB261_262.out; have hnc53 := NB262_261.out; obtain ⟨hcz54_0, hcz54_1, hcz54_2, hcz54_3, hcz54_4, hfz54_0, hfz54_1, hfz54_2, hfz54_3, hfz54_4⟩ := cells5 BK261.out) | (go_at_call 19; (with_reducible refine (impl_ValueOk.calls k a0_0 a0_1 a0_2 a0_3 a0_4 false _ A2.out).mono ?_); rintro e w55 ⟨rfl, hb⟩; replace BK261 := bku BK261.out hb; replace BK262 := bku BK262.out hb; replace HB := hbs2 HB.out GE261.out GE262.out hb; (try clear hb); (try clear hb2); (try clear hk); (try clear hi)) | (go_at_call 63; (with_reducible refine (impl_bad.calls 1 t264 t265 t266 t267 t268 t269 _ A50.out).mono ?_); rintro e w56 ⟨rfl, hb⟩; replace BK261 := bku BK261.out hb; replace BK262 := bku BK262.out hb; replace HB := hbs2 HB.out GE261.out GE262.out hb; (try clear hb); (try clear hb2); (try clear hk); (try clear hi); obtain ⟨hcz57_0, hcz57_1, hcz57_2, hcz57_3, hcz57_4, hcz57_5, hfz57_0, hfz57_1, hfz57_2, hfz57_3, hfz57_4, hfz57_5⟩ := cells6 BK262.out))
    repeat (go_quiet (first | ((with_reducible refine gate_dst (N := 1) rfl ?_); refine box_event rfl (N := 1) rfl (cs := #[.int .i64 a0_0, .int .i64 a0_1, .float .f64 a0_2, .string a0_3, .int .i64 a0_4]) (t := 28) (by first | (go_simp; done) | (go_simp; rfl)) ?_; intro gb261 hg w51 hbox hb; have BK261 := Aside0.mk (hbox); have GW261 := (gws hg (hbe HB.out) : Aside0 (w.heap.size ≤ gb261)); have GE261 := (gws hg (hbe HB.out) : Aside0 (w.heap.size ≤ gb261)); replace HB := hbs HB.out hb; clear hb hbox hg) | ((with_reducible refine gate_dst (N := 2) rfl ?_); refine box_event rfl (N := 2) rfl (cs := #[.int .i64 0, .int .i64 0, .int .i64 0, .float .f64 0, .string (⟨#[]⟩ : ByteArray), .int .i64 0]) (t := 41) (by first | (go_simp; done) | (go_simp; rfl)) ?_; intro gb262 hg w52 hbox hb; have BK262 := Aside0.mk (hbox); have GW262 := (gws hg (hbe1 HB.out GE261.out) : Aside0 (w.heap.size ≤ gb262)); have GE262 := (gws hg (hbe1 HB.out GE261.out) : Aside0 (w.heap.size ≤ gb262)); replace HB := hbs1 HB.out GE261.out hb; have NB261_262 := nlt hg BK261.out; have NB262_261 := ngt hg BK261.out; replace BK261 := bku BK261.out hb; clear hb hbox hg; have hnb53 := NB261_262.out; have hnc53 := NB262_261.out; obtain ⟨hcz54_0, hcz54_1, hcz54_2, hcz54_3, hcz54_4, hfz54_0, hfz54_1, hfz54_2, hfz54_3, hfz54_4⟩ := cells5 BK261.out) | (go_at_call 19; (with_reducible refine (impl_ValueOk.calls k a0_0 a0_1 a0_2 a0_3 a0_4 false _ A2.out).mono ?_); rintro e w55 ⟨rfl, hb⟩; replace BK261 := bku BK261.out hb; replace BK262 := bku BK262.out hb; replace HB := hbs2 HB.out GE261.out GE262.out hb; (try clear hb); (try clear hb2); (try clear hk); (try clear hi)) | (go_at_call 63; (with_reducible refine (impl_bad.calls 1 t264 t265 t266 t267 t268 t269 _ A50.out).mono ?_); rintro e w56 ⟨rfl, hb⟩; replace BK261 := bku BK261.out hb; replace BK262 := bku BK262.out hb; replace HB := hbs2 HB.out GE261.out GE262.out hb; (try clear hb); (try clear hb2); (try clear hk); (try clear hi); obtain ⟨hcz57_0, hcz57_1, hcz57_2, hcz57_3, hcz57_4, hcz57_5, hfz57_0, hfz57_1, hfz57_2, hfz57_3, hfz57_4, hfz57_5⟩ := cells6 BK262.out)); try go_wp2_with (first | ((with_reducible refine gate_dst (N := 1) rfl ?_); refine box_event rfl (N := 1) rfl (cs := #[.int .i64 a0_0, .int .i64 a0_1, .float .f64 a0_2, .string a0_3, .int .i64 a0_4]) (t := 28) (by first | (go_simp; done) | (go_simp; rfl)) ?_; intro gb261 hg w51 hbox hb; have BK261 := Aside0.mk (hbox); have GW261 := (gws hg (hbe HB.out) : Aside0 (w.heap.size ≤ gb261)); have GE261 := (gws hg (hbe HB.out) : Aside0 (w.heap.size ≤ gb261)); replace HB := hbs HB.out hb; clear hb hbox hg) | ((with_reducible refine gate_dst (N := 2) rfl ?_); refine box_event rfl (N := 2) rfl (cs := #[.int .i64 0, .int .i64 0, .int .i64 0, .float .f64 0, .string (⟨#[]⟩ : ByteArray), .int .i64 0]) (t := 41) (by first | (go_simp; done) | (go_simp; rfl)) ?_; intro gb262 hg w52 hbox hb; have BK262 := Aside0.mk (hbox); have GW262 := (gws hg (hbe1 HB.out GE261.out) : Aside0 (w.heap.size ≤ gb262)); have GE262 := (gws hg (hbe1 HB.out GE261.out) : Aside0 (w.heap.size ≤ gb262)); replace HB := hbs1 HB.out GE261.out hb; have NB261_262 := nlt hg BK261.out; have NB262_261 := ngt hg BK261.out; replace BK261 := bku BK261.out hb; clear hb hbox hg; have hnb53 := NB261_262.out; have hnc53 := NB262_261.out; obtain ⟨hcz54_0, hcz54_1, hcz54_2, hcz54_3, hcz54_4, hfz54_0, hfz54_1, hfz54_2, hfz54_3, hfz54_4⟩ := cells5 BK261.out) | (go_at_call 19; (with_reducible refine (impl_ValueOk.calls k a0_0 a0_1 a0_2 a0_3 a0_4 false _ A2.out).mono ?_); rintro e w55 ⟨rfl, hb⟩; replace BK261 := bku BK261.out hb; replace BK262 := bku BK262.out hb; replace HB := hbs2 HB.out GE261.out GE262.out hb; (try clear hb); (try clear hb2); (try clear hk); (try clear hi)) | (go_at_call 63; (with_reducible refine (impl_bad.calls 1 t264 t265 t266 t267 t268 t269 _ A50.out).mono ?_); rintro e w56 ⟨rfl, hb⟩; replace BK261 := bku BK261.out hb; replace BK262 := bku BK262.out hb; replace HB := hbs2 HB.out GE261.out GE262.out hb; (try clear hb); (try clear hb2); (try clear hk); (try clear hi); obtain ⟨hcz57_0, hcz57_1, hcz57_2, hcz57_3, hcz57_4, hcz57_5, hfz57_0, hfz57_1, hfz57_2, hfz57_3, hfz57_4, hfz57_5⟩ := cells6 BK262.out)))
    refine bodyPost_ret (results_cell_row rfl _ _ gb262 41 #[.int .i64 t264, .int .i64 t265, .int .i64 t266, .float .f64 t267, .string t268, .int .i64 t269] (0, 0) _ rfl (by (with_reducible repeat (first | refine blk_drewN ?_ _ | refine blk_drew ?_ | refine blk_alloc ?_ _)); refine blk_put (cs := #[.int .i64 t264, .int .i64 t265, .int .i64 t266, .float .f64 t267, .string t268, .int .i64 0]) ?_ 5 _ rfl; (with_reducible repeat (first | refine blk_drewN ?_ _ | refine blk_drew ?_ | refine blk_alloc ?_ _)); refine blk_put (cs := #[.int .i64 t264, .int .i64 t265, .int .i64 t266, .float .f64 t267, .string (⟨#[]⟩ : ByteArray), .int .i64 0]) ?_ 4 _ rfl; (with_reducible repeat (first | refine blk_drewN ?_ _ | refine blk_drew ?_ | refine blk_alloc ?_ _)); refine blk_put (cs := #[.int .i64 t264, .int .i64 t265, .int .i64 t266, .float .f64 0, .string (⟨#[]⟩ : ByteArray), .int .i64 0]) ?_ 3 _ rfl; (with_reducible repeat (first | refine blk_drewN ?_ _ | refine blk_drew ?_ | refine blk_alloc ?_ _)); refine blk_put (cs := #[.int .i64 t264, .int .i64 t265, .int .i64 0, .float .f64 0, .string (⟨#[]⟩ : ByteArray), .int .i64 0]) ?_ 2 _ rfl; (with_reducible repeat (first | refine blk_drewN ?_ _ | refine blk_drew ?_ | refine blk_alloc ?_ _)); refine blk_put (cs := #[.int .i64 t264, .int .i64 0, .int .i64 0, .float .f64 0, .string (⟨#[]⟩ : ByteArray), .int .i64 0]) ?_ 1 _ rfl; (with_reducible repeat (first | refine blk_drewN ?_ _ | refine blk_drew ?_ | refine blk_alloc ?_ _)); refine blk_put (cs := #[.int .i64 0, .int .i64 0, .int .i64 0, .float .f64 0, .string (⟨#[]⟩ : ByteArray), .int .i64 0]) ?_ 0 _ rfl; (with_reducible repeat (first | refine blk_drewN ?_ _ | refine blk_drew ?_ | refine blk_alloc ?_ _)); exact BK262.out) Try.underlying41 rfl (by kernel_rfl)) rfl ?_
    exact ⟨by first | rfl | (simp <;> rfl) | (simp [*] <;> rfl), hbe2 HB.out GE261.out GE262.out⟩
  subst c3
  have H1 : (if a0_0 = 0 then (impl_Key.j0 k true a0_0 a0_1 a0_2 a0_3 a0_4) else (if a0_0 = 3 then (impl_Key.j0 k (fne a0_2 a0_2) a0_0 a0_1 a0_2 a0_3 a0_4) else (impl_Key.j0 k false a0_0 a0_1 a0_2 a0_3 a0_4))) = some (r1, r2, r3, r4, r5, r6) := by rw [if_pos rfl] at H; exact H
  clear H
  have H := H1
  clear H1
  have HC4 := Aside0.mk H
  clear H
  go_enter Try.func28, Try.ntmps28
  go_upto_region 3 with (first | ((with_reducible refine gate_dst (N := 1) rfl ?_); refine box_event rfl (N := 1) rfl (cs := #[.int .i64 a0_0, .int .i64 a0_1, .float .f64 a0_2, .string a0_3, .int .i64 a0_4]) (t := 28) (by first | (go_simp; done) | (go_simp; rfl)) ?_; intro gb261 hg w5 hbox hb; have BK261 := Aside0.mk (hbox); have GW261 := (gws hg (hbe HB.out) : Aside0 (w.heap.size ≤ gb261)); have GE261 := (gws hg (hbe HB.out) : Aside0 (w.heap.size ≤ gb261)); replace HB := hbs HB.out hb; clear hb hbox hg) | ((with_reducible refine gate_dst (N := 2) rfl ?_); refine box_event rfl (N := 2) rfl (cs := #[.int .i64 0, .int .i64 0, .int .i64 0, .float .f64 0, .string (⟨#[]⟩ : ByteArray), .int .i64 0]) (t := 41) (by first | (go_simp; done) | (go_simp; rfl)) ?_; intro gb262 hg w6 hbox hb; have BK262 := Aside0.mk (hbox); have GW262 := (gws hg (hbe1 HB.out GE261.out) : Aside0 (w.heap.size ≤ gb262)); have GE262 := (gws hg (hbe1 HB.out GE261.out) : Aside0 (w.heap.size ≤ gb262)); replace HB := hbs1 HB.out GE261.out hb; have NB261_262 := nlt hg BK261.out; have NB262_261 := ngt hg BK261.out; replace BK261 := bku BK261.out hb; clear hb hbox hg; have hnb7 := NB261_262.out; have hnc7 := NB262_261.out; obtain ⟨hcz8_0, hcz8_1, hcz8_2, hcz8_3, hcz8_4, hfz8_0, hfz8_1, hfz8_2, hfz8_3, hfz8_4⟩ := cells5 BK261.out) | (go_at_call 19; (with_reducible refine (impl_ValueOk.calls k a0_0 a0_1 a0_2 a0_3 a0_4 true _ A2.out).mono ?_); rintro e w9 ⟨rfl, hb⟩; replace BK261 := bku BK261.out hb; replace BK262 := bku BK262.out hb; replace HB := hbs2 HB.out GE261.out GE262.out hb; (try clear hb); (try clear hb2); (try clear hk); (try clear hi)))
  repeat (go_quiet (first | ((with_reducible refine gate_dst (N := 1) rfl ?_); refine box_event rfl (N := 1) rfl (cs := #[.int .i64 a0_0, .int .i64 a0_1, .float .f64 a0_2, .string a0_3, .int .i64 a0_4]) (t := 28) (by first | (go_simp; done) | (go_simp; rfl)) ?_; intro gb261 hg w5 hbox hb; have BK261 := Aside0.mk (hbox); have GW261 := (gws hg (hbe HB.out) : Aside0 (w.heap.size ≤ gb261)); have GE261 := (gws hg (hbe HB.out) : Aside0 (w.heap.size ≤ gb261)); replace HB := hbs HB.out hb; clear hb hbox hg) | ((with_reducible refine gate_dst (N := 2) rfl ?_); refine box_event rfl (N := 2) rfl (cs := #[.int .i64 0, .int .i64 0, .int .i64 0, .float .f64 0, .string (⟨#[]⟩ : ByteArray), .int .i64 0]) (t := 41) (by first | (go_simp; done) | (go_simp; rfl)) ?_; intro gb262 hg w6 hbox hb; have BK262 := Aside0.mk (hbox); have GW262 := (gws hg (hbe1 HB.out GE261.out) : Aside0 (w.heap.size ≤ gb262)); have GE262 := (gws hg (hbe1 HB.out GE261.out) : Aside0 (w.heap.size ≤ gb262)); replace HB := hbs1 HB.out GE261.out hb; have NB261_262 := nlt hg BK261.out; have NB262_261 := ngt hg BK261.out; replace BK261 := bku BK261.out hb; clear hb hbox hg; have hnb7 := NB261_262.out; have hnc7 := NB262_261.out; obtain ⟨hcz8_0, hcz8_1, hcz8_2, hcz8_3, hcz8_4, hfz8_0, hfz8_1, hfz8_2, hfz8_3, hfz8_4⟩ := cells5 BK261.out) | (go_at_call 19; (with_reducible refine (impl_ValueOk.calls k a0_0 a0_1 a0_2 a0_3 a0_4 true _ A2.out).mono ?_); rintro e w9 ⟨rfl, hb⟩; replace BK261 := bku BK261.out hb; replace BK262 := bku BK262.out hb; replace HB := hbs2 HB.out GE261.out GE262.out hb; (try clear hb); (try clear hb2); (try clear hk); (try clear hi))); go_upto_region 3 with (first | ((with_reducible refine gate_dst (N := 1) rfl ?_); refine box_event rfl (N := 1) rfl (cs := #[.int .i64 a0_0, .int .i64 a0_1, .float .f64 a0_2, .string a0_3, .int .i64 a0_4]) (t := 28) (by first | (go_simp; done) | (go_simp; rfl)) ?_; intro gb261 hg w5 hbox hb; have BK261 := Aside0.mk (hbox); have GW261 := (gws hg (hbe HB.out) : Aside0 (w.heap.size ≤ gb261)); have GE261 := (gws hg (hbe HB.out) : Aside0 (w.heap.size ≤ gb261)); replace HB := hbs HB.out hb; clear hb hbox hg) | ((with_reducible refine gate_dst (N := 2) rfl ?_); refine box_event rfl (N := 2) rfl (cs := #[.int .i64 0, .int .i64 0, .int .i64 0, .float .f64 0, .string (⟨#[]⟩ : ByteArray), .int .i64 0]) (t := 41) (by first | (go_simp; done) | (go_simp; rfl)) ?_; intro gb262 hg w6 hbox hb; have BK262 := Aside0.mk (hbox); have GW262 := (gws hg (hbe1 HB.out GE261.out) : Aside0 (w.heap.size ≤ gb262)); have GE262 := (gws hg (hbe1 HB.out GE261.out) : Aside0 (w.heap.size ≤ gb262)); replace HB := hbs1 HB.out GE261.out hb; have NB261_262 := nlt hg BK261.out; have NB262_261 := ngt hg BK261.out; replace BK261 := bku BK261.out hb; clear hb hbox hg; have hnb7 := NB261_262.out; have hnc7 := NB262_261.out; obtain ⟨hcz8_0, hcz8_1, hcz8_2, hcz8_3, hcz8_4, hfz8_0, hfz8_1, hfz8_2, hfz8_3, hfz8_4⟩ := cells5 BK261.out) | (go_at_call 19; (with_reducible refine (impl_ValueOk.calls k a0_0 a0_1 a0_2 a0_3 a0_4 true _ A2.out).mono ?_); rintro e w9 ⟨rfl, hb⟩; replace BK261 := bku BK261.out hb; replace BK262 := bku BK262.out hb; replace HB := hbs2 HB.out GE261.out GE262.out hb; (try clear hb); (try clear hb2); (try clear hk); (try clear hi))))
  (try simp only [Act.put, List.setIfInBounds_toArray, List.set_cons_zero, List.set_cons_succ])
  go_cut [21] (fun v21 wc => ∃ (kq : Nat) (x21_3 : Bool), v21 = .bool x21_3 ∧ Aside0 (impl_Key.j0 kq x21_3 a0_0 a0_1 a0_2 a0_3 a0_4 = some (r1, r2, r3, r4, r5, r6)) ∧ Aside0 (kq ≤ k) ∧ Aside0 (wc.heap[gb261]? = some (.cells #[.int .i64 a0_0, .int .i64 a0_1, .float .f64 a0_2, .string a0_3, .int .i64 a0_4] 28 (0, 0))) ∧ Aside0 (wc.heap[gb262]? = some (.cells #[.int .i64 0, .int .i64 0, .int .i64 0, .float .f64 0, .string (⟨#[]⟩ : ByteArray), .int .i64 0] 41 (0, 0))) ∧ Aside0 (Below w.heap.size w wc))
  case first =>
    have H := HC4.out
    clear HC4
    by_cases c10 : a0_0 = 0
    · rw [if_pos c10] at H
      have c10b0 : (a0_0 == 0) = true := beq_iff_eq.mpr c10
      have c10b1 : (a0_0 != 0) = false := bne_eq_false_iff_eq.mpr c10
      clear c10
      (first | rw [c10b0] | (simp only [i64_w, i32_w]; rw [c10b0]) | skip)
      have H' := Aside0.mk H
      clear H
      have hnb11 := NB261_262.out
      have hnc11 := NB262_261.out
      obtain ⟨hcz12_0, hcz12_1, hcz12_2, hcz12_3, hcz12_4, hfz12_0, hfz12_1, hfz12_2, hfz12_3, hfz12_4⟩ := cells5 BK261.out
      go_wp2
      repeat (go_quiet (fail); try go_wp2)
      go_meet
      case rel => exact ⟨_, (true), (by first | rfl | (simp; done) | (simp [*]; done)), H', ⟨by first | omega | exact Nat.le_refl _⟩, ⟨by (with_reducible repeat (first | refine blk_drewN ?_ _ | refine blk_drew ?_ | refine blk_alloc ?_ _)); exact BK261.out⟩, ⟨by (with_reducible repeat (first | refine blk_drewN ?_ _ | refine blk_drew ?_ | refine blk_alloc ?_ _)); exact BK262.out⟩, ⟨by repeat (first | (with_reducible first | exact HB.out | apply below_alloc | apply pw_below_drewN | apply below_drew1 | refine below_set ?_ GE261.out | refine below_set ?_ GE262.out) | exact HB.out)⟩⟩
    rw [if_neg c10] at H
    have c10b0 : (a0_0 == 0) = false := beq_eq_false_iff_ne.mpr c10
    have c10b1 : (a0_0 != 0) = true := bne_iff_ne.mpr c10
    (first | rw [c10b0] | (simp only [i64_w, i32_w]; rw [c10b0]) | skip)
    by_cases c13 : a0_0 = 3
    rotate_left 1
    · rw [if_neg c13] at H
      have c13b0 : (a0_0 == 3) = false := beq_eq_false_iff_ne.mpr c13
      have c13b1 : (a0_0 != 3) = true := bne_iff_ne.mpr c13
      have H' := Aside0.mk H
      clear H
      have hnb16 := NB261_262.out
      have hnc16 := NB262_261.out
      obtain ⟨hcz17_0, hcz17_1, hcz17_2, hcz17_3, hcz17_4, hfz17_0, hfz17_1, hfz17_2, hfz17_3, hfz17_4⟩ := cells5 BK261.out
      go_wp2
      repeat (go_quiet (fail); try go_wp2)
      go_meet
      case rel => exact ⟨_, (false), (by first | rfl | (simp; done) | (simp [*]; done)), H', ⟨by first | omega | exact Nat.le_refl _⟩, ⟨by (with_reducible repeat (first | refine blk_drewN ?_ _ | refine blk_drew ?_ | refine blk_alloc ?_ _)); exact BK261.out⟩, ⟨by (with_reducible repeat (first | refine blk_drewN ?_ _ | refine blk_drew ?_ | refine blk_alloc ?_ _)); exact BK262.out⟩, ⟨by repeat (first | (with_reducible first | exact HB.out | apply below_alloc | apply pw_below_drewN | apply below_drew1 | refine below_set ?_ GE261.out | refine below_set ?_ GE262.out) | exact HB.out)⟩⟩
    rw [if_pos c13] at H
    have c13b0 : (a0_0 == 3) = true := beq_iff_eq.mpr c13
    have c13b1 : (a0_0 != 3) = false := bne_eq_false_iff_eq.mpr c13
    clear c13
    have H' := Aside0.mk H
    clear H
    have hnb14 := NB261_262.out
    have hnc14 := NB262_261.out
    obtain ⟨hcz15_0, hcz15_1, hcz15_2, hcz15_3, hcz15_4, hfz15_0, hfz15_1, hfz15_2, hfz15_3, hfz15_4⟩ := cells5 BK261.out
    go_wp2
    repeat (go_quiet (fail); try go_wp2)
    go_meet
    case rel => exact ⟨_, ((fne a0_2 a0_2)), (by first | rfl | (simp; done) | (simp [*]; done)), H', ⟨by first | omega | exact Nat.le_refl _⟩, ⟨by (with_reducible repeat (first | refine blk_drewN ?_ _ | refine blk_drew ?_ | refine blk_alloc ?_ _)); exact BK261.out⟩, ⟨by (with_reducible repeat (first | refine blk_drewN ?_ _ | refine blk_drew ?_ | refine blk_alloc ?_ _)); exact BK262.out⟩, ⟨by repeat (first | (with_reducible first | exact HB.out | apply below_alloc | apply pw_below_drewN | apply below_drew1 | refine below_set ?_ GE261.out | refine below_set ?_ GE262.out) | exact HB.out)⟩⟩
  clear HC4
  try clear c3
  try clear hcz8_0
  try clear hcz8_1
  try clear hcz8_2
  try clear hcz8_3
  try clear hcz8_4
  try clear hfz8_0
  try clear hfz8_1
  try clear hfz8_2
  try clear hfz8_3
  try clear hfz8_4
  obtain ⟨kq, x21_3, rfl, HA, HJ3, BK261, BK262, HB⟩ := hcut
  rcases kq with _ | kj3
  · exact absurd HA.out (by simp [impl_Key.j0])
  have H := HA.out
  clear HA
  simp only [impl_Key.j0] at H
  by_cases c18 : x21_3 = true
  · subst c18
    have H1 : ((impl_bad.f 5).bind fun bt270 => (some (bt270.1, bt270.2.1, bt270.2.2.1, bt270.2.2.2.1, bt270.2.2.2.2.1, bt270.2.2.2.2.2))) = some (r1, r2, r3, r4, r5, r6) := by rw [if_pos rfl] at H; exact H
    clear H
    have H := H1
    clear H1
    replace H := Option.bind_eq_some_iff.mp H
    obtain ⟨⟨t270, t271, t272, t273, t274, t275⟩, A190, H⟩ := H
    replace H : (some (t270, t271, t272, t273, t274, t275)) = some (r1, r2, r3, r4, r5, r6) := H
    have A19 := Aside0.mk A190
    clear A190
    simp only [Option.some.injEq, Prod.mk.injEq] at H
    obtain ⟨rfl, rfl, rfl, rfl, rfl, rfl⟩ := H
    go_wp2_with (first | (go_at_call 63; (with_reducible refine (impl_bad.calls 5 t270 t271 t272 t273 t274 t275 _ A19.out).mono ?_); rintro e w20 ⟨rfl, hb⟩; replace BK261 := bku BK261.out hb; replace BK262 := bku BK262.out hb; replace HB := hbs2 HB.out GE261.out GE262.out hb; (try clear hb); (try clear hb2); (try clear hk); (try clear hi); have hnb21 := NB262_261.out; have hnc21 := NB261_262.out; obtain ⟨hcz22_0, hcz22_1, hcz22_2, hcz22_3, hcz22_4, hcz22_5, hfz22_0, hfz22_1, hfz22_2, hfz22_3, hfz22_4, hfz22_5⟩ := cells6 BK262.out))
    repeat (go_quiet (first | (go_at_call 63; (with_reducible refine (impl_bad.calls 5 t270 t271 t272 t273 t274 t275 _ A19.out).mono ?_); rintro e w20 ⟨rfl, hb⟩; replace BK261 := bku BK261.out hb; replace BK262 := bku BK262.out hb; replace HB := hbs2 HB.out GE261.out GE262.out hb; (try clear hb); (try clear hb2); (try clear hk); (try clear hi); have hnb21 := NB262_261.out; have hnc21 := NB261_262.out; obtain ⟨hcz22_0, hcz22_1, hcz22_2, hcz22_3, hcz22_4, hcz22_5, hfz22_0, hfz22_1, hfz22_2, hfz22_3, hfz22_4, hfz22_5⟩ := cells6 BK262.out)); try go_wp2_with (first | (go_at_call 63; (with_reducible refine (impl_bad.calls 5 t270 t271 t272 t273 t274 t275 _ A19.out).mono ?_); rintro e w20 ⟨rfl, hb⟩; replace BK261 := bku BK261.out hb; replace BK262 := bku BK262.out hb; replace HB := hbs2 HB.out GE261.out GE262.out hb; (try clear hb); (try clear hb2); (try clear hk); (try clear hi); have hnb21 := NB262_261.out; have hnc21 := NB261_262.out; obtain ⟨hcz22_0, hcz22_1, hcz22_2, hcz22_3, hcz22_4, hcz22_5, hfz22_0, hfz22_1, hfz22_2, hfz22_3, hfz22_4, hfz22_5⟩ := cells6 BK262.out)))
    refine bodyPost_ret (results_cell_row rfl _ _ gb262 41 #[.int .i64 t270, .int .i64 t271, .int .i64 t272, .float .f64 t273, .string t274, .int .i64 t275] (0, 0) _ rfl (by (with_reducible repeat (first | refine blk_drewN ?_ _ | refine blk_drew ?_ | refine blk_alloc ?_ _)); refine blk_put (cs := #[.int .i64 t270, .int .i64 t271, .int .i64 t272, .float .f64 t273, .string t274, .int .i64 0]) ?_ 5 _ rfl; (with_reducible repeat (first | refine blk_drewN ?_ _ | refine blk_drew ?_ | refine blk_alloc ?_ _)); refine blk_put (cs := #[.int .i64 t270, .int .i64 t271, .int .i64 t272, .float .f64 t273, .string (⟨#[]⟩ : ByteArray), .int .i64 0]) ?_ 4 _ rfl; (with_reducible repeat (first | refine blk_drewN ?_ _ | refine blk_drew ?_ | refine blk_alloc ?_ _)); refine blk_put (cs := #[.int .i64 t270, .int .i64 t271, .int .i64 t272, .float .f64 0, .string (⟨#[]⟩ : ByteArray), .int .i64 0]) ?_ 3 _ rfl; (with_reducible repeat (first | refine blk_drewN ?_ _ | refine blk_drew ?_ | refine blk_alloc ?_ _)); refine blk_put (cs := #[.int .i64 t270, .int .i64 t271, .int .i64 0, .float .f64 0, .string (⟨#[]⟩ : ByteArray), .int .i64 0]) ?_ 2 _ rfl; (with_reducible repeat (first | refine blk_drewN ?_ _ | refine blk_drew ?_ | refine blk_alloc ?_ _)); refine blk_put (cs := #[.int .i64 t270, .int .i64 0, .int .i64 0, .float .f64 0, .string (⟨#[]⟩ : ByteArray), .int .i64 0]) ?_ 1 _ rfl; (with_reducible repeat (first | refine blk_drewN ?_ _ | refine blk_drew ?_ | refine blk_alloc ?_ _)); refine blk_put (cs := #[.int .i64 0, .int .i64 0, .int .i64 0, .float .f64 0, .string (⟨#[]⟩ : ByteArray), .int .i64 0]) ?_ 0 _ rfl; (with_reducible repeat (first | refine blk_drewN ?_ _ | refine blk_drew ?_ | refine blk_alloc ?_ _)); exact BK262.out) Try.underlying41 rfl (by kernel_rfl)) rfl ?_
    exact ⟨by first | rfl | (simp <;> rfl) | (simp [*] <;> rfl), hbe2 HB.out GE261.out GE262.out⟩
  replace c18 := Bool.eq_false_iff.mpr c18
  subst c18
  have H1 : (if a0_0 = 3 then (if (fgeq a0_2 14114281232179134464) = true then (if (flss a0_2 4890909195324358656) = true then ((math_Trunc.f a0_2).bind fun t276 => (impl_Key.j1 kj3 (feq t276 a0_2) a0_0 a0_1 a0_2 a0_3 a0_4)) else (impl_Key.j1 kj3 false a0_0 a0_1 a0_2 a0_3 a0_4)) else (impl_Key.j1 kj3 false a0_0 a0_1 a0_2 a0_3 a0_4)) else (impl_Key.j1 kj3 false a0_0 a0_1 a0_2 a0_3 a0_4)) = some (r1, r2, r3, r4, r5, r6) := by rw [if_neg (show ¬ (false = true) by decide)] at H; exact H
  clear H
  have H := H1
  clear H1
  have HC23 := Aside0.mk H
  clear H
  go_upto_region 5 with (fail)
  repeat (go_quiet (fail); go_upto_region 5 with (fail))
  go_cut [43] (fun v43 wc => ∃ (kq : Nat) (x43_22 : Bool), v43 = .bool x43_22 ∧ Aside0 (impl_Key.j1 kq x43_22 a0_0 a0_1 a0_2 a0_3 a0_4 = some (r1, r2, r3, r4, r5, r6)) ∧ Aside0 (kq ≤ kj3) ∧ Aside0 (wc.heap[gb261]? = some (.cells #[.int .i64 a0_0, .int .i64 a0_1, .float .f64 a0_2, .string a0_3, .int .i64 a0_4] 28 (0, 0))) ∧ Aside0 (wc.heap[gb262]? = some (.cells #[.int .i64 0, .int .i64 0, .int .i64 0, .float .f64 0, .string (⟨#[]⟩ : ByteArray), .int .i64 0] 41 (0, 0))) ∧ Aside0 (Below w.heap.size w wc))
  case first =>
    have H := HC23.out
    clear HC23
    by_cases c24 : a0_0 = 3
    focus
     rw [if_pos c24] at H
     have c24b0 : (a0_0 == 3) = true := beq_iff_eq.mpr c24
     have c24b1 : (a0_0 != 3) = false := bne_eq_false_iff_eq.mpr c24
     clear c24
     (first | rw [c24b0] | (simp only [i64_w, i32_w]; rw [c24b0]) | skip)
     by_cases c25 : (fgeq a0_2 14114281232179134464) = true
     focus
      rw [if_pos c25] at H
      have c25b0 : (fgeq a0_2 14114281232179134464) = true := c25
      clear c25
      by_cases c26 : (flss a0_2 4890909195324358656) = true
      · rw [if_pos c26] at H
        have c26b0 : (flss a0_2 4890909195324358656) = true := c26
        clear c26
        replace H := Option.bind_eq_some_iff.mp H
        obtain ⟨t276, A270, H⟩ := H
        replace H : (impl_Key.j1 kj3 (feq t276 a0_2) a0_0 a0_1 a0_2 a0_3 a0_4) = some (r1, r2, r3, r4, r5, r6) := H
        have A27 := Aside0.mk A270
        clear A270
        have H' := Aside0.mk H
        clear H
        have hnb28 := NB261_262.out
        have hnc28 := NB262_261.out
        obtain ⟨hcz29_0, hcz29_1, hcz29_2, hcz29_3, hcz29_4, hfz29_0, hfz29_1, hfz29_2, hfz29_3, hfz29_4⟩ := cells5 BK261.out
        go_wp2_with (first | (go_at_call 64; (with_reducible refine (math_Trunc.calls a0_2 t276 _ A27.out).mono ?_); rintro e w' ⟨rfl, ⟨nd, rfl⟩⟩; (try first | exact ⟨rfl, _, World.drewN_drewN _ _ _⟩ | exact ⟨rfl, _, Eq.trans (World.drewN_drewN _ _ _) (congrArg (World.drewN _) (Nat.add_assoc _ _ _))⟩)))
        repeat (go_quiet (first | (go_at_call 64; (with_reducible refine (math_Trunc.calls a0_2 t276 _ A27.out).mono ?_); rintro e w' ⟨rfl, ⟨nd, rfl⟩⟩; (try first | exact ⟨rfl, _, World.drewN_drewN _ _ _⟩ | exact ⟨rfl, _, Eq.trans (World.drewN_drewN _ _ _) (congrArg (World.drewN _) (Nat.add_assoc _ _ _))⟩))); try go_wp2_with (first | (go_at_call 64; (with_reducible refine (math_Trunc.calls a0_2 t276 _ A27.out).mono ?_); rintro e w' ⟨rfl, ⟨nd, rfl⟩⟩; (try first | exact ⟨rfl, _, World.drewN_drewN _ _ _⟩ | exact ⟨rfl, _, Eq.trans (World.drewN_drewN _ _ _) (congrArg (World.drewN _) (Nat.add_assoc _ _ _))⟩))))
        go_meet
        case rel => exact ⟨_, ((feq t276 a0_2)), (by first | rfl | (simp; done) | (simp [*]; done)), H', ⟨by have := HJ3.out; first | omega | exact Nat.le_refl _⟩, ⟨by (with_reducible repeat (first | refine blk_drewN ?_ _ | refine blk_drew ?_ | refine blk_alloc ?_ _)); exact BK261.out⟩, ⟨by (with_reducible repeat (first | refine blk_drewN ?_ _ | refine blk_drew ?_ | refine blk_alloc ?_ _)); exact BK262.out⟩, ⟨by repeat (first | (with_reducible first | exact HB.out | apply below_alloc | apply pw_below_drewN | apply below_drew1 | refine below_set ?_ GE261.out | refine below_set ?_ GE262.out) | exact HB.out)⟩⟩
      focus
       rw [if_neg c26] at H
       have c26b0 : (flss a0_2 4890909195324358656) = false := by simpa using c26
       clear c26
       have H' := Aside0.mk H
       clear H
       have hnb30 := NB261_262.out
       have hnc30 := NB262_261.out
       obtain ⟨hcz31_0, hcz31_1, hcz31_2, hcz31_3, hcz31_4, hfz31_0, hfz31_1, hfz31_2, hfz31_3, hfz31_4⟩ := cells5 BK261.out
     rotate_left 1
     focus
      rw [if_neg c25] at H
      have c25b0 : (fgeq a0_2 14114281232179134464) = false := by simpa using c25
      clear c25
      have H' := Aside0.mk H
      clear H
      have hnb32 := NB261_262.out
      have hnc32 := NB262_261.out
      obtain ⟨hcz33_0, hcz33_1, hcz33_2, hcz33_3, hcz33_4, hfz33_0, hfz33_1, hfz33_2, hfz33_3, hfz33_4⟩ := cells5 BK261.out
    rotate_left 2
    focus
     rw [if_neg c24] at H
     have c24b0 : (a0_0 == 3) = false := beq_eq_false_iff_ne.mpr c24
     have c24b1 : (a0_0 != 3) = true := bne_iff_ne.mpr c24
     (first | rw [c24b0] | (simp only [i64_w, i32_w]; rw [c24b0]) | skip)
     have H' := Aside0.mk H
     clear H
     have hnb34 := NB261_262.out
     have hnc34 := NB262_261.out
     obtain ⟨hcz35_0, hcz35_1, hcz35_2, hcz35_3, hcz35_4, hfz35_0, hfz35_1, hfz35_2, hfz35_3, hfz35_4⟩ := cells5 BK261.out
    all_goals
     go_wp2
     repeat (go_quiet (fail); try go_wp2)
     go_meet
     case rel => exact ⟨_, (false), (by first | rfl | (simp; done) | (simp [*]; done)), H', ⟨by have := HJ3.out; first | omega | exact Nat.le_refl _⟩, ⟨by (with_reducible repeat (first | refine blk_drewN ?_ _ | refine blk_drew ?_ | refine blk_alloc ?_ _)); exact BK261.out⟩, ⟨by (with_reducible repeat (first | refine blk_drewN ?_ _ | refine blk_drew ?_ | refine blk_alloc ?_ _)); exact BK262.out⟩, ⟨by repeat (first | (with_reducible first | exact HB.out | apply below_alloc | apply pw_below_drewN | apply below_drew1 | refine below_set ?_ GE261.out | refine below_set ?_ GE262.out) | exact HB.out)⟩⟩
  clear HC23
  try clear c3
  try clear c18
  try clear hcz8_0
  try clear hcz8_1
  try clear hcz8_2
  try clear hcz8_3
  try clear hcz8_4
  try clear hfz8_0
  try clear hfz8_1
  try clear hfz8_2
  try clear hfz8_3
  try clear hfz8_4
  obtain ⟨kq, x43_22, rfl, HA, HJ22, BK261, BK262, HB⟩ := hcut
  rcases kq with _ | kj22
  · exact absurd HA.out (by simp [impl_Key.j1])
  have H := HA.out
  clear HA
  simp only [impl_Key.j1] at H
  by_cases c36 : x43_22 = true
  rotate_left 1
  · replace c36 := Bool.eq_false_iff.mpr c36
    subst c36
    have H1 : ((impl_good.f a0_0 a0_1 a0_2 a0_3 a0_4).bind fun bt288 => (some (bt288.1, bt288.2.1, bt288.2.2.1, bt288.2.2.2.1, bt288.2.2.2.2.1, bt288.2.2.2.2.2))) = some (r1, r2, r3, r4, r5, r6) := by rw [if_neg (show ¬ (false = true) by decide)] at H; exact H
    clear H
    have H := H1
    clear H1
    replace H := Option.bind_eq_some_iff.mp H
    obtain ⟨⟨t288, t289, t290, t291, t292, t293⟩, A450, H⟩ := H
    replace H : (some (t288, t289, t290, t291, t292, t293)) = some (r1, r2, r3, r4, r5, r6) := H
    have A45 := Aside0.mk A450
    clear A450
    simp only [Option.some.injEq, Prod.mk.injEq] at H
    obtain ⟨rfl, rfl, rfl, rfl, rfl, rfl⟩ := H
    have hnb46 := NB261_262.out
    have hnc46 := NB262_261.out
    obtain ⟨hcz47_0, hcz47_1, hcz47_2, hcz47_3, hcz47_4, hfz47_0, hfz47_1, hfz47_2, hfz47_3, hfz47_4⟩ := cells5 BK261.out
    go_wp2_with (first | (go_at_call 65; (with_reducible refine (impl_good.calls a0_0 a0_1 a0_2 a0_3 a0_4 t288 t289 t290 t291 t292 t293 _ A45.out).mono ?_); rintro e w48 ⟨rfl, hb⟩; replace BK261 := bku BK261.out hb; replace BK262 := bku BK262.out hb; replace HB := hbs2 HB.out GE261.out GE262.out hb; (try clear hb); (try clear hb2); (try clear hk); (try clear hi); obtain ⟨hcz49_0, hcz49_1, hcz49_2, hcz49_3, hcz49_4, hcz49_5, hfz49_0, hfz49_1, hfz49_2, hfz49_3, hfz49_4, hfz49_5⟩ := cells6 BK262.out))
    repeat (go_quiet (first | (go_at_call 65; (with_reducible refine (impl_good.calls a0_0 a0_1 a0_2 a0_3 a0_4 t288 t289 t290 t291 t292 t293 _ A45.out).mono ?_); rintro e w48 ⟨rfl, hb⟩; replace BK261 := bku BK261.out hb; replace BK262 := bku BK262.out hb; replace HB := hbs2 HB.out GE261.out GE262.out hb; (try clear hb); (try clear hb2); (try clear hk); (try clear hi); obtain ⟨hcz49_0, hcz49_1, hcz49_2, hcz49_3, hcz49_4, hcz49_5, hfz49_0, hfz49_1, hfz49_2, hfz49_3, hfz49_4, hfz49_5⟩ := cells6 BK262.out)); try go_wp2_with (first | (go_at_call 65; (with_reducible refine (impl_good.calls a0_0 a0_1 a0_2 a0_3 a0_4 t288 t289 t290 t291 t292 t293 _ A45.out).mono ?_); rintro e w48 ⟨rfl, hb⟩; replace BK261 := bku BK261.out hb; replace BK262 := bku BK262.out hb; replace HB := hbs2 HB.out GE261.out GE262.out hb; (try clear hb); (try clear hb2); (try clear hk); (try clear hi); obtain ⟨hcz49_0, hcz49_1, hcz49_2, hcz49_3, hcz49_4, hcz49_5, hfz49_0, hfz49_1, hfz49_2, hfz49_3, hfz49_4, hfz49_5⟩ := cells6 BK262.out)))
    refine bodyPost_ret (results_cell_row rfl _ _ gb262 41 #[.int .i64 t288, .int .i64 t289, .int .i64 t290, .float .f64 t291, .string t292, .int .i64 t293] (0, 0) _ rfl (by (with_reducible repeat (first | refine blk_drewN ?_ _ | refine blk_drew ?_ | refine blk_alloc ?_ _)); refine blk_put (cs := #[.int .i64 t288, .int .i64 t289, .int .i64 t290, .float .f64 t291, .string t292, .int .i64 0]) ?_ 5 _ rfl; (with_reducible repeat (first | refine blk_drewN ?_ _ | refine blk_drew ?_ | refine blk_alloc ?_ _)); refine blk_put (cs := #[.int .i64 t288, .int .i64 t289, .int .i64 t290, .float .f64 t291, .string (⟨#[]⟩ : ByteArray), .int .i64 0]) ?_ 4 _ rfl; (with_reducible repeat (first | refine blk_drewN ?_ _ | refine blk_drew ?_ | refine blk_alloc ?_ _)); refine blk_put (cs := #[.int .i64 t288, .int .i64 t289, .int .i64 t290, .float .f64 0, .string (⟨#[]⟩ : ByteArray), .int .i64 0]) ?_ 3 _ rfl; (with_reducible repeat (first | refine blk_drewN ?_ _ | refine blk_drew ?_ | refine blk_alloc ?_ _)); refine blk_put (cs := #[.int .i64 t288, .int .i64 t289, .int .i64 0, .float .f64 0, .string (⟨#[]⟩ : ByteArray), .int .i64 0]) ?_ 2 _ rfl; (with_reducible repeat (first | refine blk_drewN ?_ _ | refine blk_drew ?_ | refine blk_alloc ?_ _)); refine blk_put (cs := #[.int .i64 t288, .int .i64 0, .int .i64 0, .float .f64 0, .string (⟨#[]⟩ : ByteArray), .int .i64 0]) ?_ 1 _ rfl; (with_reducible repeat (first | refine blk_drewN ?_ _ | refine blk_drew ?_ | refine blk_alloc ?_ _)); refine blk_put (cs := #[.int .i64 0, .int .i64 0, .int .i64 0, .float .f64 0, .string (⟨#[]⟩ : ByteArray), .int .i64 0]) ?_ 0 _ rfl; (with_reducible repeat (first | refine blk_drewN ?_ _ | refine blk_drew ?_ | refine blk_alloc ?_ _)); exact BK262.out) Try.underlying41 rfl (by kernel_rfl)) rfl ?_
    exact ⟨by first | rfl | (simp <;> rfl) | (simp [*] <;> rfl), hbe2 HB.out GE261.out GE262.out⟩
  subst c36
  have H1 : (if (f2iOk .i64 a0_2) = true then ((impl_vInt.f (f2i a0_2)).bind fun bt277 => ((impl_good.f bt277.1 bt277.2.1 bt277.2.2.1 bt277.2.2.2.1 bt277.2.2.2.2).bind fun bt282 => (some (bt282.1, bt282.2.1, bt282.2.2.1, bt282.2.2.2.1, bt282.2.2.2.2.1, bt282.2.2.2.2.2)))) else (none)) = some (r1, r2, r3, r4, r5, r6) := by rw [if_pos rfl] at H; exact H
  clear H
  have H := H1
  clear H1
  by_cases c37 : (f2iOk .i64 a0_2) = true
  rotate_left 1
  · rw [if_neg c37] at H
    exact absurd H (by simp)
  rw [if_pos c37] at H
  have c37b0 : (f2iOk .i64 a0_2) = true := c37
  clear c37
  replace H := Option.bind_eq_some_iff.mp H
  obtain ⟨⟨t277, t278, t279, t280, t281⟩, A380, H⟩ := H
  replace H : ((impl_good.f t277 t278 t279 t280 t281).bind fun bt282 => (some (bt282.1, bt282.2.1, bt282.2.2.1, bt282.2.2.2.1, bt282.2.2.2.2.1, bt282.2.2.2.2.2))) = some (r1, r2, r3, r4, r5, r6) := H
  have A38 := Aside0.mk A380
  clear A380
  replace H := Option.bind_eq_some_iff.mp H
  obtain ⟨⟨t282, t283, t284, t285, t286, t287⟩, A390, H⟩ := H
  replace H : (some (t282, t283, t284, t285, t286, t287)) = some (r1, r2, r3, r4, r5, r6) := H
  have A39 := Aside0.mk A390
  clear A390
  simp only [Option.some.injEq, Prod.mk.injEq] at H
  obtain ⟨rfl, rfl, rfl, rfl, rfl, rfl⟩ := H
  have hnb40 := NB261_262.out
  have hnc40 := NB262_261.out
  obtain ⟨hcz41_0, hcz41_1, hcz41_2, hcz41_3, hcz41_4, hfz41_0, hfz41_1, hfz41_2, hfz41_3, hfz41_4⟩ := cells5 BK261.out
  go_wp2_with (first | (go_at_call 66; (with_reducible refine (impl_vInt.calls (f2i a0_2) t277 t278 t279 t280 t281 _ A38.out).mono ?_); rintro e w42 ⟨rfl, hb⟩; replace BK261 := bku BK261.out hb; replace BK262 := bku BK262.out hb; replace HB := hbs2 HB.out GE261.out GE262.out hb; (try clear hb); (try clear hb2); (try clear hk); (try clear hi)) | (go_at_call 65; (with_reducible refine (impl_good.calls t277 t278 t279 t280 t281 t282 t283 t284 t285 t286 t287 _ A39.out).mono ?_); rintro e w43 ⟨rfl, hb⟩; replace BK261 := bku BK261.out hb; replace BK262 := bku BK262.out hb; replace HB := hbs2 HB.out GE261.out GE262.out hb; (try clear hb); (try clear hb2); (try clear hk); (try clear hi); obtain ⟨hcz44_0, hcz44_1, hcz44_2, hcz44_3, hcz44_4, hcz44_5, hfz44_0, hfz44_1, hfz44_2, hfz44_3, hfz44_4, hfz44_5⟩ := cells6 BK262.out))
  repeat (go_quiet (first | (go_at_call 66; (with_reducible refine (impl_vInt.calls (f2i a0_2) t277 t278 t279 t280 t281 _ A38.out).mono ?_); rintro e w42 ⟨rfl, hb⟩; replace BK261 := bku BK261.out hb; replace BK262 := bku BK262.out hb; replace HB := hbs2 HB.out GE261.out GE262.out hb; (try clear hb); (try clear hb2); (try clear hk); (try clear hi)) | (go_at_call 65; (with_reducible refine (impl_good.calls t277 t278 t279 t280 t281 t282 t283 t284 t285 t286 t287 _ A39.out).mono ?_); rintro e w43 ⟨rfl, hb⟩; replace BK261 := bku BK261.out hb; replace BK262 := bku BK262.out hb; replace HB := hbs2 HB.out GE261.out GE262.out hb; (try clear hb); (try clear hb2); (try clear hk); (try clear hi); obtain ⟨hcz44_0, hcz44_1, hcz44_2, hcz44_3, hcz44_4, hcz44_5, hfz44_0, hfz44_1, hfz44_2, hfz44_3, hfz44_4, hfz44_5⟩ := cells6 BK262.out)); try go_wp2_with (first | (go_at_call 66; (with_reducible refine (impl_vInt.calls (f2i a0_2) t277 t278 t279 t280 t281 _ A38.out).mono ?_); rintro e w42 ⟨rfl, hb⟩; replace BK261 := bku BK261.out hb; replace BK262 := bku BK262.out hb; replace HB := hbs2 HB.out GE261.out GE262.out hb; (try clear hb); (try clear hb2); (try clear hk); (try clear hi)) | (go_at_call 65; (with_reducible refine (impl_good.calls t277 t278 t279 t280 t281 t282 t283 t284 t285 t286 t287 _ A39.out).mono ?_); rintro e w43 ⟨rfl, hb⟩; replace BK261 := bku BK261.out hb; replace BK262 := bku BK262.out hb; replace HB := hbs2 HB.out GE261.out GE262.out hb; (try clear hb); (try clear hb2); (try clear hk); (try clear hi); obtain ⟨hcz44_0, hcz44_1, hcz44_2, hcz44_3, hcz44_4, hcz44_5, hfz44_0, hfz44_1, hfz44_2, hfz44_3, hfz44_4, hfz44_5⟩ := cells6 BK262.out)))
  refine bodyPost_ret (results_cell_row rfl _ _ gb262 41 #[.int .i64 t282, .int .i64 t283, .int .i64 t284, .float .f64 t285, .string t286, .int .i64 t287] (0, 0) _ rfl (by (with_reducible repeat (first | refine blk_drewN ?_ _ | refine blk_drew ?_ | refine blk_alloc ?_ _)); refine blk_put (cs := #[.int .i64 t282, .int .i64 t283, .int .i64 t284, .float .f64 t285, .string t286, .int .i64 0]) ?_ 5 _ rfl; (with_reducible repeat (first | refine blk_drewN ?_ _ | refine blk_drew ?_ | refine blk_alloc ?_ _)); refine blk_put (cs := #[.int .i64 t282, .int .i64 t283, .int .i64 t284, .float .f64 t285, .string (⟨#[]⟩ : ByteArray), .int .i64 0]) ?_ 4 _ rfl; (with_reducible repeat (first | refine blk_drewN ?_ _ | refine blk_drew ?_ | refine blk_alloc ?_ _)); refine blk_put (cs := #[.int .i64 t282, .int .i64 t283, .int .i64 t284, .float .f64 0, .string (⟨#[]⟩ : ByteArray), .int .i64 0]) ?_ 3 _ rfl; (with_reducible repeat (first | refine blk_drewN ?_ _ | refine blk_drew ?_ | refine blk_alloc ?_ _)); refine blk_put (cs := #[.int .i64 t282, .int .i64 t283, .int .i64 0, .float .f64 0, .string (⟨#[]⟩ : ByteArray), .int .i64 0]) ?_ 2 _ rfl; (with_reducible repeat (first | refine blk_drewN ?_ _ | refine blk_drew ?_ | refine blk_alloc ?_ _)); refine blk_put (cs := #[.int .i64 t282, .int .i64 0, .int .i64 0, .float .f64 0, .string (⟨#[]⟩ : ByteArray), .int .i64 0]) ?_ 1 _ rfl; (with_reducible repeat (first | refine blk_drewN ?_ _ | refine blk_drew ?_ | refine blk_alloc ?_ _)); refine blk_put (cs := #[.int .i64 0, .int .i64 0, .int .i64 0, .float .f64 0, .string (⟨#[]⟩ : ByteArray), .int .i64 0]) ?_ 0 _ rfl; (with_reducible repeat (first | refine blk_drewN ?_ _ | refine blk_drew ?_ | refine blk_alloc ?_ _)); exact BK262.out) Try.underlying41 rfl (by kernel_rfl)) rfl ?_
  exact ⟨by first | rfl | (simp <;> rfl) | (simp [*] <;> rfl), hbe2 HB.out GE261.out GE262.out⟩
def laws_sameFloat.j0 : Nat → Nat → Nat → Bool → Option (Bool)
  | 0, _, _, _ => none
  | k + 1, x0, x1, x12 => if x12 = true then (if (fne x0 x0) = true then (some (fne x1 x1)) else (some false)) else (if (feq x0 0) = true then (if (feq x1 0) = true then (if (fok .quo 4607182418800017408 x0) = true then (if (fok .quo 4607182418800017408 x1) = true then (some ((fgtr (fres .quo 4607182418800017408 x0) 0) == (fgtr (fres .quo 4607182418800017408 x1) 0))) else (none)) else (none)) else (some (feq x0 x1))) else (some (feq x0 x1)))
def laws_sameFloat.f (k : Nat) (a0 : Nat) (a1 : Nat) : Option (Bool) := if (fne a0 a0) = true then (laws_sameFloat.j0 k a0 a1 true) else (laws_sameFloat.j0 k a0 a1 (fne a1 a1))
set_option maxHeartbeats 8000000 in
set_option maxRecDepth 100000 in
theorem laws_sameFloat.calls (k : Nat) (a0 : Nat) (a1 : Nat) (r : Bool) (w : World) (h : laws_sameFloat.f k a0 a1 = some r) :
    Calls Try.prog 88 #[.float .f64 a0, .float .f64 a1] w fun e w' => e = .returned (.bool r) ∧ Drawn0 w w' := by
  have H : (if (fne a0 a0) = true then (laws_sameFloat.j0 k a0 a1 true) else (laws_sameFloat.j0 k a0 a1 (fne a1 a1))) = some r := h
  clear h
  have HC3 := Aside0.mk H
  clear H
  go_enter Try.func88, Try.ntmps88
  go_upto_region 1 with (fail)
  go_cut [12] (fun v12 wc => ∃ (kq : Nat) (x12_2 : Bool), v12 = .bool x12_2 ∧ Aside0 (laws_sameFloat.j0 kq a0 a1 x12_2 = some r) ∧ Aside0 (kq ≤ k) ∧ Drawn0 w wc)
  case first =>
    have H := HC3.out
    clear HC3
    by_cases c4 : (fne a0 a0) = true
    · rw [if_pos c4] at H
      have c4b0 : (fne a0 a0) = true := c4
      clear c4
      (first | rw [c4b0] | (simp only [i64_w, i32_w]; rw [c4b0]) | skip)
      have H' := Aside0.mk H
      clear H
      go_wp2
      go_meet
      case rel => exact ⟨_, (true), (by first | rfl | (simp; done) | (simp [*]; done)), H', ⟨by first | omega | exact Nat.le_refl _⟩, by repeat (first | exact Drawn0.refl _ | apply Drawn0.step)⟩
    rw [if_neg c4] at H
    have c4b0 : (fne a0 a0) = false := by simpa using c4
    clear c4
    (first | rw [c4b0] | (simp only [i64_w, i32_w]; rw [c4b0]) | skip)
    have H' := Aside0.mk H
    clear H
    go_wp2
    go_meet
    case rel => exact ⟨_, ((fne a1 a1)), (by first | rfl | (simp; done) | (simp [*]; done)), H', ⟨by first | omega | exact Nat.le_refl _⟩, by repeat (first | exact Drawn0.refl _ | apply Drawn0.step)⟩
  clear HC3
  try clear p2
  try clear c4
  try clear c4b0
  obtain ⟨kq, x12_2, rfl, HA, HJ2, ⟨mc2, rfl⟩⟩ := hcut
  rcases kq with _ | kj2
  · exact absurd HA.out (by simp [laws_sameFloat.j0])
  have H := HA.out
  clear HA
  simp only [laws_sameFloat.j0] at H
  by_cases c5 : x12_2 = true
  focus
   subst c5
   have H1 : (if (fne a0 a0) = true then (some (fne a1 a1)) else (some false)) = some r := by rw [if_pos rfl] at H; exact H
   clear H
   have H := H1
   clear H1
   by_cases c6 : (fne a0 a0) = true
   focus
    rw [if_pos c6] at H
    have c6b0 : (fne a0 a0) = true := c6
    clear c6
    obtain rfl := Option.some.inj H
   rotate_left 1
   focus
    rw [if_neg c6] at H
    have c6b0 : (fne a0 a0) = false := by simpa using c6
    clear c6
    obtain rfl := Option.some.inj H
  rotate_left 2
  focus
   replace c5 := Bool.eq_false_iff.mpr c5
   subst c5
   have H1 : (if (feq a0 0) = true then (if (feq a1 0) = true then (if (fok .quo 4607182418800017408 a0) = true then (if (fok .quo 4607182418800017408 a1) = true then (some ((fgtr (fres .quo 4607182418800017408 a0) 0) == (fgtr (fres .quo 4607182418800017408 a1) 0))) else (none)) else (none)) else (some (feq a0 a1))) else (some (feq a0 a1))) = some r := by rw [if_neg (show ¬ (false = true) by decide)] at H; exact H
   clear H
   have H := H1
   clear H1
   by_cases c7 : (feq a0 0) = true
   focus
    rw [if_pos c7] at H
    have c7b0 : (feq a0 0) = true := c7
    clear c7
    by_cases c8 : (feq a1 0) = true
    focus
     rw [if_pos c8] at H
     have c8b0 : (feq a1 0) = true := c8
     clear c8
     by_cases c9 : (fok .quo 4607182418800017408 a0) = true
     focus
      rw [if_pos c9] at H
      have c9b0 : (fok .quo 4607182418800017408 a0) = true := c9
      clear c9
      by_cases c10 : (fok .quo 4607182418800017408 a1) = true
      focus
       rw [if_pos c10] at H
       have c10b0 : (fok .quo 4607182418800017408 a1) = true := c10
       clear c10
       obtain rfl := Option.some.inj H
      rotate_left 1
      · rw [if_neg c10] at H
        exact absurd H (by simp)
     rotate_left 1
     · rw [if_neg c9] at H
       exact absurd H (by simp)
    rotate_left 1
    focus
     rw [if_neg c8] at H
     have c8b0 : (feq a1 0) = false := by simpa using c8
     clear c8
     obtain rfl := Option.some.inj H
   rotate_left 2
   focus
    rw [if_neg c7] at H
    have c7b0 : (feq a0 0) = false := by simpa using c7
    clear c7
    obtain rfl := Option.some.inj H
  all_goals
   go_wp2
   go_ret
   exact ⟨by first | rfl | (simp; done) | (simp [*]; done), by repeat (first | exact Drawn0.refl _ | apply Drawn0.step)⟩
def laws_eqValue.f (k : Nat) (a0_0 : Int) (a0_1 : Int) (a0_2 : Nat) (a0_3 : ByteArray) (a0_4 : Int) (a1_0 : Int) (a1_1 : Int) (a1_2 : Nat) (a1_3 : ByteArray) (a1_4 : Int) : Option (Bool) := if a0_0 = a1_0 then (if a0_1 = a1_1 then ((laws_sameFloat.f k a0_2 a1_2).bind fun t296 => (if t296 = true then (if a0_3.toList = a1_3.toList then (if a0_4 = a1_4 then (some true) else (some false)) else (some false)) else (some false))) else (some false)) else (some false)
set_option maxHeartbeats 8000000 in
set_option maxRecDepth 100000 in
theorem laws_eqValue.calls (k : Nat) (a0_0 : Int) (a0_1 : Int) (a0_2 : Nat) (a0_3 : ByteArray) (a0_4 : Int) (a1_0 : Int) (a1_1 : Int) (a1_2 : Nat) (a1_3 : ByteArray) (a1_4 : Int) (r : Bool) (w : World) (h : laws_eqValue.f k a0_0 a0_1 a0_2 a0_3 a0_4 a1_0 a1_1 a1_2 a1_3 a1_4 = some r) :
    Calls Try.prog 48 #[.agg #[.int .i64 a0_0, .int .i64 a0_1, .float .f64 a0_2, .string a0_3, .int .i64 a0_4], .agg #[.int .i64 a1_0, .int .i64 a1_1, .float .f64 a1_2, .string a1_3, .int .i64 a1_4]] w fun e w' => e = .returned (.bool r) ∧ Below w.heap.size w w' := by
  have hu28 := Try.underlying28
  have HB := Aside0.mk (Below.refl w.heap.size w)
  have H : (if a0_0 = a1_0 then (if a0_1 = a1_1 then ((laws_sameFloat.f k a0_2 a1_2).bind fun t296 => (if t296 = true then (if a0_3.toList = a1_3.toList then (if a0_4 = a1_4 then (some true) else (some false)) else (some false)) else (some false))) else (some false)) else (some false)) = some r := h
  clear h
  by_cases c3 : a0_0 = a1_0
  focus
   rw [if_pos c3] at H
   have c3b0 : (a0_0 == a1_0) = true := beq_iff_eq.mpr c3
   have c3b1 : (a0_0 != a1_0) = false := bne_eq_false_iff_eq.mpr c3
   clear c3
   by_cases c4 : a0_1 = a1_1
   focus
    rw [if_pos c4] at H
    have c4b0 : (a0_1 == a1_1) = true := beq_iff_eq.mpr c4
    have c4b1 : (a0_1 != a1_1) = false := bne_eq_false_iff_eq.mpr c4
    clear c4
    replace H := Option.bind_eq_some_iff.mp H
    obtain ⟨t296, A50, H⟩ := H
    replace H : (if t296 = true then (if a0_3.toList = a1_3.toList then (if a0_4 = a1_4 then (some true) else (some false)) else (some false)) else (some false)) = some r := H
    have A5 := Aside0.mk A50
    clear A50
    by_cases c6 : t296 = true
    focus
     subst c6
     have H1 : (if a0_3.toList = a1_3.toList then (if a0_4 = a1_4 then (some true) else (some false)) else (some false)) = some r := by rw [if_pos rfl] at H; exact H
     clear H
     have H := H1
     clear H1
     by_cases c7 : a0_3.toList = a1_3.toList
     focus
      rw [if_pos c7] at H
      have c7b0 : (a0_3.toList == a1_3.toList) = true := beq_iff_eq.mpr c7
      have c7b1 : (a0_3.toList != a1_3.toList) = false := bne_eq_false_iff_eq.mpr c7
      clear c7
      by_cases c8 : a0_4 = a1_4
      focus
       rw [if_pos c8] at H
       have c8b0 : (a0_4 == a1_4) = true := beq_iff_eq.mpr c8
       have c8b1 : (a0_4 != a1_4) = false := bne_eq_false_iff_eq.mpr c8
       clear c8
       obtain rfl := Option.some.inj H
      rotate_left 1
      focus
       rw [if_neg c8] at H
       have c8b0 : (a0_4 == a1_4) = false := beq_eq_false_iff_ne.mpr c8
       have c8b1 : (a0_4 != a1_4) = true := bne_iff_ne.mpr c8
       obtain rfl := Option.some.inj H
     rotate_left 2
     focus
      rw [if_neg c7] at H
      have c7b0 : (a0_3.toList == a1_3.toList) = false := beq_eq_false_iff_ne.mpr c7
      have c7b1 : (a0_3.toList != a1_3.toList) = true := bne_iff_ne.mpr c7
      obtain rfl := Option.some.inj H
    rotate_left 3
    · replace c6 := Bool.eq_false_iff.mpr c6
      subst c6
      have H1 : (some false) = some r := by rw [if_neg (show ¬ (false = true) by decide)] at H; exact H
      clear H
      have H := H1
      clear H1
      obtain rfl := Option.some.inj H
      go_enter Try.func48, Try.ntmps48
      go_wp2_with (first | ((with_reducible refine gate_dst (N := 2) rfl ?_); refine box_event rfl (N := 2) rfl (cs := #[.int .i64 a0_0, .int .i64 a0_1, .float .f64 a0_2, .string a0_3, .int .i64 a0_4]) (t := 28) (by first | (go_simp; done) | (go_simp; rfl)) ?_; intro gb294 hg w24 hbox hb; have BK294 := Aside0.mk (hbox); have GW294 := (gws hg (hbe HB.out) : Aside0 (w.heap.size ≤ gb294)); have GE294 := (gws hg (hbe HB.out) : Aside0 (w.heap.size ≤ gb294)); replace HB := hbs HB.out hb; clear hb hbox hg) | ((with_reducible refine gate_dst (N := 3) rfl ?_); refine box_event rfl (N := 3) rfl (cs := #[.int .i64 a1_0, .int .i64 a1_1, .float .f64 a1_2, .string a1_3, .int .i64 a1_4]) (t := 28) (by first | (go_simp; done) | (go_simp; rfl)) ?_; intro gb295 hg w25 hbox hb; have BK295 := Aside0.mk (hbox); have GW295 := (gws hg (hbe1 HB.out GE294.out) : Aside0 (w.heap.size ≤ gb295)); have GE295 := (gws hg (hbe1 HB.out GE294.out) : Aside0 (w.heap.size ≤ gb295)); replace HB := hbs1 HB.out GE294.out hb; have NB294_295 := nlt hg BK294.out; have NB295_294 := ngt hg BK294.out; replace BK294 := bku BK294.out hb; clear hb hbox hg; have hnb26 := NB294_295.out; have hnc26 := NB295_294.out; obtain ⟨hcz27_0, hcz27_1, hcz27_2, hcz27_3, hcz27_4, hfz27_0, hfz27_1, hfz27_2, hfz27_3, hfz27_4⟩ := cells5 BK294.out; obtain ⟨hcz28_0, hcz28_1, hcz28_2, hcz28_3, hcz28_4, hfz28_0, hfz28_1, hfz28_2, hfz28_3, hfz28_4⟩ := cells5 BK295.out) | ((with_reducible refine gate_callee (f := 88) rfl ?_); refine goesS (some 19) rfl Try.func88 #[.float .f64 a0_2, .float .f64 a1_2] rfl ?_; (with_reducible refine (laws_sameFloat.calls k a0_2 a1_2 false _ A5.out).mono ?_); rintro e w' ⟨rfl, ⟨nd, rfl⟩⟩; refine ⟨_, rfl, ?_⟩))
      go_ret
      exact ⟨by first | rfl | (simp <;> rfl) | (simp [*] <;> rfl), hbe2 HB.out GE294.out GE295.out⟩
   rotate_left 3
   focus
    rw [if_neg c4] at H
    have c4b0 : (a0_1 == a1_1) = false := beq_eq_false_iff_ne.mpr c4
    have c4b1 : (a0_1 != a1_1) = true := bne_iff_ne.mpr c4
    obtain rfl := Option.some.inj H
  rotate_left 4
  focus
   rw [if_neg c3] at H
   have c3b0 : (a0_0 == a1_0) = false := beq_eq_false_iff_ne.mpr c3
   have c3b1 : (a0_0 != a1_0) = true := bne_iff_ne.mpr c3
   obtain rfl := Option.some.inj H
  all_goals
   go_enter Try.func48, Try.ntmps48
   go_wp2_with (first | ((with_reducible refine gate_dst (N := 2) rfl ?_); refine box_event rfl (N := 2) rfl (cs := #[.int .i64 a0_0, .int .i64 a0_1, .float .f64 a0_2, .string a0_3, .int .i64 a0_4]) (t := 28) (by first | (go_simp; done) | (go_simp; rfl)) ?_; intro gbz0_ hg wz1_ hbox hb; have nz2_ := hbs HB.out hb; have nz3_ := Aside0.mk (hbox); have nz4_ := (gws hg (hbe HB.out) : Aside0 (w.heap.size ≤ gbz0_)); have nz5_ := (gws hg (hbe HB.out) : Aside0 (w.heap.size ≤ gbz0_)); clear HB; have HB := nz2_; have BKz6_ := nz3_; have GWz7_ := nz4_; have GEz8_ := nz5_; clear nz2_ nz3_ nz4_ nz5_; clear hb hbox hg) | ((with_reducible refine gate_dst (N := 3) rfl ?_); refine box_event rfl (N := 3) rfl (cs := #[.int .i64 a1_0, .int .i64 a1_1, .float .f64 a1_2, .string a1_3, .int .i64 a1_4]) (t := 28) (by first | (go_simp; done) | (go_simp; rfl)) ?_; intro gbz9_ hg wz10_ hbox hb; have nz2_ := bku BKz6_.out hb; have nz3_ := Aside0.mk (below_step (by repeat (first | (with_reducible first | exact HB.out | apply below_alloc | apply pw_below_drewN | apply below_drew1 | refine below_set ?_ GEz8_.out) | exact HB.out)) hb); have nz4_ := Aside0.mk (hbox); have nz5_ := Aside0.mk ((by rw [hg]; exact (below_size (by repeat (first | (with_reducible first | exact HB.out | apply below_alloc | apply pw_below_drewN | apply below_drew1 | refine below_set ?_ GEz8_.out) | exact HB.out))) : w.heap.size ≤ gbz9_)); have nz11_ := Aside0.mk ((by rw [hg]; exact (below_size (by repeat (first | (with_reducible first | exact HB.out | apply below_alloc | apply pw_below_drewN | apply below_drew1 | refine below_set ?_ GEz8_.out) | exact HB.out))) : w.heap.size ≤ gbz9_)); have nz12_ := nlt hg BKz6_.out; have nz13_ := ngt hg BKz6_.out; clear BKz6_; clear HB; have BKz6_ := nz2_; have HB := nz3_; have BKz14_ := nz4_; have GWz15_ := nz5_; have GEz16_ := nz11_; have NBz17_ := nz12_; have NBz18_ := nz13_; clear nz2_ nz3_ nz4_ nz5_ nz11_ nz12_ nz13_; clear hb hbox hg; have hnbz19_ := NBz17_.out; have hncz20_ := NBz18_.out; have hczz21_ : wz10_.cell? ⟨gbz0_, 0, none⟩ = some (.int .i64 a0_0) := (blk_cell BKz6_.out 0).trans rfl; have hczz22_ : wz10_.cell? ⟨gbz0_, 1, none⟩ = some (.int .i64 a0_1) := (blk_cell BKz6_.out 1).trans rfl; have hczz23_ : wz10_.cell? ⟨gbz0_, 2, none⟩ = some (.float .f64 a0_2) := (blk_cell BKz6_.out 2).trans rfl; have hczz24_ : wz10_.cell? ⟨gbz0_, 3, none⟩ = some (.string a0_3) := (blk_cell BKz6_.out 3).trans rfl; have hczz25_ : wz10_.cell? ⟨gbz0_, 4, none⟩ = some (.int .i64 a0_4) := (blk_cell BKz6_.out 4).trans rfl; have hfzz26_ := blk_frozen BKz6_.out 0; have hfzz27_ := blk_frozen BKz6_.out 1; have hfzz28_ := blk_frozen BKz6_.out 2; have hfzz29_ := blk_frozen BKz6_.out 3; have hfzz30_ := blk_frozen BKz6_.out 4; have hczz31_ : wz10_.cell? ⟨gbz9_, 0, none⟩ = some (.int .i64 a1_0) := (blk_cell BKz14_.out 0).trans rfl; have hczz32_ : wz10_.cell? ⟨gbz9_, 1, none⟩ = some (.int .i64 a1_1) := (blk_cell BKz14_.out 1).trans rfl; have hczz33_ : wz10_.cell? ⟨gbz9_, 2, none⟩ = some (.float .f64 a1_2) := (blk_cell BKz14_.out 2).trans rfl; have hczz34_ : wz10_.cell? ⟨gbz9_, 3, none⟩ = some (.string a1_3) := (blk_cell BKz14_.out 3).trans rfl; have hczz35_ : wz10_.cell? ⟨gbz9_, 4, none⟩ = some (.int .i64 a1_4) := (blk_cell BKz14_.out 4).trans rfl; have hfzz36_ := blk_frozen BKz14_.out 0; have hfzz37_ := blk_frozen BKz14_.out 1; have hfzz38_ := blk_frozen BKz14_.out 2; have hfzz39_ := blk_frozen BKz14_.out 3; have hfzz40_ := blk_frozen BKz14_.out 4) | ((with_reducible refine gate_callee (f := 88) rfl ?_); refine goesS (some 19) rfl Try.func88 #[.float .f64 a0_2, .float .f64 a1_2] rfl ?_; (with_reducible refine (laws_sameFloat.calls k a0_2 a1_2 true _ A5.out).mono ?_); rintro e w' ⟨rfl, ⟨nd, rfl⟩⟩; refine ⟨_, rfl, ?_⟩))
   go_ret
   exact ⟨by first | rfl | (simp [errW_none, errW_some] <;> rfl) | (simp [*, errW_none, errW_some] <;> rfl), by repeat (first | (with_reducible first | exact HB.out | apply below_alloc | apply pw_below_drewN | apply below_drew1 | refine below_set ?_ GEz8_.out | refine below_set ?_ GEz16_.out) | exact HB.out)⟩
end Go.Proofs.Ytdjlbfaiccdbfaa.PAll
