/- Cut down from the texts of the same job by wip/shake.py to what this claim reaches. -/
import Derived.Test.YtdjlbfaiccdbfaaKLGx0
import Derived.Test.YtdjlbfaiccdbfaaKLGx2
import Derived.Test.YtdjlbfaiccdbfaaKLGx7
namespace Go.Proofs.Ytdjlbfaiccdbfaa.PAll
open Go.RowKit Go.Proofs.YtdjlbfaiccdbfaaW.PrintWords Go.Proofs.YtdjlbfaiccdbfaaW.PrintLast Go.Proofs.YtdjlbfaiccdbfaaW.PrintMore
attribute [local go_sem] max2_int min2_int max_two min_two max_three min_three max_four min_four   -- for this text's walks alone
set_option linter.unusedVariables false
set_option linter.unusedSimpArgs false
mutual
def spec_Key.j0 : Nat → Bool → Int → Int → Nat → ByteArray → Int → Option (Int × Int × Int × Nat × ByteArray × Int)
  | 0, _, _, _, _, _, _ => none
  | k + 1, x19, x222000, x222001, x222002, x222003, x222004 => if x19 = true then ((spec_l1fail.f 5).bind fun bt231 => (some (bt231.1, bt231.2.1, bt231.2.2.1, bt231.2.2.2.1, bt231.2.2.2.2.1, bt231.2.2.2.2.2))) else (if x222000 = 3 then ((spec_l1floor.f k x222002).bind fun t237 => (if (feq x222002 t237) = true then (if (fgeq x222002 14114281232179134464) = true then (spec_Key.j1 k (flss x222002 4890909195324358656) x222000 x222001 x222002 x222003 x222004) else (spec_Key.j1 k false x222000 x222001 x222002 x222003 x222004)) else (spec_Key.j1 k false x222000 x222001 x222002 x222003 x222004))) else (spec_Key.j1 k false x222000 x222001 x222002 x222003 x222004))
def spec_Key.j1 : Nat → Bool → Int → Int → Nat → ByteArray → Int → Option (Int × Int × Int × Nat × ByteArray × Int)
  | 0, _, _, _, _, _, _ => none
  | k + 1, x41, x222000, x222001, x222002, x222003, x222004 => if x41 = true then (if (f2iOk .i64 x222002) = true then ((spec_l1int.f (f2i x222002)).bind fun bt238 => ((spec_l1got.f bt238.1 bt238.2.1 bt238.2.2.1 bt238.2.2.2.1 bt238.2.2.2.2).bind fun bt243 => (some (bt243.1, bt243.2.1, bt243.2.2.1, bt243.2.2.2.1, bt243.2.2.2.2.1, bt243.2.2.2.2.2)))) else (none)) else ((spec_l1got.f x222000 x222001 x222002 x222003 x222004).bind fun bt249 => (some (bt249.1, bt249.2.1, bt249.2.2.1, bt249.2.2.2.1, bt249.2.2.2.2.1, bt249.2.2.2.2.2)))
end
def spec_Key.f (k : Nat) (a0_0 : Int) (a0_1 : Int) (a0_2 : Nat) (a0_3 : ByteArray) (a0_4 : Int) : Option (Int × Int × Int × Nat × ByteArray × Int) := (spec_ValueOk.f k a0_0 a0_1 a0_2 a0_3 a0_4).bind fun t223 => (if t223 = true then (if a0_0 = 0 then (spec_Key.j0 k true a0_0 a0_1 a0_2 a0_3 a0_4) else (if a0_0 = 3 then ((spec_l1nan.f a0_2).bind fun t230 => (spec_Key.j0 k t230 a0_0 a0_1 a0_2 a0_3 a0_4)) else (spec_Key.j0 k false a0_0 a0_1 a0_2 a0_3 a0_4))) else ((spec_l1fail.f 1).bind fun bt224 => (some (bt224.1, bt224.2.1, bt224.2.2.1, bt224.2.2.2.1, bt224.2.2.2.2.1, bt224.2.2.2.2.2))))
set_option maxHeartbeats 8000000 in
set_option maxRecDepth 100000 in
theorem spec_Key.calls (k : Nat) (a0_0 : Int) (a0_1 : Int) (a0_2 : Nat) (a0_3 : ByteArray) (a0_4 : Int) (r1 : Int) (r2 : Int) (r3 : Int) (r4 : Nat) (r5 : ByteArray) (r6 : Int) (w : World) (h : spec_Key.f k a0_0 a0_1 a0_2 a0_3 a0_4 = some (r1, r2, r3, r4, r5, r6)) :
    Calls Try.prog 27 #[.agg #[.int .i64 a0_0, .int .i64 a0_1, .float .f64 a0_2, .string a0_3, .int .i64 a0_4]] w fun e w' => e = .returned (.agg #[.int .i64 r1, .int .i64 r2, .int .i64 r3, .float .f64 r4, .string r5, .int .i64 r6]) ∧ Below w.heap.size w w' := by
  have hu28 := Try.underlying28
  have hu41 := Try.underlying41
  have HB := Aside0.mk (Below.refl w.heap.size w)
  have H : ((spec_ValueOk.f k a0_0 a0_1 a0_2 a0_3 a0_4).bind fun t223 => (if t223 = true then (if a0_0 = 0 then (spec_Key.j0 k true a0_0 a0_1 a0_2 a0_3 a0_4) else (if a0_0 = 3 then ((spec_l1nan.f a0_2).bind fun t230 => (spec_Key.j0 k t230 a0_0 a0_1 a0_2 a0_3 a0_4)) else (spec_Key.j0 k false a0_0 a0_1 a0_2 a0_3 a0_4))) else ((spec_l1fail.f 1).bind fun bt224 => (some (bt224.1, bt224.2.1, bt224.2.2.1, bt224.2.2.2.1, bt224.2.2.2.2.1, bt224.2.2.2.2.2))))) = some (r1, r2, r3, r4, r5, r6) := h
  clear h
  replace H := Option.bind_eq_some_iff.mp H
  obtain ⟨t223, A20, H⟩ := H
  replace H : (if t223 = true then (if a0_0 = 0 then (spec_Key.j0 k true a0_0 a0_1 a0_2 a0_3 a0_4) else (if a0_0 = 3 then ((spec_l1nan.f a0_2).bind fun t230 => (spec_Key.j0 k t230 a0_0 a0_1 a0_2 a0_3 a0_4)) else (spec_Key.j0 k false a0_0 a0_1 a0_2 a0_3 a0_4))) else ((spec_l1fail.f 1).bind fun bt224 => (some (bt224.1, bt224.2.1, bt224.2.2.1, bt224.2.2.2.1, bt224.2.2.2.2.1, bt224.2.2.2.2.2)))) = some (r1, r2, r3, r4, r5, r6) := H
  have A2 := Aside0.mk A20
  clear A20
  by_cases c3 : t223 = true
  rotate_left 1
  · replace c3 := Bool.eq_false_iff.mpr c3
    subst c3
    have H1 : ((spec_l1fail.f 1).bind fun bt224 => (some (bt224.1, bt224.2.1, bt224.2.2.1, bt224.2.2.2.1, bt224.2.2.2.2.1, bt224.2.2.2.2.2))) = some (r1, r2, r3, r4, r5, r6) := by rw [if_neg (show ¬ (false = true) by decide)] at H; exact H
    clear H
    have H := H1
    clear H1
    replace H := Option.bind_eq_some_iff.mp H
    obtain ⟨⟨t224, t225, t226, t227, t228, t229⟩, A510, H⟩ := H
    replace H : (some (t224, t225, t226, t227, t228, t229)) = some (r1, r2, r3, r4, r5, r6) := H
    have A51 := Aside0.mk A510
    clear A510
    simp only [Option.some.injEq, Prod.mk.injEq] at H
    obtain ⟨rfl, rfl, rfl, rfl, rfl, rfl⟩ := H
    go_enter Try.func27, Try.ntmps27
    go_wp2_with (first | ((with_reducible refine gate_dst (N := 1) rfl ?_); refine box_event rfl (N := 1) rfl (cs := #[.int .i64 a0_0, .int .i64 a0_1, .float .f64 a0_2, .string a0_3, .int .i64 a0_4]) (t := 28) (by first | (go_simp; done) | (go_simp; rfl)) ?_; intro gb221 hg w52 hbox hb; have BK221 := Aside0.mk (hbox); have GW221 := (gws hg (hbe HB.out) : Aside0 (w.heap.size ≤ gb221)); have GE221 := (gws hg (hbe HB.out) : Aside0 (w.heap.size ≤ gb221)); replace HB := hbs HB.out hb; clear hb hbox hg) | ((with_reducible refine gate_dst (N := 2) rfl ?_); refine box_event rfl (N := 2) rfl (cs := #[.int .i64 0, .int .i64 0, .int .i64 0, .float .f64 0, .string (⟨#[]⟩ : ByteArray), .int .i64 0]) (t := 41) (by first | (go_simp; done) | (go_simp; rfl)) ?_; intro gb222 hg w53 hbox hb; have BK222 := Aside0.mk (hbox); have GW222 := (gws hg (hbe1 HB.out GE221.out) : Aside0 (w.heap.size ≤ gb222)); have GE222 := (gws hg (hbe1 HB.out GE221.out) : Aside0 (w.heap.size ≤ gb222)); replace HB := hbs1 HB.out GE221.out hb; have NB221_222 := nlt hg BK221.out; have NB222_221 := ngt hg BK221.out; replace BK221 := bku BK221.out hb; clear hb hbox hg; have hnb54 := NB221_222.out; have hnc54 := NB222_221.out; obtain ⟨hcz55_0, hcz55_1, hcz55_2, hcz55_3, hcz55_4, hfz55_0, hfz55_1, hfz55_2, hfz55_3, hfz55_4⟩ := cells5 BK221.out) | (go_at_call 17; (with_reducible refine (spec_ValueOk.calls k a0_0 a0_1 a0_2 a0_3 a0_4 false _ A2.out).mono ?_); rintro e w56 ⟨rfl, hb⟩; replace BK221 := bku BK221.out hb; replace BK222 := bku BK222.out hb; replace HB := hbs2 HB.out GE221.out GE222.out hb; (try clear hb); (try clear hb2); (try clear hk); (try clear hi)) | (go_at_call 58; (with_reducible refine (spec_l1fail.calls 1 t224 t225 t226 t227 t228 t229 _ A51.out).mono ?_); rintro e w57 ⟨rfl, hb⟩; replace BK221 := bku BK221.out hb; replace BK222 := bku BK222.out hb; replace HB := hbs2 HB.out GE221.out GE222.out hb; (try clear hb); (try clear hb2); (try clear hk); (try clear hi); obtain ⟨hcz58_0, hcz58_1, hcz58_2, hcz58_3, hcz58_4, hcz58_5, hfz58_0, hfz58_1, hfz58_2, hfz58_3, hfz58_4, hfz58_5⟩ := cells6 BK222.out))
    repeat (go_quiet (first | ((with_reducible refine gate_dst (N := 1) rfl ?_); refine box_event rfl (N := 1) rfl (cs := #[.int .i64 a0_0, .int .i64 a0_1, .float .f64 a0_2, .string a0_3, .int .i64 a0_4]) (t := 28) (by first | (go_simp; done) | (go_simp; rfl)) ?_; intro gb221 hg w52 hbox hb; have BK221 := Aside0.mk (hbox); have GW221 := (gws hg (hbe HB.out) : Aside0 (w.heap.size ≤ gb221)); have GE221 := (gws hg (hbe HB.out) : Aside0 (w.heap.size ≤ gb221)); replace HB := hbs HB.out hb; clear hb hbox hg) | ((with_reducible refine gate_dst (N := 2) rfl ?_); refine box_event rfl (N := 2) rfl (cs := #[.int .i64 0, .int .i64 0, .int .i64 0, .float .f64 0, .string (⟨#[]⟩ : ByteArray), .int .i64 0]) (t := 41) (by first | (go_simp; done) | (go_simp; rfl)) ?_; intro gb222 hg w53 hbox hb; have BK222 := Aside0.mk (hbox); have GW222 := (gws hg (hbe1 HB.out GE221.out) : Aside0 (w.heap.size ≤ gb222)); have GE222 := (gws hg (hbe1 HB.out GE221.out) : Aside0 (w.heap.size ≤ gb222)); replace HB := hbs1 HB.out GE221.out hb; have NB221_222 := nlt hg BK221.out; have NB222_221 := ngt hg BK221.out; replace BK221 := bku BK221.out hb; clear hb hbox hg; have hnb54 := NB221_222.out; have hnc54 := NB222_221.out; obtain ⟨hcz55_0, hcz55_1, hcz55_2, hcz55_3, hcz55_4, hfz55_0, hfz55_1, hfz55_2, hfz55_3, hfz55_4⟩ := cells5 BK221.out) | (go_at_call 17; (with_reducible refine (spec_ValueOk.calls k a0_0 a0_1 a0_2 a0_3 a0_4 false _ A2.out).mono ?_); rintro e w56 ⟨rfl, hb⟩; replace BK221 := bku BK221.out hb; replace BK222 := bku BK222.out hb; replace HB := hbs2 HB.out GE221.out GE222.out hb; (try clear hb); (try clear hb2); (try clear hk); (try clear hi)) | (go_at_call 58; (with_reducible refine (spec_l1fail.calls 1 t224 t225 t226 t227 t228 t229 _ A51.out).mono ?_); rintro e w57 ⟨rfl, hb⟩; replace BK221 := bku BK221.out hb; replace BK222 := bku BK222.out hb; replace HB := hbs2 HB.out GE221.out GE222.out hb; (try clear hb); (try clear hb2); (try clear hk); (try clear hi); obtain ⟨hcz58_0, hcz58_1, hcz58_2, hcz58_3, hcz58_4, hcz58_5, hfz58_0, hfz58_1, hfz58_2, hfz58_3, hfz58_4, hfz58_5⟩ := cells6 BK222.out)); try go_wp2_with (first | ((with_reducible refine gate_dst (N := 1) rfl ?_); refine box_event rfl (N := 1) rfl (cs := #[.int .i64 a0_0, .int .i64 a0_1, .float .f64 a0_2, .string a0_3, .int .i64 a0_4]) (t := 28) (by first | (go_simp; done) | (go_simp; rfl)) ?_; intro gb221 hg w52 hbox hb; have BK221 := Aside0.mk (hbox); have GW221 := (gws hg (hbe HB.out) : Aside0 (w.heap.size ≤ gb221)); have GE221 := (gws hg (hbe HB.out) : Aside0 (w.heap.size ≤ gb221)); replace HB := hbs HB.out hb; clear hb hbox hg) | ((with_reducible refine gate_dst (N := 2) rfl ?_); refine box_event rfl (N := 2) rfl (cs := #[.int .i64 0, .int .i64 0, .int .i64 0, .float .f64 0, .string (⟨#[]⟩ : ByteArray), .int .i64 0]) (t := 41) (by first | (go_simp; done) | (go_simp; rfl)) ?_; intro gb222 hg w53 hbox hb; have BK222 := Aside0.mk (hbox); have GW222 := (gws hg (hbe1 HB.out GE221.out) : Aside0 (w.heap.size ≤ gb222)); have GE222 := (gws hg (hbe1 HB.out GE221.out) : Aside0 (w.heap.size ≤ gb222)); replace HB := hbs1 HB.out GE221.out hb; have NB221_222 := nlt hg BK221.out; have NB222_221 := ngt hg BK221.out; replace BK221 := bku BK221.out hb; clear hb hbox hg; have hnb54 := NB221_222.out; have hnc54 := NB222_221.out; obtain ⟨hcz55_0, hcz55_1, hcz55_2, hcz55_3, hcz55_4, hfz55_0, hfz55_1, hfz55_2, hfz55_3, hfz55_4⟩ := cells5 BK221.out) | (go_at_call 17; (with_reducible refine (spec_ValueOk.calls k a0_0 a0_1 a0_2 a0_3 a0_4 false _ A2.out).mono ?_); rintro e w56 ⟨rfl, hb⟩; replace BK221 := bku BK221.out hb; replace BK222 := bku BK222.out hb; replace HB := hbs2 HB.out GE221.out GE222.out hb; (try clear hb); (try clear hb2); (try clear hk); (try clear hi)) | (go_at_call 58; (with_reducible refine (spec_l1fail.calls 1 t224 t225 t226 t227 t228 t229 _ A51.out).mono ?_); rintro e w57 ⟨rfl, hb⟩; replace BK221 := bku BK221.out hb; replace BK222 := bku BK222.out hb; replace HB := hbs2 HB.out GE221.out GE222.out hb; (try clear hb); (try clear hb2); (try clear hk); (try clear hi); obtain ⟨hcz58_0, hcz58_1, hcz58_2, hcz58_3, hcz58_4, hcz58_5, hfz58_0, hfz58_1, hfz58_2, hfz58_3, hfz58_4, hfz58_5⟩ := cells6 BK222.out)))
    refine bodyPost_ret (results_cell_row rfl _ _ gb222 41 #[.int .i64 t224, .int .i64 t225, .int .i64 t226, .float .f64 t227, .string t228, .int .i64 t229] (0, 0) _ rfl (by (with_reducible repeat (first | refine blk_drewN ?_ _ | refine blk_drew ?_ | refine blk_alloc ?_ _)); refine blk_put (cs := #[.int .i64 t224, .int .i64 t225, .int .i64 t226, .float .f64 t227, .string t228, .int .i64 0]) ?_ 5 _ rfl; (with_reducible repeat (first | refine blk_drewN ?_ _ | refine blk_drew ?_ | refine blk_alloc ?_ _)); refine blk_put (cs := #[.int .i64 t224, .int .i64 t225, .int .i64 t226, .float .f64 t227, .string (⟨#[]⟩ : ByteArray), .int .i64 0]) ?_ 4 _ rfl; (with_reducible repeat (first | refine blk_drewN ?_ _ | refine blk_drew ?_ | refine blk_alloc ?_ _)); refine blk_put (cs := #[.int .i64 t224, .int .i64 t225, .int .i64 t226, .float .f64 0, .string (⟨#[]⟩ : ByteArray), .int .i64 0]) ?_ 3 _ rfl; (with_reducible repeat (first | refine blk_drewN ?_ _ | refine blk_drew ?_ | refine blk_alloc ?_ _)); refine blk_put (cs := #[.int .i64 t224, .int .i64 t225, .int .i64 0, .float .f64 0, .string (⟨#[]⟩ : ByteArray), .int .i64 0]) ?_ 2 _ rfl; (with_reducible repeat (first | refine blk_drewN ?_ _ | refine blk_drew ?_ | refine blk_alloc ?_ _)); refine blk_put (cs := #[.int .i64 t224, .int .i64 0, .int .i64 0, .float .f64 0, .string (⟨#[]⟩ : ByteArray), .int .i64 0]) ?_ 1 _ rfl; (with_reducible repeat (first | refine blk_drewN ?_ _ | refine blk_drew ?_ | refine blk_alloc ?_ _)); refine blk_put (cs := #[.int .i64 0, .int .i64 0, .int .i64 0, .float .f64 0, .string (⟨#[]⟩ : ByteArray), .int .i64 0]) ?_ 0 _ rfl; (with_reducible repeat (first | refine blk_drewN ?_ _ | refine blk_drew ?_ | refine blk_alloc ?_ _)); exact BK222.out) Try.underlying41 rfl (by kernel_rfl)) rfl ?_
    exact ⟨by first | rfl | (simp <;> rfl) | (simp [*] <;> rfl), hbe2 HB.out GE221.out GE222.out⟩
  subst c3
  have H1 : (if a0_0 = 0 then (spec_Key.j0 k true a0_0 a0_1 a0_2 a0_3 a0_4) else (if a0_0 = 3 then ((spec_l1nan.f a0_2).bind fun t230 => (spec_Key.j0 k t230 a0_0 a0_1 a0_2 a0_3 a0_4)) else (spec_Key.j0 k false a0_0 a0_1 a0_2 a0_3 a0_4))) = some (r1, r2, r3, r4, r5, r6) := by rw [if_pos rfl] at H; exact H
  clear H
  have H := H1
  clear H1
  have HC4 := Aside0.mk H
  clear H
  go_enter Try.func27, Try.ntmps27
  go_upto_region 3 with (first | ((with_reducible refine gate_dst (N := 1) rfl ?_); refine box_event rfl (N := 1) rfl (cs := #[.int .i64 a0_0, .int .i64 a0_1, .float .f64 a0_2, .string a0_3, .int .i64 a0_4]) (t := 28) (by first | (go_simp; done) | (go_simp; rfl)) ?_; intro gb221 hg w5 hbox hb; have BK221 := Aside0.mk (hbox); have GW221 := (gws hg (hbe HB.out) : Aside0 (w.heap.size ≤ gb221)); have GE221 := (gws hg (hbe HB.out) : Aside0 (w.heap.size ≤ gb221)); replace HB := hbs HB.out hb; clear hb hbox hg) | ((with_reducible refine gate_dst (N := 2) rfl ?_); refine box_event rfl (N := 2) rfl (cs := #[.int .i64 0, .int .i64 0, .int .i64 0, .float .f64 0, .string (⟨#[]⟩ : ByteArray), .int .i64 0]) (t := 41) (by first | (go_simp; done) | (go_simp; rfl)) ?_; intro gb222 hg w6 hbox hb; have BK222 := Aside0.mk (hbox); have GW222 := (gws hg (hbe1 HB.out GE221.out) : Aside0 (w.heap.size ≤ gb222)); have GE222 := (gws hg (hbe1 HB.out GE221.out) : Aside0 (w.heap.size ≤ gb222)); replace HB := hbs1 HB.out GE221.out hb; have NB221_222 := nlt hg BK221.out; have NB222_221 := ngt hg BK221.out; replace BK221 := bku BK221.out hb; clear hb hbox hg; have hnb7 := NB221_222.out; have hnc7 := NB222_221.out; obtain ⟨hcz8_0, hcz8_1, hcz8_2, hcz8_3, hcz8_4, hfz8_0, hfz8_1, hfz8_2, hfz8_3, hfz8_4⟩ := cells5 BK221.out) | (go_at_call 17; (with_reducible refine (spec_ValueOk.calls k a0_0 a0_1 a0_2 a0_3 a0_4 true _ A2.out).mono ?_); rintro e w9 ⟨rfl, hb⟩; replace BK221 := bku BK221.out hb; replace BK222 := bku BK222.out hb; replace HB := hbs2 HB.out GE221.out GE222.out hb; (try clear hb); (try clear hb2); (try clear hk); (try clear hi)))
  repeat (go_quiet (first | ((with_reducible refine gate_dst (N := 1) rfl ?_); refine box_event rfl (N := 1) rfl (cs := #[.int .i64 a0_0, .int .i64 a0_1, .float .f64 a0_2, .string a0_3, .int .i64 a0_4]) (t := 28) (by first | (go_simp; done) | (go_simp; rfl)) ?_; intro gb221 hg w5 hbox hb; have BK221 := Aside0.mk (hbox); have GW221 := (gws hg (hbe HB.out) : Aside0 (w.heap.size ≤ gb221)); have GE221 := (gws hg (hbe HB.out) : Aside0 (w.heap.size ≤ gb221)); replace HB := hbs HB.out hb; clear hb hbox hg) | ((with_reducible refine gate_dst (N := 2) rfl ?_); refine box_event rfl (N := 2) rfl (cs := #[.int .i64 0, .int .i64 0, .int .i64 0, .float .f64 0, .string (⟨#[]⟩ : ByteArray), .int .i64 0]) (t := 41) (by first | (go_simp; done) | (go_simp; rfl)) ?_; intro gb222 hg w6 hbox hb; have BK222 := Aside0.mk (hbox); have GW222 := (gws hg (hbe1 HB.out GE221.out) : Aside0 (w.heap.size ≤ gb222)); have GE222 := (gws hg (hbe1 HB.out GE221.out) : Aside0 (w.heap.size ≤ gb222)); replace HB := hbs1 HB.out GE221.out hb; have NB221_222 := nlt hg BK221.out; have NB222_221 := ngt hg BK221.out; replace BK221 := bku BK221.out hb; clear hb hbox hg; have hnb7 := NB221_222.out; have hnc7 := NB222_221.out; obtain ⟨hcz8_0, hcz8_1, hcz8_2, hcz8_3, hcz8_4, hfz8_0, hfz8_1, hfz8_2, hfz8_3, hfz8_4⟩ := cells5 BK221.out) | (go_at_call 17; (with_reducible refine (spec_ValueOk.calls k a0_0 a0_1 a0_2 a0_3 a0_4 true _ A2.out).mono ?_); rintro e w9 ⟨rfl, hb⟩; replace BK221 := bku BK221.out hb; replace BK222 := bku BK222.out hb; replace HB := hbs2 HB.out GE221.out GE222.out hb; (try clear hb); (try clear hb2); (try clear hk); (try clear hi))); go_upto_region 3 with (first | ((with_reducible refine gate_dst (N := 1) rfl ?_); refine box_event rfl (N := 1) rfl (cs := #[.int .i64 a0_0, .int .i64 a0_1, .float .f64 a0_2, .string a0_3, .int .i64 a0_4]) (t := 28) (by first | (go_simp; done) | (go_simp; rfl)) ?_; intro gb221 hg w5 hbox hb; have BK221 := Aside0.mk (hbox); have GW221 := (gws hg (hbe HB.out) : Aside0 (w.heap.size ≤ gb221)); have GE221 := (gws hg (hbe HB.out) : Aside0 (w.heap.size ≤ gb221)); replace HB := hbs HB.out hb; clear hb hbox hg) | ((with_reducible refine gate_dst (N := 2) rfl ?_); refine box_event rfl (N := 2) rfl (cs := #[.int .i64 0, .int .i64 0, .int .i64 0, .float .f64 0, .string (⟨#[]⟩ : ByteArray), .int .i64 0]) (t := 41) (by first | (go_simp; done) | (go_simp; rfl)) ?_; intro gb222 hg w6 hbox hb; have BK222 := Aside0.mk (hbox); have GW222 := (gws hg (hbe1 HB.out GE221.out) : Aside0 (w.heap.size ≤ gb222)); have GE222 := (gws hg (hbe1 HB.out GE221.out) : Aside0 (w.heap.size ≤ gb222)); replace HB := hbs1 HB.out GE221.out hb; have NB221_222 := nlt hg BK221.out; have NB222_221 := ngt hg BK221.out; replace BK221 := bku BK221.out hb; clear hb hbox hg; have hnb7 := NB221_222.out; have hnc7 := NB222_221.out; obtain ⟨hcz8_0, hcz8_1, hcz8_2, hcz8_3, hcz8_4, hfz8_0, hfz8_1, hfz8_2, hfz8_3, hfz8_4⟩ := cells5 BK221.out) | (go_at_call 17; (with_reducible refine (spec_ValueOk.calls k a0_0 a0_1 a0_2 a0_3 a0_4 true _ A2.out).mono ?_); rintro e w9 ⟨rfl, hb⟩; replace BK221 := bku BK221.out hb; replace BK222 := bku BK222.out hb; replace HB := hbs2 HB.out GE221.out GE222.out hb; (try clear hb); (try clear hb2); (try clear hk); (try clear hi))))
  (try simp only [Act.put, List.setIfInBounds_toArray, List.set_cons_zero, List.set_cons_succ])
  go_cut [19] (fun v19 wc => ∃ (kq : Nat) (x19_3 : Bool), v19 = .bool x19_3 ∧ Aside0 (spec_Key.j0 kq x19_3 a0_0 a0_1 a0_2 a0_3 a0_4 = some (r1, r2, r3, r4, r5, r6)) ∧ Aside0 (kq ≤ k) ∧ Aside0 (wc.heap[gb221]? = some (.cells #[.int .i64 a0_0, .int .i64 a0_1, .float .f64 a0_2, .string a0_3, .int .i64 a0_4] 28 (0, 0))) ∧ Aside0 (wc.heap[gb222]? = some (.cells #[.int .i64 0, .int .i64 0, .int .i64 0, .float .f64 0, .string (⟨#[]⟩ : ByteArray), .int .i64 0] 41 (0, 0))) ∧ Aside0 (Below w.heap.size w wc))
  case first =>
    have H := HC4.out
    clear HC4
    by_cases c10 : a0_0 = 0
    · rw [if_pos c10] at H
      have c10b0 : (a0_0 == 0) = true := beq_iff_eq.mpr c10
      have c10b1 : (a0_0 != 0) = false := bne_eq_false_iff_eq.mpr c10
      clear c10
      (first | rw [c10b0] | (simp only [i64_w, i32_w]; rw [c10b0]) | skip)
      have H' := Aside0.mk H
      clear H
      have hnb11 := NB221_222.out
      have hnc11 := NB222_221.out
      obtain ⟨hcz12_0, hcz12_1, hcz12_2, hcz12_3, hcz12_4, hfz12_0, hfz12_1, hfz12_2, hfz12_3, hfz12_4⟩ := cells5 BK221.out
      go_wp2
      repeat (go_quiet (fail); try go_wp2)
      go_meet
      case rel => exact ⟨_, (true), (by first | rfl | (simp; done) | (simp [*]; done)), H', ⟨by first | omega | exact Nat.le_refl _⟩, ⟨by (with_reducible repeat (first | refine blk_drewN ?_ _ | refine blk_drew ?_ | refine blk_alloc ?_ _)); exact BK221.out⟩, ⟨by (with_reducible repeat (first | refine blk_drewN ?_ _ | refine blk_drew ?_ | refine blk_alloc ?_ _)); exact BK222.out⟩, ⟨by repeat (first | (with_reducible first | exact HB.out | apply below_alloc | apply pw_below_drewN | apply below_drew1 | refine below_set ?_ GE221.out | refine below_set ?_ GE222.out) | exact HB.out)⟩⟩
    rw [if_neg c10] at H
    have c10b0 : (a0_0 == 0) = false := beq_eq_false_iff_ne.mpr c10
    have c10b1 : (a0_0 != 0) = true := bne_iff_ne.mpr c10
    (first | rw [c10b0] | (simp only [i64_w, i32_w]; rw [c10b0]) | skip)
    by_cases c13 : a0_0 = 3
    rotate_left 1
    · rw [if_neg c13] at H
      have c13b0 : (a0_0 == 3) = false := beq_eq_false_iff_ne.mpr c13
      have c13b1 : (a0_0 != 3) = true := bne_iff_ne.mpr c13
      have H' := Aside0.mk H
      clear H
      have hnb17 := NB221_222.out
      have hnc17 := NB222_221.out
      obtain ⟨hcz18_0, hcz18_1, hcz18_2, hcz18_3, hcz18_4, hfz18_0, hfz18_1, hfz18_2, hfz18_3, hfz18_4⟩ := cells5 BK221.out
      go_wp2
      repeat (go_quiet (fail); try go_wp2)
      go_meet
      case rel => exact ⟨_, (false), (by first | rfl | (simp; done) | (simp [*]; done)), H', ⟨by first | omega | exact Nat.le_refl _⟩, ⟨by (with_reducible repeat (first | refine blk_drewN ?_ _ | refine blk_drew ?_ | refine blk_alloc ?_ _)); exact BK221.out⟩, ⟨by (with_reducible repeat (first | refine blk_drewN ?_ _ | refine blk_drew ?_ | refine blk_alloc ?_ _)); exact BK222.out⟩, ⟨by repeat (first | (with_reducible first | exact HB.out | apply below_alloc | apply pw_below_drewN | apply below_drew1 | refine below_set ?_ GE221.out | refine below_set ?_ GE222.out) | exact HB.out)⟩⟩
    rw [if_pos c13] at H
    have c13b0 : (a0_0 == 3) = true := beq_iff_eq.mpr c13
    have c13b1 : (a0_0 != 3) = false := bne_eq_false_iff_eq.mpr c13
    clear c13
    replace H := Option.bind_eq_some_iff.mp H
    obtain ⟨t230, A140, H⟩ := H
    replace H : (spec_Key.j0 k t230 a0_0 a0_1 a0_2 a0_3 a0_4) = some (r1, r2, r3, r4, r5, r6) := H
    have A14 := Aside0.mk A140
    clear A140
    have H' := Aside0.mk H
    clear H
    have hnb15 := NB221_222.out
    have hnc15 := NB222_221.out
    obtain ⟨hcz16_0, hcz16_1, hcz16_2, hcz16_3, hcz16_4, hfz16_0, hfz16_1, hfz16_2, hfz16_3, hfz16_4⟩ := cells5 BK221.out
    go_wp2_with (first | (go_at_call 59; (with_reducible refine (spec_l1nan.calls a0_2 t230 _ A14.out).mono ?_); rintro e w' ⟨rfl, ⟨nd, rfl⟩⟩; (try first | exact ⟨rfl, _, World.drewN_drewN _ _ _⟩ | exact ⟨rfl, _, Eq.trans (World.drewN_drewN _ _ _) (congrArg (World.drewN _) (Nat.add_assoc _ _ _))⟩)))
    repeat (go_quiet (first | (go_at_call 59; (with_reducible refine (spec_l1nan.calls a0_2 t230 _ A14.out).mono ?_); rintro e w' ⟨rfl, ⟨nd, rfl⟩⟩; (try first | exact ⟨rfl, _, World.drewN_drewN _ _ _⟩ | exact ⟨rfl, _, Eq.trans (World.drewN_drewN _ _ _) (congrArg (World.drewN _) (Nat.add_assoc _ _ _))⟩))); try go_wp2_with (first | (go_at_call 59; (with_reducible refine (spec_l1nan.calls a0_2 t230 _ A14.out).mono ?_); rintro e w' ⟨rfl, ⟨nd, rfl⟩⟩; (try first | exact ⟨rfl, _, World.drewN_drewN _ _ _⟩ | exact ⟨rfl, _, Eq.trans (World.drewN_drewN _ _ _) (congrArg (World.drewN _) (Nat.add_assoc _ _ _))⟩))))
    go_meet
    case rel => exact ⟨_, (t230), (by first | rfl | (simp; done) | (simp [*]; done)), H', ⟨by first | omega | exact Nat.le_refl _⟩, ⟨by (with_reducible repeat (first | refine blk_drewN ?_ _ | refine blk_drew ?_ | refine blk_alloc ?_ _)); exact BK221.out⟩, ⟨by (with_reducible repeat (first | refine blk_drewN ?_ _ | refine blk_drew ?_ | refine blk_alloc ?_ _)); exact BK222.out⟩, ⟨by repeat (first | (with_reducible first | exact HB.out | apply below_alloc | apply pw_below_drewN | apply below_drew1 | refine below_set ?_ GE221.out | refine below_set ?_ GE222.out) | exact HB.out)⟩⟩
  clear HC4
  try clear c3
  try clear hcz8_0
  try clear hcz8_1
  try clear hcz8_2
  try clear hcz8_3
  try clear hcz8_4
  try clear hfz8_0
  try clear hfz8_1
  try clear hfz8_2
  try clear hfz8_3
  try clear hfz8_4
  obtain ⟨kq, x19_3, rfl, HA, HJ3, BK221, BK222, HB⟩ := hcut
  rcases kq with _ | kj3
  · exact absurd HA.out (by simp [spec_Key.j0])
  have H := HA.out
  clear HA
  simp only [spec_Key.j0] at H
  by_cases c19 : x19_3 = true
  · subst c19
    have H1 : ((spec_l1fail.f 5).bind fun bt231 => (some (bt231.1, bt231.2.1, bt231.2.2.1, bt231.2.2.2.1, bt231.2.2.2.2.1, bt231.2.2.2.2.2))) = some (r1, r2, r3, r4, r5, r6) := by rw [if_pos rfl] at H; exact H
    clear H
    have H := H1
    clear H1
    replace H := Option.bind_eq_some_iff.mp H
    obtain ⟨⟨t231, t232, t233, t234, t235, t236⟩, A200, H⟩ := H
    replace H : (some (t231, t232, t233, t234, t235, t236)) = some (r1, r2, r3, r4, r5, r6) := H
    have A20 := Aside0.mk A200
    clear A200
    simp only [Option.some.injEq, Prod.mk.injEq] at H
    obtain ⟨rfl, rfl, rfl, rfl, rfl, rfl⟩ := H
    go_wp2_with (first | (go_at_call 58; (with_reducible refine (spec_l1fail.calls 5 t231 t232 t233 t234 t235 t236 _ A20.out).mono ?_); rintro e w21 ⟨rfl, hb⟩; replace BK221 := bku BK221.out hb; replace BK222 := bku BK222.out hb; replace HB := hbs2 HB.out GE221.out GE222.out hb; (try clear hb); (try clear hb2); (try clear hk); (try clear hi); have hnb22 := NB222_221.out; have hnc22 := NB221_222.out; obtain ⟨hcz23_0, hcz23_1, hcz23_2, hcz23_3, hcz23_4, hcz23_5, hfz23_0, hfz23_1, hfz23_2, hfz23_3, hfz23_4, hfz23_5⟩ := cells6 BK222.out))
    repeat (go_quiet (first | (go_at_call 58; (with_reducible refine (spec_l1fail.calls 5 t231 t232 t233 t234 t235 t236 _ A20.out).mono ?_); rintro e w21 ⟨rfl, hb⟩; replace BK221 := bku BK221.out hb; replace BK222 := bku BK222.out hb; replace HB := hbs2 HB.out GE221.out GE222.out hb; (try clear hb); (try clear hb2); (try clear hk); (try clear hi); have hnb22 := NB222_221.out; have hnc22 := NB221_222.out; obtain ⟨hcz23_0, hcz23_1, hcz23_2, hcz23_3, hcz23_4, hcz23_5, hfz23_0, hfz23_1, hfz23_2, hfz23_3, hfz23_4, hfz23_5⟩ := cells6 BK222.out)); try go_wp2_with (first | (go_at_call 58; (with_reducible refine (spec_l1fail.calls 5 t231 t232 t233 t234 t235 t236 _ A20.out).mono ?_); rintro e w21 ⟨rfl, hb⟩; replace BK221 := bku BK221.out hb; replace BK222 := bku BK222.out hb; replace HB := hbs2 HB.out GE221.out GE222.out hb; (try clear hb); (try clear hb2); (try clear hk); (try clear hi); have hnb22 := NB222_221.out; have hnc22 := NB221_222.out; obtain ⟨hcz23_0, hcz23_1, hcz23_2, hcz23_3, hcz23_4, hcz23_5, hfz23_0, hfz23_1, hfz23_2, hfz23_3, hfz23_4, hfz23_5⟩ := cells6 BK222.out)))
    refine bodyPost_ret (results_cell_row rfl _ _ gb222 41 #[.int .i64 t231, .int .i64 t232, .int .i64 t233, .float .f64 t234, .string t235, .int .i64 t236] (0, 0) _ rfl (by (with_reducible repeat (first | refine blk_drewN ?_ _ | refine blk_drew ?_ | refine blk_alloc ?_ _)); refine blk_put (cs := #[.int .i64 t231, .int .i64 t232, .int .i64 t233, .float .f64 t234, .string t235, .int .i64 0]) ?_ 5 _ rfl; (with_reducible repeat (first | refine blk_drewN ?_ _ | refine blk_drew ?_ | refine blk_alloc ?_ _)); refine blk_put (cs := #[.int .i64 t231, .int .i64 t232, .int .i64 t233, .float .f64 t234, .string (⟨#[]⟩ : ByteArray), .int .i64 0]) ?_ 4 _ rfl; (with_reducible repeat (first | refine blk_drewN ?_ _ | refine blk_drew ?_ | refine blk_alloc ?_ _)); refine blk_put (cs := #[.int .i64 t231, .int .i64 t232, .int .i64 t233, .float .f64 0, .string (⟨#[]⟩ : ByteArray), .int .i64 0]) ?_ 3 _ rfl; (with_reducible repeat (first | refine blk_drewN ?_ _ | refine blk_drew ?_ | refine blk_alloc ?_ _)); refine blk_put (cs := #[.int .i64 t231, .int .i64 t232, .int .i64 0, .float .f64 0, .string (⟨#[]⟩ : ByteArray), .int .i64 0]) ?_ 2 _ rfl; (with_reducible repeat (first | refine blk_drewN ?_ _ | refine blk_drew ?_ | refine blk_alloc ?_ _)); refine blk_put (cs := #[.int .i64 t231, .int .i64 0, .int .i64 0, .float .f64 0, .string (⟨#[]⟩ : ByteArray), .int .i64 0]) ?_ 1 _ rfl; (with_reducible repeat (first | refine blk_drewN ?_ _ | refine blk_drew ?_ | refine blk_alloc ?_ _)); refine blk_put (cs := #[.int .i64 0, .int .i64 0, .int .i64 0, .float .f64 0, .string (⟨#[]⟩ : ByteArray), .int .i64 0]) ?_ 0 _ rfl; (with_reducible repeat (first | refine blk_drewN ?_ _ | refine blk_drew ?_ | refine blk_alloc ?_ _)); exact BK222.out) Try.underlying41 rfl (by kernel_rfl)) rfl ?_
    exact ⟨by first | rfl | (simp <;> rfl) | (simp [*] <;> rfl), hbe2 HB.out GE221.out GE222.out⟩
  replace c19 := Bool.eq_false_iff.mpr c19
  subst c19
  have H1 : (if a0_0 = 3 then ((spec_l1floor.f kj3 a0_2).bind fun t237 => (if (feq a0_2 t237) = true then (if (fgeq a0_2 14114281232179134464) = true then (spec_Key.j1 kj3 (flss a0_2 4890909195324358656) a0_0 a0_1 a0_2 a0_3 a0_4) else (spec_Key.j1 kj3 false a0_0 a0_1 a0_2 a0_3 a0_4)) else (spec_Key.j1 kj3 false a0_0 a0_1 a0_2 a0_3 a0_4))) else (spec_Key.j1 kj3 false a0_0 a0_1 a0_2 a0_3 a0_4)) = some (r1, r2, r3, r4, r5, r6) := by rw [if_neg (show ¬ (false = true) by decide)] at H; exact H
  clear H
  have H := H1
  clear H1
  have HC24 := Aside0.mk H
  clear H
  go_upto_region 5 with (fail)
  repeat (go_quiet (fail); go_upto_region 5 with (fail))
  go_cut [41] (fun v41 wc => ∃ (kq : Nat) (x41_23 : Bool), v41 = .bool x41_23 ∧ Aside0 (spec_Key.j1 kq x41_23 a0_0 a0_1 a0_2 a0_3 a0_4 = some (r1, r2, r3, r4, r5, r6)) ∧ Aside0 (kq ≤ kj3) ∧ Aside0 (wc.heap[gb221]? = some (.cells #[.int .i64 a0_0, .int .i64 a0_1, .float .f64 a0_2, .string a0_3, .int .i64 a0_4] 28 (0, 0))) ∧ Aside0 (wc.heap[gb222]? = some (.cells #[.int .i64 0, .int .i64 0, .int .i64 0, .float .f64 0, .string (⟨#[]⟩ : ByteArray), .int .i64 0] 41 (0, 0))) ∧ Aside0 (Below w.heap.size w wc))
  case first =>
    have H := HC24.out
    clear HC24
    by_cases c25 : a0_0 = 3
    focus
     rw [if_pos c25] at H
     have c25b0 : (a0_0 == 3) = true := beq_iff_eq.mpr c25
     have c25b1 : (a0_0 != 3) = false := bne_eq_false_iff_eq.mpr c25
     clear c25
     (first | rw [c25b0] | (simp only [i64_w, i32_w]; rw [c25b0]) | skip)
     replace H := Option.bind_eq_some_iff.mp H
     obtain ⟨t237, A260, H⟩ := H
     replace H : (if (feq a0_2 t237) = true then (if (fgeq a0_2 14114281232179134464) = true then (spec_Key.j1 kj3 (flss a0_2 4890909195324358656) a0_0 a0_1 a0_2 a0_3 a0_4) else (spec_Key.j1 kj3 false a0_0 a0_1 a0_2 a0_3 a0_4)) else (spec_Key.j1 kj3 false a0_0 a0_1 a0_2 a0_3 a0_4)) = some (r1, r2, r3, r4, r5, r6) := H
     have A26 := Aside0.mk A260
     clear A260
     by_cases c27 : (feq a0_2 t237) = true
     focus
      rw [if_pos c27] at H
      have c27b0 : (feq a0_2 t237) = true := c27
      clear c27
      by_cases c28 : (fgeq a0_2 14114281232179134464) = true
      focus
       rw [if_pos c28] at H
       have c28b0 : (fgeq a0_2 14114281232179134464) = true := c28
       clear c28
       have H' := Aside0.mk H
       clear H
       have hnb29 := NB221_222.out
       have hnc29 := NB222_221.out
       obtain ⟨hcz30_0, hcz30_1, hcz30_2, hcz30_3, hcz30_4, hfz30_0, hfz30_1, hfz30_2, hfz30_3, hfz30_4⟩ := cells5 BK221.out
      rotate_left 1
      focus
       rw [if_neg c28] at H
       have c28b0 : (fgeq a0_2 14114281232179134464) = false := by simpa using c28
       clear c28
       have H' := Aside0.mk H
       clear H
       have hnb31 := NB221_222.out
       have hnc31 := NB222_221.out
       obtain ⟨hcz32_0, hcz32_1, hcz32_2, hcz32_3, hcz32_4, hfz32_0, hfz32_1, hfz32_2, hfz32_3, hfz32_4⟩ := cells5 BK221.out
     rotate_left 2
     focus
      rw [if_neg c27] at H
      have c27b0 : (feq a0_2 t237) = false := by simpa using c27
      clear c27
      have H' := Aside0.mk H
      clear H
      have hnb33 := NB221_222.out
      have hnc33 := NB222_221.out
      obtain ⟨hcz34_0, hcz34_1, hcz34_2, hcz34_3, hcz34_4, hfz34_0, hfz34_1, hfz34_2, hfz34_3, hfz34_4⟩ := cells5 BK221.out
    rotate_left 3
    · rw [if_neg c25] at H
      have c25b0 : (a0_0 == 3) = false := beq_eq_false_iff_ne.mpr c25
      have c25b1 : (a0_0 != 3) = true := bne_iff_ne.mpr c25
      (first | rw [c25b0] | (simp only [i64_w, i32_w]; rw [c25b0]) | skip)
      have H' := Aside0.mk H
      clear H
      have hnb35 := NB221_222.out
      have hnc35 := NB222_221.out
      obtain ⟨hcz36_0, hcz36_1, hcz36_2, hcz36_3, hcz36_4, hfz36_0, hfz36_1, hfz36_2, hfz36_3, hfz36_4⟩ := cells5 BK221.out
      go_wp2
      repeat (go_quiet (fail); try go_wp2)
      go_meet
      case rel => exact ⟨_, (false), (by first | rfl | (simp; done) | (simp [*]; done)), H', ⟨by have := HJ3.out; first | omega | exact Nat.le_refl _⟩, ⟨by (with_reducible repeat (first | refine blk_drewN ?_ _ | refine blk_drew ?_ | refine blk_alloc ?_ _)); exact BK221.out⟩, ⟨by (with_reducible repeat (first | refine blk_drewN ?_ _ | refine blk_drew ?_ | refine blk_alloc ?_ _)); exact BK222.out⟩, ⟨by repeat (first | (with_reducible first | exact HB.out | apply below_alloc | apply pw_below_drewN | apply below_drew1 | refine below_set ?_ GE221.out | refine below_set ?_ GE222.out) | exact HB.out)⟩⟩
    all_goals
     go_wp2_with (first | (go_at_call 60; (with_reducible refine (spec_l1floor.calls kj3 a0_2 t237 _ A26.out).mono ?_); rintro e w' ⟨rfl, ⟨nd, rfl⟩⟩; (try first | exact ⟨rfl, _, World.drewN_drewN _ _ _⟩ | exact ⟨rfl, _, Eq.trans (World.drewN_drewN _ _ _) (congrArg (World.drewN _) (Nat.add_assoc _ _ _))⟩)))
     repeat (go_quiet (first | (go_at_call 60; (with_reducible refine (spec_l1floor.calls kj3 a0_2 t237 _ A26.out).mono ?_); rintro e w' ⟨rfl, ⟨nd, rfl⟩⟩; (try first | exact ⟨rfl, _, World.drewN_drewN _ _ _⟩ | exact ⟨rfl, _, Eq.trans (World.drewN_drewN _ _ _) (congrArg (World.drewN _) (Nat.add_assoc _ _ _))⟩))); try go_wp2_with (first | (go_at_call 60; (with_reducible refine (spec_l1floor.calls kj3 a0_2 t237 _ A26.out).mono ?_); rintro e w' ⟨rfl, ⟨nd, rfl⟩⟩; (try first | exact ⟨rfl, _, World.drewN_drewN _ _ _⟩ | exact ⟨rfl, _, Eq.trans (World.drewN_drewN _ _ _) (congrArg (World.drewN _) (Nat.add_assoc _ _ _))⟩))))
     go_meet
    · case rel => exact ⟨_, (false), (by first | rfl | (simp; done) | (simp [*]; done)), H', ⟨by have := HJ3.out; first | omega | exact Nat.le_refl _⟩, ⟨by (with_reducible repeat (first | refine blk_drewN ?_ _ | refine blk_drew ?_ | refine blk_alloc ?_ _)); exact BK221.out⟩, ⟨by (with_reducible repeat (first | refine blk_drewN ?_ _ | refine blk_drew ?_ | refine blk_alloc ?_ _)); exact BK222.out⟩, ⟨by repeat (first | (with_reducible first | exact HB.out | apply below_alloc | apply pw_below_drewN | apply below_drew1 | refine below_set ?_ GE221.out | refine below_set ?_ GE222.out) | exact HB.out)⟩⟩
    · case rel => exact ⟨_, (false), (by first | rfl | (simp; done) | (simp [*]; done)), H', ⟨by have := HJ3.out; first | omega | exact Nat.le_refl _⟩, ⟨by (with_reducible repeat (first | refine blk_drewN ?_ _ | refine blk_drew ?_ | refine blk_alloc ?_ _)); exact BK221.out⟩, ⟨by (with_reducible repeat (first | refine blk_drewN ?_ _ | refine blk_drew ?_ | refine blk_alloc ?_ _)); exact BK222.out⟩, ⟨by repeat (first | (with_reducible first | exact HB.out | apply below_alloc | apply pw_below_drewN | apply below_drew1 | refine below_set ?_ GE221.out | refine below_set ?_ GE222.out) | exact HB.out)⟩⟩
    · case rel => exact ⟨_, ((flss a0_2 4890909195324358656)), (by first | rfl | (simp; done) | (simp [*]; done)), H', ⟨by have := HJ3.out; first | omega | exact Nat.le_refl _⟩, ⟨by (with_reducible repeat (first | refine blk_drewN ?_ _ | refine blk_drew ?_ | refine blk_alloc ?_ _)); exact BK221.out⟩, ⟨by (with_reducible repeat (first | refine blk_drewN ?_ _ | refine blk_drew ?_ | refine blk_alloc ?_ _)); exact BK222.out⟩, ⟨by repeat (first | (with_reducible first | exact HB.out | apply below_alloc | apply pw_below_drewN | apply below_drew1 | refine below_set ?_ GE221.out | refine below_set ?_ GE222.out) | exact HB.out)⟩⟩
  clear HC24
  try clear c3
  try clear c19
  try clear hcz8_0
  try clear hcz8_1
  try clear hcz8_2
  try clear hcz8_3
  try clear hcz8_4
  try clear hfz8_0
  try clear hfz8_1
  try clear hfz8_2
  try clear hfz8_3
  try clear hfz8_4
  obtain ⟨kq, x41_23, rfl, HA, HJ23, BK221, BK222, HB⟩ := hcut
  rcases kq with _ | kj23
  · exact absurd HA.out (by simp [spec_Key.j1])
  have H := HA.out
  clear HA
  simp only [spec_Key.j1] at H
  by_cases c37 : x41_23 = true
  rotate_left 1
  · replace c37 := Bool.eq_false_iff.mpr c37
    subst c37
    have H1 : ((spec_l1got.f a0_0 a0_1 a0_2 a0_3 a0_4).bind fun bt249 => (some (bt249.1, bt249.2.1, bt249.2.2.1, bt249.2.2.2.1, bt249.2.2.2.2.1, bt249.2.2.2.2.2))) = some (r1, r2, r3, r4, r5, r6) := by rw [if_neg (show ¬ (false = true) by decide)] at H; exact H
    clear H
    have H := H1
    clear H1
    replace H := Option.bind_eq_some_iff.mp H
    obtain ⟨⟨t249, t250, t251, t252, t253, t254⟩, A460, H⟩ := H
    replace H : (some (t249, t250, t251, t252, t253, t254)) = some (r1, r2, r3, r4, r5, r6) := H
    have A46 := Aside0.mk A460
    clear A460
    simp only [Option.some.injEq, Prod.mk.injEq] at H
    obtain ⟨rfl, rfl, rfl, rfl, rfl, rfl⟩ := H
    have hnb47 := NB221_222.out
    have hnc47 := NB222_221.out
    obtain ⟨hcz48_0, hcz48_1, hcz48_2, hcz48_3, hcz48_4, hfz48_0, hfz48_1, hfz48_2, hfz48_3, hfz48_4⟩ := cells5 BK221.out
    go_wp2_with (first | (go_at_call 61; (with_reducible refine (spec_l1got.calls a0_0 a0_1 a0_2 a0_3 a0_4 t249 t250 t251 t252 t253 t254 _ A46.out).mono ?_); rintro e w49 ⟨rfl, hb⟩; replace BK221 := bku BK221.out hb; replace BK222 := bku BK222.out hb; replace HB := hbs2 HB.out GE221.out GE222.out hb; (try clear hb); (try clear hb2); (try clear hk); (try clear hi); obtain ⟨hcz50_0, hcz50_1, hcz50_2, hcz50_3, hcz50_4, hcz50_5, hfz50_0, hfz50_1, hfz50_2, hfz50_3, hfz50_4, hfz50_5⟩ := cells6 BK222.out))
    repeat (go_quiet (first | (go_at_call 61; (with_reducible refine (spec_l1got.calls a0_0 a0_1 a0_2 a0_3 a0_4 t249 t250 t251 t252 t253 t254 _ A46.out).mono ?_); rintro e w49 ⟨rfl, hb⟩; replace BK221 := bku BK221.out hb; replace BK222 := bku BK222.out hb; replace HB := hbs2 HB.out GE221.out GE222.out hb; (try clear hb); (try clear hb2); (try clear hk); (try clear hi); obtain ⟨hcz50_0, hcz50_1, hcz50_2, hcz50_3, hcz50_4, hcz50_5, hfz50_0, hfz50_1, hfz50_2, hfz50_3, hfz50_4, hfz50_5⟩ := cells6 BK222.out)); try go_wp2_with (first | (go_at_call 61; (with_reducible refine (spec_l1got.calls a0_0 a0_1 a0_2 a0_3 a0_4 t249 t250 t251 t252 t253 t254 _ A46.out).mono ?_); rintro e w49 ⟨rfl, hb⟩; replace BK221 := bku BK221.out hb; replace BK222 := bku BK222.out hb; replace HB := hbs2 HB.out GE221.out GE222.out hb; (try clear hb); (try clear hb2); (try clear hk); (try clear hi); obtain ⟨hcz50_0, hcz50_1, hcz50_2, hcz50_3, hcz50_4, hcz50_5, hfz50_0, hfz50_1, hfz50_2, hfz50_3, hfz50_4, hfz50_5⟩ := cells6 BK222.out)))
    refine bodyPost_ret (results_cell_row rfl _ _ gb222 41 #[.int .i64 t249, .int .i64 t250, .int .i64 t251, .float .f64 t252, .string t253, .int .i64 t254] (0, 0) _ rfl (by (with_reducible repeat (first | refine blk_drewN ?_ _ | refine blk_drew ?_ | refine blk_alloc ?_ _)); refine blk_put (cs := #[.int .i64 t249, .int .i64 t250, .int .i64 t251, .float .f64 t252, .string t253, .int .i64 0]) ?_ 5 _ rfl; (with_reducible repeat (first | refine blk_drewN ?_ _ | refine blk_drew ?_ | refine blk_alloc ?_ _)); refine blk_put (cs := #[.int .i64 t249, .int .i64 t250, .int .i64 t251, .float .f64 t252, .string (⟨#[]⟩ : ByteArray), .int .i64 0]) ?_ 4 _ rfl; (with_reducible repeat (first | refine blk_drewN ?_ _ | refine blk_drew ?_ | refine blk_alloc ?_ _)); refine blk_put (cs := #[.int .i64 t249, .int .i64 t250, .int .i64 t251, .float .f64 0, .string (⟨#[]⟩ : ByteArray), .int .i64 0]) ?_ 3 _ rfl; (with_reducible repeat (first | refine blk_drewN ?_ _ | refine blk_drew ?_ | refine blk_alloc ?_ _)); refine blk_put (cs := #[.int .i64 t249, .int .i64 t250, .int .i64 0, .float .f64 0, .string (⟨#[]⟩ : ByteArray), .int .i64 0]) ?_ 2 _ rfl; (with_reducible repeat (first | refine blk_drewN ?_ _ | refine blk_drew ?_ | refine blk_alloc ?_ _)); refine blk_put (cs := #[.int .i64 t249, .int .i64 0, .int .i64 0, .float .f64 0, .string (⟨#[]⟩ : ByteArray), .int .i64 0]) ?_ 1 _ rfl; (with_reducible repeat (first | refine blk_drewN ?_ _ | refine blk_drew ?_ | refine blk_alloc ?_ _)); refine blk_put (cs := #[.int .i64 0, .int .i64 0, .int .i64 0, .float .f64 0, .string (⟨#[]⟩ : ByteArray), .int .i64 0]) ?_ 0 _ rfl; (with_reducible repeat (first | refine blk_drewN ?_ _ | refine blk_drew ?_ | refine blk_alloc ?_ _)); exact BK222.out) Try.underlying41 rfl (by kernel_rfl)) rfl ?_
    exact ⟨by first | rfl | (simp <;> rfl) | (simp [*] <;> rfl), hbe2 HB.out GE221.out GE222.out⟩
  subst c37
  have H1 : (if (f2iOk .i64 a0_2) = true then ((spec_l1int.f (f2i a0_2)).bind fun bt238 => ((spec_l1got.f bt238.1 bt238.2.1 bt238.2.2.1 bt238.2.2.2.1 bt238.2.2.2.2).bind fun bt243 => (some (bt243.1, bt243.2.1, bt243.2.2.1, bt243.2.2.2.1, bt243.2.2.2.2.1, bt243.2.2.2.2.2)))) else (none)) = some (r1, r2, r3, r4, r5, r6) := by rw [if_pos rfl] at H; exact H
  clear H
  have H := H1
  clear H1
  by_cases c38 : (f2iOk .i64 a0_2) = true
  rotate_left 1
  · rw [if_neg c38] at H
    exact absurd H (by simp)
  rw [if_pos c38] at H
  have c38b0 : (f2iOk .i64 a0_2) = true := c38
  clear c38
  replace H := Option.bind_eq_some_iff.mp H
  obtain ⟨⟨t238, t239, t240, t241, t242⟩, A390, H⟩ := H
  replace H : ((spec_l1got.f t238 t239 t240 t241 t242).bind fun bt243 => (some (bt243.1, bt243.2.1, bt243.2.2.1, bt243.2.2.2.1, bt243.2.2.2.2.1, bt243.2.2.2.2.2))) = some (r1, r2, r3, r4, r5, r6) := H
  have A39 := Aside0.mk A390
  clear A390
  replace H := Option.bind_eq_some_iff.mp H
  obtain ⟨⟨t243, t244, t245, t246, t247, t248⟩, A400, H⟩ := H
  replace H : (some (t243, t244, t245, t246, t247, t248)) = some (r1, r2, r3, r4, r5, r6) := H
  have A40 := Aside0.mk A400
  clear A400
  simp only [Option.some.injEq, Prod.mk.injEq] at H
  obtain ⟨rfl, rfl, rfl, rfl, rfl, rfl⟩ := H
  have hnb41 := NB221_222.out
  have hnc41 := NB222_221.out
  obtain ⟨hcz42_0, hcz42_1, hcz42_2, hcz42_3, hcz42_4, hfz42_0, hfz42_1, hfz42_2, hfz42_3, hfz42_4⟩ := cells5 BK221.out
  go_wp2_with (first | (go_at_call 62; (with_reducible refine (spec_l1int.calls (f2i a0_2) t238 t239 t240 t241 t242 _ A39.out).mono ?_); rintro e w43 ⟨rfl, hb⟩; replace BK221 := bku BK221.out hb; replace BK222 := bku BK222.out hb; replace HB := hbs2 HB.out GE221.out GE222.out hb; (try clear hb); (try clear hb2); (try clear hk); (try clear hi)) | (go_at_call 61; (with_reducible refine (spec_l1got.calls t238 t239 t240 t241 t242 t243 t244 t245 t246 t247 t248 _ A40.out).mono ?_); rintro e w44 ⟨rfl, hb⟩; replace BK221 := bku BK221.out hb; replace BK222 := bku BK222.out hb; replace HB := hbs2 HB.out GE221.out GE222.out hb; (try clear hb); (try clear hb2); (try clear hk); (try clear hi); obtain ⟨hcz45_0, hcz45_1, hcz45_2, hcz45_3, hcz45_4, hcz45_5, hfz45_0, hfz45_1, hfz45_2, hfz45_3, hfz45_4, hfz45_5⟩ := cells6 BK222.out))
  repeat (go_quiet (first | (go_at_call 62; (with_reducible refine (spec_l1int.calls (f2i a0_2) t238 t239 t240 t241 t242 _ A39.out).mono ?_); rintro e w43 ⟨rfl, hb⟩; replace BK221 := bku BK221.out hb; replace BK222 := bku BK222.out hb; replace HB := hbs2 HB.out GE221.out GE222.out hb; (try clear hb); (try clear hb2); (try clear hk); (try clear hi)) | (go_at_call 61; (with_reducible refine (spec_l1got.calls t238 t239 t240 t241 t242 t243 t244 t245 t246 t247 t248 _ A40.out).mono ?_); rintro e w44 ⟨rfl, hb⟩; replace BK221 := bku BK221.out hb; replace BK222 := bku BK222.out hb; replace HB := hbs2 HB.out GE221.out GE222.out hb; (try clear hb); (try clear hb2); (try clear hk); (try clear hi); obtain ⟨hcz45_0, hcz45_1, hcz45_2, hcz45_3, hcz45_4, hcz45_5, hfz45_0, hfz45_1, hfz45_2, hfz45_3, hfz45_4, hfz45_5⟩ := cells6 BK222.out)); try go_wp2_with (first | (go_at_call 62; (with_reducible refine (spec_l1int.calls (f2i a0_2) t238 t239 t240 t241 t242 _ A39.out).mono ?_); rintro e w43 ⟨rfl, hb⟩; replace BK221 := bku BK221.out hb; replace BK222 := bku BK222.out hb; replace HB := hbs2 HB.out GE221.out GE222.out hb; (try clear hb); (try clear hb2); (try clear hk); (try clear hi)) | (go_at_call 61; (with_reducible refine (spec_l1got.calls t238 t239 t240 t241 t242 t243 t244 t245 t246 t247 t248 _ A40.out).mono ?_); rintro e w44 ⟨rfl, hb⟩; replace BK221 := bku BK221.out hb; replace BK222 := bku BK222.out hb; replace HB := hbs2 HB.out GE221.out GE222.out hb; (try clear hb); (try clear hb2); (try clear hk); (try clear hi); obtain ⟨hcz45_0, hcz45_1, hcz45_2, hcz45_3, hcz45_4, hcz45_5, hfz45_0, hfz45_1, hfz45_2, hfz45_3, hfz45_4, hfz45_5⟩ := cells6 BK222.out)))
  refine bodyPost_ret (results_cell_row rfl _ _ gb222 41 #[.int .i64 t243, .int .i64 t244, .int .i64 t245, .float .f64 t246, .string t247, .int .i64 t248] (0, 0) _ rfl (by (with_reducible repeat (first | refine blk_drewN ?_ _ | refine blk_drew ?_ | refine blk_alloc ?_ _)); refine blk_put (cs := #[.int .i64 t243, .int .i64 t244, .int .i64 t245, .float .f64 t246, .string t247, .int .i64 0]) ?_ 5 _ rfl; (with_reducible repeat (first | refine blk_drewN ?_ _ | refine blk_drew ?_ | refine blk_alloc ?_ _)); refine blk_put (cs := #[.int .i64 t243, .int .i64 t244, .int .i64 t245, .float .f64 t246, .string (⟨#[]⟩ : ByteArray), .int .i64 0]) ?_ 4 _ rfl; (with_reducible repeat (first | refine blk_drewN ?_ _ | refine blk_drew ?_ | refine blk_alloc ?_ _)); refine blk_put (cs := #[.int .i64 t243, .int .i64 t244, .int .i64 t245, .float .f64 0, .string (⟨#[]⟩ : ByteArray), .int .i64 0]) ?_ 3 _ rfl; (with_reducible repeat (first | refine blk_drewN ?_ _ | refine blk_drew ?_ | refine blk_alloc ?_ _)); refine blk_put (cs := #[.int .i64 t243, .int .i64 t244, .int .i64 0, .float .f64 0, .string (⟨#[]⟩ : ByteArray), .int .i64 0]) ?_ 2 _ rfl; (with_reducible repeat (first | refine blk_drewN ?_ _ | refine blk_drew ?_ | refine blk_alloc ?_ _)); refine blk_put (cs := #[.int .i64 t243, .int .i64 0, .int .i64 0, .float .f64 0, .string (⟨#[]⟩ : ByteArray), .int .i64 0]) ?_ 1 _ rfl; (with_reducible repeat (first | refine blk_drewN ?_ _ | refine blk_drew ?_ | refine blk_alloc ?_ _)); refine blk_put (cs := #[.int .i64 0, .int .i64 0, .int .i64 0, .float .f64 0, .string (⟨#[]⟩ : ByteArray), .int .i64 0]) ?_ 0 _ rfl; (with_reducible repeat (first | refine blk_drewN ?_ _ | refine blk_drew ?_ | refine blk_alloc ?_ _)); exact BK222.out) Try.underlying41 rfl (by kernel_rfl)) rfl ?_
  exact ⟨by first | rfl | (simp <;> rfl) | (simp [*] <;> rfl), hbe2 HB.out GE221.out GE222.out⟩
def impl_bad.f (a0 : Int) : Option (Int × Int × Int × Nat × ByteArray × Int) := some (a0, 0, 0, 0, (⟨#[]⟩ : ByteArray), 0)
set_option maxHeartbeats 8000000 in
set_option maxRecDepth 100000 in
theorem impl_bad.calls (a0 : Int) (r1 : Int) (r2 : Int) (r3 : Int) (r4 : Nat) (r5 : ByteArray) (r6 : Int) (w : World) (h : impl_bad.f a0 = some (r1, r2, r3, r4, r5, r6)) :
    Calls Try.prog 63 #[.int .i64 a0] w fun e w' => e = .returned (.agg #[.int .i64 r1, .int .i64 r2, .int .i64 r3, .float .f64 r4, .string r5, .int .i64 r6]) ∧ Below w.heap.size w w' := by
  have hu41 := Try.underlying41
  have HB := Aside0.mk (Below.refl w.heap.size w)
  have H : (some (a0, 0, 0, 0, (⟨#[]⟩ : ByteArray), 0)) = some (r1, r2, r3, r4, r5, r6) := h
  clear h
  simp only [Option.some.injEq, Prod.mk.injEq] at H
  obtain ⟨rfl, rfl, rfl, rfl, rfl, rfl⟩ := H
  go_enter Try.func63, Try.ntmps63
  go_wp2_with (first | ((with_reducible refine gate_dst (N := 2) rfl ?_); refine box_event rfl (N := 2) rfl (cs := #[.int .i64 0, .int .i64 0, .int .i64 0, .float .f64 0, .string (⟨#[]⟩ : ByteArray), .int .i64 0]) (t := 41) (by first | (go_simp; done) | (go_simp; rfl)) ?_; intro gb255 hg w2 hbox hb; have BK255 := Aside0.mk (hbox); have GW255 := (gws hg (hbe HB.out) : Aside0 (w.heap.size ≤ gb255)); have GE255 := (gws hg (hbe HB.out) : Aside0 (w.heap.size ≤ gb255)); replace HB := hbs HB.out hb; clear hb hbox hg; obtain ⟨hcz3_0, hcz3_1, hcz3_2, hcz3_3, hcz3_4, hcz3_5, hfz3_0, hfz3_1, hfz3_2, hfz3_3, hfz3_4, hfz3_5⟩ := cells6 BK255.out))
  refine bodyPost_ret (results_cell_row rfl _ _ gb255 41 #[.int .i64 a0, .int .i64 0, .int .i64 0, .float .f64 0, .string (⟨#[]⟩ : ByteArray), .int .i64 0] (0, 0) _ rfl (by (with_reducible repeat (first | refine blk_drewN ?_ _ | refine blk_drew ?_ | refine blk_alloc ?_ _)); refine blk_put (cs := #[.int .i64 a0, .int .i64 0, .int .i64 0, .float .f64 0, .string (⟨#[]⟩ : ByteArray), .int .i64 0]) ?_ 5 _ rfl; (with_reducible repeat (first | refine blk_drewN ?_ _ | refine blk_drew ?_ | refine blk_alloc ?_ _)); refine blk_put (cs := #[.int .i64 a0, .int .i64 0, .int .i64 0, .float .f64 0, .string (⟨#[]⟩ : ByteArray), .int .i64 0]) ?_ 4 _ rfl; (with_reducible repeat (first | refine blk_drewN ?_ _ | refine blk_drew ?_ | refine blk_alloc ?_ _)); refine blk_put (cs := #[.int .i64 a0, .int .i64 0, .int .i64 0, .float .f64 0, .string (⟨#[]⟩ : ByteArray), .int .i64 0]) ?_ 3 _ rfl; (with_reducible repeat (first | refine blk_drewN ?_ _ | refine blk_drew ?_ | refine blk_alloc ?_ _)); refine blk_put (cs := #[.int .i64 a0, .int .i64 0, .int .i64 0, .float .f64 0, .string (⟨#[]⟩ : ByteArray), .int .i64 0]) ?_ 2 _ rfl; (with_reducible repeat (first | refine blk_drewN ?_ _ | refine blk_drew ?_ | refine blk_alloc ?_ _)); refine blk_put (cs := #[.int .i64 a0, .int .i64 0, .int .i64 0, .float .f64 0, .string (⟨#[]⟩ : ByteArray), .int .i64 0]) ?_ 1 _ rfl; (with_reducible repeat (first | refine blk_drewN ?_ _ | refine blk_drew ?_ | refine blk_alloc ?_ _)); refine blk_put (cs := #[.int .i64 0, .int .i64 0, .int .i64 0, .float .f64 0, .string (⟨#[]⟩ : ByteArray), .int .i64 0]) ?_ 0 _ rfl; (with_reducible repeat (first | refine blk_drewN ?_ _ | refine blk_drew ?_ | refine blk_alloc ?_ _)); exact BK255.out) Try.underlying41 rfl (by kernel_rfl)) rfl ?_
  exact ⟨by first | rfl | (simp <;> rfl) | (simp [*] <;> rfl), hbe1 HB.out GE255.out⟩
def math_Trunc.f (a0 : Nat) : Option (Nat) := if (fnan a0) = true then (none) else (some (ftrunc a0))
set_option maxHeartbeats 8000000 in
set_option maxRecDepth 100000 in
theorem math_Trunc.calls (a0 : Nat) (r : Nat) (w : World) (h : math_Trunc.f a0 = some r) :
    Calls Try.prog 64 #[.float .f64 a0] w fun e w' => e = .returned (.float .f64 r) ∧ Drawn0 w w' := by
  have H : (if (fnan a0) = true then (none) else (some (ftrunc a0))) = some r := h
  clear h
  by_cases c2 : (fnan a0) = true
  · rw [if_pos c2] at H
    exact absurd H (by simp)
  rw [if_neg c2] at H
  have c2b0 : (fnan a0) = false := by simpa using c2
  clear c2
  obtain rfl := Option.some.inj H
  go_enter Try.func64, Try.ntmps64
  go_wp2
  go_ret
  exact ⟨by first | rfl | (simp; done) | (simp [*]; done), by repeat (first | exact Drawn0.refl _ | apply Drawn0.step)⟩
def impl_good.f (a0_0 : Int) (a0_1 : Int) (a0_2 : Nat) (a0_3 : ByteArray) (a0_4 : Int) : Option (Int × Int × Int × Nat × ByteArray × Int) := some (0, a0_0, a0_1, a0_2, a0_3, a0_4)
set_option maxHeartbeats 8000000 in
set_option maxRecDepth 100000 in
theorem impl_good.calls (a0_0 : Int) (a0_1 : Int) (a0_2 : Nat) (a0_3 : ByteArray) (a0_4 : Int) (r1 : Int) (r2 : Int) (r3 : Int) (r4 : Nat) (r5 : ByteArray) (r6 : Int) (w : World) (h : impl_good.f a0_0 a0_1 a0_2 a0_3 a0_4 = some (r1, r2, r3, r4, r5, r6)) :
    Calls Try.prog 65 #[.agg #[.int .i64 a0_0, .int .i64 a0_1, .float .f64 a0_2, .string a0_3, .int .i64 a0_4]] w fun e w' => e = .returned (.agg #[.int .i64 r1, .int .i64 r2, .int .i64 r3, .float .f64 r4, .string r5, .int .i64 r6]) ∧ Below w.heap.size w w' := by
  have hu28 := Try.underlying28
  have hu41 := Try.underlying41
  have HB := Aside0.mk (Below.refl w.heap.size w)
  have H : (some (0, a0_0, a0_1, a0_2, a0_3, a0_4)) = some (r1, r2, r3, r4, r5, r6) := h
  clear h
  simp only [Option.some.injEq, Prod.mk.injEq] at H
  obtain ⟨rfl, rfl, rfl, rfl, rfl, rfl⟩ := H
  go_enter Try.func65, Try.ntmps65
  go_wp2_with (first | ((with_reducible refine gate_dst (N := 1) rfl ?_); refine box_event rfl (N := 1) rfl (cs := #[.int .i64 a0_0, .int .i64 a0_1, .float .f64 a0_2, .string a0_3, .int .i64 a0_4]) (t := 28) (by first | (go_simp; done) | (go_simp; rfl)) ?_; intro gb258 hg w2 hbox hb; have BK258 := Aside0.mk (hbox); have GW258 := (gws hg (hbe HB.out) : Aside0 (w.heap.size ≤ gb258)); have GE258 := (gws hg (hbe HB.out) : Aside0 (w.heap.size ≤ gb258)); replace HB := hbs HB.out hb; clear hb hbox hg) | ((with_reducible refine gate_dst (N := 2) rfl ?_); refine box_event rfl (N := 2) rfl (cs := #[.int .i64 0, .int .i64 0, .int .i64 0, .float .f64 0, .string (⟨#[]⟩ : ByteArray), .int .i64 0]) (t := 41) (by first | (go_simp; done) | (go_simp; rfl)) ?_; intro gb259 hg w3 hbox hb; have BK259 := Aside0.mk (hbox); have GW259 := (gws hg (hbe1 HB.out GE258.out) : Aside0 (w.heap.size ≤ gb259)); have GE259 := (gws hg (hbe1 HB.out GE258.out) : Aside0 (w.heap.size ≤ gb259)); replace HB := hbs1 HB.out GE258.out hb; have NB258_259 := nlt hg BK258.out; have NB259_258 := ngt hg BK258.out; replace BK258 := bku BK258.out hb; clear hb hbox hg; have hnb4 := NB258_259.out; have hnc4 := NB259_258.out; obtain ⟨hcz5_0, hcz5_1, hcz5_2, hcz5_3, hcz5_4, hfz5_0, hfz5_1, hfz5_2, hfz5_3, hfz5_4⟩ := cells5 BK258.out; obtain ⟨hcz6_0, hcz6_1, hcz6_2, hcz6_3, hcz6_4, hcz6_5, hfz6_0, hfz6_1, hfz6_2, hfz6_3, hfz6_4, hfz6_5⟩ := cells6 BK259.out))
  refine bodyPost_ret (results_cell_row rfl _ _ gb259 41 #[.int .i64 0, .int .i64 a0_0, .int .i64 a0_1, .float .f64 a0_2, .string a0_3, .int .i64 a0_4] (0, 0) _ rfl (by (with_reducible repeat (first | refine blk_drewN ?_ _ | refine blk_drew ?_ | refine blk_alloc ?_ _)); refine blk_put (cs := #[.int .i64 0, .int .i64 a0_0, .int .i64 a0_1, .float .f64 a0_2, .string a0_3, .int .i64 0]) ?_ 5 _ rfl; (with_reducible repeat (first | refine blk_drewN ?_ _ | refine blk_drew ?_ | refine blk_alloc ?_ _)); refine blk_put (cs := #[.int .i64 0, .int .i64 a0_0, .int .i64 a0_1, .float .f64 a0_2, .string (⟨#[]⟩ : ByteArray), .int .i64 0]) ?_ 4 _ rfl; (with_reducible repeat (first | refine blk_drewN ?_ _ | refine blk_drew ?_ | refine blk_alloc ?_ _)); refine blk_put (cs := #[.int .i64 0, .int .i64 a0_0, .int .i64 a0_1, .float .f64 0, .string (⟨#[]⟩ : ByteArray), .int .i64 0]) ?_ 3 _ rfl; (with_reducible repeat (first | refine blk_drewN ?_ _ | refine blk_drew ?_ | refine blk_alloc ?_ _)); refine blk_put (cs := #[.int .i64 0, .int .i64 a0_0, .int .i64 0, .float .f64 0, .string (⟨#[]⟩ : ByteArray), .int .i64 0]) ?_ 2 _ rfl; (with_reducible repeat (first | refine blk_drewN ?_ _ | refine blk_drew ?_ | refine blk_alloc ?_ _)); refine blk_put (cs := #[.int .i64 0, .int .i64 0, .int .i64 0, .float .f64 0, .string (⟨#[]⟩ : ByteArray), .int .i64 0]) ?_ 1 _ rfl; (with_reducible repeat (first | refine blk_drewN ?_ _ | refine blk_drew ?_ | refine blk_alloc ?_ _)); refine blk_put (cs := #[.int .i64 0, .int .i64 0, .int .i64 0, .float .f64 0, .string (⟨#[]⟩ : ByteArray), .int .i64 0]) ?_ 0 _ rfl; (with_reducible repeat (first | refine blk_drewN ?_ _ | refine blk_drew ?_ | refine blk_alloc ?_ _)); exact BK259.out) Try.underlying41 rfl (by kernel_rfl)) rfl ?_
  exact ⟨by first | rfl | (simp <;> rfl) | (simp [*] <;> rfl), hbe2 HB.out GE258.out GE259.out⟩
def impl_vInt.f (a0 : Int) : Option (Int × Int × Nat × ByteArray × Int) := some (2, a0, 0, (⟨#[]⟩ : ByteArray), 0)
set_option maxHeartbeats 8000000 in
set_option maxRecDepth 100000 in
theorem impl_vInt.calls (a0 : Int) (r1 : Int) (r2 : Int) (r3 : Nat) (r4 : ByteArray) (r5 : Int) (w : World) (h : impl_vInt.f a0 = some (r1, r2, r3, r4, r5)) :
    Calls Try.prog 66 #[.int .i64 a0] w fun e w' => e = .returned (.agg #[.int .i64 r1, .int .i64 r2, .float .f64 r3, .string r4, .int .i64 r5]) ∧ Below w.heap.size w w' := by
  have hu28 := Try.underlying28
  have HB := Aside0.mk (Below.refl w.heap.size w)
  have H : (some (2, a0, 0, (⟨#[]⟩ : ByteArray), 0)) = some (r1, r2, r3, r4, r5) := h
  clear h
  simp only [Option.some.injEq, Prod.mk.injEq] at H
  obtain ⟨rfl, rfl, rfl, rfl, rfl⟩ := H
  go_enter Try.func66, Try.ntmps66
  go_wp2_with (first | ((with_reducible refine gate_dst (N := 2) rfl ?_); refine box_event rfl (N := 2) rfl (cs := #[.int .i64 0, .int .i64 0, .float .f64 0, .string (⟨#[]⟩ : ByteArray), .int .i64 0]) (t := 28) (by first | (go_simp; done) | (go_simp; rfl)) ?_; intro gb260 hg w2 hbox hb; have BK260 := Aside0.mk (hbox); have GW260 := (gws hg (hbe HB.out) : Aside0 (w.heap.size ≤ gb260)); have GE260 := (gws hg (hbe HB.out) : Aside0 (w.heap.size ≤ gb260)); replace HB := hbs HB.out hb; clear hb hbox hg; obtain ⟨hcz3_0, hcz3_1, hcz3_2, hcz3_3, hcz3_4, hfz3_0, hfz3_1, hfz3_2, hfz3_3, hfz3_4⟩ := cells5 BK260.out))
  refine bodyPost_ret (results_cell_row rfl _ _ gb260 28 #[.int .i64 2, .int .i64 a0, .float .f64 0, .string (⟨#[]⟩ : ByteArray), .int .i64 0] (0, 0) _ rfl (by (with_reducible repeat (first | refine blk_drewN ?_ _ | refine blk_drew ?_ | refine blk_alloc ?_ _)); refine blk_put (cs := #[.int .i64 2, .int .i64 a0, .float .f64 0, .string (⟨#[]⟩ : ByteArray), .int .i64 0]) ?_ 4 _ rfl; (with_reducible repeat (first | refine blk_drewN ?_ _ | refine blk_drew ?_ | refine blk_alloc ?_ _)); refine blk_put (cs := #[.int .i64 2, .int .i64 a0, .float .f64 0, .string (⟨#[]⟩ : ByteArray), .int .i64 0]) ?_ 3 _ rfl; (with_reducible repeat (first | refine blk_drewN ?_ _ | refine blk_drew ?_ | refine blk_alloc ?_ _)); refine blk_put (cs := #[.int .i64 2, .int .i64 a0, .float .f64 0, .string (⟨#[]⟩ : ByteArray), .int .i64 0]) ?_ 2 _ rfl; (with_reducible repeat (first | refine blk_drewN ?_ _ | refine blk_drew ?_ | refine blk_alloc ?_ _)); refine blk_put (cs := #[.int .i64 2, .int .i64 0, .float .f64 0, .string (⟨#[]⟩ : ByteArray), .int .i64 0]) ?_ 1 _ rfl; (with_reducible repeat (first | refine blk_drewN ?_ _ | refine blk_drew ?_ | refine blk_alloc ?_ _)); refine blk_put (cs := #[.int .i64 0, .int .i64 0, .float .f64 0, .string (⟨#[]⟩ : ByteArray), .int .i64 0]) ?_ 0 _ rfl; (with_reducible repeat (first | refine blk_drewN ?_ _ | refine blk_drew ?_ | refine blk_alloc ?_ _)); exact BK260.out) Try.underlying28 rfl (by kernel_rfl)) rfl ?_
  exact ⟨by first | rfl | (simp <;> rfl) | (simp [*] <;> rfl), hbe1 HB.out GE260.out⟩
end Go.Proofs.Ytdjlbfaiccdbfaa.PAll
