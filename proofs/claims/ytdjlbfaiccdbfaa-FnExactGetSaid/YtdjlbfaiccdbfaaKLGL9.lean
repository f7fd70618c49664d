/- Cut down from the texts of the same job by wip/shake.py to what this claim reaches. -/
import Derived.Test.YtdjlbfaiccdbfaaKLGx26
import Derived.Test.YtdjlbfaiccdbfaaKLGL8
namespace Go.Proofs.Ytdjlbfaiccdbfaa.PAll
open Go Go.RowKit Go.Proofs.YtdjlbfaiccdbfaaW.PrintWords Go.Proofs.YtdjlbfaiccdbfaaW.PrintLast Go.Proofs.YtdjlbfaiccdbfaaW.PrintMore Go.Proofs.Flt Ieee
set_option linter.unusedVariables false
set_option linter.unusedSimpArgs false
def kvOf (q : Int × Int × Int × Nat × ByteArray × Int) : S28 := ⟨q.2.1, q.2.2.1, q.2.2.2.1, q.2.2.2.2.1, q.2.2.2.2.2⟩
theorem gv_key {v : S28} (hv : GV v) : GV (kvOf (keyV v)) := by
  obtain ⟨a, n, f, s, r⟩ := v
  have h : keyOf a n f s r = (5, 0, 0, 0, ⟨#[]⟩, 0) ∨ (wholeIn f ∧ keyOf a n f s r = (0, 2, f2i f, 0, ⟨#[]⟩, 0)) ∨ keyOf a n f s r = (0, a, n, f, s, r) ∨ keyOf a n f s r = (1, 0, 0, 0, ⟨#[]⟩, 0) := by
    unfold keyOf
    split
    · split
      · simp
      · split
        · next h => simp [h.2]
        · simp
    · simp
  unfold keyV
  simp only
  rcases h with h | ⟨w, h⟩ | h | h
  · rw [h]; exact ⟨by decide, Nat.zero_lt_succ _, Nat.zero_le _⟩
  · rw [h]
    refine ⟨?_, Nat.zero_lt_succ _, Nat.zero_le _⟩
    have := inr_tr w.1
    rw [← (inr_f2i w.1).2] at this
    exact this
  · rw [h]; exact hv
  · rw [h]; exact ⟨by decide, Nat.zero_lt_succ _, Nat.zero_le _⟩
def zv : S28 := ⟨0, 0, 0, ⟨#[]⟩, 0⟩
noncomputable def getOf (ps : List S61) (v : S28) : S28 := if (keyV v).1 = 0 then (if place ps (kvOf (keyV v)) < 0 then zv else (rd_T61 ps (place ps (kvOf (keyV v)))).f1) else zv
theorem get_f {ps : List S61} (hp : ∀ p ∈ ps, GP p) (v : S28) : (getOf ps v).f2 < 18446744073709551616 := by
  unfold getOf
  by_cases c : (keyV v).1 = 0
  · rw [if_pos c]
    rcases place_range ps (kvOf (keyV v)) ps.length 0 (by omega) with e | ⟨e1, e2, _⟩
    · rw [if_pos (by unfold place; omega)]; exact Nat.zero_lt_succ _
    · rw [if_neg (by unfold place; omega)]
      change 0 ≤ place ps _ at e1
      change place ps _ < _ at e2
      generalize place ps (kvOf (keyV v)) = t at e1 e2 ⊢
      obtain ⟨i, rfl⟩ : ∃ i : Nat, t = (i : Int) := ⟨t.toNat, by omega⟩
      rw [rd61 (by omega)]
      exact (hp _ (List.getElem_mem _)).2.2.1
  · rw [if_neg c]; exact Nat.zero_lt_succ _
theorem spec_get {k : Nat} (hk : big ≤ k) (ps : List S61) (hp : ∀ p ∈ ps, GP p) (hl : ps.length ≤ 500) (tn : Int) (v : S28) (hv : GV v) :
    spec_l2get.f k ps tn v.f0 v.f1 v.f2 v.f3 v.f4 = some ((getOf ps v).f0, (getOf ps v).f1, (getOf ps v).f2, (getOf ps v).f3, (getOf ps v).f4) := by
  unfold big at hk
  unfold spec_l2get.f getOf
  rw [spec_key_ge (by omega), Option.bind_some]
  have g := gv_key hv
  have a := spec_at_ge (k := k) ps (by omega) hp (by omega) tn _ g
  by_cases c : (keyV v).1 = 0
  · rw [if_pos c, if_pos c]
    rw [show spec_l2at.f k ps tn (keyV v).2.1 (keyV v).2.2.1 (keyV v).2.2.2.1 (keyV v).2.2.2.2.1 (keyV v).2.2.2.2.2 = some (place ps (kvOf (keyV v))) from a, Option.bind_some]
    have r := place_range ps (kvOf (keyV v)) ps.length 0 (by omega)
    change place ps _ = -1 ∨ 0 ≤ place ps _ ∧ place ps _ < _ ∧ _ at r
    generalize place ps (kvOf (keyV v)) = t at r ⊢
    by_cases d : t < 0
    · rw [if_pos d, if_pos d]; rfl
    · rw [if_neg d, if_neg d, if_pos (by omega), if_pos (by omega)]
  · rw [if_neg c, if_neg c]; rfl
theorem impl_get {k : Nat} (hk : big ≤ k) (ps : List S61) (hp : ∀ p ∈ ps, GP p) (hl : ps.length ≤ 500) (tn : Int) (v : S28) (hv : GV v) :
    impl_rawGet.f k ps tn v.f0 v.f1 v.f2 v.f3 v.f4 = some ((getOf ps v).f0, (getOf ps v).f1, (getOf ps v).f2, (getOf ps v).f3, (getOf ps v).f4) := by
  unfold big at hk
  unfold impl_rawGet.f getOf
  rw [impl_key_ge (by omega), Option.bind_some]
  have g := gv_key hv
  have a := impl_place_ge (k := k) ps (by omega) hp (by omega) tn _ g
  by_cases c : (keyV v).1 = 0
  · rw [if_pos c, if_pos c]
    rw [show impl_place.f k ps tn (keyV v).2.1 (keyV v).2.2.1 (keyV v).2.2.2.1 (keyV v).2.2.2.2.1 (keyV v).2.2.2.2.2 = some (place ps (kvOf (keyV v))) from a, Option.bind_some]
    have r := place_range ps (kvOf (keyV v)) ps.length 0 (by omega)
    change place ps _ = -1 ∨ 0 ≤ place ps _ ∧ place ps _ < _ ∧ _ at r
    generalize place ps (kvOf (keyV v)) = t at r ⊢
    by_cases d : t < 0
    · rw [if_neg (by omega), if_pos d]; rfl
    · rw [if_pos (by omega), if_neg d, if_pos (by omega), if_pos (by omega)]
  · rw [if_neg c, if_neg c]; rfl
theorem get_fn {k : Nat} (hk : big ≤ k) (ps : List S61) (hp : ∀ p ∈ ps, GP p) (tn : Int) (v : S28) (hv : GV v) :
    ∃ g : S28, spec_Get.f k ps tn v.f0 v.f1 v.f2 v.f3 v.f4 = some (g.f0, g.f1, g.f2, g.f3, g.f4) ∧ impl_Get.f k ps tn v.f0 v.f1 v.f2 v.f3 v.f4 = some (g.f0, g.f1, g.f2, g.f3, g.f4) ∧ g.f2 < 18446744073709551616 := by
  unfold spec_Get.f impl_Get.f
  rw [spec_tok hk ps hp, impl_tok hk ps hp]
  simp only [Option.bind_some]
  by_cases c : tok ps tn = true
  · rw [if_pos c, if_pos c, spec_get hk ps hp (tok_len c) tn v hv, impl_get hk ps hp (tok_len c) tn v hv]
    exact ⟨getOf ps v, rfl, rfl, get_f hp v⟩
  · rw [if_neg c, if_neg c]
    exact ⟨zv, rfl, rfl, Nat.zero_lt_succ _⟩
end Go.Proofs.Ytdjlbfaiccdbfaa.PAll
