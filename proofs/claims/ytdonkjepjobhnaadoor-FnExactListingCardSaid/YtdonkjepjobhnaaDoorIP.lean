/- A region whose order is drawn: what one order shows, every order does. First the law on orders; a value that is read may be taken first where nobody that may come before it writes what it reads. -/
import Derived.Test.YtdonkjepjobhnaaDoorIL
namespace Go.Proofs.IM
open Go Go.RowKit
set_option linter.unusedVariables false
set_option linter.unusedSimpArgs false
set_option linter.unnecessarySimpa false
section
variable {P : Program} {ops : Array Oper} {Q : Exit → Act → World → Prop} {md : Region.Mode}
/-- Whatever order is picked from here on, and behind operation i the world is as G says. -/
def wpAnyG (P : Program) (md : Region.Mode) (ops : Array Oper) (Q : Exit → Act → World → Prop) (G : Nat → World → World → Prop) : Nat → Array Bool → Act → World → Prop
  | 0, listed, a, w => Region.ready md ops listed = [] ∧ Q .normal a w
  | fuel + 1, listed, a, w => (Region.ready md ops listed = [] → Q .normal a w) ∧
      ∀ i ∈ Region.ready md ops listed, wpOp P ops Q i (fun a' w' => G i w w' ∧ wpAnyG P md ops Q G fuel (listed.setIfInBounds i true) a' w') a w
theorem wpAny_of_G {G : Nat → World → World → Prop} : ∀ (fuel : Nat) (listed : Array Bool) (a : Act) (w : World), wpAnyG P md ops Q G fuel listed a w → wpAny P md ops Q fuel listed a w
  | 0, _, _, _, h => h
  | fuel + 1, _, _, _, h => ⟨h.1, fun i hi => wpOp_mono (fun a' w' h' => wpAny_of_G fuel _ a' w' h'.2) (h.2 i hi)⟩
theorem wpAnyG_mono {G G' : Nat → World → World → Prop} (hG : ∀ i w w', G' i w w' → G i w w') : ∀ (fuel : Nat) (listed : Array Bool) (a : Act) (w : World), wpAnyG P md ops Q G' fuel listed a w → wpAnyG P md ops Q G fuel listed a w
  | 0, _, _, _, h => h
  | fuel + 1, _, _, _, h => ⟨h.1, fun i hi => wpOp_mono (fun a' w' h' => ⟨hG _ _ _ h'.1, wpAnyG_mono hG fuel _ a' w' h'.2⟩) (h.2 i hi)⟩
/-- What an operation waits for, straight or not. -/
def deps (md : Region.Mode) (ops : Array Oper) (j : Nat) : List Nat := match ops[j]? with
  | some o => (o.after.toList.filter fun e => Region.binds md e).map (·.on)
  | none => []
def anc (md : Region.Mode) (ops : Array Oper) : Nat → Nat → Nat → Bool
  | 0, _, _ => false
  | n + 1, j, i => (deps md ops j).any fun k => k == i || anc md ops n k i
def Cl (md : Region.Mode) (ops : Array Oper) (listed : Array Bool) : Prop := ∀ j, listed.getD j false = true → ∀ k ∈ deps md ops j, listed.getD k false = true
theorem Cl.anc {listed : Array Bool} (h : Cl md ops listed) {i : Nat} : ∀ (n j : Nat), listed.getD j false = true → anc md ops n j i = true → listed.getD i false = true := by
  intro n
  induction n with
  | zero => intro j _ h; simp [IM.anc] at h
  | succ n ih =>
    intro j hj ha
    simp only [IM.anc, List.any_eq_true, Bool.or_eq_true, beq_iff_eq] at ha
    obtain ⟨k, hk, e | e⟩ := ha
    · subst e; exact h j hj k hk
    · exact ih k (h j hj k hk) e
theorem ready_deps {listed : Array Bool} {j : Nat} (h : j ∈ Region.ready md ops listed) : ∀ k ∈ deps md ops j, listed.getD k false = true := by
  intro k hk
  obtain ⟨h1, oj, h2, h3⟩ := mem_ready.1 h
  simp only [deps, h2, List.mem_map, List.mem_filter] at hk
  obtain ⟨e, ⟨he, hb⟩, rfl⟩ := hk
  exact h3 e (by simpa using he) hb
theorem Cl.ready {listed : Array Bool} (h : Cl md ops listed) {i j n : Nat} (hj : j ∈ Region.ready md ops listed) (hi : listed.getD i false = false) : IM.anc md ops n j i = false := by
  cases n with
  | zero => rfl
  | succ n =>
    apply Bool.eq_false_iff.2
    intro ha
    simp only [IM.anc, List.any_eq_true, Bool.or_eq_true, beq_iff_eq] at ha
    obtain ⟨k, hk, e | e⟩ := ha
    · subst e; rw [ready_deps hj k hk] at hi; cases hi
    · rw [h.anc n k (ready_deps hj k hk) e] at hi; cases hi
theorem Cl.set {listed : Array Bool} (h : Cl md ops listed) {j : Nat} (hj : j ∈ Region.ready md ops listed) : Cl md ops (listed.setIfInBounds j true) := by
  have up : ∀ k, listed.getD k false = true → (listed.setIfInBounds j true).getD k false = true := by
    intro k hk
    simp only [Array.getD_eq_getD_getElem?, Array.getElem?_setIfInBounds] at hk ⊢
    split
    · split <;> simp_all
    · exact hk
  intro k hk d hd
  by_cases e : j = k
  · subst e; exact up d (ready_deps hj d hd)
  · refine up d (h k ?_ d hd)
    simpa [Array.getD_eq_getD_getElem?, Array.getElem?_setIfInBounds, e] using hk
theorem ready_unlisted {listed : Array Bool} {i : Nat} (h : i ∈ Region.ready md ops listed) : listed.getD i false = false := by
  obtain ⟨h1, -⟩ := mem_ready.1 h
  rw [Array.getD_eq_getD_getElem?] at h1 ⊢
  cases hh : listed[i]? with
  | none => rfl
  | some b => rw [hh] at h1; simpa using h1
/-- An operation that may come up now may be taken first. -/
theorem wpAnyG_first {G : Nat → World → World → Prop} {S : World → Prop} {i : Nat} {oi : Oper} {v : Value} (hi : ops[i]? = some oi) (hsel : ∀ (j : Nat) (o : Oper) cs b, ops[j]? = some o → o.op ≠ .select cs b)
    (hQ : ∀ c a w, Q (.panic c) (a.put oi.dst v) w → Q (.panic c) a w) (hGi : ∀ w, G i w w) :
    ∀ (fuel : Nat) (listed : Array Bool) (a : Act) (w : World), Cl md ops listed →
      (∀ j w1 w2, listed.getD j true = false → j ≠ i → anc md ops ops.size j i = false → G j w1 w2 → S w1 → S w2) →
      (∀ j oj, ops[j]? = some oj → j ≠ i → listed.getD j true = false → (∀ e ∈ oj.after, Region.binds md e = true → e.on ≠ i) → oi.apart ops oj = true) →
      i ∈ Region.ready md ops listed → YieldsIf P ops S oi v a → S w →
      wpAnyG P md ops Q G fuel (listed.setIfInBounds i true) (a.put oi.dst v) w → wpAnyG P md ops Q G (fuel + 1) listed a w := by
  intro fuel
  induction fuel with
  | zero =>
    intro listed a w _ _ _ hr hy hS H
    refine ⟨fun h => (by rw [h] at hr; cases hr), fun j hj => ?_⟩
    by_cases hji : j = i
    · subst hji; exact hy.wpOp hi hS ⟨hGi w, H⟩
    · have := ready_mono hj hji
      rw [H.1] at this
      cases this
  | succ fuel ih =>
    intro listed a w hcl hG hfree hr hy hS H
    refine ⟨fun h => (by rw [h] at hr; cases hr), fun j hj => ?_⟩
    by_cases hji : j = i
    · subst hji; exact hy.wpOp hi hS ⟨hGi w, H⟩
    · have h1 := H.2 j (ready_mono hj hji)
      obtain ⟨hjun, oj, hoj, hall⟩ := mem_ready.1 hj
      have hiun := ready_unlisted hr
      have hnot : ∀ e ∈ oj.after, Region.binds md e = true → e.on ≠ i := fun e he hb heq => by
        have h1 := hall e he hb
        rw [heq, hiun] at h1; cases h1
      have h2 := wpOp_putIf hoj (hfree j oj hoj hji hjun hnot) (fun cs b => hsel i oi cs b hi) (fun cs b => hsel j oj cs b hoj) hQ hy h1
      have hsub : ∀ k, (listed.setIfInBounds j true).getD k true = false → listed.getD k true = false := fun k hk => by
        by_cases hjk : j = k
        · subst hjk; exact hjun
        · rwa [getD_set_ne true hjk] at hk
      refine wpOp_mono (fun a' w' h3 => ⟨h3.2.1, ih (listed.setIfInBounds j true) a' w' (hcl.set hj) (fun k w1 w2 hk => hG k w1 w2 (hsub k hk)) (fun k ok hk hki hun hno => hfree k ok hk hki (hsub k hun) hno) (ready_mono hr (Ne.symm hji)) h3.1
        (hG j w w' hjun hji (hcl.ready hj hiun) h3.2.1 hS) ?_⟩) h2
      rw [Array.setIfInBounds_comm _ _ hji]
      exact h3.2.2
theorem wpAnyG_take {G : Nat → World → World → Prop} {S : World → Prop} {i : Nat} {oi : Oper} {v : Value} {fuel : Nat} {listed : Array Bool} {a : Act} {w : World} (hi : ops[i]? = some oi)
    (hs : Region.noSelect ops = true) (hf : Region.free md ops listed i = true) (hr : (Region.ready md ops listed).contains i = true) (hcl : Cl md ops listed)
    (hQ : ∀ c a w, Q (.panic c) (a.put oi.dst v) w → Q (.panic c) a w) (hGi : ∀ w, G i w w)
    (hG : ∀ j w1 w2, listed.getD j true = false → j ≠ i → anc md ops ops.size j i = false → G j w1 w2 → S w1 → S w2) (hy : YieldsIf P ops S oi v a) (hS : S w)
    (h : wpAnyG P md ops Q G fuel (listed.setIfInBounds i true) (a.put oi.dst v) w) : wpAnyG P md ops Q G (fuel + 1) listed a w :=
  wpAnyG_first hi (Region.noSelect_spec hs) hQ hGi fuel listed a w hcl hG (Region.free_spec hi hf) (by simpa using hr) hy hS h
theorem wpAnyG_one {G : Nat → World → World → Prop} {i fuel : Nat} {listed : Array Bool} {a : Act} {w : World} (hr : Region.ready md ops listed = [i])
    (h : wpOp P ops Q i (fun a' w' => G i w w' ∧ wpAnyG P md ops Q G fuel (listed.setIfInBounds i true) a' w') a w) : wpAnyG P md ops Q G (fuel + 1) listed a w :=
  ⟨fun h0 => (by rw [hr] at h0; cases h0), fun j hj => (by rw [hr] at hj; simp at hj; subst hj; exact h)⟩
theorem wpAnyG_done {G : Nat → World → World → Prop} {listed : Array Bool} {a : Act} {w : World} (hr : Region.ready md ops listed = []) (h : Q .normal a w) : ∀ fuel, wpAnyG P md ops Q G fuel listed a w
  | 0 => ⟨hr, h⟩
  | _ + 1 => ⟨fun _ => h, by rw [hr]; simp⟩
end
end Go.Proofs.IM
