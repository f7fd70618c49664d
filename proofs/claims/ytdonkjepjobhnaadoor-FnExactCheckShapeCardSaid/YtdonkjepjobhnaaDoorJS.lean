/- What the laws' guard lets in; the law of CheckShape. -/
import Derived.Test.YtdonkjepjobhnaaDoorJR
namespace Go.Proofs.IM
open Go
abbrev i64 (x : Int) : Prop := -9223372036854775808 ≤ x ∧ x ≤ 9223372036854775807
structure V.good (v : V) : Prop where
  k : i64 v.k
  n : i64 v.n
  f : v.f < 18446744073709551616
  s : v.s.size ≤ 9223372036854775807
  r : i64 v.r
structure I.good (x : I) : Prop where
  op : i64 x.op
  a : i64 x.a
  b : i64 x.b
  c : i64 x.c
  d : i64 x.d
structure Nm.good (n : Nm) : Prop where
  s : n.s.size ≤ 9223372036854775807
  reg : i64 n.reg
  lo : i64 n.lo
  hi : i64 n.hi
structure Pr.good (p : Pr) : Prop where
  s : p.s.size ≤ 9223372036854775807
  line : i64 p.line
  params : i64 p.params
  regs : i64 p.regs
  ups : p.ups.length ≤ 9223372036854775807
  consts : p.consts.length ≤ 9223372036854775807
  ins : p.ins.length ≤ 9223372036854775807
  named : p.named.length ≤ 9223372036854775807
  up : ∀ u ∈ p.ups, i64 u.ix
  const : ∀ v ∈ p.consts, v.good
  insn : ∀ x ∈ p.ins, x.good
  name : ∀ n ∈ p.named, n.good
theorem Pr.good.ok {p : Pr} (h : p.good) : p.ok := ⟨by have := h.ups; omega, by have := h.consts; omega, by have := h.ins; omega, by have := h.named; omega⟩
def sumBy {α : Type} (g : α → Nat) : List α → Nat
  | [] => 0
  | x :: xs => g x + sumBy g xs
def V.wt (v : V) : Nat := v.s.size
def Nm.wt (n : Nm) : Nat := n.s.size
def Pr.wt (p : Pr) : Nat := p.s.size + p.ups.length + (p.consts.length + sumBy V.wt p.consts) + p.ins.length + (p.named.length + sumBy Nm.wt p.named)
def wtC (ps : List Pr) : Nat := ps.length + sumBy Pr.wt ps
theorem szL_eq {α : Type} {f : α → Int → Int} {g : α → Nat} : ∀ {xs : List α} (_ : ∀ x ∈ xs, ∀ l, 0 ≤ l → l ≤ 1048576 → 0 ≤ f x l → f x l = l - g x) {l : Int}, 0 ≤ l → l ≤ 1048576 → 0 ≤ szL f xs l → szL f xs l = l - sumBy g xs := by
  intro xs
  induction xs with
  | nil => intro _ l _ _ _; simp [szL, sumBy]
  | cons x xs ih =>
    intro hf l h0 h1 h
    simp only [szL] at h ⊢
    by_cases hx : f x l < 0
    · rw [if_pos hx] at h; omega
    · rw [if_neg hx] at h ⊢
      have e := hf x (by simp) l h0 h1 (by omega)
      rw [ih (fun y hy => hf y (by simp [hy])) (by omega) (by omega) h, e]
      simp only [sumBy]; omega
theorem szS_eq {α : Type} {f : α → Int → Int} {g : α → Nat} {xs : List α} (hf : ∀ x ∈ xs, ∀ l, 0 ≤ l → l ≤ 1048576 → 0 ≤ f x l → f x l = l - g x) (hl : xs.length ≤ 9223372036854775807) {l : Int} (h0 : 0 ≤ l) (h1 : l ≤ 1048576) (h : 0 ≤ szS f xs l) : szS f xs l = l - (xs.length + sumBy g xs : Nat) := by
  simp only [szS] at h ⊢
  rw [w64_id (by omega)] at h ⊢
  by_cases hx : l - (xs.length : Int) < 0
  · rw [if_pos hx] at h; omega
  · rw [if_neg hx] at h ⊢
    rw [szL_eq hf (by omega) (by omega) h]; omega
theorem szS0_eq {α : Type} {xs : List α} (hl : xs.length ≤ 9223372036854775807) {l : Int} (h0 : 0 ≤ l) (h1 : l ≤ 1048576) (h : 0 ≤ szS0 xs l) : szS0 xs l = l - xs.length := by
  simp only [szS0] at h ⊢
  rw [w64_id (by omega)] at h ⊢
  by_cases hx : l - (xs.length : Int) < 0
  · rw [if_pos hx] at h; omega
  · rw [if_neg hx]
theorem szV_eq {v : V} (hv : v.s.size ≤ 9223372036854775807) {l : Int} (h0 : 0 ≤ l) (h1 : l ≤ 1048576) (h : 0 ≤ szV v l) : szV v l = l - v.wt := by
  simp only [szV] at h ⊢
  rw [w64_id (by omega)] at h ⊢
  by_cases hx : l - (v.s.size : Int) < 0
  · rw [if_pos hx] at h; omega
  · rw [if_neg hx]; rfl
theorem szN_eq {v : Nm} (hv : v.s.size ≤ 9223372036854775807) {l : Int} (h0 : 0 ≤ l) (h1 : l ≤ 1048576) (h : 0 ≤ szN v l) : szN v l = l - v.wt := by
  simp only [szN] at h ⊢
  rw [w64_id (by omega)] at h ⊢
  by_cases hx : l - (v.s.size : Int) < 0
  · rw [if_pos hx] at h; omega
  · rw [if_neg hx]; rfl
theorem szP_eq {p : Pr} (hp : p.good) {l : Int} (h0 : 0 ≤ l) (h1 : l ≤ 1048576) (h : 0 ≤ szP p l) : szP p l = l - p.wt := by
  have hs := hp.s
  simp only [szP] at h ⊢
  rw [w64_id (x := l - (p.s.size : Int)) (by omega)] at h ⊢
  by_cases x1 : l - (p.s.size : Int) < 0
  · rw [if_pos x1] at h; omega
  rw [if_neg x1] at h ⊢
  by_cases x2 : szS0 p.ups (l - (p.s.size : Int)) < 0
  · rw [if_pos x2] at h; omega
  have e2 := szS0_eq hp.ups (l := l - (p.s.size : Int)) (by omega) (by omega) (by omega)
  rw [if_neg x2] at h ⊢
  rw [e2] at x2 h ⊢
  have f3 : ∀ x ∈ p.consts, ∀ l, 0 ≤ l → l ≤ 1048576 → 0 ≤ szV x l → szV x l = l - x.wt := fun x hx l a b c => szV_eq (hp.const x hx).s a b c
  by_cases x3 : szS szV p.consts (l - (p.s.size : Int) - p.ups.length) < 0
  · rw [if_pos x3] at h; omega
  have e3 := szS_eq f3 hp.consts (l := l - (p.s.size : Int) - p.ups.length) (by omega) (by omega) (by omega)
  rw [if_neg x3] at h ⊢
  rw [e3] at x3 h ⊢
  generalize hl3 : l - (p.s.size : Int) - p.ups.length - ((p.consts.length + sumBy V.wt p.consts : Nat) : Int) = l3 at x3 h ⊢
  by_cases x4 : szS0 p.ins l3 < 0
  · rw [if_pos x4] at h; omega
  have e4 := szS0_eq hp.ins (l := l3) (by omega) (by omega) (by omega)
  rw [if_neg x4] at h ⊢
  rw [e4] at x4 h ⊢
  have f5 : ∀ x ∈ p.named, ∀ l, 0 ≤ l → l ≤ 1048576 → 0 ≤ szN x l → szN x l = l - x.wt := fun x hx l a b c => szN_eq (hp.name x hx).s a b c
  by_cases x5 : szS szN p.named (l3 - p.ins.length) < 0
  · rw [if_pos x5] at h; omega
  have e5 := szS_eq f5 hp.named (l := l3 - p.ins.length) (by omega) (by omega) (by omega)
  rw [if_neg x5]
  rw [e5]
  simp only [Pr.wt]
  omega
theorem szC_eq {ps : List Pr} (hL : ∀ p ∈ ps, p.good) (hl : ps.length ≤ 9223372036854775807) (h : ¬ szC ps 1048576 < 0) : wtC ps ≤ 1048576 := by
  have h' : 0 ≤ szS szP ps 1048576 := by
    simp only [szC] at h
    split at h
    · omega
    · omega
  have := szS_eq (f := szP) (g := Pr.wt) (fun x hx l a b c => szP_eq (hL x hx) a b c) hl (by omega) (by omega) h'
  simp only [wtC]
  omega
theorem sumBy_le {α : Type} {g : α → Nat} {xs : List α} {x : α} (h : x ∈ xs) : g x ≤ sumBy g xs := by
  induction xs with
  | nil => cases h
  | cons y ys ih =>
    rcases List.mem_cons.1 h with e | e
    · subst e; simp only [sumBy]; omega
    · have := ih e; simp only [sumBy]; omega
theorem fit_of {ps : List Pr} (h : wtC ps ≤ 1048576) : ps.length < 2 ^ 40 ∧ ∀ p ∈ ps, p.fit := by
  refine ⟨by simp only [wtC] at h; omega, fun p hp => ?_⟩
  have := sumBy_le (g := Pr.wt) hp
  simp only [wtC] at h
  have hw : p.wt ≤ 1048576 := by omega
  simp only [Pr.wt] at hw
  exact ⟨by omega, by omega, by omega, by omega⟩
end Go.Proofs.IM
namespace Go.Proofs.YtdonkjepjobhnaaDoor.IM
open Go Go.Proofs.IM Go.Proofs.Flt
set_option maxHeartbeats 8000000
set_option maxRecDepth 100000
theorem s_FnExactCheckShape {s : AV} {ps : List Pr} {m : Mem} {K : AR → Mem → Prop} (hF : FormsR 0 m) (hp : PsR m s ps) (hl : ps.length ≤ 9223372036854775807) (hL : ∀ p ∈ ps, p.good)
    (h : ∀ m', m.le m' → K (.ret (.bool true)) m') :
    Sim Tryd.prog 5 [.agg [s]] m K := by
  refine entry (cxok []) Tryd.func5 rfl rfl (by decide) (by decide) ?_
  obtain ⟨a1, a2, a3, a4⟩ := hp.facts
  have hok := fun p hp => (hL p hp).ok
  refine goh_ ?_
  refine s_szCode hp (by omega) hok ?_
  refine goh_ ?_
  refine ⟨fun hd => by have h := h _ (Mem.le.refl _); exact gox_, fun hd => ?_⟩
  obtain ⟨hl', hfit⟩ := fit_of (szC_eq hL hl hd)
  clear hd
  refine s_toCode hp hl' hfit ?_
  intro m1 own1 hm1 ho1 hr1
  refine goh_ ?_
  refine s_specCheckShape ho1.r (by omega) hok ?_
  intro m2 hm2
  simp only [F3.av]
  refine goh_ ?_
  refine s_toCode (hp.mono (hm1.trans hm2)) hl' hfit ?_
  intro m3 own3 hm3 ho3 hr3
  refine goh_ ?_
  refine s_implCheckShape (hF.mono ((hm1.trans hm2).trans hm3)) ho3.r (by omega) hok ?_
  intro m4 hm4
  simp only [F3.av]
  refine goh_ ?_
  refine s_eqFault ?_
  refine goh_ ?_
  refine draw_ [(0, .read), (1, .read), (2, .step [0]), (3, .step []), (4, .pure)] (by kernel_rfl) ?_
  refine goh_ ?_
  refine s_toCode (hp.mono (((hm1.trans hm2).trans hm3).trans hm4)) hl' hfit ?_
  intro m5 own5 hm5 ho5 hr5
  refine goh_ ?_
  refine s_eqCode (ho3.r.mono (hm4.trans hm5)) ho5.r (by omega) hok ?_
  have h := h m5 ((((hm1.trans hm2).trans hm3).trans hm4).trans hm5)
  exact gox_
end Go.Proofs.YtdonkjepjobhnaaDoor.IM
