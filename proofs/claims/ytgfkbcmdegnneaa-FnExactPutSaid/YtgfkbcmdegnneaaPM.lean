/- Tables: the other Put, whole. -/
import Derived.Test.YtgfkbcmdegnneaaPL
namespace Go.Proofs.Ytgfkbcmdegnneaa.IM
open Go Go.Proofs.IM Go.Proofs.Flt
set_option maxHeartbeats 8000000
set_option maxRecDepth 100000
theorem s_implPut {sl : AV} {ps : List Pa} {tn k n r k' n' r' : Int} {f f' : Nat} {s s' : ByteArray} {m : Mem} {K : AR → Mem → Prop} (hs : SlR m 11 sl (ps.map Pa.av)) (hl : ps.length < 2 ^ 40) (hg : ∀ p ∈ ps, p.i64) (hn : i64r n)
    (h : ∀ q m', m.le m' → GrO m m' 11 q ((putA ps tn ⟨k, n, f, s, r⟩ ⟨k', n', f', s', r'⟩).1.map Pa.av) → K (.ret (.agg [q, .int .i64 (putA ps tn ⟨k, n, f, s, r⟩ ⟨k', n', f', s', r'⟩).2])) m') :
    Sim Try.prog 9 [.agg [sl, .int .i64 tn], .agg [.int .i64 k, .int .i64 n, .flt f, .str s, .int .i64 r], .agg [.int .i64 k', .int .i64 n', .flt f', .str s', .int .i64 r']] m K := by
  refine entry (cxok []) Try.func9 rfl rfl (by decide) (by decide) ?_
  obtain ⟨a1, a2, a3, a4⟩ := hs.facts
  unfold putA at h
  refine goh_ ?_
  refine s_implTableOk hs hl hg ?_
  have hno : K (.ret (.agg [.nils, .int .i64 0])) m ∨ (tabOk ps tn && vok ⟨k', n', f', s', r'⟩ && (keyV ⟨k, n, f, s, r⟩).1 == 0) = true := by
    cases e : (tabOk ps tn && vok ⟨k', n', f', s', r'⟩ && (keyV ⟨k, n, f, s, r⟩).1 == 0) with
    | true => exact .inr rfl
    | false =>
      left
      have h := h .nils m (Mem.le.refl _) (by rw [e]; exact .inl ⟨rfl, rfl⟩)
      rw [e] at h; exact h
  cases t1 : tabOk ps tn with
  | false =>
    have h := hno.resolve_right (by rw [t1]; simp)
    clear hno hg hn
    exact gox_
  | true =>
  refine goh_ ?_
  refine s_implValueOk ?_
  cases t2 : vok ⟨k', n', f', s', r'⟩ with
  | false =>
    have h := hno.resolve_right (by rw [t1, t2]; simp)
    clear hno hg hn
    exact gox_
  | true =>
  refine goh_ ?_
  refine s_implKey ?_
  rw [keyR_eq]
  cases t3 : (keyV ⟨k, n, f, s, r⟩).1 == 0 with
  | false =>
    have h := hno.resolve_right (by rw [t1, t2, t3]; simp)
    have t3' : ((keyV ⟨k, n, f, s, r⟩).1 != 0) = true := by rw [bne, t3]; rfl
    generalize keyV ⟨k, n, f, s, r⟩ = q at t3 t3' ⊢
    clear hno hg hn
    exact gox_
  | true =>
    have t3' : ((keyV ⟨k, n, f, s, r⟩).1 != 0) = false := by rw [bne, t3]; rfl
    rw [t1, t2, t3] at h
    simp only [Bool.and_self, if_true] at h
    clear hno
    have hlen := hs.len'
    rw [List.length_map] at hlen
    obtain ⟨f1, f2, f3, -⟩ := tabOk_facts t1
    generalize hq : keyV ⟨k, n, f, s, r⟩ = q at t3 t3' h ⊢
    refine goh_ ?_
    refine draw_ [(1, .pure), (2, .read), (4, .pure), (5, .read), (7, .read), (8, .read), (0, .step [2, 5, 7, 8]), (3, .step [5, 7, 8]), (6, .pure), (9, .step []), (10, .step [])] (by kernel_rfl) ?_
    refine goh_ ?_
    have hx : ∀ l : IM.Loc, sliceRows l (m.push ⟨[], 11⟩) sl = some (ps.map Pa.av) := fun l => (hs.mono (Mem.le.push m ⟨[], 11⟩)).rows l
    have hq0 : GrO m (m.push ⟨[], 11⟩) 11 (.sl (.hp m.hp.length) 0 0 0) [] := .inr ⟨m.hp.length, ⟨[], 11⟩, Nat.le_refl _, rfl, push_at, rfl, by simp, rfl⟩
    refine aApp_rows rfl (Mem.le.push m ⟨[], 11⟩) hq0 rfl (by decide) (by decide) (hx _) (pa_ok _) (by simp; omega) fun q2 m2 hm2 hq2 => ?_
    rw [List.nil_append] at hq2
    obtain ⟨y1, y2, y3, y4⟩ := hq2.r.facts
    clear hx hq0
    refine goh_ ?_
    refine s_rawPut hm2 hq2 hg hn t1 fun q' m' hm' hq' => ?_
    obtain ⟨x1, x2, x3, x4⟩ := hq'.r.facts
    rw [hq] at hq' ⊢
    have h := h q' m' hm' hq'
    generalize putS ps tn q.2 ⟨k', n', f', s', r'⟩ = w at h ⊢
    clear hq' hq2 hg hq hs
    exact gox_
end Go.Proofs.Ytgfkbcmdegnneaa.IM
