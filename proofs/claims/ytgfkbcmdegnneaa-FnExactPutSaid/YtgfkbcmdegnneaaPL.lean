/- Tables: the other Put. -/
import Derived.Test.YtgfkbcmdegnneaaPK
namespace Go.Proofs.IM
open Go Go.Proofs.Flt
theorem slice_hi {Te : TI} {aa : AA} {n c b : Nat} {l : Loc} {m : Mem} {K : KS} {B : Blk} (hB : blk? l m aa = some B) (hz : B.sz = Te.size) (hb : b ≤ c) (h : K (.sl aa 0 b c) l m) : aSliceR Te aa 0 n c (.int .i64 0) (some (.int .i64 (b : Int))) l m K := by
  unfold aSliceR
  rw [hB]
  refine ⟨hz, by omega, ?_⟩
  have e : (if c = (0 : Int).toNat then 0 else 0 + (0 : Int).toNat) = 0 := by split <;> rfl
  rw [e]
  simpa using h
theorem slice_lo {Te : TI} {aa : AA} {n c a : Nat} {l : Loc} {m : Mem} {K : KS} {B : Blk} (hB : blk? l m aa = some B) (hz : B.sz = Te.size) (ha : a ≤ n) (h : K (.sl aa (if c = a then 0 else a) (n - a) (c - a)) l m) : aSliceR Te aa 0 n c (.int .i64 (a : Int)) none l m K := by
  unfold aSliceR
  rw [hB]
  refine ⟨hz, by omega, ?_⟩
  simpa using h
theorem pa_ok (ps : List Pa) : ((ps.map Pa.av).all fun r => r.length == 11 && r.all AV.pub1) = true := by
  simp only [List.all_map, List.all_eq_true]
  intro b _; rfl
end Go.Proofs.IM
namespace Go.Proofs.Ytgfkbcmdegnneaa.IM
open Go Go.Proofs.IM Go.Proofs.Flt
set_option maxHeartbeats 8000000
set_option maxRecDepth 100000
theorem s_rawPut {m0 m : Mem} {sl : AV} {ps : List Pa} {tn k n r k' n' r' : Int} {f f' : Nat} {s s' : ByteArray} {K : AR → Mem → Prop} (hle : m0.le m) (hs : GrO m0 m 11 sl (ps.map Pa.av)) (hg : ∀ p ∈ ps, p.i64) (hn : i64r n) (ht : tabOk ps tn = true)
    (h : ∀ q m', m0.le m' → GrO m0 m' 11 q ((putS ps tn (keyV ⟨k, n, f, s, r⟩).2 ⟨k', n', f', s', r'⟩).1.map Pa.av) → K (.ret (.agg [q, .int .i64 (putS ps tn (keyV ⟨k, n, f, s, r⟩).2 ⟨k', n', f', s', r'⟩).2])) m') :
    Sim Try.prog 22 [.agg [sl, .int .i64 tn], .agg [.int .i64 k, .int .i64 n, .flt f, .str s, .int .i64 r], .agg [.int .i64 k', .int .i64 n', .flt f', .str s', .int .i64 r']] m K := by
  refine entry (cxok [62]) Try.func22 rfl rfl (by decide) (by decide) ?_
  obtain ⟨a1, a2, a3, a4⟩ := hs.r.facts
  have hki := keyV_i64 (v := ⟨k, n, f, s, r⟩) hn
  have hlen := hs.r.len'
  rw [List.length_map] at hlen
  obtain ⟨f1, f2, f3, -⟩ := tabOk_facts ht
  have hz := tab_nil ht
  refine goh_ ?_
  refine s_implKey ?_
  rw [keyR_eq]
  generalize keyV ⟨k, n, f, s, r⟩ = q at h hki ⊢
  obtain ⟨kc, ⟨kk, kn, kf, ks, kr⟩⟩ := q
  simp only at h hki
  refine goh_ ?_
  refine s_place hs.r (by clear hg; omega) hg hki (fun i hi hsm hbef => ?_) (fun hnone => ?_)
  · have hone := tab_one ht hi hsm
    have hput := putL_one (v := ⟨k', n', f', s', r'⟩) hi hsm hone hz
    have hany : ps.any (fun p => sameV p.k ⟨kk, kn, kf, ks, kr⟩) = true := List.any_eq_true.2 ⟨ps[i], List.getElem_mem hi, hsm⟩
    have hputS : putS ps tn ⟨kk, kn, kf, ks, kr⟩ ⟨k', n', f', s', r'⟩ = (putL ⟨kk, kn, kf, ks, kr⟩ ⟨k', n', f', s', r'⟩ ps, tn) := by unfold putS; rw [hany]; rfl
    rw [hputS, hput] at h
    clear hput hputS hany hone hbef hsm hki
    rcases hs with ⟨-, hnil⟩ | ⟨j, B, hj, rfl, hb, hz2, hr1, hr2⟩
    · exfalso
      have : ps = [] := by simpa using hnil
      subst this; simp at hi
    have e0 : (0 ≤ (i : Int)) = True := by rw [eq_iff_iff, iff_true]; omega
    cases hk : (k' == 0) with
    | true =>
      refine goh_ ?_
      refine draw_ [(0, .pure), (1, .read), (2, .pure), (3, .pure), (4, .pure), (5, .read), (6, .pure), (7, .pure), (8, .pure), (9, .step []), (10, .pure), (11, .step [])] (by kernel_rfl) ?_
      clear hg hz
      have hblk : ∀ l : IM.Loc, blk? l m (.hp j) = some B := fun l => hb
      rw [List.length_map] at hr1 hr2
      have hrows : B.rows.take ps.length = ps.map Pa.av := hr2
      have hw := w64_succ hi (show ps.length < 2 ^ 63 by omega)
      rw [if_pos hk, List.nil_append] at h
      have hx : ∀ l : IM.Loc, sliceRows l m (.sl (.hp j) (if B.rows.length = i + 1 then 0 else i + 1) (ps.length - (i + 1)) (B.rows.length - (i + 1))) = some ((ps.drop (i + 1)).map Pa.av) := fun l => by
        simp only [sliceRows, rows?, blk?, hb]
        split
        · have e : ps.length - (i + 1) = 0 := by omega
          rw [List.drop_of_length_le (by omega)]
          simp [e]
        · simp only [Option.bind_some]
          rw [List.map_drop, ← hrows, List.drop_take]
          simp
          omega
      have hq0 : GrO m0 m 11 (.sl (.hp j) 0 i B.rows.length) ((ps.take i).map Pa.av) := by
        refine .inr ⟨j, B, hj, ?_, hb, hz2, ?_, ?_⟩
        · rw [List.length_map, List.length_take, Nat.min_eq_left (by omega)]
        · rw [List.length_map, List.length_take]; omega
        · rw [List.length_map, List.length_take, Nat.min_eq_left (by omega), List.map_take, ← hrows, List.take_take, Nat.min_eq_left (by omega)]
      refine goh_ ?_
      refine slice_hi (hblk _) hz2 (by omega) ?_
      refine goh_ ?_
      refine slice_lo (hblk _) hz2 (by omega) ?_
      refine goh_ ?_
      refine aApp_rows rfl hle hq0 rfl (by decide) (by decide) (hx _) (pa_ok _) (by simp; omega) fun q2 m2 hm2 hq2 => ?_
      obtain ⟨y1, y2, y3, y4⟩ := hq2.r.facts
      have h := h q2 m2 hm2 (by rw [List.map_append]; exact hq2)
      clear hq2 hq0 hx hblk hrows ht
      exact gox_
    | false =>
      rw [List.length_map] at hr1 hr2
      have hrows : B.rows.take ps.length = ps.map Pa.av := hr2
      rw [if_neg (by rw [show (V.mk k' n' f' s' r').k = k' from rfl, hk]; decide)] at h
      have hil : i < B.rows.length := by omega
      have hri : B.rows[i]? = some [.int .i64 ps[i].k.k, .int .i64 ps[i].k.n, .flt ps[i].k.f, .str ps[i].k.s, .int .i64 ps[i].k.r, .int .i64 ps[i].v.k, .int .i64 ps[i].v.n, .flt ps[i].v.f, .str ps[i].v.s, .int .i64 ps[i].v.r, .int .i64 ps[i].turn] := by
        have : (B.rows.take ps.length)[i]? = some ps[i].av := by rw [hrows]; simp [hi]
        rw [List.getElem?_take_of_lt hi] at this
        exact this
      have e1 : (0 ≤ (i : Int) ∧ (i : Int) < ps.length) = True := by rw [eq_iff_iff, iff_true]; omega
      have e2 : ((i : Int) < ps.length) = True := by rw [eq_iff_iff, iff_true]; omega
      clear hg hz
      refine goh_ ?_
      have hlt : j < m.hp.length := (List.getElem?_eq_some_iff.1 hb).1
      have hset : (B.rows.set i [.int .i64 ps[i].k.k, .int .i64 ps[i].k.n, .flt ps[i].k.f, .str ps[i].k.s, .int .i64 ps[i].k.r, .int .i64 k', .int .i64 n', .flt f', .str s', .int .i64 r', .int .i64 ps[i].turn]).take ps.length = (ps.take i ++ ([(⟨ps[i].k, ⟨k', n', f', s', r'⟩, ps[i].turn⟩ : Pa)] ++ ps.drop (i + 1))).map Pa.av := by
        rw [List.take_set, hrows, List.singleton_append, ← (List.set_eq_take_append_cons_drop (l := ps) (i := i) (a := ⟨ps[i].k, ⟨k', n', f', s', r'⟩, ps[i].turn⟩)).trans (if_pos hi), List.map_set]
        rfl
      have hlen' : ((ps.take i ++ ([(⟨ps[i].k, ⟨k', n', f', s', r'⟩, ps[i].turn⟩ : Pa)] ++ ps.drop (i + 1))).map Pa.av).length = ps.length := by
        simp; omega
      refine h _ _ (hle.set hj _) (.inr ⟨j, ⟨B.rows.set i [.int .i64 ps[i].k.k, .int .i64 ps[i].k.n, .flt ps[i].k.f, .str ps[i].k.s, .int .i64 ps[i].k.r, .int .i64 k', .int .i64 n', .flt f', .str s', .int .i64 r', .int .i64 ps[i].turn], 11⟩, hj, ?_, by simp [hlt], rfl, ?_, ?_⟩)
      · rw [hlen', List.length_set]
      · rw [hlen', List.length_set]; omega
      · rw [hlen']; exact hset
  · have hany : ps.any (fun p => sameV p.k ⟨kk, kn, kf, ks, kr⟩) = false := by
      rw [List.any_eq_false]; intro p hp; rw [hnone p hp]; decide
    have hpl : putL ⟨kk, kn, kf, ks, kr⟩ ⟨k', n', f', s', r'⟩ ps = ps := putL_none fun p hp => ⟨hnone p hp, hz p hp⟩
    have e0 : (0 ≤ (-1 : Int)) = False := by rw [eq_iff_iff, iff_false]; omega
    clear hnone hz hg hki
    have keep : putS ps tn ⟨kk, kn, kf, ks, kr⟩ ⟨k', n', f', s', r'⟩ = (ps, tn) → K (.ret (.agg [sl, .int .i64 tn])) m := fun e => by
      have h := h sl m hle (by rw [e]; exact hs)
      rw [e] at h; exact h
    unfold putS at keep h
    rw [hany, hpl] at keep h
    clear hany hpl
    cases hk : (k' == 0) with
    | true =>
      have h := keep (by simp [hk])
      clear keep hs ht
      exact gox_
    | false =>
    simp only [hk, Bool.not_false, Bool.true_and] at keep h
    by_cases c1 : ps.length < 500
    rotate_left
    · have h := keep (by rw [decide_eq_false c1]; rfl)
      have c1' : ((500 : Int) ≤ ps.length) = True := by rw [eq_iff_iff, iff_true]; omega
      clear keep c1 hs ht
      exact gox_
    rw [decide_eq_true c1, Bool.true_and] at keep h
    have c1' : ((500 : Int) ≤ ps.length) = False := by rw [eq_iff_iff, iff_false]; omega
    by_cases c2 : tn < 1000000000000
    rotate_left
    · have h := keep (by rw [decide_eq_false c2]; rfl)
      have c2' : (1000000000000 ≤ tn) = True := by rw [eq_iff_iff, iff_true]; omega
      clear keep c1 c2 hs ht
      exact gox_
    rw [decide_eq_true c2, if_pos rfl] at h
    have c2' : (1000000000000 ≤ tn) = False := by rw [eq_iff_iff, iff_false]; omega
    have hw : w64 (tn + 1) = tn + 1 := w64_id (by omega)
    clear keep c1 c2 ht f2 f3
    refine goh_ ?_
    refine aApp_rows rfl hle hs rfl (by decide) (by decide) lc_row rfl (by simp; omega) fun q2 m2 hm2 hq2 => ?_
    obtain ⟨y1, y2, y3, y4⟩ := hq2.r.facts
    have h := h q2 m2 hm2 (by rw [List.map_append]; exact hq2)
    clear hq2 hs
    exact gox_
end Go.Proofs.Ytgfkbcmdegnneaa.IM
