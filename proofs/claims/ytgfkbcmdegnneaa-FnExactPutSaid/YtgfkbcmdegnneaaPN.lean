/- The laws' FnExactPut. -/
import Derived.Test.YtgfkbcmdegnneaaPM
namespace Go.Proofs.IM
open Go Go.Proofs.Flt
theorem guard_len {ps : List Pa} {u : Int} (hl : ps.length ≤ 9223372036854775807) (hu : (let l := szS szPa ps 1048576; if l < 0 then -1 else l) = u) (h : ¬ u < 0) : ps.length ≤ 1048576 := by
  have e : szS szPa ps 1048576 = (if w64 (1048576 - (ps.length : Int)) < 0 then -1 else szL szPa ps (w64 (1048576 - (ps.length : Int)))) := rfl
  rw [w64_id (by omega)] at e
  by_cases hx : (1048576 : Int) - (ps.length : Int) < 0
  · rw [if_pos hx] at e
    simp only [e] at hu
    rw [if_pos (by decide)] at hu
    omega
  · omega
theorem draw_cut {C : Cx} {ops : Array Oper} {KN : St → Mem → Prop} {KP : Value → Mem → Prop} {st : St} {m : Mem} (I : (Nat → AV) → Loc → Nat → Mem → Prop) (hc : ∀ t l c m, I t l c m → KN ⟨t, l, c⟩ m)
    (h : ∀ KN0 : St → Mem → Prop, (∀ t l c m, I t l c m → KN0 ⟨t, l, c⟩ m) → aDraw C ops KN0 KP st m) : aDraw C ops KN KP st m := h KN hc
theorem putA_len {ps : List Pa} {tn : Int} {k v : V} : (putA ps tn k v).1.length ≤ 501 := by
  unfold putA
  split
  · rename_i h
    simp only [Bool.and_eq_true] at h
    have f1 := (tabOk_facts h.1.1).1
    have := putL_len (key := (keyV k).2) (v := v) (ps := ps)
    unfold putS
    split
    · simp; omega
    · simp; omega
  · simp
theorem GrO.le {m0 m m' : Mem} {z : Nat} {s : AV} {rs : List (List AV)} (h : GrO m0 m z s rs) (hm : m.le m') : GrO m0 m' z s rs := by
  rcases h with h | ⟨j, B, h1, h2, h3, h4⟩
  · exact .inl h
  · exact .inr ⟨j, B, h1, h2, hm.hp _ _ h3, h4⟩
theorem SlO.lt {m : Mem} {z : Nat} {s : AV} {rs : List (List AV)} {own : List Nat} (h : SlO m z s rs own) : ∀ j ∈ own, j < m.hp.length := by
  rcases h with ⟨-, -, rfl⟩ | ⟨j, n, c, B, -, h1, -, -, -, rfl⟩
  · simp
  · intro a ha
    obtain rfl : a = j := by simpa using ha
    exact (List.getElem?_eq_some_iff.1 h1).1
end Go.Proofs.IM
namespace Go.Proofs.Ytgfkbcmdegnneaa.IM
open Go Go.Proofs.IM Go.Proofs.Flt
set_option maxHeartbeats 8000000
set_option maxRecDepth 100000
theorem s_FnExactPut {sl : AV} {ps : List Pa} {tn k n r k' n' r' : Int} {f f' : Nat} {s s' : ByteArray} {m : Mem} {K : AR → Mem → Prop} (hs : SlR m 11 sl (ps.map Pa.av)) (hl : ps.length ≤ 9223372036854775807) (hg : ∀ p ∈ ps, p.i64) (hn : i64r n)
    (h : ∀ m', m.le m' → K (.ret (.bool true)) m') :
    Sim Try.prog 3 [.agg [sl, .int .i64 tn], .agg [.int .i64 k, .int .i64 n, .flt f, .str s, .int .i64 r], .agg [.int .i64 k', .int .i64 n', .flt f', .str s', .int .i64 r']] m K := by
  refine entry (cxok []) Try.func3 rfl rfl (by decide) (by decide) ?_
  obtain ⟨a1, a2, a3, a4⟩ := hs.facts
  refine goh_ ?_
  refine s_szTable hs (by clear hg; omega) ?_
  generalize hu : (let l := szS szPa ps 1048576; if l < 0 then -1 else l) = u1
  refine goh_ ?_
  refine ⟨fun hd => by have h := h _ (Mem.le.refl _); clear hg; exact gox_, fun hd => ?_⟩
  have hlen1 := guard_len hl hu hd
  clear hu
  refine s_szValue ?_
  generalize szV ⟨k, n, f, s, r⟩ u1 = u2
  refine goh_ ?_
  refine ⟨fun hd => by have h := h _ (Mem.le.refl _); clear hg; exact gox_, fun hd2 => ?_⟩
  refine s_szValue ?_
  generalize szV ⟨k', n', f', s', r'⟩ u2 = u3
  refine goh_ ?_
  refine ⟨fun hd => by have h := h _ (Mem.le.refl _); clear hg; exact gox_, fun hd3 => ?_⟩
  clear hd hd2 hd3
  have hl40 : ps.length < 2 ^ 40 := by clear hg; omega
  have tabR : ∀ m : Mem, SlR (m.push ⟨ps.map Pa.av, 11⟩) 11 (.sl (.hp m.hp.length) 0 ps.length ps.length) (ps.map Pa.av) := fun m => ⟨fun j => by simp, ⟨ps.map Pa.av, 11⟩, push_at, rfl, by simp, by rw [List.drop_zero]; exact List.take_of_length_le (by simp)⟩
  refine draw_cut (fun t l c m' => ∃ w0, m.le m' ∧ GrO m m' 11 w0 ((putA ps tn ⟨k, n, f, s, r⟩ ⟨k', n', f', s', r'⟩).1.map Pa.av) ∧ t 3 = .ptr (.lc 0) 0 0 ∧ t 4 = .ptr (.lc 1) 0 0 ∧ t 5 = .ptr (.lc 2) 0 0 ∧ t 8 = .ptr (.lc 30) 0 0 ∧ l 0 = some ⟨[[sl, .int .i64 tn]], 2⟩ ∧ l 1 = some ⟨[[.int .i64 k, .int .i64 n, .flt f, .str s, .int .i64 r]], 5⟩ ∧ l 2 = some ⟨[[.int .i64 k', .int .i64 n', .flt f', .str s', .int .i64 r']], 5⟩ ∧ l 30 = some ⟨[[w0, .int .i64 (putA ps tn ⟨k, n, f, s, r⟩ ⟨k', n', f', s', r'⟩).2]], 2⟩ ∧ c = 32) ?_ ?_
  rotate_left
  · intro KN next
    refine drawF_ [(0, .read), (2, .read), (4, .read)] [(1, .step [2, 4]), (3, .step [4]), (5, .step []), (6, .step []), (7, .step [0, 2, 4]), (8, .step [])] (.fork 1 [2, 4] (.fork 3 [4] (.fork 5 [] (.fork 6 [] (.step 7 [0, 2, 4] (.step 8 [] .done)) 7 [0, 2, 4] (.step 6 [] (.step 8 [] .done))) 7 [0, 2, 4] (.step 5 [] (.step 6 [] (.step 8 [] .done)))) 7 [0, 2, 4] (.step 3 [4] (.step 5 [] (.step 6 [] (.step 8 [] .done))))) 7 [0, 2, 4] (.step 1 [2, 4] (.step 3 [4] (.step 5 [] (.step 6 [] (.step 8 [] .done)))))) (by kernel_rfl) ?_
    refine goh_ ?_
    refine ⟨?_, ?_⟩
    · refine s_toTable hs hl40 ?_
      refine goh_ ?_
      refine ⟨?_, ?_⟩
      · refine s_toValue ?_
        refine goh_ ?_
        refine ⟨?_, ?_⟩
        · refine s_toValue ?_
          refine goh_ ?_
          refine ⟨?_, ?_⟩
          · refine s_specPut (tabR m) hl40 hg hn fun w0 m' hm hw => ?_
            obtain ⟨x1, x2, x3, x4⟩ := hw.r.facts
            have hm' := (Mem.le.push m _).trans hm
            have hw' := hw.base (Mem.le.push m ⟨ps.map Pa.av, 11⟩)
            clear hg
            refine goh_ ?_
            exact next _ _ _ _ ⟨w0, hm', hw', rfl, rfl, rfl, rfl, rfl, rfl, rfl, rfl, rfl⟩
          · refine s_specPut (tabR m) hl40 hg hn fun w0 m' hm hw => ?_
            obtain ⟨x1, x2, x3, x4⟩ := hw.r.facts
            have hm' := (Mem.le.push m _).trans hm
            have hw' := hw.base (Mem.le.push m ⟨ps.map Pa.av, 11⟩)
            clear hg
            refine goh_ ?_
            exact next _ _ _ _ ⟨w0, hm', hw', rfl, rfl, rfl, rfl, rfl, rfl, rfl, rfl, rfl⟩
        · refine s_toValue ?_
          refine goh_ ?_
          refine s_specPut (tabR m) hl40 hg hn fun w0 m' hm hw => ?_
          obtain ⟨x1, x2, x3, x4⟩ := hw.r.facts
          have hm' := (Mem.le.push m _).trans hm
          have hw' := hw.base (Mem.le.push m ⟨ps.map Pa.av, 11⟩)
          clear hg
          refine goh_ ?_
          exact next _ _ _ _ ⟨w0, hm', hw', rfl, rfl, rfl, rfl, rfl, rfl, rfl, rfl, rfl⟩
      · refine s_toValue ?_
        refine goh_ ?_
        refine s_toValue ?_
        refine goh_ ?_
        refine s_specPut (tabR m) hl40 hg hn fun w0 m' hm hw => ?_
        obtain ⟨x1, x2, x3, x4⟩ := hw.r.facts
        have hm' := (Mem.le.push m _).trans hm
        have hw' := hw.base (Mem.le.push m ⟨ps.map Pa.av, 11⟩)
        clear hg
        refine goh_ ?_
        exact next _ _ _ _ ⟨w0, hm', hw', rfl, rfl, rfl, rfl, rfl, rfl, rfl, rfl, rfl⟩
    · refine s_toTable hs hl40 ?_
      refine goh_ ?_
      refine s_toValue ?_
      refine goh_ ?_
      refine s_toValue ?_
      refine goh_ ?_
      refine s_specPut (tabR m) hl40 hg hn fun w0 m' hm hw => ?_
      obtain ⟨x1, x2, x3, x4⟩ := hw.r.facts
      have hm' := (Mem.le.push m _).trans hm
      have hw' := hw.base (Mem.le.push m ⟨ps.map Pa.av, 11⟩)
      clear hg
      refine goh_ ?_
      exact next _ _ _ _ ⟨w0, hm', hw', rfl, rfl, rfl, rfl, rfl, rfl, rfl, rfl, rfl⟩
  rintro t l c m1 ⟨w0, hm1, hw0, t3, t4, t5, t8, l0, l1, l2, l30, rfl⟩
  have hs1 := hs.mono hm1
  obtain ⟨b1, b2, b3, b4⟩ := hw0.r.facts
  refine goh_ ?_
  refine s_toTable hs1 hl40 ?_
  have hx0 : SlO (m1.push ⟨ps.map Pa.av, 11⟩) 11 (.sl (.hp m1.hp.length) 0 ps.length ps.length) (ps.map Pa.av) [m1.hp.length] := .inr ⟨m1.hp.length, ps.length, ps.length, ⟨ps.map Pa.av, 11⟩, rfl, push_at, rfl, by simp, List.take_of_length_le (by simp), rfl⟩
  have hm12 := Mem.le.push m1 ⟨ps.map Pa.av, 11⟩
  have hlen2 : (m1.push ⟨ps.map Pa.av, 11⟩).hp.length = m1.hp.length + 1 := push_len
  refine goh_ ?_
  have hm2 := hm1.trans hm12
  have hs2 := hs.mono hm2
  generalize (m1.push ⟨ps.map Pa.av, 11⟩) = m2 at hx0 hm12 hlen2 hm2 hs2 ⊢
  refine draw_cut (fun t l c m' => ∃ g0, m2.le m' ∧ GrO m2 m' 11 g0 ((putA ps tn ⟨k, n, f, s, r⟩ ⟨k', n', f', s', r'⟩).1.map Pa.av) ∧ t 3 = .ptr (.lc 0) 0 0 ∧ t 4 = .ptr (.lc 1) 0 0 ∧ t 5 = .ptr (.lc 2) 0 0 ∧ t 8 = .ptr (.lc 30) 0 0 ∧ t 9 = .ptr (.lc 34) 0 0 ∧ t 10 = .ptr (.lc 42) 0 0 ∧ l 0 = some ⟨[[sl, .int .i64 tn]], 2⟩ ∧ l 1 = some ⟨[[.int .i64 k, .int .i64 n, .flt f, .str s, .int .i64 r]], 5⟩ ∧ l 2 = some ⟨[[.int .i64 k', .int .i64 n', .flt f', .str s', .int .i64 r']], 5⟩ ∧ l 30 = some ⟨[[w0, .int .i64 (putA ps tn ⟨k, n, f, s, r⟩ ⟨k', n', f', s', r'⟩).2]], 2⟩ ∧ l 34 = some ⟨[[.sl (.hp m1.hp.length) 0 ps.length ps.length, .int .i64 tn]], 2⟩ ∧ l 42 = some ⟨[[g0, .int .i64 (putA ps tn ⟨k, n, f, s, r⟩ ⟨k', n', f', s', r'⟩).2]], 2⟩ ∧ c = 44) ?_ ?_
  rotate_left
  · intro KN next
    refine drawF_ [(0, .read), (1, .read), (3, .read)] [(2, .step [0, 3]), (4, .step [0]), (5, .step []), (6, .step [0, 1, 3]), (7, .step [])] (.fork 2 [0, 3] (.fork 4 [0] (.fork 5 [] (.step 6 [0, 1, 3] (.step 7 [] .done)) 6 [0, 1, 3] (.step 5 [] (.step 7 [] .done))) 6 [0, 1, 3] (.step 4 [0] (.step 5 [] (.step 7 [] .done)))) 6 [0, 1, 3] (.step 2 [0, 3] (.step 4 [0] (.step 5 [] (.step 7 [] .done))))) (by kernel_rfl) ?_
    refine goh_ ?_
    refine ⟨?_, ?_⟩
    · refine s_toValue ?_
      refine goh_ ?_
      refine ⟨?_, ?_⟩
      · refine s_toValue ?_
        refine goh_ ?_
        refine ⟨?_, ?_⟩
        · refine s_implPut hx0.r hl40 hg hn fun g0 m' hm hw => ?_
          obtain ⟨x1, x2, x3, x4⟩ := hw.r.facts
          clear hg
          have hw' := hw
          refine goh_ ?_
          exact next _ _ _ _ ⟨g0, hm, hw', t3, t4, t5, t8, rfl, rfl, l0, l1, l2, l30, rfl, rfl, rfl⟩
        · refine s_implPut hx0.r hl40 hg hn fun g0 m' hm hw => ?_
          obtain ⟨x1, x2, x3, x4⟩ := hw.r.facts
          clear hg
          have hw' := hw
          refine goh_ ?_
          exact next _ _ _ _ ⟨g0, hm, hw', t3, t4, t5, t8, rfl, rfl, l0, l1, l2, l30, rfl, rfl, rfl⟩
      · refine s_toValue ?_
        refine goh_ ?_
        refine s_implPut hx0.r hl40 hg hn fun g0 m' hm hw => ?_
        obtain ⟨x1, x2, x3, x4⟩ := hw.r.facts
        clear hg
        have hw' := hw
        refine goh_ ?_
        exact next _ _ _ _ ⟨g0, hm, hw', t3, t4, t5, t8, rfl, rfl, l0, l1, l2, l30, rfl, rfl, rfl⟩
    · refine s_toValue ?_
      refine goh_ ?_
      refine s_toValue ?_
      refine goh_ ?_
      refine s_implPut hx0.r hl40 hg hn fun g0 m' hm hw => ?_
      obtain ⟨x1, x2, x3, x4⟩ := hw.r.facts
      clear hg
      have hw' := hw
      refine goh_ ?_
      exact next _ _ _ _ ⟨g0, hm, hw', t3, t4, t5, t8, rfl, rfl, l0, l1, l2, l30, rfl, rfl, rfl⟩
  clear t3 t4 t5 t8 l0 l1 l2 l30 hs1
  rintro t l c m3 ⟨g0, hm3, hg0, t3, t4, t5, t8, t9, t10, l0, l1, l2, l30, l34, l42, rfl⟩
  have hpl := putA_len (ps := ps) (tn := tn) (k := ⟨k, n, f, s, r⟩) (v := ⟨k', n', f', s', r'⟩)
  generalize hW : putA ps tn ⟨k, n, f, s, r⟩ ⟨k', n', f', s', r'⟩ = W at hw0 hg0 l30 l42 hpl ⊢
  obtain ⟨ws, wt⟩ := W
  simp only at hw0 hg0 l30 l42 hpl
  have hm13 := hm12.trans hm3
  have hw3 := hw0.r.mono hm13
  obtain ⟨d1, d2, d3, d4⟩ := hg0.r.facts
  refine goh_ ?_
  refine s_eqTable hg0.r hw3 (by clear hg; omega) ?_
  have hgn : Nonempty (∀ p ∈ ps, p.i64) := ⟨hg⟩
  clear hg
  refine goh_ ?_
  refine draw_ [(0, .read), (1, .read), (2, .step [0]), (3, .step []), (4, .pure)] (by kernel_rfl) ?_
  refine goh_ ?_
  have hs3 := hs2.mono hm3
  refine s_toTable hs3 hl40 ?_
  have hx4 : SlO (m3.push ⟨ps.map Pa.av, 11⟩) 11 (.sl (.hp m1.hp.length) 0 ps.length ps.length) (ps.map Pa.av) [m1.hp.length] := hx0.ext fun j hj => by
    have := hx0.lt j hj
    rw [List.getElem?_eq_getElem this]
    exact (hm3.trans (Mem.le.push m3 _)).hp _ _ (List.getElem?_eq_getElem this)
  have hn4 := tabR m3
  have hm34 := Mem.le.push m3 ⟨ps.map Pa.av, 11⟩
  refine goh_ ?_
  refine s_eqTable hx4.r hn4 (by omega) ?_
  have hm24 := hm3.trans hm34
  have hg4 := hg0.le hm34
  generalize (m3.push ⟨ps.map Pa.av, 11⟩) = m4 at hx4 hn4 hm34 hm24 hg4 ⊢
  refine goh_ ?_
  refine s_markTable (k := 1) hx4 (by omega) (by omega) (by omega) fun m5 hch5 _ => ?_
  have hm15 : m1.le m5 := hch5.le (hm12.trans hm24) fun j hj => by
    obtain rfl : j = m1.hp.length := by simpa using hj
    exact Nat.le_refl _
  have hw5 := hw0.r.mono hm15
  have hg5 : GrO m2 m5 11 g0 (ws.map Pa.av) := by
    rcases hg4 with h | ⟨j, B, h1, h2, h3, h4⟩
    · exact .inl h
    · exact .inr ⟨j, B, h1, h2, (hch5.far j (by simp; omega)).trans h3, h4⟩
  have e1 : (((1 + 11 * ps.length : Nat) : Int) < 0) = False := by rw [eq_iff_iff, iff_false]; omega
  refine goh_ ?_
  refine s_eqTable hg5.r hw5 (by clear e1; omega) ?_
  clear e1
  refine goh_ ?_
  obtain ⟨own, ho, hown⟩ := hg5.so
  refine s_markTable (k := 1) ho (by omega) (by omega) (by omega) fun m6 hch6 hg6 => ?_
  have hm16 : m1.le m6 := hch6.le hm15 fun j hj => by have := hown j hj; omega
  refine goh_ ?_
  refine s_heldTable (k := 1) hg6.r (by omega) (by omega) (by omega) ?_
  have e1 : (((1 + 11 * ws.length : Nat) : Int) < 0) = False := by rw [eq_iff_iff, iff_false]; omega
  have hs6 := hs.mono (hm1.trans hm16)
  refine goh_ ?_
  refine draw_cut (fun t l c m' => ∃ h0, m6.le m' ∧ GrO m6 m' 11 h0 (ws.map Pa.av) ∧ t 8 = .ptr (.lc 30) 0 0 ∧ t 10 = .ptr (.lc 42) 0 0 ∧ t 12 = .int .i64 ((1 + 11 * ws.length : Nat) : Int) ∧ t 14 = .ptr (.lc 88) 0 0 ∧ l 30 = some ⟨[[w0, .int .i64 wt]], 2⟩ ∧ l 42 = some ⟨[[g0, .int .i64 wt]], 2⟩ ∧ l 88 = some ⟨[[h0, .int .i64 wt]], 2⟩) ?_ ?_
  rotate_left
  · intro KN next
    refine drawF_ [(0, .read), (2, .read), (4, .read)] [(1, .step [2, 4]), (3, .step [4]), (5, .step []), (6, .step []), (7, .step [0, 2, 4]), (8, .step [])] (.fork 1 [2, 4] (.fork 3 [4] (.fork 5 [] (.fork 6 [] (.step 7 [0, 2, 4] (.step 8 [] .done)) 7 [0, 2, 4] (.step 6 [] (.step 8 [] .done))) 7 [0, 2, 4] (.step 5 [] (.step 6 [] (.step 8 [] .done)))) 7 [0, 2, 4] (.step 3 [4] (.step 5 [] (.step 6 [] (.step 8 [] .done))))) 7 [0, 2, 4] (.step 1 [2, 4] (.step 3 [4] (.step 5 [] (.step 6 [] (.step 8 [] .done)))))) (by kernel_rfl) ?_
    clear e1 hg6 hch6 ho hown hg5 hw5 hch5 hx4 hn4 hg4 hx0 hg0 hw0 hw3 hs2 hs3
    refine goh_ ?_
    refine ⟨?_, ?_⟩
    · refine s_toTable hs6 hl40 ?_
      refine goh_ ?_
      refine ⟨?_, ?_⟩
      · refine s_toValue ?_
        refine goh_ ?_
        refine ⟨?_, ?_⟩
        · refine s_toValue ?_
          refine goh_ ?_
          refine ⟨?_, ?_⟩
          · obtain ⟨hg⟩ := hgn
            refine s_implPut (tabR m6) hl40 hg hn fun h0 m' hm hw => ?_
            rw [hW] at hw ⊢
            obtain ⟨x1, x2, x3, x4⟩ := hw.r.facts
            have hm' := (Mem.le.push m6 _).trans hm
            have hw' := hw.base (Mem.le.push m6 ⟨ps.map Pa.av, 11⟩)
            clear hg hW hw
            refine goh_ ?_
            exact next _ _ _ _ ⟨h0, hm', hw', t8, t10, rfl, rfl, l30, l42, rfl⟩
          · obtain ⟨hg⟩ := hgn
            refine s_implPut (tabR m6) hl40 hg hn fun h0 m' hm hw => ?_
            rw [hW] at hw ⊢
            obtain ⟨x1, x2, x3, x4⟩ := hw.r.facts
            have hm' := (Mem.le.push m6 _).trans hm
            have hw' := hw.base (Mem.le.push m6 ⟨ps.map Pa.av, 11⟩)
            clear hg hW hw
            refine goh_ ?_
            exact next _ _ _ _ ⟨h0, hm', hw', t8, t10, rfl, rfl, l30, l42, rfl⟩
        · refine s_toValue ?_
          refine goh_ ?_
          obtain ⟨hg⟩ := hgn
          refine s_implPut (tabR m6) hl40 hg hn fun h0 m' hm hw => ?_
          rw [hW] at hw ⊢
          obtain ⟨x1, x2, x3, x4⟩ := hw.r.facts
          have hm' := (Mem.le.push m6 _).trans hm
          have hw' := hw.base (Mem.le.push m6 ⟨ps.map Pa.av, 11⟩)
          clear hg hW hw
          refine goh_ ?_
          exact next _ _ _ _ ⟨h0, hm', hw', t8, t10, rfl, rfl, l30, l42, rfl⟩
      · refine s_toValue ?_
        refine goh_ ?_
        refine s_toValue ?_
        refine goh_ ?_
        obtain ⟨hg⟩ := hgn
        refine s_implPut (tabR m6) hl40 hg hn fun h0 m' hm hw => ?_
        rw [hW] at hw ⊢
        obtain ⟨x1, x2, x3, x4⟩ := hw.r.facts
        have hm' := (Mem.le.push m6 _).trans hm
        have hw' := hw.base (Mem.le.push m6 ⟨ps.map Pa.av, 11⟩)
        clear hg hW hw
        refine goh_ ?_
        exact next _ _ _ _ ⟨h0, hm', hw', t8, t10, rfl, rfl, l30, l42, rfl⟩
    · refine s_toTable hs6 hl40 ?_
      refine goh_ ?_
      refine s_toValue ?_
      refine goh_ ?_
      refine s_toValue ?_
      refine goh_ ?_
      obtain ⟨hg⟩ := hgn
      refine s_implPut (tabR m6) hl40 hg hn fun h0 m' hm hw => ?_
      rw [hW] at hw ⊢
      obtain ⟨x1, x2, x3, x4⟩ := hw.r.facts
      have hm' := (Mem.le.push m6 _).trans hm
      have hw' := hw.base (Mem.le.push m6 ⟨ps.map Pa.av, 11⟩)
      clear hg hW hw
      refine goh_ ?_
      exact next _ _ _ _ ⟨h0, hm', hw', t8, t10, rfl, rfl, l30, l42, rfl⟩
  clear t3 t4 t5 t8 t9 t10 l0 l1 l2 l30 l34 l42
  rintro t l c m7 ⟨h0, hm7, hh0, t8, t10, t12, t14, l30, l42, l88⟩
  obtain ⟨y1, y2, y3, y4⟩ := hh0.r.facts
  have hw7 := hw0.r.mono (hm16.trans hm7)
  have hg7 := hg6.r.mono hm7
  have h := h m7 ((hm1.trans hm16).trans hm7)
  clear hgn hW
  clear hg6 hch6 ho hown hg5 hw5 hch5 hx4 hn4 hg4 hx0 hg0 hw0 hw3 hs2 hs3
  refine goh_ ?_
  refine s_eqTable hh0.r hw7 (by clear e1; omega) ?_
  refine goh_ ?_
  refine s_heldTable (k := 1) hg7 (by clear e1; omega) (by clear e1; omega) (by clear e1; omega) ?_
  exact gox_
end Go.Proofs.Ytgfkbcmdegnneaa.IM
