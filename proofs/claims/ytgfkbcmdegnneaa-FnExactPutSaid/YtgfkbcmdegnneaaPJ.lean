/- Tables: the reference's Put. -/
import Derived.Test.YtgfkbcmdegnneaaPI
namespace Go.Proofs.IM
open Go Go.Proofs.Flt
/-- Rows that were answered: none, or a slice behind m0 from its row's start to its end. -/
def GrO (m0 m : Mem) (z : Nat) (s : AV) (rs : List (List AV)) : Prop := (s = .nils ∧ rs = []) ∨ ∃ (j : Nat) (B : Blk), m0.hp.length ≤ j ∧ s = .sl (.hp j) 0 rs.length B.rows.length ∧ m.hp[j]? = some B ∧ B.sz = z ∧ rs.length ≤ B.rows.length ∧ B.rows.take rs.length = rs
theorem GrO.so {m0 m : Mem} {z : Nat} {s : AV} {rs : List (List AV)} (h : GrO m0 m z s rs) : ∃ own, SlO m z s rs own ∧ ∀ j ∈ own, m0.hp.length ≤ j := by
  rcases h with ⟨rfl, rfl⟩ | ⟨j, B, hj, rfl, h1, h2, h3, h4⟩
  · exact ⟨[], .inl ⟨rfl, rfl, rfl⟩, by simp⟩
  · exact ⟨[j], .inr ⟨j, _, _, B, rfl, h1, h2, h3, h4, rfl⟩, by simpa using hj⟩
theorem GrO.r {m0 m : Mem} {z : Nat} {s : AV} {rs : List (List AV)} (h : GrO m0 m z s rs) : SlR m z s rs := let ⟨_, h, _⟩ := h.so; h.r
theorem GrO.base {m0 m1 m : Mem} {z : Nat} {s : AV} {rs : List (List AV)} (hm : m0.le m1) (h : GrO m1 m z s rs) : GrO m0 m z s rs := by
  rcases h with h | ⟨j, B, hj, h⟩
  · exact .inl h
  · exact .inr ⟨j, B, Nat.le_trans hm.len hj, h⟩
theorem Mem.le.set {m0 m : Mem} (h : m0.le m) {j : Nat} (hj : m0.hp.length ≤ j) (B : Blk) : m0.le { m with hp := m.hp.set j B } := ⟨h.ro, h.gl, fun k B' hk => by
  have := (List.getElem?_eq_some_iff.1 hk).1
  show (m.hp.set j B)[k]? = _
  rw [List.getElem?_set, if_neg (by omega)]
  exact h.hp k B' hk⟩
/-- What is appended goes behind, in place or in a new row. -/
theorem aAppend_rows {m0 m : Mem} {z : Nat} {s : AV} {rs : List (List AV)} (hle : m0.le m) (hs : GrO m0 m z s rs) {Te : TI} (hT : Te.size = z) (hb : Te.bytes ≤ 65536) {xs : List (List AV)} (hlen : rs.length + xs.length ≤ 2 ^ 22) {l : Loc} {K : KS}
    (h : ∀ s' m', m0.le m' → GrO m0 m' z s' (rs ++ xs) → K s' l m') : aAppend Te s xs l m K := by
  have hi : i64max = 9223372036854775807 := rfl
  have hmul : ∀ n, n ≤ 2 ^ 22 → n * Te.bytes ≤ 140737488355328 := fun n hn => by
    have := Nat.mul_le_mul hn hb
    omega
  rcases hs with ⟨rfl, rfl⟩ | ⟨j, B, hj, rfl, h1, h2, h3, h4⟩
  · simp only [aAppend]
    split
    · rename_i h0
      have : xs = [] := by simpa using h0
      subst this
      exact h _ _ hle (.inl ⟨rfl, rfl⟩)
    · refine ⟨hmul _ (by simpa using hlen), by simp at hlen; omega, fun c hc1 hc2 => ?_⟩
      refine h _ _ (hle.trans (Mem.le.push m _)) (.inr ⟨m.hp.length, _, hle.len, ?_, push_at, hT, ?_, ?_⟩)
      · have : c = (xs ++ List.replicate (c - xs.length) Te.zero).length := by simp; omega
        rw [List.nil_append, ← this]
      · simp
      · rw [List.nil_append, List.take_left' rfl]
  · have hlt : j < m.hp.length := (List.getElem?_eq_some_iff.1 h1).1
    simp only [aAppend, blk?, h1]
    refine ⟨by rw [h2, hT], by omega, ?_⟩
    split
    · rename_i hc
      split
      · rename_i h0
        have : xs = [] := by simpa using h0
        subst this
        exact h _ _ hle (by rw [List.append_nil]; exact .inr ⟨j, B, hj, rfl, h1, h2, h3, h4⟩)
      · refine ⟨by omega, ?_⟩
        simp only [setBlk]
        have hl : (splice B.rows (0 + rs.length) xs).length = B.rows.length := by simp [splice]; omega
        refine h _ _ (hle.set hj _) (.inr ⟨j, ⟨splice B.rows (0 + rs.length) xs, B.sz⟩, hj, by rw [hl, List.length_append], by simp [hlt], h2, by rw [hl, List.length_append]; omega, ?_⟩)
        simp only [splice, Nat.zero_add, List.length_append]
        rw [h4, List.take_left' (by simp)]
    · rename_i hc
      refine ⟨by omega, hmul _ hlen, by omega, fun c' hc1 hc2 => ?_⟩
      refine h _ _ (hle.trans (Mem.le.push m _)) (.inr ⟨m.hp.length, _, hle.len, ?_, push_at, hT, ?_, ?_⟩)
      · have : c' = ((B.rows.drop 0).take rs.length ++ xs ++ List.replicate (c' - (rs.length + xs.length)) Te.zero).length := by simp; omega
        rw [List.length_append, ← this]
      · simp; omega
      · rw [List.drop_zero, h4, List.take_left' rfl]
theorem aApp_rows {C : Cx} {ty : TypeId} {Te : TI} (he : elm C ty = some Te) {m0 m : Mem} {z : Nat} {s x : AV} {rs xs : List (List AV)} (hle : m0.le m) (hs : GrO m0 m z s rs) (hT : Te.size = z) (hz : 0 < z) (hb : Te.bytes ≤ 65536) {l : Loc} (hx : sliceRows l m x = some xs) (hok : (xs.all fun r => r.length == z && r.all AV.pub1) = true) (hlen : rs.length + xs.length ≤ 2 ^ 22) {K : KS}
    (h : ∀ s' m', m0.le m' → GrO m0 m' z s' (rs ++ xs) → K s' l m') : aApp C ty ty s x l m K := by
  simp only [aApp, he]
  refine ⟨by omega, ?_⟩
  rw [if_pos trivial, hx]
  refine ⟨by rw [hT]; exact hok, aAppend_rows hle hs hT hb hlen h⟩
theorem lc_row {l : Loc} {m : Mem} {d z : Nat} {r : List AV} : sliceRows (upd l d (some ⟨[r], z⟩)) m (.sl (.lc d) 0 1 1) = some [r] := by simp [sliceRows, rows?, blk?, upd]
def putOne (key v : V) (p : Pa) : List Pa := if sameV p.k key then (if v.k == 0 then [] else [⟨p.k, v, p.turn⟩]) else (if p.v.k == 0 then [] else [p])
def putL (key v : V) : List Pa → List Pa
  | [] => []
  | p :: ps => putOne key v p ++ putL key v ps
theorem putL_snoc {key v : V} {p : Pa} : ∀ {ps : List Pa}, putL key v (ps ++ [p]) = putL key v ps ++ putOne key v p
  | [] => by simp [putL]
  | q :: ps => by simp only [List.cons_append, putL, putL_snoc, List.append_assoc]
theorem putL_take {key v : V} {ps : List Pa} {i : Nat} (h : i < ps.length) : putL key v (ps.take (i + 1)) = putL key v (ps.take i) ++ putOne key v ps[i] := by
  rw [List.take_add_one, show ps[i]?.toList = [ps[i]] by simp [h], putL_snoc]
theorem putL_len {key v : V} : ∀ {ps : List Pa}, (putL key v ps).length ≤ ps.length
  | [] => by simp [putL]
  | p :: ps => by
    have := putL_len (key := key) (v := v) (ps := ps)
    have : (putOne key v p).length ≤ 1 := by unfold putOne; split <;> split <;> simp
    simp only [putL, List.length_append, List.length_cons]; omega
/-- The reference's Put of a valid table: the pairs, and how many keys have come. -/
def putS (ps : List Pa) (tn : Int) (key v : V) : List Pa × Int :=
  if !(ps.any fun p => sameV p.k key) && !(v.k == 0) && decide (ps.length < 500) && decide (tn < 1000000000000) then (putL key v ps ++ [⟨key, v, tn + 1⟩], tn + 1) else (putL key v ps, tn)
end Go.Proofs.IM
namespace Go.Proofs.Ytgfkbcmdegnneaa.IM
open Go Go.Proofs.IM Go.Proofs.Flt
set_option maxHeartbeats 8000000
set_option maxRecDepth 100000
theorem s_l2put {sl : AV} {ps : List Pa} {tn k n r k' n' r' : Int} {f f' : Nat} {s s' : ByteArray} {m : Mem} {K : AR → Mem → Prop} (hs : SlR m 11 sl (ps.map Pa.av)) (hl : ps.length ≤ 500) (hg : ∀ p ∈ ps, p.i64) (hn : i64r n) (htn : i64r tn)
    (h : ∀ q m', m.le m' → GrO m m' 11 q ((putS ps tn ⟨k, n, f, s, r⟩ ⟨k', n', f', s', r'⟩).1.map Pa.av) → K (.ret (.agg [q, .int .i64 (putS ps tn ⟨k, n, f, s, r⟩ ⟨k', n', f', s', r'⟩).2])) m') :
    Sim Try.prog 17 [.agg [sl, .int .i64 tn], .agg [.int .i64 k, .int .i64 n, .flt f, .str s, .int .i64 r], .agg [.int .i64 k', .int .i64 n', .flt f', .str s', .int .i64 r']] m K := by
  refine entry (cxok [34, 67]) Try.func17 rfl rfl (by decide) (by decide) ?_
  obtain ⟨a1, a2, a3, a4⟩ := hs.facts
  have hlen := hs.len'
  rw [List.length_map] at hlen
  refine goh_ ?_
  clear a1 a2 a3 a4
  refine loop_ (fun kk t l c m' => m.le m' ∧ ∃ (i : Nat) (q : AV), t 3 = .ptr (.lc 0) 0 0 ∧ t 4 = .ptr (.lc 1) 0 0 ∧ t 5 = .ptr (.lc 2) 0 0 ∧ t 6 = .ptr (.lc 3) 0 0 ∧ t 7 = .ptr (.lc 7) 0 0 ∧ l 0 = some ⟨[[sl, .int .i64 tn]], 2⟩ ∧ l 1 = some ⟨[[.int .i64 k, .int .i64 n, .flt f, .str s, .int .i64 r]], 5⟩ ∧ l 2 = some ⟨[[.int .i64 k', .int .i64 n', .flt f', .str s', .int .i64 r']], 5⟩ ∧ l 3 = some ⟨[[.nils, .int .i64 0]], 2⟩ ∧ l 7 = some ⟨[[q, .int .i64 tn]], 2⟩ ∧ 8 ≤ c ∧ t 8 = .bool ((ps.take i).any fun p => sameV p.k ⟨k, n, f, s, r⟩) ∧ t 15 = sl ∧ t 16 = .int .i64 ps.length ∧ t 17 = .int .i64 i ∧ i ≤ ps.length ∧ kk = ps.length - i ∧ GrO m m' 11 q ((putL ⟨k, n, f, s, r⟩ ⟨k', n', f', s', r'⟩ (ps.take i)).map Pa.av)) ps.length ?_ ?_
  · exact ⟨Mem.le.refl _, 0, .nils, rfl, rfl, rfl, rfl, rfl, rfl, rfl, rfl, rfl, rfl, by omega, rfl, rfl, rfl, rfl, by omega, by omega, .inl ⟨rfl, rfl⟩⟩
  intro kk t l c m1 KN ⟨hm1, i, q, g3, g4, g5, g6, g7, l0, l1, l2, l3, l7, hc8, g8, g15, g16, g17, hi, hkk, hq⟩ next
  have hs := hs.mono hm1
  have hlen := hs.len'
  rw [List.length_map] at hlen
  obtain ⟨w0, w0'⟩ := far_of (a := 0) (c := c) (by omega)
  obtain ⟨w1, w1'⟩ := far_of (a := 1) (c := c) (by omega)
  obtain ⟨w2, w2'⟩ := far_of (a := 2) (c := c) (by omega)
  obtain ⟨w3, w3'⟩ := far_of (a := 3) (c := c) (by omega)
  obtain ⟨w7, w7'⟩ := far_of (a := 7) (c := c) (by omega)
  obtain ⟨b1, b2, b3, b4⟩ := hq.r.facts
  have z0 : ((0 : Nat) == 7) = false := rfl
  have z1 : ((1 : Nat) == 7) = false := rfl
  have z2 : ((2 : Nat) == 7) = false := rfl
  have z3 : ((3 : Nat) == 7) = false := rfl
  rcases Nat.lt_or_ge i ps.length with hj | hj
  · have e8 : ((i : Int) < ps.length) = True := by rw [eq_iff_iff, iff_true]; omega
    obtain ⟨a, i0, cap, B, rfl, hb, hz, hr⟩ := hs.some_ (j := i) (by simpa using hj)
    have hr := fun l => hr l i (by simpa using hj)
    simp only [List.getElem_map] at hr
    have hav : ps[i].av = [.int .i64 ps[i].k.k, .int .i64 ps[i].k.n, .flt ps[i].k.f, .str ps[i].k.s, .int .i64 ps[i].k.r, .int .i64 ps[i].v.k, .int .i64 ps[i].v.n, .flt ps[i].v.f, .str ps[i].v.s, .int .i64 ps[i].v.r, .int .i64 ps[i].turn] := rfl
    have hw := w64_succ hj (show ps.length < 2 ^ 63 by omega)
    have hany : (ps.take (i + 1)).any (fun p => sameV p.k ⟨k, n, f, s, r⟩) = ((ps.take i).any (fun p => sameV p.k ⟨k, n, f, s, r⟩) || sameV ps[i].k ⟨k, n, f, s, r⟩) := by
      rw [List.take_add_one, show ps[i]?.toList = [ps[i]] by simp [hj], List.any_append, List.any_cons, List.any_nil, Bool.or_false]
    have hput := putL_take (key := ⟨k, n, f, s, r⟩) (v := ⟨k', n', f', s', r'⟩) hj
    have hbl := putL_len (key := ⟨k, n, f, s, r⟩) (v := ⟨k', n', f', s', r'⟩) (ps := ps.take i)
    rw [List.length_take] at hbl
    refine goh_ ?_
    refine s_specSame (hg _ (List.getElem_mem hj)).1 hn ?_
    cases hsm : sameV ps[i].k ⟨k, n, f, s, r⟩ with
    | true =>
      rw [hsm, Bool.or_true] at hany
      unfold putOne at hput
      rw [hsm, if_pos rfl] at hput
      replace hsm : sameV ⟨ps[i].k.k, ps[i].k.n, ps[i].k.f, ps[i].k.s, ps[i].k.r⟩ ⟨k, n, f, s, r⟩ = true := hsm
      refine goh_ ?_
      refine ⟨fun hd => ?_, fun hd => ?_⟩
      · have hd' : (k' == 0) = false := by simpa using hd
        rw [if_neg (by rw [hd']; decide)] at hput
        refine aApp_rows rfl hm1 hq rfl (by decide) (by decide) lc_row rfl (by simp; omega) fun q2 m2 hm2 hq2 => ?_
        obtain ⟨y1, y2, y3, y4⟩ := hq2.r.facts
        have hq3 : GrO m m2 11 q2 ((putL ⟨k, n, f, s, r⟩ ⟨k', n', f', s', r'⟩ (ps.take (i + 1))).map Pa.av) := by rw [hput, List.map_append]; exact hq2
        clear hput hq hq2 hr hav hb hz hs hd hd' hg
        refine goh_ ?_
        exact next _ _ _ _ _ (by clear e8; omega) ⟨hm2, i + 1, q2, g3, g4, g5, g6, g7, by simp only [upd_far, w0', z0, l0], by simp only [upd_far, w1', z1, l1], by simp only [upd_far, w2', z2, l2], by simp only [upd_far, w3', z3, l3], by simp [upd], by omega, by rw [hany]; rfl, g15, g16, rfl, by omega, rfl, hq3⟩
      · have hd' : (k' == 0) = true := by simpa using hd
        rw [if_pos hd', List.append_nil] at hput
        exact next _ _ _ _ _ (by clear e8; omega) ⟨hm1, i + 1, q, g3, g4, g5, g6, g7, by simp only [upd_far, w0', z0, l0], by simp only [upd_far, w1', z1, l1], by simp only [upd_far, w2', z2, l2], by simp only [upd_far, w3', z3, l3], by simp only [upd_far, w7', l7], by omega, by rw [hany]; rfl, g15, g16, rfl, by omega, rfl, by rw [hput]; exact hq⟩
    | false =>
      rw [hsm, Bool.or_false] at hany
      unfold putOne at hput
      rw [hsm, if_neg (by decide)] at hput
      replace hsm : sameV ⟨ps[i].k.k, ps[i].k.n, ps[i].k.f, ps[i].k.s, ps[i].k.r⟩ ⟨k, n, f, s, r⟩ = false := hsm
      refine goh_ ?_
      refine ⟨fun hd => ?_, fun hd => ?_⟩
      · have hd' : (ps[i].v.k == 0) = false := by simpa using hd
        rw [if_neg (by rw [hd']; decide)] at hput
        refine aApp_rows rfl hm1 hq rfl (by decide) (by decide) lc_row rfl (by simp; omega) fun q2 m2 hm2 hq2 => ?_
        obtain ⟨y1, y2, y3, y4⟩ := hq2.r.facts
        have hq3 : GrO m m2 11 q2 ((putL ⟨k, n, f, s, r⟩ ⟨k', n', f', s', r'⟩ (ps.take (i + 1))).map Pa.av) := by rw [hput, List.map_append]; exact hq2
        clear hput hq hq2 hr hav hb hz hs hd hd' hg
        refine goh_ ?_
        exact next _ _ _ _ _ (by clear e8; omega) ⟨hm2, i + 1, q2, g3, g4, g5, g6, g7, by simp only [upd_far, w0', z0, l0], by simp only [upd_far, w1', z1, l1], by simp only [upd_far, w2', z2, l2], by simp only [upd_far, w3', z3, l3], by simp [upd], by omega, by rw [hany]; exact g8, g15, g16, rfl, by omega, rfl, hq3⟩
      · have hd' : (ps[i].v.k == 0) = true := by simpa using hd
        rw [if_pos hd', List.append_nil] at hput
        exact next _ _ _ _ _ (by clear e8; omega) ⟨hm1, i + 1, q, g3, g4, g5, g6, g7, by simp only [upd_far, w0', z0, l0], by simp only [upd_far, w1', z1, l1], by simp only [upd_far, w2', z2, l2], by simp only [upd_far, w3', z3, l3], by simp only [upd_far, w7', l7], by omega, by rw [hany]; exact g8, g15, g16, rfl, by omega, rfl, by rw [hput]; exact hq⟩
  · have hj : i = ps.length := by omega
    subst hj
    have e8 : ((ps.length : Int) < ps.length) = False := by rw [eq_iff_iff, iff_false]; omega
    rw [List.take_length] at g8 hq
    have hbl := putL_len (key := ⟨k, n, f, s, r⟩) (v := ⟨k', n', f', s', r'⟩) (ps := ps)
    have keep : putS ps tn ⟨k, n, f, s, r⟩ ⟨k', n', f', s', r'⟩ = (putL ⟨k, n, f, s, r⟩ ⟨k', n', f', s', r'⟩ ps, tn) → K (.ret (.agg [q, .int .i64 tn])) m1 := fun e => by
      have h := h q m1 hm1 (by rw [e]; exact hq)
      rw [e] at h; exact h
    unfold putS at keep h
    cases ha : ps.any (fun p => sameV p.k ⟨k, n, f, s, r⟩) with
    | true =>
      have h := keep (by rw [ha]; rfl)
      rw [ha] at g8
      clear keep hg ha
      exact gox_
    | false =>
    rw [ha] at g8 keep h
    cases hk : (k' == 0) with
    | true =>
      have h := keep (by simp [hk])
      have hk' : (k' != 0) = false := by rw [bne, hk]; rfl
      clear keep hg ha hk
      exact gox_
    | false =>
    have hk' : (k' != 0) = true := by rw [bne, hk]; rfl
    simp only [hk, Bool.not_false, Bool.true_and] at keep h
    by_cases c1 : ps.length < 500
    rotate_left
    · have h := keep (by rw [decide_eq_false c1]; rfl)
      have c1' : ((ps.length : Int) < 500) = False := by rw [eq_iff_iff, iff_false]; omega
      clear keep hg ha hk c1
      exact gox_
    rw [decide_eq_true c1, Bool.true_and] at keep h
    have c1' : ((ps.length : Int) < 500) = True := by rw [eq_iff_iff, iff_true]; omega
    by_cases c2 : tn < 1000000000000
    rotate_left
    · have h := keep (by rw [decide_eq_false c2]; rfl)
      have c2' : (tn < 1000000000000) = False := by rw [eq_iff_iff, iff_false]; omega
      clear keep hg ha hk c1 c2
      exact gox_
    rw [decide_eq_true c2, if_pos rfl] at h
    have hw : w64 (tn + 1) = tn + 1 := w64_id (by have := htn.1; omega)
    clear keep hg ha hk c1
    refine goh_ ?_
    refine aApp_rows rfl hm1 hq rfl (by decide) (by decide) lc_row rfl (by simp; omega) fun q2 m2 hm2 hq2 => ?_
    obtain ⟨y1, y2, y3, y4⟩ := hq2.r.facts
    have h := h q2 m2 hm2 (by rw [List.map_append]; exact hq2)
    clear hq hq2 hs
    exact gox_
end Go.Proofs.Ytgfkbcmdegnneaa.IM
