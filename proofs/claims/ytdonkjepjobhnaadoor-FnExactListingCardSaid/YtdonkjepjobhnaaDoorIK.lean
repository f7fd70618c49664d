/- append, and calls; all operations at once. -/
import Derived.Test.YtdonkjepjobhnaaDoorIJ
namespace Go.Proofs.IM
open Go Go.RowKit
set_option linter.unusedVariables false
set_option linter.unusedSimpArgs false
set_option linter.unnecessarySimpa false
section
variable {P : Program}
theorem run_app_room (w : World) (t u ty e : TypeId) (i : TypeInfo) (du : TypeDesc) (ht : P.underlying t = some (.slice e)) (hu : P.underlying u = some du) (hd : (∃ e', du = .slice e') ∨ du = .string) (hi : P.info? e = some i) (base : Option Addr) (sLen sCap : Nat) (x : Value) (n : Nat) (news : List Value)
    (hl : ∀ w, (Builtin.lenOf x).run P w = .ok n w) (hf : (Builtin.firstCells i.size n x).run P w = .ok news.toArray w) (hroom : sLen + n ≤ sCap) {w' : World}
    (hst : ∀ b, base = some b → (storeCells (b.add (sLen * i.size)) news).run P w = .ok () w') (hnone : base = none → w' = w) :
    (Builtin.append_ #[t, u] ty #[.slice base sLen sCap, x]).run P w = .ok (.slice base (sLen + n) sCap) w' := by
  rcases hd with ⟨e', rfl⟩ | rfl
  · cases base with
    | none =>
      have := hnone rfl
      subst this
      simp [Builtin.append_, run_underlying ht, run_underlying hu, sizeOf, typeInfo, hi, hl, hroom, hf]
    | some b =>
      have hs := hst b rfl
      simp [Builtin.append_, run_underlying ht, run_underlying hu, sizeOf, typeInfo, hi, hl, hroom, hf, hs]
  · cases base with
    | none =>
      have := hnone rfl
      subst this
      simp [Builtin.append_, run_underlying ht, run_underlying hu, sizeOf, typeInfo, hi, hl, hroom, hf]
    | some b =>
      have hs := hst b rfl
      simp [Builtin.append_, run_underlying ht, run_underlying hu, sizeOf, typeInfo, hi, hl, hroom, hf, hs]
theorem run_app_grow (w : World) (t u ty e : TypeId) (i : TypeInfo) (z : Value) (du : TypeDesc) (ht : P.underlying t = some (.slice e)) (hu : P.underlying u = some du) (hd : (∃ e', du = .slice e') ∨ du = .string) (hi : P.info? e = some i) (hz : i.zero = some z) (s : Value) (base : Option Addr) (sLen sCap : Nat) (hs : s = .slice base sLen sCap) (x : Value) (n : Nat) (olds news : Array Value)
    (hl : ∀ w, (Builtin.lenOf x).run P w = .ok n w) (hfo : (Builtin.firstCells i.size sLen s).run P w.drew = .ok olds w.drew) (hf : (Builtin.firstCells i.size n x).run P w.drew = .ok news w.drew) (hg : sCap < sLen + n) (h63 : ((sLen + n : Nat) : Int) ≤ 9223372036854775807)
    (hfit : Builtin.nextslicecap (sLen + n) sCap * i.bytes ≤ 281474976710656) :
    (Builtin.append_ #[t, u] ty #[s, x]).run P w =
      .ok (.slice (some ⟨w.heap.size, 0, none⟩) (sLen + n) (grownCap w (sLen + n) sCap e))
        (w.drew.alloc (.cells (olds ++ news ++ Builtin.zeroCells z.cells (grownCap w (sLen + n) sCap e - (sLen + n))) e)) := by
  subst hs
  have hn : ¬ (sLen + n ≤ sCap) := by omega
  have h63' : ¬ (9223372036854775807 < ((sLen : Int) + (n : Int))) := by omega
  have h48' : ¬ (281474976710656 < Builtin.nextslicecap (sLen + n) sCap * i.bytes) := by omega
  rcases hd with ⟨e', rfl⟩ | rfl
  · simp [Builtin.append_, run_underlying ht, run_underlying hu, sizeOf, typeInfo, zeroValue, hi, hz, hl, hn, h63', h48', Question.forced, hf, hfo, newRow, grownCap]
  · simp [Builtin.append_, run_underlying ht, run_underlying hu, sizeOf, typeInfo, zeroValue, hi, hz, hl, hn, h63', h48', Question.forced, hf, hfo, newRow, grownCap]
end
section
variable {P : Program} {C : Cx} {Ei E : Env} {wi w w' : World} {L : Pl} {l : Loc} {m : Mem} {o : Oper} {a : Act} {next : Act → World → Prop} {Q : Exit → Act → World → Prop} {id : Nat} {K : KS}
/-- What is appended: its cells, in this world and behind a draw. -/
structure Src (P : Program) (E : Env) (sz : Nat) (w : World) (x : Value) (xs : List (List AV)) (news : List Value) : Prop where
  len : ∀ w, (Builtin.lenOf x).run P w = .ok xs.length w
  here : (Builtin.firstCells sz xs.length x).run P w = .ok news.toArray w
  there : (Builtin.firstCells sz xs.length x).run P w.drew = .ok news.toArray w.drew
  cr : CR E xs sz (news.toArray[·]?)
  cl : news.length = xs.length * sz
  one : ∀ v ∈ news, v.oneCell' = true
theorem CR.toArr {rows : List (List AV)} {sz : Nat} {xs : List Value} (h : CR E rows sz (xs[·]?)) : CR E rows sz (xs.toArray[·]?) := by simpa using h
theorem aAppend_ok (hR : Rel Ei wi E L l m w) {t u e : TypeId} {Te : TI} {du : TypeDesc} (ht : P.underlying t = some (.slice e)) (hTe : TOk P e Te) (hu : P.underlying u = some du) (hd : (∃ e', du = .slice e') ∨ du = .string) (h0 : 0 < Te.size) {x : Value} {xs : List (List AV)} {news : List Value} (hx : Src P E Te.size w x xs news)
    {s : AV} {sv : Value} (hs : VR E L s sv) (hrun : ∀ {r w'}, (Builtin.append_ #[t, u] o.type #[sv, x]).run P w = .ok r w' → (execOp a.eval o).run P w = .ok (.value r) w') (hK : aAppend Te s xs l m K) (hG : Good Ei wi E L id a o.dst K next) : o.wp P a w next Q := by
  obtain ⟨i, z, h1, h2, h3, h4, h5⟩ := hTe.inf
  have hz := hTe.zeros (E := E) (L := noPl) h5
  have hzs : z.cells.size = Te.size := by rw [← hz.1, hTe.len]
  have hgrow : ∀ (olds : List (List AV)) (oc : List Value) (base : Option Addr) (n cap : Nat), sv = .slice base n cap → olds.length = n → CR E olds Te.size (oc.toArray[·]?) → oc.length = n * Te.size → (Builtin.firstCells Te.size n sv).run P w.drew = .ok oc.toArray w.drew →
      cap < n + xs.length → (n + xs.length) * Te.bytes ≤ 140737488355328 → ((n + xs.length : Nat) : Int) ≤ i64max →
      (∀ c, n + xs.length ≤ c → (c : Int) ≤ i64max → K (.sl (.hp m.hp.length) 0 (n + xs.length) c) l (m.push ⟨olds ++ xs ++ List.replicate (c - (n + xs.length)) Te.zero, Te.size⟩)) → o.wp P a w next Q := by
    intro olds oc base n cap hsv hol hoc hocl hfo hg hb h63 hK
    have h63' : ((n + xs.length : Nat) : Int) ≤ 9223372036854775807 := h63
    have hr := run_app_grow w t u o.type e i z du ht hu hd h1 h4 sv base n cap hsv x xs.length oc.toArray news.toArray hx.len (by rw [h2]; exact hfo) (by rw [h2]; exact hx.there) hg h63' (by rw [h3]; exact growslice_fits hg hb)
    have hge := grownCap_ge w (n + xs.length) cap e
    have hle := grownCap_le_maxLen w (n + xs.length) cap e (by simp only [maxLen]; omega)
    generalize grownCap w (n + xs.length) cap e = c at hr hge hle
    have hB : CR E (olds ++ xs ++ List.replicate (c - (n + xs.length)) Te.zero) Te.size ((oc.toArray ++ news.toArray ++ Builtin.zeroCells z.cells (c - (n + xs.length)))[·]?) := by
      refine CR.append (CR.append hoc hx.cr (by simp [hocl, hol])) ?_ (by simp [hocl, hx.cl, hol, Nat.add_mul])
      rw [← hTe.len]
      exact CR.zeros hz hTe.pub (by omega) _
    have hR' : Rel Ei wi E L l m w.drew := hR.same ⟨rfl, rfl, rfl, rfl⟩
    refine wp_of_run (hrun hr) (newHp_ok (w := w.drew) (o := o) (a := a) (B := ⟨olds ++ xs ++ List.replicate (c - (n + xs.length)) Te.zero, Te.size⟩) (x := .slice (some ⟨w.heap.size, 0, none⟩) (n + xs.length) c) hR' e hB (fun {E'} {p} hp hp0 hpb => ?_) hG (hK c hge ?_))
    · have := VR.sl (E := E') (L := L) (.hp m.hp.length) 0 (n + xs.length) c p hp
      have hb2 : p.1 = w.heap.size := hpb
      simpa [adr, hp0, hb2] using this
    · simp only [maxLen] at hle; show (c : Int) ≤ 9223372036854775807; omega
  unfold aAppend at hK
  split at hK
  · cases hs
    split at hK
    · rename_i hn
      refine hG.here hR .nils (hrun ?_) hK
      have := run_app_room w t u o.type e i du ht hu hd h1 none 0 0 x xs.length news hx.len (by rw [h2]; exact hx.here) (by omega) (w' := w) (by simp) (fun _ => rfl)
      simpa [hn] using this
    · rename_i hn
      obtain ⟨g1, g2, g3⟩ := hK
      exact hgrow [] [] none 0 0 rfl rfl (fun i row h => by simp at h) (by simp) (by simp [Builtin.firstCells]) (by omega) (by simpa using g1) (by simpa using g2) (fun c hc hc2 => by simpa using g3 c (by omega) hc2)
  · rename_i aa i0 n cap
    cases hs with
    | sl _ _ _ _ p hp =>
      split at hK
      · rename_i B hB
        obtain ⟨hz', hin, hK⟩ := hK
        split at hK
        · rename_i hroom
          split at hK
          · rename_i hn
            refine hG.here hR (.sl aa i0 n cap p hp) (hrun ?_) hK
            have := run_app_room w t u o.type e i du ht hu hd h1 (some (adr p i0 0)) n cap x xs.length news hx.len (by rw [h2]; exact hx.here) (by omega) (w' := w) (fun b hb => by
              have : news = [] := by
                have := hx.cl
                rw [hn] at this
                simpa using this
              subst this
              simp [storeCells]) (fun h => by cases h)
            simpa [hn] using this
          · rename_i hn
            obtain ⟨hin2, hK⟩ := hK
            split at hK
            · rename_i l' m' hsb
              obtain ⟨b, cs, ct, w1, w2, w3, w4⟩ := hR.write hB hsb rfl (by intro e; have e2 := congrArg List.length e; simp only [List.length_nil] at e2; omega)
              rw [hp] at w1
              cases w1
              have hcs : (i0 + n) * B.sz + news.length ≤ cs.size := by
                have := w3.size (by omega) hin2
                rw [hx.cl, ← hz', ← Nat.add_mul]
                exact this
              have hnew := CR.spliceRows (i := i0 + n) w3 (by rw [hz']; exact hx.cr) (by rw [hz']; exact hx.cl) hin2 hcs
              have hst := run_storeCells_at P b ((i0 + n) * B.sz) ct news 0 cs w w2 (by simpa using hcs) hx.one
              simp only [Nat.add_zero] at hst
              refine wp_of_run (hrun ?_) (hG E L _ _ l' m' _ (w4 _ hnew) (Env.le.refl E) (Pl.le.refl L) (fun _ _ => rfl) (.sl aa i0 (n + xs.length) cap _ hp) hK)
              refine run_app_room w t u o.type e i du ht hu hd h1 (some (adr (b, 0, B.sz) i0 0)) n cap x xs.length news hx.len (by rw [h2]; exact hx.here) hroom (fun b' hb' => ?_) (fun h => by cases h)
              cases hb'
              rw [adr_add, h2, ← hz']
              simp only [adr, Nat.zero_add, ← Nat.add_mul]
              exact hst
            · exact hK.elim
        · rename_i hroom
          obtain ⟨g0, g1, g2, g3⟩ := hK
          obtain ⟨p', p1, p2, p3⟩ := hR.blk hB
          rw [hp] at p1
          cases p1
          obtain ⟨oc, o1, o2, o3⟩ := p3.rows_ i0 n hin
          refine hgrow ((B.rows.drop i0).take n) oc _ n cap rfl (by simp; omega) (by rw [← hz']; exact o3.toArr) (by rw [o1, hz']) ?_ (by omega) g1 g2 g3
          have hl := run_firstCells_some (P := P) w.drew Te.size n (adr p i0 0) n cap oc (by rw [o1, hz']) (fun j v hj => by
            rw [adr_add]
            have := o2 j v hj
            simpa [adr, p2, Nat.add_assoc] using this)
          exact hl
      · exact hK.elim
  · exact hK.elim
end
end Go.Proofs.IM
