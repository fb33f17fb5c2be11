/- EntryStreams: the walk. -/
import Derived.Test.YtmdnokfmlbjbhaaEsC
import Derived.Test.YtmdnokfmlbjbhaaRgG
namespace Go.Proofs.Ytmdnokfmlbjbhaa
open Go.RowKit Go.Shelf Go.Maps Go.Proofs.YtmdnokfmlbjbhaaW.PrintWords
set_option linter.unusedVariables false
set_option linter.unusedSimpArgs false
attribute [local go_sem] Oper.semAt_some

theorem info89 : (Try.prog.info? 89).map (fun i => (i.zero, i.size, i.bytes)) = some (some (.agg #[.int .i64 0, .int .i64 0, .int .i64 0, .int .i64 0, .int .i64 0, .int .i64 0, .slice none 0 0]), 7, 72) := by kernel_rfl
/-- the cells of a new block, as they are appended -/
theorem news7 {W : World} {x : Ev0} : ∀ j u, (ev0Cells x).toList[j]? = some u → (W.alloc (.cells (ev0Cells x) 89)).cell? ((⟨W.heap.size, 0, none⟩ : Addr).add j) = some u := by
  intro j u hj
  have hj7 : j < 7 := by
    rcases Nat.lt_or_ge j 7 with h | h
    · exact h
    · rw [List.getElem?_eq_none (by simpa [ev0Cells] using h)] at hj; cases hj
  have hadd : (⟨W.heap.size, 0, none⟩ : Addr).add j = ⟨W.heap.size, j, none⟩ := by unfold Addr.add; split <;> simp_all
  rw [hadd, blk_cell (heap_alloc_new W (.cells (ev0Cells x) 89)) j]
  simpa using hj
theorem oi_one (w : World) (base : Nat) (x : Int) (hb : base ≤ w.heap.size) : OI (w.alloc (.cells #[.int .i64 x] 3)) base (.slice (some ⟨w.heap.size, 0, none⟩) 1 1) [x] :=
  ⟨by simp [nums], .inr ⟨w.heap.size, 1, #[.int .i64 x], rfl, hb, heap_alloc_new w _, by simp, by simp [maxLen], by simp, by simp [nums]⟩⟩
theorem oi_reads {w : World} {base n c : Nat} {A : Option Addr} {xs : List Int} (h : OI w base (.slice A n c) xs) : RI w A xs := by
  obtain ⟨A', c', e, r, _⟩ := OI.slice h
  injection e with e1 e2 e3
  subst e1
  exact r
/-- a walk's step: new blocks, and a walk's object from B on -/
def AbW (B : Nat) (X Y : World) : Prop := ∃ row, X.grownBy Y row ∧ ∀ r, row = some r → B ≤ r ∧ ∃ o : Obj, X.heap[r]? = some o ∧ o.isWalk = true
theorem AbW.keep {B : Nat} {X Y : World} (h : AbW B X Y) : KeepRec X Y := by
  obtain ⟨row, hg, hr⟩ := h
  intro k o hk hc hw
  refine (hg.block k (Array.getElem?_eq_some_iff.1 hk).1 (fun e => ?_)).trans hk
  obtain ⟨_, o', h1, h2⟩ := hr k e.symm
  rw [hk] at h1; injection h1 with h1; subst h1; rw [hw] at h2; cases h2
/-- the count's box, all else as it was -/
def KI (w6 : World) (kb : Nat) (n : Nat) (W : World) : Prop := (W.cell? ⟨kb, 0, none⟩ = some (.int .i64 n) ∧ W.frozen? ⟨kb, 0, none⟩ = false) ∧ Upd (fun k => k = kb) w6 W
theorem KI.grown {w6 W W' : World} {kb n : Nat} {row : Option Nat} (h : KI w6 kb n W) (hg : W.grownBy W' row) (hr : ∀ r, row = some r → w6.heap.size ≤ r ∧ ∃ o : Obj, W.heap[r]? = some o ∧ o.isCells = false) : KI w6 kb n W' :=
  ⟨⟨cell_kept h.1.1 hg (fun r e => (hr r e).2), (frozen_kept h.1.1 hg (fun r e => (hr r e).2)).trans h.1.2⟩, h.2.grown hg (fun k e => .inr (hr k e).1)⟩
theorem KI.put {w6 W : World} {kb n : Nat} (h : KI w6 kb n W) (l : Nat) (o o' : Obj) (hl : w6.heap.size ≤ l) (hh : W.heap[l]? = some o) (ho : o.isCells = false) : KI w6 kb n (W.putObj l o') :=
  h.grown (grownBy_putObj' W l o') (fun r e => by cases e; exact ⟨hl, o, hh, ho⟩)
theorem KI.alloc {w6 W : World} {kb n : Nat} (h : KI w6 kb n W) (o : Obj) : KI w6 kb n (W.alloc o) := h.grown (World.grownBy_alloc W o none) (fun r e => by cases e)
theorem want_at {wr w6 U : World} {b : Nat} {v : Value} {L : List Int} (h : OI wr b v L) (hB : Below wr.heap.size wr w6) (hU : Upd (fun k => k = wr.heap.size) w6 U) : OI U b v L :=
  own_move h (fun k hk => by
    obtain ⟨cells, hc⟩ := own_typed h k hk
    have hlt := blk_lt hc
    have h6 := (hB.block _ hlt).trans hc
    exact (hU.at_ h6 (by omega)).trans hc.symm)
theorem want_size (ss : List Int) (q : Int) (n : Nat) : (wantOf ss q n).length = (entsOf ss q n).length := by unfold wantOf; simp

theorem masks_at (xs : List Int) (k : Nat) (h : k < xs.length) : (xs.map fun x => bits BinOp.and .i64 x 7).getD k 0 = bits BinOp.and .i64 (xs.getD k 0) 7 := by
  simp [List.getD_eq_getElem?_getD, h]

set_option maxHeartbeats 4000000 in
set_option maxRecDepth 100000 in
theorem streams_walk (xs : List Int) (A : Option Addr) (c : Nat) (which : Int) (w : World) (h : RI w A xs) (hc : xs.length ≤ c) :
    Calls Try.prog 13 #[.slice A xs.length c, .int .i64 which] w fun e w' => e = .returned (.bool true) ∧ Below w.heap.size w w' := by
  have RX := Aside0.mk h
  have CX := Aside0.mk hc
  obtain ⟨w0, hw0⟩ : ∃ w0, Aside0 (w0 = (w.alloc (.cells #[.int .i64 which] 3)).alloc (.cells #[.bool false] 4)) := ⟨_, ⟨rfl⟩⟩
  have hW0 : w0.heap[w.heap.size]? = some (.cells #[.int .i64 which] 3 (0, 0)) := by
    rw [hw0.out]; exact (Below.heap_alloc _ _ _ (by simp only [World.size_alloc]; omega)).trans (heap_alloc_new w _)
  have hR0 : w0.heap[w.heap.size + 1]? = some (.cells #[.bool false] 4 (0, 0)) := by
    have q := heap_alloc_new (w.alloc (.cells #[.int .i64 which] 3)) (.cells #[.bool false] 4)
    rw [World.size_alloc] at q
    rw [hw0.out]; exact q
  have b0 : Below w.heap.size w w0 := by rw [hw0.out]; exact ((Below.refl _ w).alloc (Nat.le_refl _) _).alloc (by simp only [World.size_alloc]; omega) _
  have HB0 := Aside0.mk b0
  have HW0 := Aside0.mk hW0
  have HR0 := Aside0.mk hR0
  have hs0 : w0.heap.size = w.heap.size + 2 := by rw [hw0.out]; simp only [World.size_alloc]
  have HS0 := Aside0.mk hs0
  clear h hc b0 hW0 hR0 hs0
  refine (callsIn_wide (n := 5)).1 ?_
  refine callsIn_of_wp_marks Try.func13 rfl trivial ?_ rfl
  simp only [Try.ntmps13, List.size_toArray, List.length_cons, List.length_nil, Nat.reduceAdd, Nat.reduceSub, Array.replicate_succ, Array.replicate_zero, List.push_toArray, List.append_toArray, List.nil_append, List.cons_append]
  gi_wp2_with (fail)
  refine ⟨trivial, ?_⟩
  rw [← hw0.out]
  refine (callsIn_wide.2 (speaks07_calls w0)).mono ?_
  rintro e w1 ⟨rfl, b1⟩
  have HW1 := Aside0.mk ((b1.block _ (blk_lt HW0.out)).trans HW0.out)
  have HR1 := Aside0.mk ((b1.block _ (blk_lt HR0.out)).trans HR0.out)
  have B1 : Aside0 (Below w.heap.size w w1) := ⟨HB0.out.trans (b1.mono HB0.out.size)⟩
  have hs1 : Aside0 (w.heap.size + 2 ≤ w1.heap.size) := ⟨by have := b1.size; have := HS0.out; omega⟩
  have c3 : w1.cell? ⟨w.heap.size, 0, none⟩ = some (.int .i64 which) := blk_cell HW1.out 0
  have c4 : w1.cell? ⟨w.heap.size + 1, 0, none⟩ = some (.bool false) := blk_cell HR1.out 0
  have f4 : w1.frozen? ⟨w.heap.size + 1, 0, none⟩ = false := blk_frozen HR1.out 0
  clear b1 HB0 HW0 HR0 HS0 hw0
  have hmm := @run_makeMap Try.prog
  by_cases h200 : (200 : Int) < (xs.length : Int)
  · gi_wp2
    refine ⟨.bool true, ?_, rfl, B1.out.setCell (p := ⟨w.heap.size + 1, 0, none⟩) (Nat.le_succ _) _⟩
    have hb := blk_set HR1.out 0 (.bool true)
    have hc := blk_cell hb 0
    simp [results, Try.results13, go_sem, hc]
  have H200 : Aside0 (xs.length ≤ 200) := ⟨by omega⟩
  obtain ⟨ss, hss⟩ : ∃ ss, Aside0 (ss = xs.map fun x => bits BinOp.and .i64 x 7) := ⟨_, ⟨rfl⟩⟩
  obtain ⟨q, hq⟩ : ∃ q, q = bits BinOp.and .i64 which 7 := ⟨_, rfl⟩
  have hqb := and7 which
  rw [← hq] at hqb
  obtain ⟨hq0, hq7⟩ := hqb
  have hq' := hq.symm
  have HST := Aside0.mk (ES.start w1 ss q)
  obtain ⟨i0, hi, hz0, hz1, hz2⟩ := info_parts info89
  clear hq c3 c4 f4
  gi_wp2
  gi_loopw [28] (fun i wr => ∃ (k : Nat) (vl vw : Value), k ≤ xs.length ∧ i = .int .i64 k ∧ Aside0 (ES w1 ss q k k k vl vw wr)) (fun i wr => xs.length - (intOf i).toNat)
  case atStart => exact ⟨0, _, _, Nat.zero_le _, rfl, HST⟩
  case round =>
    clear hmm HST
    obtain ⟨k, vl, vw, hk, rfl, HE⟩ := hrel
    by_cases hlt : k < xs.length
    · have hbw : Below w.heap.size w wr := B1.out.trans (HE.out.bel.mono B1.out.size)
      obtain ⟨h1x, h2x, h3x⟩ := C_int.1 (show Kd.C (Kd.int .i64) wr A xs.length xs from Kd.C_below RX.out hbw)
      obtain ⟨ad, rfl, hcx⟩ := h3x (by omega)
      have hcell0 : wr.cell? (ad.add k) = some (.int .i64 (xs.getD k 0)) := hcx k hlt
      obtain ⟨x, hx⟩ : ∃ x, x = xs.getD k 0 := ⟨_, rfl⟩
      obtain ⟨s, hs⟩ : ∃ s, s = ss.getD k 0 := ⟨_, rfl⟩
      have hcell : wr.cell? (ad.add k) = some (.int .i64 x) := by rw [hx]; exact hcell0
      have hmask : bits BinOp.and .i64 x 7 = s := by rw [hs, hss.out, masks_at xs k hlt, hx]
      have hsb := and7 x
      rw [hmask] at hsb
      obtain ⟨o, ho⟩ : ∃ o, o = lastOf (putsOf ss k) s := ⟨_, rfl⟩
      have hlk := HE.out.map.look s (by omega)
      rw [← ho] at hlk
      have hbk : backOf ss k = o.getD (-1) := by unfold backOf; rw [← hs, ← ho]
      have HBK := Aside0.mk hbk
      have HS := Aside0.mk hs
      have hl0 : wr.cell? ⟨w1.heap.size + 1 + 1, 0, none⟩ = some vl := blk_cell HE.out.lbox 0
      obtain ⟨hsb0, hsb7⟩ := hsb
      clear hbw h1x h2x h3x hcx ho hbk hs hx hcell0
      obtain ⟨Aw, cw, rfl, hri, hlw⟩ := OI.slice HE.out.want
      obtain ⟨bk, hbk2⟩ : ∃ bk, bk = o.getD (-1) := ⟨_, rfl⟩
      have HENT : Aside0 (entOf ss k = ⟨(k : Int), 1, s, bk⟩) := ⟨by unfold entOf; rw [HBK.out, ← HS.out, hbk2]⟩
      have hwl : (wantOf ss q k).length ≤ k := by unfold wantOf; rw [List.length_map]; exact wantOf_len ss q k
      have HWL := Aside0.mk hwl
      obtain ⟨wn, hwn⟩ : ∃ wn, Aside0 (wn = wr.alloc (.cells (ev0Cells ⟨(k : Int), 1, s, bk⟩) 89)) := ⟨_, ⟨rfl⟩⟩
      have HEA : Aside0 (ES w1 ss q k k k vl (.slice Aw (wantOf ss q k).length cw) wn) := ⟨by rw [hwn.out]; exact HE.out.alloc _⟩
      have HNEWS : Aside0 (∀ j u, (ev0Cells ⟨(k : Int), 1, s, bk⟩).toList[j]? = some u → wn.cell? ((⟨wr.heap.size, 0, none⟩ : Addr).add j) = some u) := ⟨by rw [hwn.out]; exact news7⟩
      have hsq : (s == q) = decide (s = q) := by by_cases h : s = q <;> simp [h]
      have h2 : k ≤ 200 := by have := H200.out; omega
      have HK2 := Aside0.mk h2
      have HLTK := Aside0.mk hlt
      clear hri hlw hwl h2 HBK
      have hlt' : (k : Int) < (xs.length : Int) := by omega
      have hl200 : (xs.length : Int) ≤ 200 := by have := H200.out; omega
      have hwe := hwn.out
      unfold ev0Cells at hwe
      have HWE := Aside0.mk hwe
      clear hwe hlt
      cases o
      all_goals
        simp only [Option.getD_none, Option.getD_some, Option.isSome_none, Option.isSome_some] at hlk hbk2
        subst hbk2
        by_cases hq2 : s = q
        · rw [decide_eq_true hq2] at hsq
          have HQ2 := Aside0.mk hq2
          clear hq2
          gi_wp2_with (first
            | (gi_at_builtin; rw [← HWE.out]; refine wpListIn_append_own_at _ rfl (.tmp 43) (.tmp 47) 96 rfl w1.heap.size 89 i0 _ 7 72 Try.underlying96 hi hz0 hz1 hz2 rfl (by decide) vl k (logOf ss k) rfl HEA.out.log ⟨wr.heap.size, 0, none⟩ 1 1 (ev0Cells ⟨(k : Int), 1, s, _⟩).toList rfl rfl HNEWS.out (by intro u hu; simp [ev0Cells] at hu; rcases hu with rfl | rfl | rfl | rfl | rfl <;> rfl) (by unfold maxLen; have := HK2.out; omega) (by have := HK2.out; omega) HEA.out.bel.size ?_; intro v' w2 hown hgrow hnil hat; obtain ⟨g9, cap9, rfl⟩ := ownsRow_succ hown; have hlx := blk_grown HEA.out.lbox hgrow (own_ne HEA.out.log HEA.out.lbox (by decide)); have hlc : w2.cell? ⟨w1.heap.size + 1 + 1, 0, none⟩ = some vl := blk_cell hlx 0; have hlf : w2.frozen? ⟨w1.heap.size + 1 + 1, 0, none⟩ = false := blk_frozen hlx 0; have HE2 := Aside0.mk (ES.logged HEA.out hgrow (by rw [logOf, HENT.out]; exact hown) hat); clear hlx hown hgrow hnil hat hl0)
            | (gi_at_mapUpdate; refine wpListIn_imap rfl (.tmp 49) (.tmp 50) (.tmp 51) rfl (w1.heap.size + 1) (putsOf ss k) s (k : Int) rfl rfl rfl HE2.out.map ⟨by omega, by omega⟩ ⟨by omega, by omega⟩ (by rw [putsOf_len]; omega) ?_; intro w4 hm4 hg4; have HE4 := Aside0.mk (ES.put HE2.out (by rw [putsOf, ← HS.out]; exact hm4) hg4); have c3 : w4.cell? ⟨w.heap.size, 0, none⟩ = some (.int .i64 which) := blk_cell ((HE4.out.bel.block _ (blk_lt HW1.out)).trans HW1.out) 0; have hw4 : ∀ o, (w4.alloc o).cell? ⟨w1.heap.size + 1 + 1 + 1 + 1, 0, none⟩ = some (.slice Aw (wantOf ss q k).length cw) := fun o => blk_cell (HE4.out.alloc o).wbox 0; clear hm4 hg4 hlc hlf)
            | (gi_at_builtin; refine wpListIn_appI rfl (.tmp 57) (.tmp 58) rfl w1.heap.size (.slice (some ⟨w4.heap.size, 0, none⟩) 1 1) [(k : Int)] (wantOf ss q k) Aw cw rfl rfl (oi_one w4 _ _ HE4.out.bel.size) (oi_reads (HE4.out.alloc _).want) (by have := HE4.out.bel.size; simp; omega) (by have := HWL.out; have := HK2.out; simp; omega) ?_; intro A5 c5 w5 ho5 hg5; have HE4a := HE4.out.alloc (.cells #[.int .i64 (k : Int)] 3); have hs4 := HE4.out.size; have hx4 := blk_grown HE4a.wbox hg5 (by simp [Value.ownBlock]; omega); have hwc5 : w5.cell? ⟨w1.heap.size + 1 + 1 + 1 + 1, 0, none⟩ = some (.slice Aw (wantOf ss q k).length cw) := blk_cell hx4 0; have hwf5 : w5.frozen? ⟨w1.heap.size + 1 + 1 + 1 + 1, 0, none⟩ = false := blk_frozen hx4 0; have HE5 := Aside0.mk (ES.wanted (g := w4.heap.size) HE4a (by simp only [World.size_alloc]) hs4 ⟨_, heap_alloc_new w4 _⟩ (fun e => own_ne_new HE4.out.want 0 e.symm) hg5 (by rw [wantOf_yes (by rw [← HS.out]; exact HQ2.out)]; exact ho5)); clear ho5 hg5 HE4a hs4 hx4 hw4 c3))
          exact ⟨⟨k + 1, _, _, by have := HLTK.out; omega, by go_num, HE5⟩, by simp [intOf]; omega⟩
        · rw [decide_eq_false hq2] at hsq
          have HQ2 := Aside0.mk hq2
          clear hq2
          gi_wp2_with (first
            | (gi_at_builtin; rw [← HWE.out]; refine wpListIn_append_own_at _ rfl (.tmp 43) (.tmp 47) 96 rfl w1.heap.size 89 i0 _ 7 72 Try.underlying96 hi hz0 hz1 hz2 rfl (by decide) vl k (logOf ss k) rfl HEA.out.log ⟨wr.heap.size, 0, none⟩ 1 1 (ev0Cells ⟨(k : Int), 1, s, _⟩).toList rfl rfl HNEWS.out (by intro u hu; simp [ev0Cells] at hu; rcases hu with rfl | rfl | rfl | rfl | rfl <;> rfl) (by unfold maxLen; have := HK2.out; omega) (by have := HK2.out; omega) HEA.out.bel.size ?_; intro v' w2 hown hgrow hnil hat; obtain ⟨g9, cap9, rfl⟩ := ownsRow_succ hown; have hlx := blk_grown HEA.out.lbox hgrow (own_ne HEA.out.log HEA.out.lbox (by decide)); have hlc : w2.cell? ⟨w1.heap.size + 1 + 1, 0, none⟩ = some vl := blk_cell hlx 0; have hlf : w2.frozen? ⟨w1.heap.size + 1 + 1, 0, none⟩ = false := blk_frozen hlx 0; have HE2 := Aside0.mk (ES.logged HEA.out hgrow (by rw [logOf, HENT.out]; exact hown) hat); clear hlx hown hgrow hnil hat hl0)
            | (gi_at_mapUpdate; refine wpListIn_imap rfl (.tmp 49) (.tmp 50) (.tmp 51) rfl (w1.heap.size + 1) (putsOf ss k) s (k : Int) rfl rfl rfl HE2.out.map ⟨by omega, by omega⟩ ⟨by omega, by omega⟩ (by rw [putsOf_len]; omega) ?_; intro w4 hm4 hg4; have HE4 := Aside0.mk (ES.put HE2.out (by rw [putsOf, ← HS.out]; exact hm4) hg4); have c3 : w4.cell? ⟨w.heap.size, 0, none⟩ = some (.int .i64 which) := blk_cell ((HE4.out.bel.block _ (blk_lt HW1.out)).trans HW1.out) 0; have hw4 : ∀ o, (w4.alloc o).cell? ⟨w1.heap.size + 1 + 1 + 1 + 1, 0, none⟩ = some (.slice Aw (wantOf ss q k).length cw) := fun o => blk_cell (HE4.out.alloc o).wbox 0; clear hm4 hg4 hlc hlf))
          exact ⟨⟨k + 1, _, _, by have := HLTK.out; omega, by go_num, ⟨HE4.out.skip (by rw [← HS.out]; exact HQ2.out)⟩⟩, by simp [intOf]; omega⟩
    · obtain rfl : k = xs.length := by omega
      have HL : Aside0 (Chain ((lastOf (putsOf ss xs.length) q).getD (-1)) (entsOf ss q xs.length)) := ⟨chain_ents ss q xs.length⟩
      obtain ⟨o, ho⟩ : ∃ o, o = lastOf (putsOf ss xs.length) q := ⟨_, rfl⟩
      have hlk := HE.out.map.look q (by omega)
      rw [← ho] at hlk HL
      have c3 : wr.cell? ⟨w.heap.size, 0, none⟩ = some (.int .i64 which) := blk_cell ((HE.out.bel.block _ (blk_lt HW1.out)).trans HW1.out) 0
      have hq2 := hq'
      obtain ⟨fr, hfr⟩ : ∃ fr, fr = o.getD (-1) := ⟨_, rfl⟩
      rw [← hfr] at HL
      clear ho hlt hk hi hz0 hz1 hz2
      cases o with
      | none =>
        simp only [Option.getD_none, Option.getD_some, Option.isSome_none, Option.isSome_some] at hlk hfr
        subst hfr
        gi_wp2_with (fail)
        refine ⟨trivial, ?_⟩
        refine (callsIn_wide.2 (walkmake_calls (-1) 67 #[.pointer (some ⟨w1.heap.size + 1 + 1, 0, none⟩)] _)).mono ?_
        rintro e w6 ⟨rfl, h6⟩
        obtain ⟨wk, hwk⟩ : ∃ wk, Aside0 (wk = wr.alloc (.cells #[.int .i64 0] 3)) := ⟨_, ⟨rfl⟩⟩
        rw [← hwk.out] at h6 ⊢
        have hsk : wk.heap.size = wr.heap.size + 1 := by rw [hwk.out]; simp only [World.size_alloc]
        have bk6 : Below wk.heap.size wk w6 := by rw [h6]; exact ((Below.refl _ wk).alloc (Nat.le_refl _) _).alloc (by simp only [World.size_alloc]; omega) _
        have hba : w6.heap[wk.heap.size]? = some (.cells #[.int .i64 (-1)] 3 (0, 0)) := by rw [h6]; exact (Below.heap_alloc _ _ _ (by simp only [World.size_alloc]; omega)).trans (heap_alloc_new wk _)
        have hbf : w6.heap[wk.heap.size + 1]? = some (.cells #[.func (.func 67) #[] #[.pointer (some ⟨w1.heap.size + 1 + 1, 0, none⟩)]] 99 (0, 0)) := by
          have q := heap_alloc_new (wk.alloc (.cells #[.int .i64 (-1)] 3)) (.cells #[.func (.func 67) #[] #[.pointer (some ⟨w1.heap.size + 1 + 1, 0, none⟩)]] 99)
          rw [World.size_alloc] at q
          rw [h6]; exact q
        have hs6 : w6.heap.size = wk.heap.size + 2 := by rw [h6]; simp only [World.size_alloc]
        have hkb : wk.heap[wr.heap.size]? = some (.cells #[.int .i64 0] 3 (0, 0)) := by rw [hwk.out]; exact heap_alloc_new wr _
        have hkb6 := Aside0.mk ((bk6.block _ (by omega)).trans hkb)
        have brk : Below wr.heap.size wr wk := by rw [hwk.out]; exact (Below.refl _ wr).alloc (Nat.le_refl _) _
        have br6 : Below wr.heap.size wr w6 := brk.trans (bk6.mono brk.size)
        have HST := Aside0.mk (walk_stops 4 (by omega) wk.heap.size (wk.heap.size + 1) 67 #[.pointer (some ⟨w1.heap.size + 1 + 1, 0, none⟩)] _ (entsOf ss q xs.length) (fun k => k = wr.heap.size) w6 (fun _ _ => by simp [go_sem, enters_of Try.func67 (by kernel_rfl) rfl]) HL.out (fun _ h => by subst h; omega) hba hbf (read_kept HE.out H200.out br6 wr.heap.size (Nat.le_refl _)))
        have HB6 := Aside0.mk br6
        have HSZ : Aside0 (w6.heap.size = wr.heap.size + 3) := ⟨by omega⟩
        have HSR := Aside0.mk HE.out.size
        have HW6 := Aside0.mk ((br6.block _ (blk_lt HE.out.wbox)).trans HE.out.wbox)
        have HQ6 := Aside0.mk ((br6.block _ (by have := hs1.out; have := HE.out.size; omega)).trans ((HE.out.bel.block _ (blk_lt HW1.out)).trans HW1.out))
        have HR6 := Aside0.mk ((br6.block _ (by have := hs1.out; have := HE.out.size; omega)).trans ((HE.out.bel.block _ (blk_lt HR1.out)).trans HR1.out))
        have BT6 : Aside0 (Below w.heap.size w w6) := ⟨(B1.out.trans (HE.out.bel.mono B1.out.size)).trans (br6.mono (Nat.le_trans B1.out.size HE.out.bel.size))⟩
        clear h6 hba hbf bk6 brk br6 hkb hs6 hsk hlk c3 HL
        gi_wp2_with (fail)
        refine' rangeFunc_gen (α := Ev0) rfl (by omega) (gf := 120) (lb := #[.pointer (some ⟨wk.heap.size, 0, none⟩), .pointer (some ⟨wk.heap.size + 1, 0, none⟩)]) rfl trivial (enters_of Try.func120 (by kernel_rfl) rfl)
          (fun _ => rfl) (AbW w6.heap.size) (Kq (fun k => k = wr.heap.size)) (fun ys => ys = entsOf ss q xs.length) (fun pre => pre <+: entsOf ss q xs.length) (entsOf ss q xs.length).length
          (fun l J Jx W hB hJ hJx hY h0 => HST.out l J Jx W hB (fun s A B row hs hg hr => hJ s A B hs ⟨row, hg, fun r e => ⟨Nat.le_trans hB.size (hr r e).1, (hr r e).2⟩⟩) (fun s A B row hs hg hr => hJx s A B hs ⟨row, hg, fun r e => ⟨Nat.le_trans hB.size (hr r e).1, (hr r e).2⟩⟩) hY h0)
          (fun A B h => h.keep) (Kq.trans) (fun W l o o' hl h hc hw => Kq.put (w := w6) W l o o' hl h hc hw)
          (fun pre W => KI w6 wr.heap.size pre.length W) (fun c pre W => ¬ pre <+: entsOf ss q xs.length)
          (fun s A B hs hab => by obtain ⟨row, hg, hr⟩ := hab; exact hs.grown hg (fun r e => ⟨(hr r e).1, by obtain ⟨o, h1, h2⟩ := (hr r e).2; exact ⟨o, h1, Obj.not_cells_of_walk h2⟩⟩))
          (fun _ _ _ _ hs _ => hs) (fun s W l o o' hs hl hh hc _ => hs.put l o o' hl hh hc) (fun _ _ _ _ _ _ hs _ _ _ _ => hs)
          (fun o o' => (KI.alloc (KI.alloc (⟨⟨blk_cell hkb6.out 0, blk_frozen hkb6.out 0⟩, Upd.refl _ _⟩ : KI w6 wr.heap.size 0 w6) o) o')) _ (fun x W => W.alloc (.cells (ev0Cells x) 89)) ?assign (fun x W k o hk _ _ => (Below.heap_alloc _ _ _ (Array.getElem?_eq_some_iff.1 hk).1).trans hk) (fun x W => Kq.below ((Below.refl _ _).alloc (Nat.le_refl _) _)) ?body ?done ?stop
        case assign =>
          intro l x W K hK
          unfold ev0Cells at hK ⊢
          gi_wp2
          exact hK
        case stop =>
          rintro Dd c pre W _ hsp hix _
          exact absurd hsp hix
        case body =>
          rintro l pre x W o o' hI hlt hwz hl hlo ho1 ho2
          obtain ⟨U, hU⟩ : ∃ U, U = (W.alloc (.cells (ev0Cells x) 89)).putObj l o' := ⟨_, rfl⟩
          have hWl : W.heap.size ≠ l := by
            rintro rfl
            rw [heap_alloc_new] at hlo; injection hlo with hlo; subst hlo; cases ho1
          have hxb : U.heap[W.heap.size]? = some (.cells (ev0Cells x) 89 (0, 0)) := by rw [hU]; exact (World.putObj_heap_other hWl).trans (heap_alloc_new W _)
          have KU : KI w6 wr.heap.size pre.length U := by rw [hU]; exact (hI.alloc _).put l o o' hl hlo ho1
          rw [← hU]
          have hk := KU.1.1
          have hkf := KU.1.2
          have s1 := hs1.out
          have s2 := HSR.out
          have hwc : U.cell? ⟨w1.heap.size + 1 + 1 + 1 + 1, 0, none⟩ = some vw := blk_cell (KU.2.at_ HW6.out (by omega)) 0
          have hqc : U.cell? ⟨w.heap.size, 0, none⟩ = some (.int .i64 which) := blk_cell (KU.2.at_ HQ6.out (by omega)) 0
          have hrb := KU.2.at_ HR6.out (by omega)
          have hrc : U.cell? ⟨w.heap.size + 1, 0, none⟩ = some (.bool false) := blk_cell hrb 0
          have hrf : U.frozen? ⟨w.heap.size + 1, 0, none⟩ = false := blk_frozen hrb 0
          have hsc : U.cell? ⟨W.heap.size, 4, none⟩ = some (.int .i64 x.stream) := blk_cell hxb 4
          obtain ⟨Aw, cw, rfl, hri, hlw⟩ := OI.slice (want_at HE.out.want HB6.out KU.2)
          obtain ⟨h1x, h2x, h3x⟩ := C_int.1 (show Kd.C (Kd.int .i64) U Aw _ (wantOf ss q xs.length) from hri)
          rw [← want_size ss q xs.length] at hlt
          obtain ⟨ad, rfl, hcx⟩ := h3x (by omega)
          obtain ⟨t, ht⟩ : ∃ t, t = (wantOf ss q xs.length).getD pre.length 0 := ⟨_, rfl⟩
          have hcell : U.cell? (ad.add pre.length) = some (.int .i64 t) := by rw [ht]; exact hcx pre.length hlt
          obtain ⟨n, hn⟩ : ∃ n, n = (wantOf ss q xs.length).length := ⟨_, rfl⟩
          have hw2 : (wantOf ss q xs.length).length ≤ xs.length := by unfold wantOf; rw [List.length_map]; exact wantOf_len ss q xs.length
          rw [← hn] at hlt hwc hw2
          have hltz : (pre.length : Int) < (n : Int) := by omega
          have hgez : ¬ (n : Int) ≤ (pre.length : Int) := by omega
          have h2 := H200.out
          have KU' := Aside0.mk KU
          have HT := Aside0.mk ht
          clear hU hxb KU hri h1x h2x h3x hcx hlw hWl hlo hI ht hn hrb
          by_cases e1 : x.at_ = t
          · by_cases e2 : x.stream = q
            · gi_wp2
              exact ⟨KeepsOthers.setCell _ _ _, ⟨by simp [World.setCell], fun k cs t fr hn hh => (Below.heap_setCell _ _ _ _ hn).trans hh⟩, ⟨by rw [World.cell?_setCell_same' _ _ _ (by rw [KU'.out.1.1]; rfl)]; simp, by rw [World.frozen?_setCell]; exact KU'.out.1.2⟩, KU'.out.2.setCell (.inl rfl) _⟩
            · gi_wp2
              exact ⟨KeepsOthers.setCell _ _ _, fun hp => e2 (pre_next hp).2⟩
          · gi_wp2
            exact ⟨KeepsOthers.setCell _ _ _, fun hp => e1 ((pre_next hp).1.symm.trans HT.out.symm)⟩
        case done =>
          rintro D2 ys w7 hD2 rfl hKI hK7
          have s1 := hs1.out
          have s2 := HSR.out
          have hk : w7.cell? ⟨wr.heap.size, 0, none⟩ = some (.int .i64 (entsOf ss q xs.length).length) := hKI.1.1
          have hwc : w7.cell? ⟨w1.heap.size + 1 + 1 + 1 + 1, 0, none⟩ = some vw := blk_cell (hKI.2.at_ HW6.out (by omega)) 0
          have hrb := hKI.2.at_ HR6.out (by omega)
          have hrc : w7.cell? ⟨w.heap.size + 1, 0, none⟩ = some (.bool false) := blk_cell hrb 0
          have hrf : w7.frozen? ⟨w.heap.size + 1, 0, none⟩ = false := blk_frozen hrb 0
          obtain ⟨Aw, cw, rfl, hri, hlw⟩ := OI.slice HE.out.want
          rw [want_size] at hwc
          obtain ⟨n, hn⟩ : ∃ n, n = (entsOf ss q xs.length).length := ⟨_, rfl⟩
          rw [← hn] at hwc hk
          have KU := Aside0.mk hKI
          have HK7 := Aside0.mk hK7
          have HRB := Aside0.mk hrb
          clear hKI hK7 hrb hri hlw hn
          gi_wp2
          have z1 := HSZ.out
          have hne : D2 ≠ w.heap.size + 1 := by omega
          have hD7 : (w7.setCell ⟨w.heap.size + 1, 0, none⟩ (.bool true)).heap[D2]? = some (.deferred (some [])) := (Below.heap_setCell _ _ _ _ hne).trans HK7.out
          refine ⟨by simp, .inl ⟨_, _, rfl, run_takeDeferred hD7, ?_⟩⟩
          have hb := blk_set HRB.out 0 (.bool true)
          have hc := blk_cell ((World.putObj_heap_other (o := Obj.deferred none) (Ne.symm hne)).trans hb) 0
          have B7 : Below w.heap.size w w7 := BT6.out.trans (KU.out.2.below BT6.out.size (fun k e => by subst e; omega))
          have B8 := B7.setCell (p := ⟨w.heap.size + 1, 0, none⟩) (Nat.le_succ _) (.bool true)
          refine ⟨.bool true, ?_, rfl, B8.grown (grownBy_putObj' _ D2 (.deferred none)) B8.size (fun k e => by cases e; omega)⟩
          simp [results, Try.results13, go_sem, hc]
      | some v =>
        simp only [Option.getD_none, Option.getD_some, Option.isSome_none, Option.isSome_some] at hlk hfr
        subst hfr
        gi_wp2_with (fail)
        refine ⟨trivial, ?_⟩
        refine (callsIn_wide.2 (walkmake_calls fr 67 #[.pointer (some ⟨w1.heap.size + 1 + 1, 0, none⟩)] _)).mono ?_
        rintro e w6 ⟨rfl, h6⟩
        obtain ⟨wk, hwk⟩ : ∃ wk, Aside0 (wk = wr.alloc (.cells #[.int .i64 0] 3)) := ⟨_, ⟨rfl⟩⟩
        rw [← hwk.out] at h6 ⊢
        have hsk : wk.heap.size = wr.heap.size + 1 := by rw [hwk.out]; simp only [World.size_alloc]
        have bk6 : Below wk.heap.size wk w6 := by rw [h6]; exact ((Below.refl _ wk).alloc (Nat.le_refl _) _).alloc (by simp only [World.size_alloc]; omega) _
        have hba : w6.heap[wk.heap.size]? = some (.cells #[.int .i64 fr] 3 (0, 0)) := by rw [h6]; exact (Below.heap_alloc _ _ _ (by simp only [World.size_alloc]; omega)).trans (heap_alloc_new wk _)
        have hbf : w6.heap[wk.heap.size + 1]? = some (.cells #[.func (.func 67) #[] #[.pointer (some ⟨w1.heap.size + 1 + 1, 0, none⟩)]] 99 (0, 0)) := by
          have q := heap_alloc_new (wk.alloc (.cells #[.int .i64 fr] 3)) (.cells #[.func (.func 67) #[] #[.pointer (some ⟨w1.heap.size + 1 + 1, 0, none⟩)]] 99)
          rw [World.size_alloc] at q
          rw [h6]; exact q
        have hs6 : w6.heap.size = wk.heap.size + 2 := by rw [h6]; simp only [World.size_alloc]
        have hkb : wk.heap[wr.heap.size]? = some (.cells #[.int .i64 0] 3 (0, 0)) := by rw [hwk.out]; exact heap_alloc_new wr _
        have hkb6 := Aside0.mk ((bk6.block _ (by omega)).trans hkb)
        have brk : Below wr.heap.size wr wk := by rw [hwk.out]; exact (Below.refl _ wr).alloc (Nat.le_refl _) _
        have br6 : Below wr.heap.size wr w6 := brk.trans (bk6.mono brk.size)
        have HST := Aside0.mk (walk_stops 4 (by omega) wk.heap.size (wk.heap.size + 1) 67 #[.pointer (some ⟨w1.heap.size + 1 + 1, 0, none⟩)] _ (entsOf ss q xs.length) (fun k => k = wr.heap.size) w6 (fun _ _ => by simp [go_sem, enters_of Try.func67 (by kernel_rfl) rfl]) HL.out (fun _ h => by subst h; omega) hba hbf (read_kept HE.out H200.out br6 wr.heap.size (Nat.le_refl _)))
        have HB6 := Aside0.mk br6
        have HSZ : Aside0 (w6.heap.size = wr.heap.size + 3) := ⟨by omega⟩
        have HSR := Aside0.mk HE.out.size
        have HW6 := Aside0.mk ((br6.block _ (blk_lt HE.out.wbox)).trans HE.out.wbox)
        have HQ6 := Aside0.mk ((br6.block _ (by have := hs1.out; have := HE.out.size; omega)).trans ((HE.out.bel.block _ (blk_lt HW1.out)).trans HW1.out))
        have HR6 := Aside0.mk ((br6.block _ (by have := hs1.out; have := HE.out.size; omega)).trans ((HE.out.bel.block _ (blk_lt HR1.out)).trans HR1.out))
        have BT6 : Aside0 (Below w.heap.size w w6) := ⟨(B1.out.trans (HE.out.bel.mono B1.out.size)).trans (br6.mono (Nat.le_trans B1.out.size HE.out.bel.size))⟩
        clear h6 hba hbf bk6 brk br6 hkb hs6 hsk hlk c3 HL
        gi_wp2_with (fail)
        refine' rangeFunc_gen (α := Ev0) rfl (by omega) (gf := 120) (lb := #[.pointer (some ⟨wk.heap.size, 0, none⟩), .pointer (some ⟨wk.heap.size + 1, 0, none⟩)]) rfl trivial (enters_of Try.func120 (by kernel_rfl) rfl)
          (fun _ => rfl) (AbW w6.heap.size) (Kq (fun k => k = wr.heap.size)) (fun ys => ys = entsOf ss q xs.length) (fun pre => pre <+: entsOf ss q xs.length) (entsOf ss q xs.length).length
          (fun l J Jx W hB hJ hJx hY h0 => HST.out l J Jx W hB (fun s A B row hs hg hr => hJ s A B hs ⟨row, hg, fun r e => ⟨Nat.le_trans hB.size (hr r e).1, (hr r e).2⟩⟩) (fun s A B row hs hg hr => hJx s A B hs ⟨row, hg, fun r e => ⟨Nat.le_trans hB.size (hr r e).1, (hr r e).2⟩⟩) hY h0)
          (fun A B h => h.keep) (Kq.trans) (fun W l o o' hl h hc hw => Kq.put (w := w6) W l o o' hl h hc hw)
          (fun pre W => KI w6 wr.heap.size pre.length W) (fun c pre W => ¬ pre <+: entsOf ss q xs.length)
          (fun s A B hs hab => by obtain ⟨row, hg, hr⟩ := hab; exact hs.grown hg (fun r e => ⟨(hr r e).1, by obtain ⟨o, h1, h2⟩ := (hr r e).2; exact ⟨o, h1, Obj.not_cells_of_walk h2⟩⟩))
          (fun _ _ _ _ hs _ => hs) (fun s W l o o' hs hl hh hc _ => hs.put l o o' hl hh hc) (fun _ _ _ _ _ _ hs _ _ _ _ => hs)
          (fun o o' => (KI.alloc (KI.alloc (⟨⟨blk_cell hkb6.out 0, blk_frozen hkb6.out 0⟩, Upd.refl _ _⟩ : KI w6 wr.heap.size 0 w6) o) o')) _ (fun x W => W.alloc (.cells (ev0Cells x) 89)) ?assign (fun x W k o hk _ _ => (Below.heap_alloc _ _ _ (Array.getElem?_eq_some_iff.1 hk).1).trans hk) (fun x W => Kq.below ((Below.refl _ _).alloc (Nat.le_refl _) _)) ?body ?done ?stop
        case assign =>
          intro l x W K hK
          unfold ev0Cells at hK ⊢
          gi_wp2
          exact hK
        case stop =>
          rintro Dd c pre W _ hsp hix _
          exact absurd hsp hix
        case body =>
          rintro l pre x W o o' hI hlt hwz hl hlo ho1 ho2
          obtain ⟨U, hU⟩ : ∃ U, U = (W.alloc (.cells (ev0Cells x) 89)).putObj l o' := ⟨_, rfl⟩
          have hWl : W.heap.size ≠ l := by
            rintro rfl
            rw [heap_alloc_new] at hlo; injection hlo with hlo; subst hlo; cases ho1
          have hxb : U.heap[W.heap.size]? = some (.cells (ev0Cells x) 89 (0, 0)) := by rw [hU]; exact (World.putObj_heap_other hWl).trans (heap_alloc_new W _)
          have KU : KI w6 wr.heap.size pre.length U := by rw [hU]; exact (hI.alloc _).put l o o' hl hlo ho1
          rw [← hU]
          have hk := KU.1.1
          have hkf := KU.1.2
          have s1 := hs1.out
          have s2 := HSR.out
          have hwc : U.cell? ⟨w1.heap.size + 1 + 1 + 1 + 1, 0, none⟩ = some vw := blk_cell (KU.2.at_ HW6.out (by omega)) 0
          have hqc : U.cell? ⟨w.heap.size, 0, none⟩ = some (.int .i64 which) := blk_cell (KU.2.at_ HQ6.out (by omega)) 0
          have hrb := KU.2.at_ HR6.out (by omega)
          have hrc : U.cell? ⟨w.heap.size + 1, 0, none⟩ = some (.bool false) := blk_cell hrb 0
          have hrf : U.frozen? ⟨w.heap.size + 1, 0, none⟩ = false := blk_frozen hrb 0
          have hsc : U.cell? ⟨W.heap.size, 4, none⟩ = some (.int .i64 x.stream) := blk_cell hxb 4
          obtain ⟨Aw, cw, rfl, hri, hlw⟩ := OI.slice (want_at HE.out.want HB6.out KU.2)
          obtain ⟨h1x, h2x, h3x⟩ := C_int.1 (show Kd.C (Kd.int .i64) U Aw _ (wantOf ss q xs.length) from hri)
          rw [← want_size ss q xs.length] at hlt
          obtain ⟨ad, rfl, hcx⟩ := h3x (by omega)
          obtain ⟨t, ht⟩ : ∃ t, t = (wantOf ss q xs.length).getD pre.length 0 := ⟨_, rfl⟩
          have hcell : U.cell? (ad.add pre.length) = some (.int .i64 t) := by rw [ht]; exact hcx pre.length hlt
          obtain ⟨n, hn⟩ : ∃ n, n = (wantOf ss q xs.length).length := ⟨_, rfl⟩
          have hw2 : (wantOf ss q xs.length).length ≤ xs.length := by unfold wantOf; rw [List.length_map]; exact wantOf_len ss q xs.length
          rw [← hn] at hlt hwc hw2
          have hltz : (pre.length : Int) < (n : Int) := by omega
          have hgez : ¬ (n : Int) ≤ (pre.length : Int) := by omega
          have h2 := H200.out
          have KU' := Aside0.mk KU
          have HT := Aside0.mk ht
          clear hU hxb KU hri h1x h2x h3x hcx hlw hWl hlo hI ht hn hrb
          by_cases e1 : x.at_ = t
          · by_cases e2 : x.stream = q
            · gi_wp2
              exact ⟨KeepsOthers.setCell _ _ _, ⟨by simp [World.setCell], fun k cs t fr hn hh => (Below.heap_setCell _ _ _ _ hn).trans hh⟩, ⟨by rw [World.cell?_setCell_same' _ _ _ (by rw [KU'.out.1.1]; rfl)]; simp, by rw [World.frozen?_setCell]; exact KU'.out.1.2⟩, KU'.out.2.setCell (.inl rfl) _⟩
            · gi_wp2
              exact ⟨KeepsOthers.setCell _ _ _, fun hp => e2 (pre_next hp).2⟩
          · gi_wp2
            exact ⟨KeepsOthers.setCell _ _ _, fun hp => e1 ((pre_next hp).1.symm.trans HT.out.symm)⟩
        case done =>
          rintro D2 ys w7 hD2 rfl hKI hK7
          have s1 := hs1.out
          have s2 := HSR.out
          have hk : w7.cell? ⟨wr.heap.size, 0, none⟩ = some (.int .i64 (entsOf ss q xs.length).length) := hKI.1.1
          have hwc : w7.cell? ⟨w1.heap.size + 1 + 1 + 1 + 1, 0, none⟩ = some vw := blk_cell (hKI.2.at_ HW6.out (by omega)) 0
          have hrb := hKI.2.at_ HR6.out (by omega)
          have hrc : w7.cell? ⟨w.heap.size + 1, 0, none⟩ = some (.bool false) := blk_cell hrb 0
          have hrf : w7.frozen? ⟨w.heap.size + 1, 0, none⟩ = false := blk_frozen hrb 0
          obtain ⟨Aw, cw, rfl, hri, hlw⟩ := OI.slice HE.out.want
          rw [want_size] at hwc
          obtain ⟨n, hn⟩ : ∃ n, n = (entsOf ss q xs.length).length := ⟨_, rfl⟩
          rw [← hn] at hwc hk
          have KU := Aside0.mk hKI
          have HK7 := Aside0.mk hK7
          have HRB := Aside0.mk hrb
          clear hKI hK7 hrb hri hlw hn
          gi_wp2
          have z1 := HSZ.out
          have hne : D2 ≠ w.heap.size + 1 := by omega
          have hD7 : (w7.setCell ⟨w.heap.size + 1, 0, none⟩ (.bool true)).heap[D2]? = some (.deferred (some [])) := (Below.heap_setCell _ _ _ _ hne).trans HK7.out
          refine ⟨by simp, .inl ⟨_, _, rfl, run_takeDeferred hD7, ?_⟩⟩
          have hb := blk_set HRB.out 0 (.bool true)
          have hc := blk_cell ((World.putObj_heap_other (o := Obj.deferred none) (Ne.symm hne)).trans hb) 0
          have B7 : Below w.heap.size w w7 := BT6.out.trans (KU.out.2.below BT6.out.size (fun k e => by subst e; omega))
          have B8 := B7.setCell (p := ⟨w.heap.size + 1, 0, none⟩) (Nat.le_succ _) (.bool true)
          refine ⟨.bool true, ?_, rfl, B8.grown (grownBy_putObj' _ D2 (.deferred none)) B8.size (fun k e => by cases e; omega)⟩
          simp [results, Try.results13, go_sem, hc]
end Go.Proofs.Ytmdnokfmlbjbhaa
