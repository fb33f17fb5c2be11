/- plan.Next: the walk. -/
import Derived.Test.YtmdnokfmlbjbhaaPlF
namespace Go.Proofs.Ytmdnokfmlbjbhaa
open Go.RowKit Go.Proofs.YtmdnokfmlbjbhaaW.PrintWords
set_option linter.unusedVariables false
set_option linter.unusedSimpArgs false

theorem own_hdr {W : World} {base n size : Nat} {e : TypeId} {v : Value} {xs : List Value} (h : W.ownsRow base e size v n xs) : ∃ A c, v = .slice A n c := by
  rcases h.2 with ⟨e, h0⟩ | ⟨g, cap, cur, e, _⟩
  · exact ⟨none, 0, by rw [e, h0]⟩
  · exact ⟨_, _, e⟩
theorem Rows.set {W : World} {base b i : Nat} {vo u : Value} {css : List (List Int)} (h : Rows W base vo css) (hb : b < base) : Rows (W.setCell ⟨b, i, none⟩ u) base vo css := by
  obtain ⟨vs, ho, hi⟩ := h
  refine ⟨vs, own_setCell ho (fun e => ?_) u, fun j hl => ?_⟩
  · have := own_base ho b e.symm
    omega
  · obtain ⟨v, e, hc⟩ := hi j hl
    exact ⟨v, e, hc.move fun k cells hk hh => (Below.heap_setCell W ⟨b, i, none⟩ u k (by show k ≠ b; omega)).trans hh⟩
theorem two_set {W : World} {b : Nat} {x y u v : Value} {t : TypeId} (h : W.heap[b]? = some (.cells #[x, y] t (0, 0))) :
    (W.setCell ⟨b, 0, none⟩ u).cell? ⟨b, 0, none⟩ = some u ∧ ((W.setCell ⟨b, 0, none⟩ u).setCell ⟨b, 1, none⟩ v).cell? ⟨b, 0, none⟩ = some u ∧ ((W.setCell ⟨b, 0, none⟩ u).setCell ⟨b, 1, none⟩ v).cell? ⟨b, 1, none⟩ = some v := by
  have h1 := blk_set h 0 u
  have h2 := blk_set h1 1 v
  exact ⟨blk_cell h1 0, blk_cell h2 0, blk_cell h2 1⟩

set_option maxHeartbeats 2000000 in
set_option maxRecDepth 100000 in
theorem next_calls (e : Int) (A : Option Addr) (c : Nat) (cs : List (List Int)) (L : Option Addr) (cl : Nat) (there : List Int) (w : World) (h : RL w A cs) (ht : RI w L there) (hl : ∀ x ∈ cs, x.length * 8 ≤ 140737488355328) (he : Wf e) :
    Calls Try.prog 41 #[.agg #[.int .i64 e, .slice A cs.length c], .slice L there.length cl] w fun ex w' => ∃ Ao co, ex = .returned (.tuple #[.agg #[.int .i64 (nextOf e cs there).1, .slice Ao (nextOf e cs there).2.1.length co], .int .i64 (nextOf e cs there).2.2]) ∧
      Rows w' w.heap.size (.slice Ao (nextOf e cs there).2.1.length co) (nextOf e cs there).2.1 ∧ (nextOf e cs there).2.1.length ≤ co ∧ Below w.heap.size w w' := by
  have H := Aside0.mk h
  have HT := Aside0.mk ht
  have HL := Aside0.mk hl
  have HR := Aside0.mk (fun W (hB : Below w.heap.size w W) => right_calls e A c cs W (Kd.C_below h hB))
  have m0 := Kd.C_max h
  have w1 := he.1
  have w2 := he.2
  clear h ht hl he
  obtain ⟨w0, hw0⟩ : ∃ w0, Aside0 (w0 = ((w.alloc (.cells #[.int .i64 e, .slice A cs.length c] 55)).alloc (.cells #[.slice L there.length cl] 58)).alloc (.cells #[.int .i64 0, .slice none 0 0] 55)) := ⟨_, ⟨rfl⟩⟩
  have hz0 : Aside0 (w0.heap.size = w.heap.size + 3) := ⟨by rw [hw0.out]; simp only [World.size_alloc]⟩
  have B0 : Aside0 (Below w.heap.size w w0) := ⟨by rw [hw0.out]; exact (((Below.refl _ w).alloc (Nat.le_refl _) _).alloc (by simp only [World.size_alloc]; omega) _).alloc (by simp only [World.size_alloc]; omega) _⟩
  have b2 : Aside0 (w0.heap[w.heap.size]? = some (.cells #[.int .i64 e, .slice A cs.length c] 55 (0, 0))) := ⟨by rw [hw0.out]; exact (Below.heap_alloc _ _ _ (by simp only [World.size_alloc]; omega)).trans ((Below.heap_alloc _ _ _ (by simp only [World.size_alloc]; omega)).trans (heap_alloc_new w _))⟩
  have b3 : Aside0 (w0.heap[w.heap.size + 1]? = some (.cells #[.slice L there.length cl] 58 (0, 0))) := ⟨by
    have q := heap_alloc_new (w.alloc (.cells #[.int .i64 e, .slice A cs.length c] 55)) (.cells #[.slice L there.length cl] 58)
    rw [World.size_alloc] at q
    rw [hw0.out]; exact (Below.heap_alloc _ _ _ (by simp only [World.size_alloc]; omega)).trans q⟩
  have b4 : Aside0 (w0.heap[w.heap.size + 1 + 1]? = some (.cells #[.int .i64 0, .slice none 0 0] 55 (0, 0))) := ⟨by
    have q := heap_alloc_new ((w.alloc (.cells #[.int .i64 e, .slice A cs.length c] 55)).alloc (.cells #[.slice L there.length cl] 58)) (.cells #[.int .i64 0, .slice none 0 0] 55)
    rw [World.size_alloc, World.size_alloc] at q
    rw [hw0.out]; exact q⟩
  go_enter Try.func41, Try.ntmps41
  go_wp2_with (fail)
  rw [← hw0.out]
  refine (HR.out w0 B0.out).mono ?_
  rintro ex wq ⟨rfl, br⟩
  have hsz := br.size
  have BR : Aside0 (Below w.heap.size w wq) := ⟨B0.out.trans (br.mono B0.out.size)⟩
  have lt2 := blk_lt b2.out; have lt3 := blk_lt b3.out; have lt4 := blk_lt b4.out
  replace b2 : Aside0 (wq.heap[w.heap.size]? = some (.cells #[.int .i64 e, .slice A cs.length c] 55 (0, 0))) := ⟨(br.block _ lt2).trans b2.out⟩
  replace b3 : Aside0 (wq.heap[w.heap.size + 1]? = some (.cells #[.slice L there.length cl] 58 (0, 0))) := ⟨(br.block _ lt3).trans b3.out⟩
  replace b4 : Aside0 (wq.heap[w.heap.size + 1 + 1]? = some (.cells #[.int .i64 0, .slice none 0 0] 55 (0, 0))) := ⟨(br.block _ lt4).trans b4.out⟩
  have s0 : w.heap.size + 3 ≤ wq.heap.size := by rw [← hz0.out]; exact hsz
  clear hw0 B0 hz0 hsz br lt2 lt3 lt4
  have c20 := blk_cell b2.out 0; have c21 := blk_cell b2.out 1
  have c40 := blk_cell b4.out 0; have c41 := blk_cell b4.out 1; have f40 := blk_frozen b4.out 0; have f41 := blk_frozen b4.out 1
  simp only [List.getElem?_toArray, List.getElem?_cons_zero, List.getElem?_cons_succ] at c20 c21 c40 c41
  by_cases hp : PR e cs
  · by_cases hE : e = 2147483647
    · have hd : decide (PR e cs) = true := decide_eq_true hp
      have hE1 : (e == 2147483647) = true := by simp [hE]
      rw [hd]
      have h1 : Aside0 (nextOf e cs there = (0, [], 1)) := ⟨by unfold nextOf; rw [if_pos (.inr hE)]⟩
      obtain ⟨r0, r1, r2⟩ := two_set (u := .int .i64 0) (v := .slice none 0 0) b4.out
      clear hp hd hE
      go_wp2
      refine bodyPost_ret (v := .tuple #[.agg #[.int .i64 0, .slice none 0 0], .int .i64 1]) (by simp [results, Try.results41, go_sem, r0, r1, r2]) rfl ?_
      refine ⟨none, 0, by rw [h1.out]; rfl, by rw [h1.out]; exact Rows.nil _ _, by rw [h1.out]; exact Nat.le_refl _, ?_⟩
      exact (BR.out.setCell (p := ⟨w.heap.size + 1 + 1, 0, none⟩) (by show w.heap.size ≤ w.heap.size + 1 + 1; omega) _).setCell (p := ⟨w.heap.size + 1 + 1, 1, none⟩) (by show w.heap.size ≤ w.heap.size + 1 + 1; omega) _
    · have hd : decide (PR e cs) = true := decide_eq_true hp
      have hE1 : (e == 2147483647) = false := by simp [hE]
      rw [hd]
      have HP := Aside0.mk hp
      have HE := Aside0.mk hE
      clear hp hd hE
      have n1 : w.heap.size < wq.heap.size := by omega
      have n2 : w.heap.size ≠ wq.heap.size := by omega
      have n3 : w.heap.size + 1 ≠ wq.heap.size := by omega
      have n4 : w.heap.size + 1 + 1 ≠ wq.heap.size := by omega
      have hwe : wrap64 (e + 1) = e + 1 := IntWalk.wrap64_in _ (by have := HP.out.1; omega)
      go_wp2
      simp only [hwe]
      clear hwe
      go_loopw [26] (fun v26 W => ∃ (k : Nat) (vo : Value), k ≤ cs.length ∧ v26 = .int .i64 k ∧ Aside0 (∀ x ∈ cs.take k, stay there x ≠ []) ∧ Aside0 (Below wq.heap.size wq W) ∧ Aside0 (W.heap[wq.heap.size]? = some (.cells #[.int .i64 (e + 1), vo] 55 (0, 0))) ∧ Aside0 (Rows W (wq.heap.size + 1) vo ((cs.take k).map (stay there)))) (fun v26 _ => cs.length - (intOf v26).toNat)
      case atStart => exact ⟨0, .slice none 0 0, by omega, rfl, ⟨by simp⟩, ⟨(Below.refl _ wq).alloc (Nat.le_refl _) _⟩, ⟨heap_alloc_new wq _⟩, ⟨by simpa using Rows.nil _ _⟩⟩
      case round =>
        clear c20 c21 c40 c41 f40 f41
        obtain ⟨k, vo, hk, rfl, HS, HB, HX, HW⟩ := hrel
        have hqr := HB.out.size
        have hxr := blk_lt HX.out
        have BW : Aside0 (Below w.heap.size w wr) := ⟨BR.out.trans (HB.out.mono BR.out.size)⟩
        have g3 : Aside0 (wr.heap[w.heap.size + 1]? = some (.cells #[.slice L there.length cl] 58 (0, 0))) := ⟨(HB.out.block _ (by omega)).trans b3.out⟩
        have g4 : Aside0 (wr.heap[w.heap.size + 1 + 1]? = some (.cells #[.int .i64 0, .slice none 0 0] 55 (0, 0))) := ⟨(HB.out.block _ (by omega)).trans b4.out⟩
        by_cases hlt : k < cs.length
        · obtain ⟨ad, B, cp, e0, hc0, q1, q2⟩ := chain_at H.out k hlt
          subst e0
          obtain ⟨ck, hck⟩ : ∃ ck, ck = cs[k] := ⟨_, rfl⟩
          rw [← hck] at hc0 q1 q2
          replace hc0 := cell_later BW.out hc0
          have k0 : (0 : Int) ≤ (k : Int) := by omega
          have k1 : (k : Int) < (cs.length : Int) := by omega
          have hcl := Aside0.mk (iclone_calls B cp ck wr (RB.keep q1 BW.out) (HL.out ck (by rw [hck]; exact List.getElem_mem hlt)))
          have HTH : Aside0 (There wr (w.heap.size + 1) there) := ⟨L, cl, blk_cell g3.out 0, RB.keep HT.out BW.out⟩
          have HTK : Aside0 (cs.take (k + 1) = cs.take k ++ [ck]) := ⟨by rw [List.take_succ_eq_append_getElem hlt, hck]⟩
          have HMEM : Aside0 (ck ∈ cs) := ⟨by rw [hck]; exact List.getElem_mem hlt⟩
          have HK1 : Aside0 (k + 1 ≤ cs.length) := ⟨hlt⟩
          clear q1 q2 hck hlt
          go_wp2_with (fail)
          refine hcl.out.mono ?_
          rintro ex w4 ⟨v1, rfl, o4, b4'⟩
          have hdel := Aside0.mk (deletefunc_calls wr (w.heap.size + 1) there ck v1 w4 HTH.out b4' o4)
          clear o4 b4' hcl
          go_wp2_with (fail)
          refine hdel.out.mono ?_
          rintro ex w5 ⟨u, rfl, o5, b5⟩
          obtain ⟨A5, c5, rfl, _, _⟩ := OI.slice o5
          have O5 := Aside0.mk o5
          have B5 := Aside0.mk b5
          have x5 := (b5.block _ hxr).trans HX.out
          have g45 := (b5.block (w.heap.size + 1 + 1) (by omega)).trans g4.out
          have c50 := blk_cell x5 0; have c51 := blk_cell x5 1; have f50 := blk_frozen x5 0; have f51 := blk_frozen x5 1
          have c40 := blk_cell g45 0; have c41 := blk_cell g45 1; have f40 := blk_frozen g45 0; have f41 := blk_frozen g45 1
          simp only [List.getElem?_toArray, List.getElem?_cons_zero, List.getElem?_cons_succ] at c50 c51 c40 c41
          have X5 := Aside0.mk x5
          have G45 := Aside0.mk g45
          have hr5 := b5.size
          clear o5 b5 hdel x5 g45
          by_cases hn : (stay there ck).length = 0
          · have hn0 : ((stay there ck).length : Int) = 0 := by omega
            have hn1 : (((stay there ck).length : Int) == 0) = true := by simp [hn]
            have HN := Aside0.mk hn
            clear hn
            have h5 : Aside0 (nextOf e cs there = (0, [], 5)) := ⟨by
              unfold nextOf
              rw [if_neg (fun hh => hh.elim (fun h => h HP.out) HE.out), if_pos ⟨ck, HMEM.out, List.eq_nil_of_length_eq_zero HN.out⟩]⟩
            obtain ⟨r0, r1, r2⟩ := two_set (u := .int .i64 0) (v := .slice none 0 0) G45.out
            go_wp2
            refine bodyPost_ret (v := .tuple #[.agg #[.int .i64 0, .slice none 0 0], .int .i64 5]) (by simp [results, Try.results41, go_sem, r0, r1, r2]) rfl ?_
            refine ⟨none, 0, by rw [h5.out]; rfl, by rw [h5.out]; exact Rows.nil _ _, by rw [h5.out]; exact Nat.le_refl _, ?_⟩
            exact ((BW.out.trans (B5.out.mono BW.out.size)).setCell (p := ⟨w.heap.size + 1 + 1, 0, none⟩) (by show w.heap.size ≤ w.heap.size + 1 + 1; omega) _).setCell (p := ⟨w.heap.size + 1 + 1, 1, none⟩) (by show w.heap.size ≤ w.heap.size + 1 + 1; omega) _
          · have hn1 : (((stay there ck).length : Int) == 0) = false := by simp [hn]
            have hn0 : ¬ ((stay there ck).length : Int) = 0 := by omega
            have HN := Aside0.mk hn
            have HSN : Aside0 (∀ x ∈ cs.take (k + 1), stay there x ≠ []) := ⟨fun x hx => by
              rw [HTK.out] at hx
              rcases List.mem_append.1 hx with hx | hx
              · exact HS.out x hx
              · rw [List.mem_singleton.1 hx]; exact fun e => HN.out (by rw [e]; rfl)⟩
            clear hn c40 c41 f40 f41
            obtain ⟨vs, hov, hiv⟩ := HW.out.below B5.out
            have hvl : vs.length = ((cs.take k).map (stay there)).length := by have := hov.1; omega
            have HOV := Aside0.mk hov
            have HIV := Aside0.mk hiv
            have HVL := Aside0.mk hvl
            have HB5 : Aside0 (Below (wq.heap.size + 1) wr w5) := ⟨B5.out.mono hxr⟩
            have hbd : Aside0 ((((cs.take k).map (stay there)).length + 1) * 24 ≤ 140737488355328) := ⟨by
              have h7 := HP.out.1.2.2.2
              rw [List.length_map, List.length_take]; omega⟩
            have hs5 : wq.heap.size + 1 ≤ w5.heap.size := by omega
            clear hov hiv hvl
            go_wp2_with (at_builtin; refine print_append_cells (w0 := wr) (wq.heap.size + 1) rfl (.tmp 39) (.tmp 41) 53 58 (.slice none 0 0) 1 24 rfl Try.underlying53 info58' rfl (by decide) (by decide) vo _ vs [.slice A5 (stay there ck).length c5] rfl rfl rfl (by simp [Value.oneCell']) HOV.out HB5.out hs5 hbd.out ?_; intro v6 w6 o6 b6 g6 a6; have O6 := Aside0.mk o6; have B6 := Aside0.mk b6; have G6 := Aside0.mk g6; have x6 := (b6.block wq.heap.size (Nat.lt_succ_self _)).trans HX.out; have c60 := blk_cell x6 0; have c61 := blk_cell x6 1; have f60 := blk_frozen x6 0; have f61 := blk_frozen x6 1; simp only [List.getElem?_toArray, List.getElem?_cons_zero, List.getElem?_cons_succ] at c60 c61; have X6 := Aside0.mk x6; obtain ⟨A6, c6, rfl⟩ := own_hdr o6; clear o6 b6 g6 a6 x6)
            go_roundw
            case rel =>
              have hrows : Rows w6 (wq.heap.size + 1) (.slice A6 (((cs.take k).map (stay there)).length + 1) c6) (((cs.take k).map (stay there)) ++ [stay there ck]) :=
                Rows.appended HIV.out HVL.out HOV.out O6.out (Chn.of O5.out (by omega)) G6.out
              have hmap : (cs.take (k + 1)).map (stay there) = (cs.take k).map (stay there) ++ [stay there ck] := by rw [HTK.out, List.map_append]; rfl
              have hlk : ((cs.take k).map (stay there)).length = k := by have := HK1.out; rw [List.length_map, List.length_take]; omega
              rw [hlk] at hrows
              refine ⟨k + 1, .slice A6 (k + 1) c6, HK1.out, by go_num, HSN, ⟨(HB.out.trans (B6.out.mono (Nat.le_succ _))).setCell (p := ⟨wq.heap.size, 1, none⟩) (Nat.le_refl _) _⟩, ⟨blk_set X6.out 1 (.slice A6 (k + 1) c6)⟩, ⟨by rw [hmap]; exact hrows.set (i := 1) (u := .slice A6 (k + 1) c6) (Nat.lt_succ_self _)⟩⟩
            case measure => have := HK1.out; simp [intOf]; omega
        · have HNN : Aside0 (nextOf e cs there = (e + 1, cs.map (stay there), 0)) := ⟨by
            have hs := HS.out
            rw [List.take_of_length_le (by omega)] at hs
            unfold nextOf
            rw [if_neg (fun hh => hh.elim (fun h => h HP.out) HE.out), if_neg (fun ⟨x, hx, e0⟩ => hs x hx e0)]⟩
          have RW : Aside0 (Rows wr (wq.heap.size + 1) vo (cs.map (stay there))) := ⟨by have := HW.out; rwa [List.take_of_length_le (by omega)] at this⟩
          have g40 := blk_cell g4.out 0; have g41 := blk_cell g4.out 1; have f40 := blk_frozen g4.out 0; have f41 := blk_frozen g4.out 1
          have x40 := blk_cell HX.out 0; have x41 := blk_cell HX.out 1
          simp only [List.getElem?_toArray, List.getElem?_cons_zero, List.getElem?_cons_succ] at g40 g41 x40 x41
          obtain ⟨Ao, co, rfl, hco, hrl⟩ := Rows.read RW.out
          have HRL := Aside0.mk hrl
          have HCO := Aside0.mk hco
          clear hrl hco
          obtain ⟨r0, r1, r2⟩ := two_set (u := .int .i64 (e + 1)) (v := .slice Ao (cs.map (stay there)).length co) g4.out
          have R0 := Aside0.mk r0; have R1 := Aside0.mk r1; have R2 := Aside0.mk r2
          clear r0 r1 r2
          go_wp2
          refine bodyPost_ret (v := .tuple #[.agg #[.int .i64 (e + 1), .slice Ao (cs.map (stay there)).length co], .int .i64 0]) (by have r0 := R0.out; have r1 := R1.out; have r2 := R2.out; simp only [List.length_map] at r0 r1 r2 ⊢; simp [results, Try.results41, go_sem, r0, r1, r2]) rfl ?_
          refine ⟨Ao, co, by rw [HNN.out], ?_, by rw [HNN.out]; exact HCO.out, ?_⟩
          · rw [HNN.out]
            have hset := (RW.out.set (b := w.heap.size + 1 + 1) (i := 0) (u := .int .i64 (e + 1)) (by omega)).set (b := w.heap.size + 1 + 1) (i := 1) (u := .slice Ao (cs.map (stay there)).length co) (by omega)
            simpa using hset.weaken (b0 := w.heap.size) (by have := BR.out.size; omega)
          · simpa using (BW.out.setCell (p := ⟨w.heap.size + 1 + 1, 0, none⟩) (by show w.heap.size ≤ w.heap.size + 1 + 1; omega) (.int .i64 (e + 1))).setCell (p := ⟨w.heap.size + 1 + 1, 1, none⟩) (by show w.heap.size ≤ w.heap.size + 1 + 1; omega) (.slice Ao (cs.map (stay there)).length co)
  · have hd : decide (PR e cs) = false := decide_eq_false hp
    rw [hd]
    have h1 : Aside0 (nextOf e cs there = (0, [], 1)) := ⟨by unfold nextOf; rw [if_pos (.inl hp)]⟩
    obtain ⟨r0, r1, r2⟩ := two_set (u := .int .i64 0) (v := .slice none 0 0) b4.out
    clear hp hd
    go_wp2
    refine bodyPost_ret (v := .tuple #[.agg #[.int .i64 0, .slice none 0 0], .int .i64 1]) (by simp [results, Try.results41, go_sem, r0, r1, r2]) rfl ?_
    refine ⟨none, 0, by rw [h1.out]; rfl, by rw [h1.out]; exact Rows.nil _ _, by rw [h1.out]; exact Nat.le_refl _, ?_⟩
    exact (BR.out.setCell (p := ⟨w.heap.size + 1 + 1, 0, none⟩) (by show w.heap.size ≤ w.heap.size + 1 + 1; omega) _).setCell (p := ⟨w.heap.size + 1 + 1, 1, none⟩) (by show w.heap.size ≤ w.heap.size + 1 + 1; omega) _
end Go.Proofs.Ytmdnokfmlbjbhaa
