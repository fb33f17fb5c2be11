/- PlanAll: the walk. -/
import Derived.Test.YtmdnokfmlbjbhaaPaA
import Derived.Test.YtmdnokfmlbjbhaaPlJ
import Derived.Test.YtmdnokfmlbjbhaaMapA
namespace Go.Proofs.Ytmdnokfmlbjbhaa
open Go.RowKit Go.Maps Go.Proofs.YtmdnokfmlbjbhaaW.PrintWords
set_option linter.unusedVariables false
set_option linter.unusedSimpArgs false

theorem oi_grown {w w' : World} {base : Nat} {v : Value} {xs : List Int} {row : Option Nat} (h : OI w base v xs) (hg : w.grownBy w' row) (hn : ∀ k, v.ownBlock = some k → row ≠ some k) : OI w' base v xs :=
  ((Upd.refl (fun k => row = some k) w).grown hg (fun k e => .inl e)).own h hn
theorem blk_kept {w w' : World} {row : Option Nat} {k : Nat} {o : Obj} (h : w.heap[k]? = some o) (hg : w.grownBy w' row) (hn : row ≠ some k) : w'.heap[k]? = some o :=
  (hg.block k (Array.getElem?_eq_some_iff.1 h).1 (fun e => hn e.symm)).trans h

set_option maxHeartbeats 4000000 in
set_option maxRecDepth 100000 in
theorem all_walk (u c at_ : Int) (w : World) (hu : Wf u) (hc : Wf c) (ha : Wf at_) :
    Calls Try.prog 7 #[.int .i64 u, .int .i64 c, .int .i64 at_] w fun ex w' => ex = .returned (.bool true) ∧ Below w.heap.size w w' := by
  have hmm := @run_makeMap Try.prog
  by_cases hok : okUC u c
  · obtain ⟨un, rfl⟩ : ∃ n : Nat, u = n := ⟨u.toNat, by have := hok.1; omega⟩
    obtain ⟨cn, rfl⟩ : ∃ n : Nat, c = n := ⟨c.toNat, by have := hok.2.2.1; omega⟩
    have hf := Aside0.mk (fun W => first_calls (first_ok hok).1 W)
    have HF := Aside0.mk (first_ok hok).2
    have HOK := Aside0.mk hok
    by_cases hneg : at_ < 0
    · clear hok
      go_enter Try.func7, Try.ntmps7
      go_wp2_with (first
        | (go_at_call 39; refine (speaks11_calls _).mono ?_; rintro ex w1 ⟨rfl, b1⟩)
        | (go_at_call 40; refine (hf.out _).mono ?_; rintro ex w2 ⟨L, cap, rfl, r2, l2, b2⟩))
      go_ret
      exact ⟨rfl, (b1.trans (b2.mono b1.size)).alloc (Nat.le_trans b1.size b2.size) _⟩
    · obtain ⟨n, rfl⟩ : ∃ n : Nat, at_ = n := ⟨at_.toNat, by omega⟩
      by_cases hbig : (1099511627776 : Int) < n
      · have hb1 : decide ((1099511627776 : Int) < n) = true := decide_eq_true hbig
        clear hok hbig
        go_enter Try.func7, Try.ntmps7
        go_wp2_with (first
          | (go_at_call 39; refine (speaks11_calls _).mono ?_; rintro ex w1 ⟨rfl, b1⟩)
          | (go_at_call 40; refine (hf.out _).mono ?_; rintro ex w2 ⟨L, cap, rfl, r2, l2, b2⟩))
        go_ret
        exact ⟨rfl, (b1.trans (b2.mono b1.size)).alloc (Nat.le_trans b1.size b2.size) _⟩
      · have hb1 : decide ((1099511627776 : Int) < n) = false := decide_eq_false hbig
        have HBIG : Aside0 ((n : Int) ≤ 1099511627776) := ⟨by omega⟩
        have hc7 : (cn : Int) ≤ 7 := by have := hok.2.1; have := hok.2.2.2; omega
        have hu7 : (un : Int) ≤ 7 := hok.2.1
        clear hok hbig
        go_enter Try.func7, Try.ntmps7
        go_upto_region 6 with (first
          | (go_at_call 39; refine (speaks11_calls _).mono ?_; rintro ex w1 ⟨rfl, b1⟩)
          | (go_at_call 40; refine (hf.out _).mono ?_; rintro ex w2 ⟨L, cap, rfl, r2, l2, b2⟩))
        have B2 := Aside0.mk (b1.trans (b2.mono b1.size))
        have R2 := Aside0.mk r2
        obtain ⟨r, hr⟩ : ∃ r, r = n % cn := ⟨_, rfl⟩
        have HR : Aside0 (r = n % cn ∧ r < cn) := ⟨hr, by rw [hr]; exact Nat.mod_lt _ (by have := HOK.out.2.2.1; omega)⟩
        clear b1 b2 r2 hf hr
        go_wp2
        have W3 : Aside0 (Below w2.heap.size w2 (((w2.alloc (.cells #[.int .i64 0, .slice L (chainsOf un cn).length cap] 55)).alloc (.map #[] 0)).alloc (.cells #[] 3))) := ⟨(((Below.refl _ w2).alloc (Nat.le_refl _) _).alloc (by simp only [World.size_alloc]; omega) _).alloc (by simp only [World.size_alloc]; omega) _⟩
        go_loopw [10, 11] (fun v10 v11 W => ∃ (i : Nat), i ≤ cn ∧ v11 = .int .i64 i ∧ Aside0 (OI W (w2.heap.size + 2) v10 (allOf un cn r i)) ∧ Aside0 (Seen W (w2.heap.size + 1) (allOf un cn r i)) ∧ Aside0 (W.heap[w2.heap.size]? = some (.cells #[.int .i64 0, .slice L (chainsOf un cn).length cap] 55 (0, 0))) ∧ Aside0 (Below w2.heap.size w2 W)) (fun _ v11 _ => cn - (intOf v11).toNat)
        case atStart =>
          refine ⟨0, by omega, rfl, ⟨?_⟩, ⟨?_⟩, ⟨?_⟩, W3⟩
          · have := OI.empty ((w2.alloc (.cells #[.int .i64 0, .slice L (chainsOf un cn).length cap] 55)).alloc (.map #[] 0)) (w2.heap.size + 2) (by simp only [World.size_alloc]; omega)
            simpa [allOf] using this
          · have := (Seen.made (w2.alloc (.cells #[.int .i64 0, .slice L (chainsOf un cn).length cap] 55))).kept (World.grownBy_alloc _ (.cells #[] 3) none) (by simp)
            simpa [allOf] using this
          · exact (Below.heap_alloc _ _ _ (by simp only [World.size_alloc]; omega)).trans ((Below.heap_alloc _ _ _ (by simp only [World.size_alloc]; omega)).trans (heap_alloc_new w2 _))
        case round =>
          clear W3
          obtain ⟨i, hi, rfl, HA, HS, HX, HB⟩ := hrel
          obtain ⟨wo, rfl⟩ : ∃ wo : World, wo = wr := ⟨_, rfl⟩
          have x0 := blk_cell HX.out 0; have x1 := blk_cell HX.out 1
          simp only [List.getElem?_toArray, List.getElem?_cons_zero, List.getElem?_cons_succ] at x0 x1
          by_cases hlt : i < cn
          · have hpl := place_some (w0 := wo) 0 L cap (chainsOf un cn) ((n : Int) + (i : Int)) wo (Kd.C_below R2.out HB.out) (fun x hx => by have := chains_le HOK.out x hx; omega) ⟨by omega, by have := HBIG.out; omega⟩ HF.out.1 (by omega) (Below.refl _ _)
            rw [place_first HOK.out n i, ← HR.out.1] at hpl
            have HPL := Aside0.mk hpl
            obtain ⟨ch, hch⟩ : ∃ ch, ch = chainAt un cn (r + i) := ⟨_, rfl⟩
            rw [← hch] at HPL
            have hwi : wrap64 ((n : Int) + (i : Int)) = (n : Int) + (i : Int) := IntWalk.wrap64_in _ (by have := HBIG.out; omega)
            have HCH := Aside0.mk hch
            have HLT : Aside0 (i < cn) := ⟨hlt⟩
            clear hpl hch
            go_wp2_with (fail)
            simp only [hwi]
            refine HPL.out.mono ?_
            rintro ex w4 ⟨g, cg, rfl, OC, KC, BC⟩
            have HA4 := Aside0.mk (KC.out _ _ _ HA.out)
            have HS4 := Aside0.mk (HS.out.below BC.out)
            have HX4 : Aside0 (w4.heap[w2.heap.size]? = some (.cells #[.int .i64 0, .slice L (chainsOf un cn).length cap] 55 (0, 0))) := ⟨(BC.out.block _ (blk_lt HX.out)).trans HX.out⟩
            have HB4 : Aside0 (Below w2.heap.size w2 w4) := ⟨HB.out.trans (BC.out.mono HB.out.size)⟩
            have gw : wo.heap.size ≤ g := own_base OC.out _ rfl
            have gl : g < w4.heap.size := own_lt OC.out _ rfl
            have so := blk_lt HX.out
            have sm := HS.out.lt
            have HNE : Aside0 (∀ k, u10.ownBlock = some k → k ≠ g) := ⟨fun k hk => by have := own_lt HA.out k hk; omega⟩
            have OC4 : Aside0 (OI w4 (w2.heap.size + 2) (.slice (some ⟨g, 0, none⟩) ch.length cg) ch) := ⟨own_weaken OC.out (by omega)⟩
            have mc : ch.length ≤ 9223372036854775807 := by
              obtain ⟨A', c', e', r', _⟩ := OI.slice OC.out
              exact Kd.C_max r'
            have HLI : Aside0 (OI w4 (w2.heap.size + 2) u10 (allOf un cn r i)) := HA4
            clear HPL hwi KC OC BC x0 x1 HA HS HX HB
            go_wp2_with (fail)
            go_loopw [10, 55] (fun v10 v55 W => ∃ (j : Nat), j ≤ ch.length ∧ v55 = .int .i64 j ∧ Aside0 (OI W (w2.heap.size + 2) v10 (allOf un cn r i ++ ch.take j)) ∧ Aside0 (∀ k, v10.ownBlock = some k → k ≠ g) ∧ Aside0 (OI W (w2.heap.size + 2) (.slice (some ⟨g, 0, none⟩) ch.length cg) ch) ∧ Aside0 (Seen W (w2.heap.size + 1) (allOf un cn r i ++ ch.take j)) ∧ Aside0 (W.heap[w2.heap.size]? = some (.cells #[.int .i64 0, .slice L (chainsOf un cn).length cap] 55 (0, 0))) ∧ Aside0 (Below w2.heap.size w2 W)) (fun _ v55 _ => ch.length - (intOf v55).toNat)
            case atStart => exact ⟨0, by omega, rfl, by simpa using HLI, HNE, OC4, by simpa using HS4, HX4, HB4⟩
            case round =>
              clear HA4 HS4 HX4 HB4 HNE OC4 HLI
              obtain ⟨j, hj, rfl, HA, HNE, OC, HS, HX, HB⟩ := hrel
              obtain ⟨wi, rfl⟩ : ∃ wi : World, wi = wr := ⟨_, rfl⟩
              by_cases hlj : j < ch.length
              · have aj := (iown_at OC.out j hlj).1
                have j0 : (0 : Int) ≤ (j : Int) := by omega
                have j1 : (j : Int) < (ch.length : Int) := by omega
                obtain ⟨q1, q2, q3, q4⟩ := all_new HOK.out HR.out.2 HLT.out (j := j) (by rw [← HCH.out]; exact hlj)
                rw [← HCH.out] at q1 q2 q3 q4
                have hlook := HS.out.look (rd ch j) ⟨by omega, by omega⟩
                rw [decide_eq_false q1] at hlook
                have HT : Aside0 (ch.take (j + 1) = ch.take j ++ [rd ch j]) := ⟨take_succ_rd ch j hlj⟩
                obtain ⟨x, hx⟩ : ∃ x, x = rd ch j := ⟨_, rfl⟩
                rw [← hx] at aj q2 q3 hlook HT
                obtain ⟨pre, hpre⟩ : ∃ pre, pre = allOf un cn r i ++ ch.take j := ⟨_, rfl⟩
                rw [← hpre] at HA HS q4
                have HPRE := Aside0.mk hpre
                have HJ : Aside0 (j < ch.length) := ⟨hlj⟩
                have Q4 : Aside0 (pre.length < 8) := ⟨by omega⟩
                have hsz := HS.out.lt
                have hnb : Aside0 (∀ k, u10.ownBlock = some k → (some (w2.heap.size + 1) : Option Nat) ≠ some k) := ⟨fun k hk e => by have := own_base HA.out k hk; injection e with e; omega⟩
                have hgb : Aside0 ((some (w2.heap.size + 1) : Option Nat) ≠ some g) := ⟨fun e => by injection e with e; omega⟩
                clear hx hpre q1 q4
                go_wp2_with (first
                  | (at_mapUpdate; refine wpList_seen rfl _ _ _ rfl (w2.heap.size + 1) pre x rfl HS.out rfl rfl ⟨by omega, by omega⟩ (by have := Q4.out; omega) ?_; intro w5 s5 g5
                     have HS5 := Aside0.mk s5
                     have HG5 := Aside0.mk g5
                     have HA5 := Aside0.mk ((oi_grown HA.out g5 hnb.out).alloc (.cells #[.int .i64 x] 3))
                     have hz5 := g5.size
                     clear s5 g5)
                  | (at_builtin; refine wpList_appIG 76 rfl rfl (.tmp 73) (.tmp 75) rfl (w2.heap.size + 2) u10 pre [x] rfl rfl HA5.out (C_one w5 .i64 3 x) (by simp only [World.size_alloc]; omega) (by have := Q4.out; simp; omega) ?_; intro v6 w6 o6 g6 a6
                     have HA6 := Aside0.mk o6
                     have HG6 := Aside0.mk ((World.grownBy_alloc w5 (.cells #[.int .i64 x] 3) u10.ownBlock).trans g6)
                     have HN6 := Aside0.mk a6
                     clear o6 g6 a6))
                go_roundw
                case rel =>
                  refine ⟨j + 1, by have := HJ.out; omega, by go_num, ⟨?_⟩, ⟨fun k hk => ?_⟩, ⟨?_⟩, ⟨?_⟩, ⟨?_⟩, ⟨?_⟩⟩
                  · rw [HT.out, ← List.append_assoc, ← HPRE.out]; exact HA6.out
                  · rcases HN6.out with e | ⟨b, e, hb⟩
                    · exact HNE.out k (by rw [← e]; exact hk)
                    · rw [e] at hk; injection hk with hk; have := own_lt OC.out g rfl; simp only [World.size_alloc] at hb; omega
                  · exact oi_grown (oi_grown OC.out HG5.out (fun k e => by injection e with e; subst e; exact hgb.out)) HG6.out (fun k e => by injection e with e; subst e; exact fun e' => HNE.out g e' rfl)
                  · rw [HT.out, ← List.append_assoc, ← HPRE.out]
                    exact HS5.out.kept HG6.out (fun e => hnb.out _ e.symm rfl)
                  · exact blk_kept (blk_kept HX.out HG5.out (by intro e; injection e with e; omega)) HG6.out (fun e => by have := own_base HA.out _ e; omega)
                  · exact (HB.out.grown HG5.out HB.out.size (fun k e => by injection e with e; omega)).grown HG6.out (by omega) (fun k e => by have := own_base HA.out _ e; omega)
                case measure => have := HJ.out; simp [intOf]; omega
              · have HJ : Aside0 (j = ch.length) := ⟨by omega⟩
                go_wp2
                go_roundw
                case rel =>
                  have e1 : allOf un cn r i ++ ch.take j = allOf un cn r (i + 1) := by rw [HJ.out, List.take_length, HCH.out, allOf_succ]
                  exact ⟨i + 1, by have := HLT.out; omega, by go_num, ⟨by rw [← e1]; exact HA.out⟩, ⟨by rw [← e1]; exact HS.out⟩, HX, HB⟩
                case measure => have := HLT.out; simp [intOf]; omega
          · obtain rfl : i = cn := by omega
            obtain ⟨all, hall⟩ : ∃ all, all = allOf un i r i := ⟨_, rfl⟩
            rw [← hall] at HA HS
            obtain ⟨al1, al2, al3, al4, al5⟩ := all_ok HOK.out HR.out.2
            obtain ⟨A10, c10, e10, r10, l10⟩ := OI.slice HA.out
            have hnx := next_calls 0 L cap (chainsOf un i) A10 c10 all wo (Kd.C_below R2.out HB.out) r10 (fun x hx => by have := chains_le HOK.out x hx; omega) ⟨by omega, by omega⟩
            rw [hall, next_all HOK.out HR.out.2] at hnx
            rw [← hall] at al1 al2 al3 al4 hnx
            rw [al3] at e10 hnx
            subst e10
            have HNX := Aside0.mk hnx
            clear hnx hall al1 al2 al3 al4 r10 l10
            have AL5 := Aside0.mk al5
            clear al5
            have t1 : ((un : Int) != (un : Int)) = false := by simp
            go_wp2_with (fail)
            refine HNX.out.mono ?_
            rintro ex w5 ⟨Ao, co, rfl, rw5, lo5, b5⟩
            have HX5 := Aside0.mk ((b5.block _ (blk_lt HX.out)).trans HX.out)
            have HB5 : Aside0 (Below w2.heap.size w2 w5) := ⟨HB.out.trans (b5.mono HB.out.size)⟩
            have RW5 := Aside0.mk rw5
            have z5 := blk_lt HX5.out
            clear rw5 b5 HNX x0 x1
            go_upto_region 23 with (fail)
            obtain ⟨w6, hw6⟩ : ∃ w6, Aside0 (w6 = w5.alloc (.cells #[.int .i64 0, .slice Ao (chainsOf un i).length co] 55)) := ⟨_, ⟨rfl⟩⟩
            rw [← hw6.out]
            have hY6 : w6.heap[w5.heap.size]? = some (.cells #[.int .i64 0, .slice Ao (chainsOf un i).length co] 55 (0, 0)) := by rw [hw6.out]; exact heap_alloc_new w5 _
            have b56 : Below w5.heap.size w5 w6 := by rw [hw6.out]; exact (Below.refl _ w5).alloc (Nat.le_refl _) _
            have B56 := Aside0.mk b56
            have hX6 := (b56.block _ (blk_lt HX5.out)).trans HX5.out
            have x0 := blk_cell hX6 0; have x1 := blk_cell hX6 1
            have y0 := blk_cell hY6 0; have y1 := blk_cell hY6 1
            simp only [List.getElem?_toArray, List.getElem?_cons_zero, List.getElem?_cons_succ] at x0 x1 y0 y1
            obtain ⟨ch, hch⟩ : ∃ ch, ch = chainAt un i r := ⟨_, rfl⟩
            have hc0 : 0 < ch.length := by
              have := placeOf_pos HF.out.1 (show (0 : Int) ≤ (n : Int) + ((0 : Nat) : Int) by omega)
              rw [place_first HOK.out n 0, ← HR.out.1, Nat.add_zero, ← hch] at this
              exact this
            have HRL : Aside0 (∀ W, Aside0 (Below w6.heap.size w6 W) → RL W L (chainsOf un i)) := ⟨fun W hW => Kd.C_below R2.out (HB5.out.trans ((b56.trans (hW.out.mono b56.size)).mono HB5.out.size))⟩
            have HRA : Aside0 (∀ W, Aside0 (Below w6.heap.size w6 W) → RL W Ao (chainsOf un i)) := ⟨fun W hW => Kd.C_below (Rows.rl RW5.out) (b56.trans (hW.out.mono b56.size))⟩
            have hp1 := Aside0.mk (fun W (hW : Aside0 (Below w6.heap.size w6 W)) => place_some (w0 := w6) 0 L cap (chainsOf un i) ((n : Int) + ((0 : Nat) : Int)) W (HRL.out W hW) (fun x hx => by have := chains_le HOK.out x hx; omega) ⟨by omega, by have := HBIG.out; omega⟩ HF.out.1 (by omega) hW.out)
            have hp2 := Aside0.mk (fun W (hW : Aside0 (Below w6.heap.size w6 W)) => place_some (w0 := w6) 0 L cap (chainsOf un i) ((n : Int) + (i : Int)) W (HRL.out W hW) (fun x hx => by have := chains_le HOK.out x hx; omega) ⟨by omega, by have := HBIG.out; omega⟩ HF.out.1 (by omega) hW.out)
            rw [place_first HOK.out n 0, ← HR.out.1, Nat.add_zero, ← hch, show ((n : Int) + ((0 : Nat) : Int)) = (n : Int) from by omega] at hp1
            rw [place_first HOK.out n i, ← HR.out.1, chainAt_mod, ← hch] at hp2
            have al5 := AL5.out
            rw [← hch] at al5
            have hs1 := Aside0.mk (fun W (hW : Aside0 (Below w6.heap.size w6 W)) => (PPlanAll.tidelineref11_Same.calls 20 0 Ao co (chainsOf un i) 0 L cap (chainsOf un i) true W (HRA.out W hW) lo5 (HRL.out W hW) l2 (same_ok HOK.out).1).mono (R' := fun e w' => e = .returned (.bool true) ∧ Aside0 (Below w6.heap.size w6 w')) fun _ _ ⟨h1, h2⟩ => ⟨h1, ⟨hW.out.trans (h2.mono hW.out.size)⟩⟩)
            have hs2 : Aside0 (∀ W g1 c1 g2 c2, Aside0 (Below w6.heap.size w6 W) → OI W w6.heap.size (.slice (some ⟨g1, 0, none⟩) ch.length c1) ch → OI W w6.heap.size (.slice (some ⟨g2, 0, none⟩) ch.length c2) ch → Calls Try.prog 45 #[.slice (some ⟨g1, 0, none⟩) ch.length c1, .slice (some ⟨g2, 0, none⟩) ch.length c2] W fun e w' => e = .returned (.bool true) ∧ Aside0 (Below w6.heap.size w6 w')) := ⟨fun W g1 c1 g2 c2 hW h1 h2 => by
              obtain ⟨A1, d1, e1, r1, k1⟩ := OI.slice h1
              obtain ⟨A2, d2, e2, r2, k2⟩ := OI.slice h2
              injection e1 with ea1 _ ec1; injection e2 with ea2 _ ec2
              subst ea1 ec1 ea2 ec2
              exact (PPlanAll.tidelineref11_SameInts.calls 20 _ c1 ch _ c2 ch true W r1 k1 r2 k2 al5).mono (R' := fun e w' => e = .returned (.bool true) ∧ Aside0 (Below w6.heap.size w6 w')) fun _ _ ⟨q1, m, q2⟩ => ⟨q1, ⟨by rw [q2]; exact pw_below_drewN hW.out m⟩⟩⟩
            have hwi : wrap64 ((n : Int) + (i : Int)) = (n : Int) + (i : Int) := IntWalk.wrap64_in _ (by have := HBIG.out; omega)
            have hwi2 : IntKind.i64.wrap ((n : Int) + (i : Int)) = (n : Int) + (i : Int) := IntWalk.i64_in _ (by have := HBIG.out; omega)
            have HS0 : Aside0 (∀ W, Aside0 (Below w6.heap.size w6 W) → W.cell? ⟨w2.heap.size, 0, none⟩ = some (.int .i64 0) ∧ W.cell? ⟨w2.heap.size, 1, none⟩ = some (.slice L (chainsOf un i).length cap) ∧ W.cell? ⟨w5.heap.size, 0, none⟩ = some (.int .i64 0) ∧ W.cell? ⟨w5.heap.size, 1, none⟩ = some (.slice Ao (chainsOf un i).length co) ∧ Aside0 (Below w6.heap.size w6 W)) := ⟨fun W hW => ⟨cell_later hW.out x0, cell_later hW.out x1, cell_later hW.out y0, cell_later hW.out y1, hW⟩⟩
            have E0 := Aside0.mk (Below.refl w6.heap.size w6)
            clear al5 hch hY6 hX6 b56
            go_region_held3 (fun W => W.cell? ⟨w2.heap.size, 0, none⟩ = some (.int .i64 0) ∧ W.cell? ⟨w2.heap.size, 1, none⟩ = some (.slice L (chainsOf un i).length cap) ∧ W.cell? ⟨w5.heap.size, 0, none⟩ = some (.int .i64 0) ∧ W.cell? ⟨w5.heap.size, 1, none⟩ = some (.slice Ao (chainsOf un i).length co) ∧ Aside0 (Below w6.heap.size w6 W)) (exact HS0.out _ (by first | assumption | exact drewB (by assumption))) (first
              | (go_at_call 44; ((with_reducible refine (hs1.out _ (by first | assumption | exact drewB (by assumption))).mono ?_); rintro ex w7 ⟨rfl, E7⟩))
              | (go_at_call 43; ((with_reducible refine (hp1.out _ (by first | assumption | exact drewB (by assumption))).mono ?_); rintro ex w8 ⟨g1, c1, rfl, O1, K1, E1⟩))
              | (go_at_call 43; ((with_reducible refine (hp2.out _ (by first | assumption | exact drewB (by assumption))).mono ?_); rintro ex w9 ⟨g2, c2, rfl, O2, K2, E2⟩; have O3 := K2.out _ _ _ O1.out))
              | (go_at_call 45; ((with_reducible refine (hs2.out _ _ _ _ _ (by first | assumption | exact drewB (by assumption)) (by first | exact O3) (by exact O2.out)).mono ?_); rintro ex w10 ⟨rfl, E10⟩)))
            go_wp2
            go_ret
            exact ⟨rfl, B2.out.trans ((HB5.out.trans ((B56.out.trans (E10.out.mono B56.out.size)).mono HB5.out.size)).mono B2.out.size)⟩
  · have hf := Aside0.mk (fun W => first_calls (first_no hok) W)
    clear hok
    go_enter Try.func7, Try.ntmps7
    go_wp2_with (first
      | (go_at_call 39; refine (speaks11_calls _).mono ?_; rintro ex w1 ⟨rfl, b1⟩)
      | (go_at_call 40; refine (hf.out _).mono ?_; rintro ex w2 ⟨L, cap, rfl, _, _, b2⟩))
    all_goals
      go_ret
      exact ⟨rfl, (b1.trans (b2.mono b1.size)).alloc (Nat.le_trans b1.size b2.size) _⟩
end Go.Proofs.Ytmdnokfmlbjbhaa
