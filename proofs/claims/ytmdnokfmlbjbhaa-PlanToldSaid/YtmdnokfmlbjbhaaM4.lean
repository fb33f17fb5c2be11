/- plan.First: what it computes; law11's example; PlanShrinks: the plain law: the units that stay are found, in their order; PlanShrinks: the walk. -/
import Derived.Test.YtmdnokfmlbjbhaaM3
import Derived.Test.YtmdnokfmlbjbhaaPPlanShrinksx1

namespace Go.Proofs.Ytmdnokfmlbjbhaa
open Go.RowKit Go.Proofs.YtmdnokfmlbjbhaaW.PrintWords
open Go.Proofs.Ytmdnokfmlbjbhaa.PPlanShrinks
set_option linter.unusedVariables false
set_option linter.unusedSimpArgs false

def chainsOf (u c : Nat) : List (List Int) := (List.range c).map fun i => ((List.range u).filter fun n => n % c = i).map Int.ofNat
def okUC (u c : Int) : Prop := 1 ≤ u ∧ u ≤ 7 ∧ 1 ≤ c ∧ c ≤ u
theorem first_fin : ∀ u : Fin 8, ∀ c : Fin 8, 1 ≤ u.val → 1 ≤ c.val → c.val ≤ u.val → plan_First.f 20 (u.val : Int) (c.val : Int) = some (0, chainsOf u.val c.val, 0) ∧ PR 0 (chainsOf u.val c.val) ∧ (chainsOf u.val c.val).length = c.val := by
  decide +kernel
theorem first_ok {u c : Nat} (h : okUC u c) : plan_First.f 20 (u : Int) (c : Int) = some (0, chainsOf u c, 0) ∧ PR 0 (chainsOf u c) ∧ (chainsOf u c).length = c :=
  first_fin ⟨u, by have := h.2.1; omega⟩ ⟨c, by have := h.2.1; have := h.2.2.2; omega⟩ (by have := h.1; simp; omega) (by have := h.2.2.1; simp; omega) (by have := h.2.2.2; simp; omega)
theorem first_no {u c : Int} (h : ¬ okUC u c) : plan_First.f 20 u c = some (0, [], 1) := by
  unfold plan_First.f
  by_cases h1 : u < 1
  · rw [if_pos h1]; rfl
  · rw [if_neg h1]
    by_cases h2 : u > 7
    · rw [if_pos h2]; rfl
    · rw [if_neg h2]
      by_cases h3 : c < 1
      · rw [if_pos h3]; rfl
      · rw [if_neg h3]
        have : decide (c > u) = true := decide_eq_true (by unfold okUC at h; omega)
        rw [this]; rfl
theorem speaks11_ok : tidelinelaw11_speaks.f 20 = some true := by decide +kernel
theorem speaks11_calls (w : World) : Calls Try.prog 39 #[] w fun e w' => e = .returned (.bool true) ∧ Below w.heap.size w w' :=
  tidelinelaw11_speaks.calls 20 true w speaks11_ok
theorem first_calls {u c : Int} {cs : List (List Int)} {k : Int} (h : plan_First.f 20 u c = some (0, cs, k)) (w : World) :
    Calls Try.prog 40 #[.int .i64 u, .int .i64 c] w fun e w' => ∃ L cap, e = .returned (.tuple #[.agg #[.int .i64 0, .slice L cs.length cap], .int .i64 k]) ∧ RL w' L cs ∧ cs.length ≤ cap ∧ Below w.heap.size w w' :=
  (plan_First.calls 20 u c 0 cs k w h).mono fun _ _ ⟨v, he, hs, hb⟩ => by
    obtain ⟨L, cap, rfl, hc, hr⟩ := Kd.S_reads hs
    exact ⟨L, cap, he, hr, hc, hb⟩
end Go.Proofs.Ytmdnokfmlbjbhaa

namespace Go.Proofs.Ytmdnokfmlbjbhaa
open Go.RowKit Go.Proofs.YtmdnokfmlbjbhaaW.PrintWords
set_option linter.unusedVariables false
set_option linter.unusedSimpArgs false

theorem stay_split (l a : List Int) (j : Nat) : stay l a = stay l (a.take j) ++ stay l (a.drop j) := by
  unfold stay; rw [← List.filter_append, List.take_append_drop]
theorem greedy_hit {l a : List Int} {j k : Nat} (hj : j < a.length) (h : (stay l (a.take j)).length ≤ k) : (stay l (a.take (j + 1))).length ≤ k + 1 := by
  rw [stay_snoc l a j hj, List.length_append]
  split <;> simp <;> omega
theorem greedy_miss {l a : List Int} {j k : Nat} (hj : j < a.length) (h : (stay l (a.take j)).length ≤ k) (hn : ¬ (k < (stay l a).length ∧ rd (stay l a) k = rd a j)) : (stay l (a.take (j + 1))).length ≤ k := by
  have hs := stay_snoc l a j hj
  by_cases hm : rd a j ∈ l
  · rw [if_pos hm] at hs
    rcases Nat.lt_or_ge (stay l (a.take j)).length k with hlt | hge
    · rw [hs, List.length_append]; simp; omega
    · have hk : k = (stay l (a.take j)).length := by omega
      exfalso
      apply hn
      have hb := stay_split l a (j + 1)
      rw [hs] at hb
      rw [hb]
      refine ⟨by rw [hk]; simp, ?_⟩
      rw [rd_nat, List.getD_eq_getElem?_getD, List.append_assoc, List.getElem?_append_right (by omega), hk, Nat.sub_self]
      rfl
  · rw [if_neg hm, List.append_nil] at hs
    rw [hs]; exact h
theorem greedy_end {l a : List Int} {k : Nat} (h : (stay l (a.take a.length)).length ≤ k) (h1 : k ≤ (stay l a).length) : k = (stay l a).length := by
  rw [List.take_length] at h; omega
theorem placeOf_map {e e' at_ : Int} {cs : List (List Int)} {l : List Int} (h : PR e cs) (h' : PR e' (cs.map (stay l))) (h0 : 0 ≤ at_) : placeOf e' (cs.map (stay l)) at_ = stay l (placeOf e cs at_) := by
  unfold placeOf
  rw [if_pos ⟨h', h0⟩, if_pos ⟨h, h0⟩, List.length_map, List.getD_eq_getElem?_getD, List.getD_eq_getElem?_getD, List.getElem?_map]
  have hl : 0 < cs.length := h.1.2.2.1
  cases hx : cs[(at_ % (cs.length : Int)).toNat]? with
  | none => rfl
  | some x => rfl
theorem flatten_stay (l : List Int) (cs : List (List Int)) : (cs.map (stay l)).flatten = stay l cs.flatten := by
  unfold stay
  induction cs with
  | nil => rfl
  | cons c cs ih => rw [List.map_cons, List.flatten_cons, List.flatten_cons, List.filter_append, ih]
/-- the next plan may be -/
theorem PR_next {e : Int} {cs : List (List Int)} {l : List Int} (h : PR e cs) (he : e ≠ 2147483647) (hs : ∀ c ∈ cs, stay l c ≠ []) : PR (e + 1) (cs.map (stay l)) := by
  obtain ⟨⟨h1, h2, h3, h4⟩, h5, h6, h7⟩ := h
  refine ⟨⟨by omega, by omega, by rw [List.length_map]; exact h3, by rw [List.length_map]; exact h4⟩, fun c hc => ?_, fun n hn => ?_, ?_⟩
  · obtain ⟨c', hc', rfl⟩ := List.mem_map.1 hc
    exact hs c' hc'
  · rw [flatten_stay] at hn
    exact h6 n (List.mem_filter.1 hn).1
  · rw [flatten_stay]
    exact h7.filter _
end Go.Proofs.Ytmdnokfmlbjbhaa

namespace Go.Proofs.Ytmdnokfmlbjbhaa
open Go.RowKit Go.Proofs.YtmdnokfmlbjbhaaW.PrintWords
set_option linter.unusedVariables false
set_option linter.unusedSimpArgs false

theorem chains_le {u c : Nat} (h : okUC u c) : ∀ x ∈ chainsOf u c, x.length ≤ 7 := by
  intro x hx
  unfold chainsOf at hx
  obtain ⟨i, _, rfl⟩ := List.mem_map.1 hx
  rw [List.length_map]
  have h1 := List.length_filter_le (fun n => decide (n % c = i)) (List.range u)
  rw [List.length_range] at h1
  have := h.2.1
  omega
theorem tr_ints : TR (Kd.slice 3 (Kd.int .i64)) (fun _ => True) 58 := (TR.slice Try.underlying58 (by kernel_rfl) (tr_i64 Try.underlying3)).imp fun _ _ => trivial
theorem tr_intss : TR (Kd.slice 58 (Kd.slice 3 (Kd.int .i64))) (fun _ => True) 53 := (TR.slice Try.underlying53 (by kernel_rfl) tr_ints).imp fun _ _ => trivial

theorem placeOf_get {e at_ : Int} {cs : List (List Int)} (h : PR e cs) (h0 : 0 ≤ at_) : placeOf e cs at_ ∈ cs := by
  unfold placeOf
  rw [if_pos ⟨h, h0⟩]
  have hl : 0 < cs.length := h.1.2.2.1
  have h1 := Int.emod_nonneg at_ (show (cs.length : Int) ≠ 0 by omega)
  have h2 := Int.emod_lt_of_pos at_ (show (0 : Int) < cs.length by omega)
  have hi : (at_ % (cs.length : Int)).toNat < cs.length := by omega
  rw [List.getD_eq_getElem?_getD, List.getElem?_eq_getElem hi]
  exact List.getElem_mem hi
theorem placeOf_pos {e at_ : Int} {cs : List (List Int)} (h : PR e cs) (h0 : 0 ≤ at_) : 0 < (placeOf e cs at_).length := List.length_pos_iff.2 (h.2.1 _ (placeOf_get h h0))
theorem placeOf_mem {e at_ : Int} {cs : List (List Int)} (h : PR e cs) (h0 : 0 ≤ at_) : ∀ x ∈ placeOf e cs at_, 0 ≤ x ∧ x < 7 := fun x hx => h.2.2.1 x (List.mem_flatten.2 ⟨_, placeOf_get h h0, hx⟩)
/-- Place, of a plan that may be; what rows were there from n on are there still -/
theorem place_some {w0 : World} (e : Int) (A : Option Addr) (c : Nat) (cs : List (List Int)) (at_ : Int) (w : World) (h : RL w A cs) (hl : ∀ x ∈ cs, x.length * 8 ≤ 140737488355328) (ha : Wf at_) (hp : PR e cs) (h0 : 0 ≤ at_) (hB : Below w0.heap.size w0 w) :
    Calls Try.prog 43 #[.agg #[.int .i64 e, .slice A cs.length c], .int .i64 at_] w fun ex w' => ∃ g c, ex = .returned (.slice (some ⟨g, 0, none⟩) (placeOf e cs at_).length c) ∧ Aside0 (OI w' w0.heap.size (.slice (some ⟨g, 0, none⟩) (placeOf e cs at_).length c) (placeOf e cs at_)) ∧ Aside0 (∀ n u ys, OI w n u ys → OI w' n u ys) ∧ Aside0 (Below w0.heap.size w0 w') := by
  refine (place_calls e A c cs at_ w h hl ha).mono ?_
  rintro ex w' ⟨v, rfl, ho, hb⟩
  obtain ⟨g, c', rfl, h1, h2, h3⟩ := OI.some ho (placeOf_pos hp h0)
  exact ⟨g, c', rfl, ⟨own_weaken ho hB.size⟩, ⟨fun n u ys hu => (Upd.of_below (S := fun _ => False) hb).own hu (fun _ _ e => e)⟩, ⟨hB.trans (hb.mono hB.size)⟩⟩

set_option maxHeartbeats 4000000 in
set_option maxRecDepth 100000 in
theorem shrinks_walk (u c : Int) (A : Option Addr) (cp : Nat) (th : List (List Int)) (at_ : Int) (w : World) (h : RL w A th) (ha : Wf at_) (hu : Wf u) (hc : Wf c) :
    Calls Try.prog 6 #[.int .i64 u, .int .i64 c, .slice A th.length cp, .int .i64 at_] w fun ex w' => ex = .returned (.bool true) ∧ Below w.heap.size w w' := by
  have H := Aside0.mk h
  have m0 := Kd.C_max h
  have HA := Aside0.mk ha
  clear h ha
  by_cases h20 : (20 : Int) < (th.length : Int)
  · go_enter Try.func6, Try.ntmps6
    go_wp2_with (go_at_call 39; refine (speaks11_calls _).mono ?_; rintro ex w1 ⟨rfl, b1⟩)
    go_ret
    exact ⟨rfl, b1⟩
  · by_cases hneg : at_ < 0
    · go_enter Try.func6, Try.ntmps6
      go_wp2_with (go_at_call 39; refine (speaks11_calls _).mono ?_; rintro ex w1 ⟨rfl, b1⟩)
      go_ret
      exact ⟨rfl, b1⟩
    · by_cases hok : okUC u c
      · obtain ⟨un, rfl⟩ : ∃ n : Nat, u = n := ⟨u.toNat, by have := hok.1; omega⟩
        obtain ⟨cn, rfl⟩ : ∃ n : Nat, c = n := ⟨c.toNat, by have := hok.2.2.1; omega⟩
        have hf := Aside0.mk (fun W => first_calls (first_ok hok).1 W)
        have HF := Aside0.mk (first_ok hok).2
        have HOK := Aside0.mk hok
        clear hok
        go_enter Try.func6, Try.ntmps6
        go_wp2_with (first
          | (go_at_call 39; refine (speaks11_calls _).mono ?_; rintro ex w1 ⟨rfl, b1⟩)
          | (go_at_call 40; refine (hf.out _).mono ?_; rintro ex w2 ⟨L, cap, rfl, r2, l2, b2⟩))
        have B2 := Aside0.mk (b1.trans (b2.mono b1.size))
        have R2 := Aside0.mk r2
        clear b1 b2 r2 hf
        go_loopw [54] (fun v54 W => ∃ (k : Nat) (e' : Int) (cs' : List (List Int)) (Lp : Option Addr) (cp' : Nat), k ≤ th.length ∧ v54 = .int .i64 k ∧ Aside0 (W.heap[w2.heap.size]? = some (.cells #[.int .i64 e', .slice Lp cs'.length cp'] 55 (0, 0))) ∧ Aside0 (RL W Lp cs') ∧ Aside0 (PR e' cs' ∧ cs'.length = cn ∧ e' ≤ k ∧ ∀ x ∈ cs', x.length ≤ 7) ∧ Aside0 (Below w.heap.size w W)) (fun v54 _ => th.length - (intOf v54).toNat)
        case atStart => exact ⟨0, 0, chainsOf un cn, L, cap, by omega, rfl, ⟨heap_alloc_new w2 _⟩, ⟨Kd.C_below R2.out ((Below.refl _ w2).alloc (Nat.le_refl _) _)⟩, ⟨HF.out.1, HF.out.2, Int.le_refl _, chains_le HOK.out⟩, ⟨B2.out.alloc B2.out.size _⟩⟩
        case round =>
          obtain ⟨k, e', cs', Lp, cp', hk, rfl, HX, HRL, HP, HB⟩ := hrel
          obtain ⟨wo, rfl⟩ : ∃ wo : World, wo = wr := ⟨_, rfl⟩
          have hx0 := blk_lt HX.out
          have x0 := blk_cell HX.out 0; have x1 := blk_cell HX.out 1; have y0 := blk_frozen HX.out 0; have y1 := blk_frozen HX.out 1
          simp only [List.getElem?_toArray, List.getElem?_cons_zero, List.getElem?_cons_succ] at x0 x1
          by_cases hlt : k < th.length
          · obtain ⟨ad, B, cb, e0, hc0, q1, q2⟩ := chain_at H.out k hlt
            subst e0
            obtain ⟨l, hl⟩ : ∃ l, l = th[k] := ⟨_, rfl⟩
            rw [← hl] at hc0 q1 q2
            replace hc0 := cell_later HB.out hc0
            have k0 : (0 : Int) ≤ (k : Int) := by omega
            have k1 : (k : Int) < (th.length : Int) := by omega
            have hnx := Aside0.mk (next_calls e' Lp cp' cs' B cb l wo HRL.out (RB.keep q1 HB.out) (fun x hx => by have := HP.out.2.2.2 x hx; omega) ⟨by have := HP.out.1.1; omega, by have := HP.out.1.1; omega⟩)
            have HK1 : Aside0 (k + 1 ≤ th.length) := ⟨hlt⟩
            have HNX : Aside0 (k ≤ 20) := ⟨by omega⟩
            clear q1 q2 hl hlt
            by_cases h30 : (30 : Int) < (l.length : Int)
            · go_wp2
              go_ret
              exact ⟨rfl, HB.out⟩
            · go_wp2_with (fail)
              refine hnx.out.mono ?_
              rintro ex w3 ⟨Ao, co, rfl, rw3, lo3, b3⟩
              have rl3 := Rows.rl rw3
              have hE : ¬ (¬ PR e' cs' ∨ e' = 2147483647) := fun hh => hh.elim (fun h => h HP.out.1) (fun h => by have := HP.out.2.2.1; have := HNX.out; omega)
              have hX3 := Aside0.mk ((b3.block _ hx0).trans HX.out)
              have hR3 := Aside0.mk (Kd.C_below HRL.out b3)
              have B3 := Aside0.mk (HB.out.trans (b3.mono HB.out.size))
              have hsz3 := b3.size
              clear b3 hnx x0 x1 y0 y1
              by_cases hs : ∃ x ∈ cs', stay l x = []
              · have hN : nextOf e' cs' l = (0, [], 5) := by unfold nextOf; rw [if_neg hE, if_pos hs]
                rw [hN]
                clear rl3 rw3 lo3 hN hs hE
                go_wp2
                go_roundw
                case rel => exact ⟨k + 1, e', cs', Lp, cp', HK1.out, by go_num, ⟨(Below.heap_alloc _ _ _ (by omega)).trans hX3.out⟩, ⟨Kd.C_below hR3.out ((Below.refl _ w3).alloc (Nat.le_refl _) _)⟩, ⟨HP.out.1, HP.out.2.1, by have := HP.out.2.2.1; omega, HP.out.2.2.2⟩, ⟨B3.out.alloc B3.out.size _⟩⟩
                case measure => have := HK1.out; simp [intOf]; omega
              · have hN : nextOf e' cs' l = (e' + 1, cs'.map (stay l), 0) := by unfold nextOf; rw [if_neg hE, if_neg hs]
                have HPN : Aside0 (PR (e' + 1) (cs'.map (stay l))) := ⟨PR_next HP.out.1 (fun h => hE (.inr h)) (fun x hx h => hs ⟨x, hx, h⟩)⟩
                have HLN : Aside0 (∀ x ∈ cs'.map (stay l), x.length ≤ 7) := ⟨fun x hx => by
                  obtain ⟨y, hy, rfl⟩ := List.mem_map.1 hx
                  exact Nat.le_trans (List.length_filter_le _ _) (HP.out.2.2.2 y hy)⟩
                rw [hN] at rl3 rw3 lo3 ⊢
                have HRW := Aside0.mk rw3
                have RL3 := Aside0.mk rl3
                have hri := Aside0.mk (fun W (hB : Below w3.heap.size w3 W) => right_calls (e' + 1) Ao co (cs'.map (stay l)) W (Kd.C_below rl3 hB))
                simp only [List.length_map, decide_eq_true HPN.out] at hri
                have hLC : Aside0 ((cs'.map (stay l)).length = cn) := ⟨by rw [List.length_map]; exact HP.out.2.1⟩
                clear rl3 rw3 hN hs hE
                go_wp2_with (fail)
                refine (hri.out _ ((Below.refl _ w3).alloc (Nat.le_refl _) _)).mono ?_
                rintro ex w4 ⟨rfl, b4⟩
                have hX4 := Aside0.mk ((b4.block _ (by simp only [World.size_alloc]; omega)).trans ((Below.heap_alloc _ _ _ (by omega)).trans hX3.out))
                have hY4 := Aside0.mk ((b4.block w3.heap.size (by simp only [World.size_alloc]; omega)).trans (heap_alloc_new w3 _))
                have B34 : Aside0 (Below w3.heap.size w3 w4) := ⟨((Below.refl _ w3).alloc (Nat.le_refl _) _).trans (b4.mono (by simp only [World.size_alloc]; omega))⟩
                have x0 := blk_cell hX4.out 0; have x1 := blk_cell hX4.out 1; have y0 := blk_cell hY4.out 0; have y1 := blk_cell hY4.out 1
                simp only [List.getElem?_toArray, List.getElem?_cons_zero, List.getElem?_cons_succ] at x0 x1 y0 y1
                clear b4
                have t0 : ((cs'.length : Int) != (cn : Int)) = false := by have := HP.out.2.1; simp; omega
                have t1 : (k : Int) ≤ 20 := by have := HNX.out; omega
                have t2 : e' + 1 ≤ 2147483648 := by have := HP.out.1.1; omega
                have t3 : 0 ≤ e' := HP.out.1.1.1
                go_upto_region 17 with (fail)
                clear t0
                obtain ⟨a, ha⟩ : ∃ a, a = placeOf e' cs' at_ := ⟨_, rfl⟩
                obtain ⟨b, hb⟩ : ∃ b, b = placeOf (e' + 1) (cs'.map (stay l)) at_ := ⟨_, rfl⟩
                have HA0 : Aside0 (0 ≤ at_) := ⟨by omega⟩
                have HAB : Aside0 (b = stay l a ∧ 0 < a.length ∧ 0 < b.length ∧ (∀ x ∈ b, 0 ≤ x ∧ x < 7)) := ⟨by
                  refine ⟨by rw [ha, hb]; exact placeOf_map HP.out.1 HPN.out HA0.out, by rw [ha]; exact placeOf_pos HP.out.1 HA0.out, by rw [hb]; exact placeOf_pos HPN.out HA0.out, by rw [hb]; exact placeOf_mem HPN.out HA0.out⟩⟩
                have hpa := Aside0.mk (fun W (hW : Aside0 (Below w4.heap.size w4 W)) => place_some (w0 := w4) e' Lp cp' cs' at_ W (Kd.C_below hR3.out (B34.out.trans (hW.out.mono B34.out.size))) (fun x hx => by have := HP.out.2.2.2 x hx; omega) HA.out HP.out.1 HA0.out hW.out)
                have hpb := Aside0.mk (fun W (hW : Aside0 (Below w4.heap.size w4 W)) => place_some (w0 := w4) (e' + 1) Ao co (cs'.map (stay l)) at_ W (Kd.C_below RL3.out (B34.out.trans (hW.out.mono B34.out.size))) (fun x hx => by have := HLN.out x hx; omega) HA.out HPN.out HA0.out hW.out)
                rw [← ha] at hpa
                rw [← hb] at hpb
                rw [hLC.out, ← HP.out.2.1] at hpb
                have E0 := Aside0.mk (Below.refl w4.heap.size w4)
                have HS : Aside0 (∀ W, Aside0 (Below w4.heap.size w4 W) → W.cell? ⟨w2.heap.size, 0, none⟩ = some (.int .i64 e') ∧ W.cell? ⟨w2.heap.size, 1, none⟩ = some (.slice Lp cs'.length cp') ∧ W.cell? ⟨w3.heap.size, 0, none⟩ = some (.int .i64 (e' + 1)) ∧ W.cell? ⟨w3.heap.size, 1, none⟩ = some (.slice Ao cs'.length co) ∧ Aside0 (Below w4.heap.size w4 W)) := ⟨fun W hW => ⟨cell_later hW.out x0, cell_later hW.out x1, cell_later hW.out y0, cell_later hW.out y1, hW⟩⟩
                have HB0 := Aside0.mk hb.symm
                clear ha hb hri
                go_region_held3 (fun W => W.cell? ⟨w2.heap.size, 0, none⟩ = some (.int .i64 e') ∧ W.cell? ⟨w2.heap.size, 1, none⟩ = some (.slice Lp cs'.length cp') ∧ W.cell? ⟨w3.heap.size, 0, none⟩ = some (.int .i64 (e' + 1)) ∧ W.cell? ⟨w3.heap.size, 1, none⟩ = some (.slice Ao cs'.length co) ∧ Aside0 (Below w4.heap.size w4 W)) (exact HS.out _ (by first | assumption | exact drewB (by assumption))) (first
                  | (go_at_call 43; ((with_reducible refine (hpa.out _ (by first | assumption | exact drewB (by assumption))).mono ?_); rintro ex w5 ⟨g1, c1, rfl, O1, K1, E1⟩))
                  | (go_at_call 43; ((with_reducible refine (hpb.out _ (by first | assumption | exact drewB (by assumption))).mono ?_); rintro ex w6 ⟨g2, c2, rfl, O2, K2, E2⟩)))
                rename_i hHeld
                obtain ⟨d0, d1, d2, d3, -⟩ := hHeld
                have P1 := Aside0.mk (K2.out _ _ _ O1.out)
                have hX6 : Aside0 (w6.heap[w2.heap.size]? = some (.cells #[.int .i64 e', .slice Lp cs'.length cp'] 55 (0, 0))) := ⟨(E2.out.block _ (blk_lt hX4.out)).trans hX4.out⟩
                have hY6 : Aside0 (w6.heap[w3.heap.size]? = some (.cells #[.int .i64 (e' + 1), .slice Ao cs'.length co] 55 (0, 0))) := ⟨(E2.out.block _ (blk_lt hY4.out)).trans hY4.out⟩
                have B6 : Aside0 (Below w.heap.size w w6) := ⟨B3.out.trans ((B34.out.trans (E2.out.mono B34.out.size)).mono B3.out.size)⟩
                have B36 : Aside0 (Below w3.heap.size w3 w6) := ⟨B34.out.trans (E2.out.mono B34.out.size)⟩
                have sz4 := B34.out.size
                have sz34 := blk_lt hY4.out
                have sz6 := E2.out.size
                have gb2 : w4.heap.size ≤ g2 := own_base O2.out _ rfl
                have ma : a.length ≤ 9223372036854775807 := by
                  obtain ⟨A', c', e', r', _⟩ := OI.slice P1.out
                  exact Kd.C_max r'
                have mb : b.length ≤ 9223372036854775807 := by
                  obtain ⟨A', c', e', r', _⟩ := OI.slice O2.out
                  exact Kd.C_max r'
                have pa := HAB.out.2.1
                have pb := HAB.out.2.2.1
                clear hpa hpb HS E0 K1 K2 O1 E1 x0 x1 y0 y1
                go_wp2
                obtain ⟨w7, rfl⟩ : ∃ w7 : World, w7 = w6 := ⟨_, rfl⟩
                go_loopw [17, 100] (fun v17 v100 W => ∃ (i j : Nat), i ≤ b.length ∧ j ≤ a.length ∧ v17 = .int .i64 i ∧ v100 = .int .i64 j ∧ Aside0 ((stay l (a.take j)).length ≤ i) ∧ Aside0 (W = w7)) (fun _ v100 _ => a.length - (intOf v100).toNat)
                case atStart => exact ⟨0, 0, by omega, by omega, rfl, rfl, ⟨by simp [stay]⟩, ⟨by trivial⟩⟩
                case round =>
                  obtain ⟨i, j, hi, hj, rfl, rfl, HG, HW⟩ := hrel
                  obtain rfl := HW.out
                  clear HW
                  by_cases hlj : j < a.length
                  · have aj := (iown_at P1.out j hlj).1
                    have j0 : (0 : Int) ≤ (j : Int) := by omega
                    have j1 : (j : Int) < (a.length : Int) := by omega
                    have HJ : Aside0 (j < a.length) := ⟨hlj⟩
                    clear hlj
                    by_cases hib : i < b.length
                    · have bi := (iown_at O2.out i hib).1
                      have i0 : (0 : Int) ≤ (i : Int) := by omega
                      have i1 : (i : Int) < (b.length : Int) := by omega
                      have HI : Aside0 (i < b.length) := ⟨hib⟩
                      clear hib
                      by_cases heq : rd b i = rd a j
                      · have t4 : (rd b i == rd a j) = true := by simp [heq]
                        have HG1 : Aside0 ((stay l (a.take (j + 1))).length ≤ i + 1) := ⟨greedy_hit HJ.out HG.out⟩
                        have HQ := Aside0.mk heq
                        clear heq
                        go_wp2
                        go_roundw
                        case rel => exact ⟨i + 1, j + 1, by have := HI.out; omega, by have := HJ.out; omega, by go_num, by go_num, HG1, ⟨by trivial⟩⟩
                        case measure => have := HJ.out; simp [intOf]; omega
                      · have t4 : (rd b i == rd a j) = false := by simp [heq]
                        have HG1 : Aside0 ((stay l (a.take (j + 1))).length ≤ i) := ⟨greedy_miss HJ.out HG.out (fun h => heq (by rw [HAB.out.1]; exact h.2))⟩
                        clear heq
                        go_wp2
                        go_roundw
                        case rel => exact ⟨i, j + 1, by have := HI.out; omega, by have := HJ.out; omega, by go_num, by go_num, HG1, ⟨by trivial⟩⟩
                        case measure => have := HJ.out; simp [intOf]; omega
                    · have i1 : (b.length : Int) ≤ (i : Int) := by omega
                      have HG1 : Aside0 ((stay l (a.take (j + 1))).length ≤ i) := ⟨greedy_miss HJ.out HG.out (fun h => hib (by rw [HAB.out.1]; exact h.1))⟩
                      have HI : Aside0 (i ≤ b.length) := ⟨hi⟩
                      clear hib hi
                      go_wp2
                      go_roundw
                      case rel => exact ⟨i, j + 1, HI.out, by have := HJ.out; omega, by go_num, by go_num, HG1, ⟨by trivial⟩⟩
                      case measure => have := HJ.out; simp [intOf]; omega
                  · have hib : i = b.length := by
                      have hja : j = a.length := by omega
                      rw [hja] at HG
                      rw [HAB.out.1] at hi ⊢
                      exact greedy_end HG.out hi
                    subst hib
                    obtain ⟨bc0, bf0⟩ := iown_at O2.out 0 (by omega)
                    have t5 : ((b.length : Int) == 0) = false := by rw [beq_eq_false_iff_ne]; omega
                    have t6 : ((b.length : Int) != (b.length : Int)) = false := by simp
                    have t7 : (0 : Int) < (b.length : Int) := by omega
                    have j1 : (a.length : Int) ≤ (j : Int) := by omega
                    have gn2 : w2.heap.size ≠ g2 := by omega
                    have gn3 : w3.heap.size ≠ g2 := by omega
                    have B8 : Aside0 (Below w3.heap.size w3 (wr.setCell ⟨g2, 0, none⟩ (.int .i64 99))) := ⟨B36.out.setCell (p := ⟨g2, 0, none⟩) (by show w3.heap.size ≤ g2; omega) _⟩
                    have BB8 : Aside0 (Below w.heap.size w (wr.setCell ⟨g2, 0, none⟩ (.int .i64 99))) := ⟨B6.out.setCell (p := ⟨g2, 0, none⟩) (by show w.heap.size ≤ g2; have := B3.out.size; omega) _⟩
                    have hX8 : Aside0 ((wr.setCell ⟨g2, 0, none⟩ (.int .i64 99)).heap[w2.heap.size]? = some (.cells #[.int .i64 e', .slice Lp cs'.length cp'] 55 (0, 0))) := ⟨(Below.heap_setCell wr ⟨g2, 0, none⟩ _ _ gn2).trans hX6.out⟩
                    have hY8 : Aside0 ((wr.setCell ⟨g2, 0, none⟩ (.int .i64 99)).heap[w3.heap.size]? = some (.cells #[.int .i64 (e' + 1), .slice Ao cs'.length co] 55 (0, 0))) := ⟨(Below.heap_setCell wr ⟨g2, 0, none⟩ _ _ gn3).trans hY6.out⟩
                    have k2 := blk_cell hY8.out 0; have k3 := blk_cell hY8.out 1
                    simp only [List.getElem?_toArray, List.getElem?_cons_zero, List.getElem?_cons_succ] at k2 k3
                    obtain ⟨w8, hw8⟩ : ∃ w8, w8 = wr.setCell ⟨g2, 0, none⟩ (.int .i64 99) := ⟨_, rfl⟩
                    have hpc := Aside0.mk (place_some (w0 := w8) (e' + 1) Ao co (cs'.map (stay l)) at_ w8 (Kd.C_below RL3.out (by rw [hw8]; exact B8.out)) (fun x hx => by have := HLN.out x hx; omega) HA.out HPN.out HA0.out (Below.refl _ _))
                    rw [hLC.out, ← HP.out.2.1] at hpc
                    rw [HB0.out] at hpc
                    rw [hw8] at hpc
                    have hb0 : (rd b 0 == 99) = false := by
                      rw [beq_eq_false_iff_ne]
                      have := HAB.out.2.2.2 (rd b 0) (by rw [show rd b 0 = b.getD 0 0 from rfl, List.getD_eq_getElem?_getD, List.getElem?_eq_getElem HAB.out.2.2.1]; exact List.getElem_mem _)
                      omega
                    clear hlj hw8 w8
                    go_wp2_with (fail)
                    refine hpc.out.mono ?_
                    rintro ex w9 ⟨g3, c3, rfl, O3, -, E9⟩
                    obtain ⟨cc0, -⟩ := iown_at O3.out 0 HAB.out.2.2.1
                    have z8 : (wr.setCell ⟨g2, 0, none⟩ (.int .i64 99)).heap.size = wr.heap.size := by simp [World.setCell]
                    have hX9 : Aside0 (w9.heap[w2.heap.size]? = some (.cells #[.int .i64 e', .slice Lp cs'.length cp'] 55 (0, 0))) := ⟨(E9.out.block _ (blk_lt hX8.out)).trans hX8.out⟩
                    have hY9 : Aside0 (w9.heap[w3.heap.size]? = some (.cells #[.int .i64 (e' + 1), .slice Ao cs'.length co] 55 (0, 0))) := ⟨(E9.out.block _ (blk_lt hY8.out)).trans hY8.out⟩
                    have l2' := blk_cell hY9.out 0; have l3' := blk_cell hY9.out 1
                    have f0' := blk_frozen hX9.out 0; have f1' := blk_frozen hX9.out 1
                    have l0' := blk_cell hX9.out 0; have l1' := blk_cell hX9.out 1
                    simp only [List.getElem?_toArray, List.getElem?_cons_zero, List.getElem?_cons_succ] at l0' l1' l2' l3'
                    have BB9 : Aside0 (Below w.heap.size w w9) := ⟨BB8.out.trans (E9.out.mono (by rw [z8]; exact B6.out.size))⟩
                    have B39 : Aside0 (Below w3.heap.size w3 w9) := ⟨B8.out.trans (E9.out.mono (by rw [z8]; exact B36.out.size))⟩
                    clear hpc E9 z8
                    go_wp2_with (fail)
                    go_roundw
                    case rel =>
                      have hs1 := blk_set (blk_set hX9.out 0 (.int .i64 (e' + 1))) 1 (.slice Ao cs'.length co)
                      refine ⟨k + 1, e' + 1, cs'.map (stay l), Ao, co, HK1.out, by go_num, ⟨by rw [List.length_map]; exact hs1⟩, ⟨Rows.rl (Rows.moved HRW.out ?_)⟩, ⟨HPN.out, hLC.out, by have := HP.out.2.2.1; omega, HLN.out⟩, ⟨?_⟩⟩
                      · intro q hq1 hq2
                        exact (Below.heap_setCell _ ⟨w2.heap.size, 1, none⟩ _ q (by show q ≠ w2.heap.size; omega)).trans ((Below.heap_setCell _ ⟨w2.heap.size, 0, none⟩ _ q (by show q ≠ w2.heap.size; omega)).trans (B39.out.block q hq2))
                      · exact (BB9.out.setCell (p := ⟨w2.heap.size, 0, none⟩) B2.out.size _).setCell (p := ⟨w2.heap.size, 1, none⟩) B2.out.size _
                    case measure => have := HK1.out; simp [intOf]; omega
          · go_wp2
            go_ret
            exact ⟨rfl, HB.out⟩
      · have hf := Aside0.mk (fun W => first_calls (first_no hok) W)
        have HOK := Aside0.mk hok
        clear hok
        go_enter Try.func6, Try.ntmps6
        go_wp2_with (first
          | (go_at_call 39; refine (speaks11_calls _).mono ?_; rintro ex w1 ⟨rfl, b1⟩)
          | (go_at_call 40; refine (hf.out _).mono ?_; rintro ex w2 ⟨L, cap, rfl, _, _, b2⟩))
        all_goals
          go_ret
          refine ⟨?_, (b1.trans (b2.mono b1.size)).alloc (Nat.le_trans b1.size b2.size) _⟩
          first
          | rfl
          | (have hk := HOK.out
             unfold okUC at hk
             show Ending.returned (Value.bool (decide (u < 1) || decide (7 < u) || decide (c < 1) || decide (u < c))) = _
             rw [show (decide (u < 1) || decide (7 < u) || decide (c < 1) || decide (u < c)) = true from by simp; omega])
end Go.Proofs.Ytmdnokfmlbjbhaa
