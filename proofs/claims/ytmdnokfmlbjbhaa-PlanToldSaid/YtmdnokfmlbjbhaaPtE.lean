/- PlanTold: the walk. -/
import Derived.Test.YtmdnokfmlbjbhaaPtD
import Derived.Test.YtmdnokfmlbjbhaaM2
import Derived.Test.YtmdnokfmlbjbhaaMapA
import Derived.Deep.DeepCutAuto
namespace Go.Proofs.Ytmdnokfmlbjbhaa
open Go.RowKit Go.Proofs.YtmdnokfmlbjbhaaW.PrintWords
set_option linter.unusedVariables false
set_option linter.unusedSimpArgs false

theorem both_first (u c : Int) : ∃ fs fk, PPlanShrinks.plan_First.f 20 u c = some (0, fs, fk) ∧ PPlanTold.tidelineref11_First.f 40 u c = some (0, fs, fk) ∧ ∀ x ∈ fs, x.length ≤ 7 := by
  by_cases h : okUC u c
  · obtain ⟨un, rfl⟩ : ∃ n : Nat, u = n := ⟨u.toNat, by have := h.1; omega⟩
    obtain ⟨cn, rfl⟩ : ∃ n : Nat, c = n := ⟨c.toNat, by have := h.2.2.1; omega⟩
    exact ⟨_, _, (first_ok h).1, rfirst_ok h, chains_le h⟩
  · exact ⟨_, _, first_no h, rfirst_no h, by intro x hx; cases hx⟩
theorem allocB {w0 W : World} {o : Obj} (h : Aside0 (Below w0.heap.size w0 W)) : Aside0 (Below w0.heap.size w0 (W.alloc o)) := ⟨h.out.alloc h.out.size o⟩
theorem growB {w0 W W1 : World} {v : Value} {e : TypeId} {sz n : Nat} {xs : List Value} (h : Aside0 (Below w0.heap.size w0 W)) (hg : W.grownBy W1 v.ownBlock) (ho : W.ownsRow w0.heap.size e sz v n xs) : Aside0 (Below w0.heap.size w0 W1) := ⟨h.out.grown hg h.out.size (own_base ho)⟩

theorem blk_kept {w w' : World} {row : Option Nat} {k : Nat} {o : Obj} (h : w.heap[k]? = some o) (hg : w.grownBy w' row) (hn : row ≠ some k) : w'.heap[k]? = some o :=
  (hg.block k (Array.getElem?_eq_some_iff.1 h).1 (fun e => hn e.symm)).trans h
theorem setB {w0 W : World} {b i : Nat} {u : Value} (h : Aside0 (Below w0.heap.size w0 W)) (hb : w0.heap.size ≤ b) : Aside0 (Below w0.heap.size w0 (W.setCell ⟨b, i, none⟩ u)) := ⟨h.out.setCell (p := ⟨b, i, none⟩) hb u⟩
/-- append([]int{}, ys...) at a step of a region that draws -/
theorem step_app0 {W : World} {ops : Array Oper} {o : Oper} {a : Act} {K : Act → World → Prop} {Q : Exit → Act → World → Prop} {E : Prop} (hgd : o.guard = none) (s x : Operand)
    (ho : o.op = .call { callee := .builtin .append, args := #[s, x], argTypes := #[58, 58] })
    (base g : Nat) (ys : List Int) (A : Option Addr) (c : Nat) (hs : a.eval s = .slice (some ⟨g, 0, none⟩) 0 0) (hx : a.eval x = .slice A ys.length c) (hg : W.heap[g]? = some (.cells #[] 3 (0, 0))) (hb : base ≤ g) (HR : RI W A ys) (hl : ys.length * 8 ≤ 140737488355328)
    (h : ∀ A1 c1 W1, OI W1 base (.slice A1 ys.length c1) ys → W.grownBy W1 (some g) → K (a.put o.dst (.slice A1 ys.length c1)) W1) :
    if Region.wanted o (yielded ops a.tmps) = true then Oper.wp Try.prog o a W K Q else E := by
  have hlt := blk_lt hg
  refine step_appI hgd s x ho base (.slice (some ⟨g, 0, none⟩) 0 0) [] ys A c hs hx ⟨rfl, .inr ⟨g, 0, #[], rfl, hb, hg, Nat.le_refl _, by simp [maxLen], by simp, by simp [nums]⟩⟩ HR (by omega) (by simpa using hl) ?_
  intro A1 c1 W1 h1 h2
  exact h A1 c1 W1 h1 h2
theorem zb_at {w : World} {e : Int} {v : Value} {b : Nat} (h : w.heap[b]? = some (.cells #[.int .i64 e, v] 55 (0, 0))) : w.cell? ⟨b, 0, none⟩ = some (.int .i64 e) ∧ w.cell? ⟨b, 1, none⟩ = some v ∧ w.frozen? ⟨b, 0, none⟩ = false ∧ w.frozen? ⟨b, 1, none⟩ = false :=
  ⟨blk_cell h 0, blk_cell h 1, blk_frozen h 0, blk_frozen h 1⟩

set_option maxHeartbeats 4000000 in
set_option maxRecDepth 100000 in
theorem told_walk (u c e : Int) (A : Option Addr) (cp : Nat) (cs : List (List Int)) (at_ : Int) (L : Option Addr) (cl : Nat) (there : List Int) (w : World) (h : RL w A cs) (hc : cs.length ≤ cp) (ht : RI w L there) (htc : there.length ≤ cl) (hu : Wf u) (hc' : Wf c) (he : Wf e) (ha : Wf at_) :
    Calls Try.prog 11 #[.int .i64 u, .int .i64 c, .agg #[.int .i64 e, .slice A cs.length cp], .int .i64 at_, .slice L there.length cl] w fun ex w' => ex = .returned (.bool true) ∧ Below w.heap.size w w' := by
  have H := Aside0.mk h
  have HT := Aside0.mk ht
  have b0 := (Below.refl w.heap.size w).alloc (Nat.le_refl _) (.cells #[.int .i64 e, .slice A cs.length cp] 55)
  have B0 := Aside0.mk b0
  have hX := heap_alloc_new w (.cells #[.int .i64 e, .slice A cs.length cp] 55)
  have HX := Aside0.mk hX
  have hgr := Aside0.mk (fun W (hB : Below w.heap.size w W) => great_calls e A cp cs W (Kd.C_below h hB) hc)
  have m1 := Kd.C_max ht
  clear h ht b0 hX
  go_enter Try.func11, Try.ntmps11
  go_wp2_with (fail)
  refine (speaks11_calls _).mono ?_
  rintro ex w1 ⟨rfl, b1⟩
  have HX1 : Aside0 (w1.heap[w.heap.size]? = some (.cells #[.int .i64 e, .slice A cs.length cp] 55 (0, 0))) := ⟨(b1.block _ (blk_lt HX.out)).trans HX.out⟩
  have B1 : Aside0 (Below w.heap.size w w1) := ⟨B0.out.trans (b1.mono B0.out.size)⟩
  have x0 := blk_cell HX1.out 0; have x1 := blk_cell HX1.out 1
  simp only [List.getElem?_toArray, List.getElem?_cons_zero, List.getElem?_cons_succ] at x0 x1
  clear b1 HX
  go_wp2_with (fail)
  refine (hgr.out _ B1.out).mono ?_
  rintro ex w2 ⟨rfl, b2⟩
  have HX2 : Aside0 (w2.heap[w.heap.size]? = some (.cells #[.int .i64 e, .slice A cs.length cp] 55 (0, 0))) := ⟨(b2.block _ (blk_lt HX1.out)).trans HX1.out⟩
  have B2 : Aside0 (Below w.heap.size w w2) := ⟨B1.out.trans (b2.mono B1.out.size)⟩
  clear b2 hgr x0 x1 HX1
  by_cases hg : greatOf cs = true
  · rw [hg]
    clear hg
    go_wp2
    go_ret
    exact ⟨rfl, B2.out⟩
  · have hg : greatOf cs = false := by simpa using hg
    rw [hg]
    have HG := Aside0.mk hg
    clear hg
    by_cases h30 : (30 : Int) < (there.length : Int)
    · go_wp2
      go_ret
      exact ⟨rfl, B2.out⟩
    · obtain ⟨fs, fk, f1, f2, f3⟩ := both_first u c
      have hf1 := Aside0.mk (fun W => first_calls f1 W)
      have hf2 := Aside0.mk (fun W => reffirst_calls f2 W)
      have HF3 := Aside0.mk f3
      clear f1 f2 f3
      go_wp2_with (fail)
      refine (hf1.out _).mono ?_
      rintro ex w3 ⟨La, ca, rfl, r3, l3, b3⟩
      have hA3 := heap_alloc_new w3 (.cells #[.int .i64 0, .slice La fs.length ca] 55)
      have HX3 : Aside0 (w3.heap[w.heap.size]? = some (.cells #[.int .i64 e, .slice A cs.length cp] 55 (0, 0))) := ⟨(b3.block _ (blk_lt HX2.out)).trans HX2.out⟩
      have B3 : Aside0 (Below w.heap.size w w3) := ⟨B2.out.trans (b3.mono B2.out.size)⟩
      have HA3 := Aside0.mk hA3
      have R3 := Aside0.mk r3
      clear r3 b3 hA3 hf1 HX2
      go_wp2_with (fail)
      refine (hf2.out _).mono ?_
      rintro ex w4 ⟨Lb, cb, rfl, r4, l4, b4⟩
      have b34 : Below w3.heap.size w3 w4 := ((Below.refl _ w3).alloc (Nat.le_refl _) (.cells #[.int .i64 0, .slice La fs.length ca] 55)).trans (b4.mono (by simp only [World.size_alloc]; omega))
      have HX4 : Aside0 (w4.heap[w.heap.size]? = some (.cells #[.int .i64 e, .slice A cs.length cp] 55 (0, 0))) := ⟨(b34.block _ (blk_lt HX3.out)).trans HX3.out⟩
      have HA4 : Aside0 (w4.heap[w3.heap.size]? = some (.cells #[.int .i64 0, .slice La fs.length ca] 55 (0, 0))) := ⟨(b4.block _ (blk_lt HA3.out)).trans HA3.out⟩
      have B4 : Aside0 (Below w.heap.size w w4) := ⟨B3.out.trans (b34.mono B3.out.size)⟩
      have RA4 := Aside0.mk (Kd.C_below R3.out b34)
      have RB4 := Aside0.mk r4
      clear r4 b4 b34 hf2 HX3 HA3 R3
      go_upto_region 7 with (fail)
      obtain ⟨w5, hw5⟩ : ∃ w5, Aside0 (w5 = w4.alloc (.cells #[.int .i64 0, .slice Lb fs.length cb] 55)) := ⟨_, ⟨rfl⟩⟩
      rw [← hw5.out]
      have b45 : Below w4.heap.size w4 w5 := by rw [hw5.out]; exact (Below.refl _ w4).alloc (Nat.le_refl _) _
      have hX5 := (b45.block _ (blk_lt HX4.out)).trans HX4.out
      have x0 := blk_cell hX5 0; have x1 := blk_cell hX5 1
      simp only [List.getElem?_toArray, List.getElem?_cons_zero, List.getElem?_cons_succ] at x0 x1
      have HX5 := Aside0.mk hX5
      have HA5 : Aside0 (w5.heap[w3.heap.size]? = some (.cells #[.int .i64 0, .slice La fs.length ca] 55 (0, 0))) := ⟨(b45.block _ (blk_lt HA4.out)).trans HA4.out⟩
      have HB5 : Aside0 (w5.heap[w4.heap.size]? = some (.cells #[.int .i64 0, .slice Lb fs.length cb] 55 (0, 0))) := ⟨by rw [hw5.out]; exact heap_alloc_new w4 _⟩
      have B5 : Aside0 (Below w.heap.size w w5) := ⟨B4.out.trans (b45.mono B4.out.size)⟩
      have RA5 := Aside0.mk (Kd.C_below RA4.out b45)
      have RB5 := Aside0.mk (Kd.C_below RB4.out b45)
      clear b45 hX5 HX4 HA4 RA4 RB4 hw5
      have HTH : Aside0 (∀ W, Aside0 (Below w5.heap.size w5 W) → RI W L there) := ⟨fun W hW => RB.keep HT.out (B5.out.trans (hW.out.mono B5.out.size))⟩
      have HRL : Aside0 (∀ W, Aside0 (Below w5.heap.size w5 W) → RL W A cs) := ⟨fun W hW => Kd.C_below H.out (B5.out.trans (hW.out.mono B5.out.size))⟩
      obtain ⟨nx, hnx0⟩ : ∃ nx, nx = nextOf e cs there := ⟨_, rfl⟩
      obtain ⟨ne, ncs, nk⟩ := nx
      have hnx : Aside0 (∀ W A1 c1, Aside0 (Below w5.heap.size w5 W) → OI W w5.heap.size (.slice A1 there.length c1) there → Calls Try.prog 41 #[.agg #[.int .i64 e, .slice A cs.length cp], .slice A1 there.length c1] W fun ex w' => ∃ Ao co, ex = .returned (.tuple #[.agg #[.int .i64 ne, .slice Ao ncs.length co], .int .i64 nk]) ∧ Aside0 (Rows w' W.heap.size (.slice Ao ncs.length co) ncs ∧ ncs.length ≤ co) ∧ Aside0 (Below W.heap.size W w') ∧ Aside0 (Below w5.heap.size w5 w')) := ⟨fun W A1 c1 hW ho => by
        obtain ⟨A', c', e1, r1, k1⟩ := OI.slice ho
        injection e1 with ea _ ec
        subst ea ec
        have := next_calls e A cp cs A1 c1 there W (HRL.out W hW) r1 (fun x hx => by have := (flat_le HG.out).2.1 x hx; omega) he
        rw [← hnx0] at this
        exact this.mono fun _ _ ⟨Ao, co, h1, h2, h3, h4⟩ => ⟨Ao, co, h1, ⟨h2, h3⟩, ⟨h4⟩, ⟨hW.out.trans (h4.mono hW.out.size)⟩⟩⟩
      have HNX := Aside0.mk hnx0
      have E0 := Aside0.mk (Below.refl w5.heap.size w5)
      have HS0 : Aside0 (∀ W, Aside0 (Below w5.heap.size w5 W) → W.cell? ⟨w.heap.size, 0, none⟩ = some (.int .i64 e) ∧ W.cell? ⟨w.heap.size, 1, none⟩ = some (.slice A cs.length cp) ∧ Aside0 (Below w5.heap.size w5 W)) := ⟨fun W hW => ⟨cell_later hW.out x0, cell_later hW.out x1, hW⟩⟩
      have hl30 : Aside0 (there.length * 8 ≤ 140737488355328) := ⟨by omega⟩
      obtain ⟨eb, heb⟩ : ∃ eb : Obj, eb = .cells #[] 3 := ⟨_, rfl⟩
      obtain ⟨zb, hzb⟩ : ∃ zb : Obj, zb = .cells #[.int .i64 0, .slice none 0 0] 55 := ⟨_, rfl⟩
      have pa : Aside0 ((w5.alloc (.cells #[] 3)).heap[w5.heap.size]? = some (.cells #[] 3 (0, 0))) := ⟨heap_alloc_new w5 _⟩
      have pb : Aside0 (((w5.alloc (.cells #[.int .i64 0, .slice none 0 0] 55)).alloc (.cells #[] 3)).drew.heap[w5.heap.size + 1]? = some (.cells #[] 3 (0, 0)) ∧ ((w5.alloc (.cells #[.int .i64 0, .slice none 0 0] 55)).alloc (.cells #[] 3)).drew.heap[w5.heap.size]? = some (.cells #[.int .i64 0, .slice none 0 0] 55 (0, 0))) := ⟨by
        have q := heap_alloc_new (w5.alloc (.cells #[.int .i64 0, .slice none 0 0] 55)) (.cells #[] 3)
        rw [World.size_alloc] at q
        exact ⟨q, (Below.heap_alloc _ _ _ (by simp only [World.size_alloc]; omega)).trans (heap_alloc_new w5 _)⟩⟩
      have pc : Aside0 (((w5.alloc (.cells #[] 3)).alloc (.cells #[.int .i64 0, .slice none 0 0] 55)).drew.heap[w5.heap.size]? = some (.cells #[] 3 (0, 0)) ∧ ((w5.alloc (.cells #[] 3)).alloc (.cells #[.int .i64 0, .slice none 0 0] 55)).drew.heap[w5.heap.size + 1]? = some (.cells #[.int .i64 0, .slice none 0 0] 55 (0, 0))) := ⟨by
        have q := heap_alloc_new (w5.alloc (.cells #[] 3)) (.cells #[.int .i64 0, .slice none 0 0] 55)
        rw [World.size_alloc] at q
        exact ⟨(Below.heap_alloc _ _ _ (by simp only [World.size_alloc]; omega)).trans (heap_alloc_new w5 _), q⟩⟩
      have Ea : Aside0 (Below w5.heap.size w5 (w5.alloc (.cells #[] 3)).drew) := drewB (allocB E0)
      have Eb : Aside0 (Below w5.heap.size w5 ((w5.alloc (.cells #[.int .i64 0, .slice none 0 0] 55)).alloc (.cells #[] 3)).drew) := drewB (allocB (allocB E0))
      have Ec : Aside0 (Below w5.heap.size w5 ((w5.alloc (.cells #[] 3)).alloc (.cells #[.int .i64 0, .slice none 0 0] 55)).drew) := drewB (allocB (allocB E0))
      clear hnx0 heb hzb eb zb
      go_cut [15, 16] (fun v15 v16 W => ∃ b Ac cc, v15 = .pointer (some ⟨b, 0, none⟩) ∧ v16 = .int .i64 nk ∧ w5.heap.size ≤ b ∧ ncs.length ≤ cc ∧ Aside0 (W.heap[b]? = some (.cells #[.int .i64 ne, .slice Ac ncs.length cc] 55 (0, 0))) ∧ Aside0 (RL W Ac ncs) ∧ Aside0 (Below w5.heap.size w5 W))
      case first =>
        go_region_held3 (fun W => W.cell? ⟨w.heap.size, 0, none⟩ = some (.int .i64 e) ∧ W.cell? ⟨w.heap.size, 1, none⟩ = some (.slice A cs.length cp) ∧ Aside0 (Below w5.heap.size w5 W)) ((refine HS0.out _ ?_; first | assumption | (apply drewB; assumption) | (apply allocB; assumption) | (apply drewB; apply allocB; assumption) | (apply setB; apply setB; assumption; all_goals omega))) (first
          | (refine step_app0 (by rfl) (.tmp 42) (.tmp 43) (by rfl) w5.heap.size w5.heap.size there L cl (by rfl) (by rfl) pa.out (Nat.le_refl _) (HTH.out _ Ea) hl30.out ?_; intro A6 c6 w6 o6 g6; have O6 := Aside0.mk o6; have E6 : Aside0 (Below w5.heap.size w5 w6) := ⟨Ea.out.grown g6 Ea.out.size (fun k hk => by injection hk with hk; omega)⟩; have tokA : Aside0 True := ⟨trivial⟩; clear o6)
          | (refine step_app0 (by rfl) (.tmp 42) (.tmp 43) (by rfl) w5.heap.size (w5.heap.size + 1) there L cl (by rfl) (by rfl) pb.out.1 (Nat.le_succ _) (HTH.out _ Eb) hl30.out ?_; intro A6 c6 w6 o6 g6; have O6 := Aside0.mk o6; have E6 : Aside0 (Below w5.heap.size w5 w6) := ⟨Eb.out.grown g6 Eb.out.size (fun k hk => by injection hk with hk; omega)⟩; have Z6 := Aside0.mk (blk_kept pb.out.2 g6 (by simp)); clear o6)
          | (refine step_app0 (by rfl) (.tmp 42) (.tmp 43) (by rfl) w5.heap.size w5.heap.size there L cl (by rfl) (by rfl) pc.out.1 (Nat.le_refl _) (HTH.out _ Ec) hl30.out ?_; intro A6 c6 w6 o6 g6; have O6 := Aside0.mk o6; have E6 : Aside0 (Below w5.heap.size w5 w6) := ⟨Ec.out.grown g6 Ec.out.size (fun k hk => by injection hk with hk; omega)⟩; have Z6 := Aside0.mk (blk_kept pc.out.2 g6 (by simp)); clear o6)
          | (go_at_call 41; have zz := Z6; ((with_reducible refine (hnx.out _ _ _ E6 O6.out).mono ?_); rintro ex w7 ⟨Ac, cc, rfl, RC, E7b, E7⟩; have Z7 := Aside0.mk ((E7b.out.block _ (blk_lt Z6.out)).trans Z6.out); obtain ⟨z0, z1, f0, f1⟩ := zb_at Z7.out; have s6 := E6.out.size))
          | (go_at_call 41; have zz := tokA; ((with_reducible refine (hnx.out _ _ _ E6 O6.out).mono ?_); rintro ex w7 ⟨Ac, cc, rfl, RC, E7b, E7⟩))
          | (go_at_call 41; have zz := tokA; ((with_reducible refine (hnx.out (w6.alloc (.cells #[.int .i64 0, .slice none 0 0] 55)) _ _ (allocB E6) (O6.out.alloc _)).mono ?_); rintro ex w7 ⟨Ac, cc, rfl, RC, E7b, E7⟩; have Z7 := Aside0.mk ((E7b.out.block w6.heap.size (by simp only [World.size_alloc]; omega)).trans (heap_alloc_new w6 _)); obtain ⟨z0, z1, f0, f1⟩ := zb_at Z7.out; have s6 := E6.out.size)))
        all_goals go_wp2
        all_goals go_meet
        all_goals
          case rel =>
            first
            | (refine ⟨w7.heap.size, Ac, cc, rfl, rfl, E7.out.size, RC.out.2, ⟨heap_alloc_new w7 _⟩, ⟨?_⟩, allocB E7⟩
               exact Kd.C_below (Rows.rl RC.out.1) ((Below.refl _ w7).alloc (Nat.le_refl _) _))
            | (refine ⟨w6.heap.size, Ac, cc, rfl, rfl, s6, RC.out.2, ⟨?_⟩, ⟨?_⟩, setB (setB E7 s6) s6⟩
               · have := blk_set (blk_set Z7.out 0 (.int .i64 ne)) 1 (.slice Ac ncs.length cc)
                 simpa using this
               · exact Rows.rl ((RC.out.1.set (by simp only [World.size_alloc]; omega)).set (by simp only [World.size_alloc]; omega)))
            | (refine ⟨w5.heap.size, Ac, cc, rfl, rfl, Nat.le_refl _, RC.out.2, ⟨?_⟩, ⟨?_⟩, setB (setB E7 (Nat.le_refl _)) (Nat.le_refl _)⟩
               · have := blk_set (blk_set Z7.out 0 (.int .i64 ne)) 1 (.slice Ac ncs.length cc)
                 simpa using this
               · exact Rows.rl ((RC.out.1.set (blk_lt Z6.out)).set (blk_lt Z6.out)))
            | (refine ⟨w5.heap.size + 1, Ac, cc, rfl, rfl, Nat.le_succ _, RC.out.2, ⟨?_⟩, ⟨?_⟩, setB (setB E7 (Nat.le_succ _)) (Nat.le_succ _)⟩
               · have := blk_set (blk_set Z7.out 0 (.int .i64 ne)) 1 (.slice Ac ncs.length cc)
                 simpa using this
               · exact Rows.rl ((RC.out.1.set (blk_lt Z6.out)).set (blk_lt Z6.out)))
      case rest =>
        clear pa pb pc Ea Eb Ec HTH HRL hnx hl30 HS0 E0 x0 x1
        obtain ⟨b, Ac, cc, rfl, rfl, hb5, lcc, HC, RC, EC⟩ := hcut
        have HXc : Aside0 (wc.heap[w.heap.size]? = some (.cells #[.int .i64 e, .slice A cs.length cp] 55 (0, 0))) := ⟨(EC.out.block _ (blk_lt HX5.out)).trans HX5.out⟩
        have Bc : Aside0 (Below w.heap.size w wc) := ⟨B5.out.trans (EC.out.mono B5.out.size)⟩
        obtain ⟨x0, x1, -, -⟩ := zb_at HXc.out
        have hrn := refnext_calls e A cp cs L cl there wc (Kd.C_below H.out Bc.out) hc (RB.keep HT.out Bc.out) htc HG.out (by omega)
        rw [← HNX.out] at hrn
        have HRN := Aside0.mk hrn
        clear hrn
        go_wp2_with (fail)
        refine HRN.out.mono ?_
        rintro ex w8 ⟨Ad, cd, rfl, r8, l8, b8⟩
        have B8 := Aside0.mk b8
        have R8 := Aside0.mk r8
        clear HRN r8 b8 x0 x1
        go_upto_region 9 with (fail)
        obtain ⟨w9, hw9⟩ : ∃ w9, Aside0 (w9 = w8.alloc (.cells #[.int .i64 ne, .slice Ad ncs.length cd] 55)) := ⟨_, ⟨rfl⟩⟩
        rw [← hw9.out]
        have b89 : Below w8.heap.size w8 w9 := by rw [hw9.out]; exact (Below.refl _ w8).alloc (Nat.le_refl _) _
        have bc9 : Below wc.heap.size wc w9 := B8.out.trans (b89.mono B8.out.size)
        have b59 : Below w5.heap.size w5 w9 := EC.out.trans (bc9.mono EC.out.size)
        have B09 : Aside0 (Below w.heap.size w w9) := ⟨B5.out.trans (b59.mono B5.out.size)⟩
        have hD : w9.heap[w8.heap.size]? = some (.cells #[.int .i64 ne, .slice Ad ncs.length cd] 55 (0, 0)) := by rw [hw9.out]; exact heap_alloc_new w8 _
        obtain ⟨p0, p1, -, -⟩ := zb_at ((b59.block _ (blk_lt HX5.out)).trans HX5.out)
        obtain ⟨a0, a1, -, -⟩ := zb_at ((b59.block _ (blk_lt HA5.out)).trans HA5.out)
        obtain ⟨q0, q1, -, -⟩ := zb_at ((b59.block _ (blk_lt HB5.out)).trans HB5.out)
        obtain ⟨c0, c1, -, -⟩ := zb_at ((bc9.block _ (blk_lt HC.out)).trans HC.out)
        obtain ⟨d0, d1, -, -⟩ := zb_at hD
        have HRP : Aside0 (∀ W, Aside0 (Below w9.heap.size w9 W) → RL W A cs) := ⟨fun W hW => Kd.C_below H.out (B09.out.trans (hW.out.mono B09.out.size))⟩
        have HRA : Aside0 (∀ W, Aside0 (Below w9.heap.size w9 W) → RL W La fs) := ⟨fun W hW => Kd.C_below RA5.out (b59.trans (hW.out.mono b59.size))⟩
        have HRB : Aside0 (∀ W, Aside0 (Below w9.heap.size w9 W) → RL W Lb fs) := ⟨fun W hW => Kd.C_below RB5.out (b59.trans (hW.out.mono b59.size))⟩
        have HRC : Aside0 (∀ W, Aside0 (Below w9.heap.size w9 W) → RL W Ac ncs) := ⟨fun W hW => Kd.C_below RC.out (bc9.trans (hW.out.mono bc9.size))⟩
        have HRD : Aside0 (∀ W, Aside0 (Below w9.heap.size w9 W) → RL W Ad ncs) := ⟨fun W hW => Kd.C_below R8.out (b89.trans (hW.out.mono b89.size))⟩
        have hfl := flat_le HG.out
        have hncs : ∀ x ∈ ncs, x.length ≤ 9223372036854775807 := by
          have : ncs = (nextOf e cs there).2.1 := by rw [← HNX.out]
          rw [this]
          intro x hx
          unfold nextOf at hx
          split at hx
          · cases hx
          · split at hx
            · cases hx
            · obtain ⟨y, hy, rfl⟩ := List.mem_map.1 hx
              have := hfl.2.1 y hy
              have := List.length_filter_le (fun x => decide (x ∈ there)) y
              show (List.filter (fun x => decide (x ∈ there)) y).length ≤ _
              omega
        have k44a : Aside0 (∀ W, Aside0 (Below w9.heap.size w9 W) → Calls Try.prog 44 #[.agg #[.int .i64 0, .slice La fs.length ca], .agg #[.int .i64 0, .slice Lb fs.length cb]] W fun ex w' => ex = .returned (.bool true) ∧ Aside0 (Below w9.heap.size w9 w')) := ⟨fun W hW => (same_rl 0 La ca Lb cb fs W (HRA.out W hW) l3 (HRB.out W hW) l4 (fun x hx => by have := HF3.out x hx; omega)).mono fun _ _ ⟨h1, h2⟩ => ⟨h1, ⟨hW.out.trans (h2.mono hW.out.size)⟩⟩⟩
        have k44b : Aside0 (∀ W, Aside0 (Below w9.heap.size w9 W) → Calls Try.prog 44 #[.agg #[.int .i64 ne, .slice Ac ncs.length cc], .agg #[.int .i64 ne, .slice Ad ncs.length cd]] W fun ex w' => ex = .returned (.bool true) ∧ Aside0 (Below w9.heap.size w9 w')) := ⟨fun W hW => (same_rl ne Ac cc Ad cd ncs W (HRC.out W hW) lcc (HRD.out W hW) l8 hncs).mono fun _ _ ⟨h1, h2⟩ => ⟨h1, ⟨hW.out.trans (h2.mono hW.out.size)⟩⟩⟩
        obtain ⟨pr, hpr⟩ : ∃ pr, pr = decide (PR e cs) := ⟨_, rfl⟩
        have k42 : Aside0 (∀ W, Aside0 (Below w9.heap.size w9 W) → Calls Try.prog 42 #[.agg #[.int .i64 e, .slice A cs.length cp]] W fun ex w' => ex = .returned (.bool pr) ∧ Aside0 (Below w9.heap.size w9 w')) := ⟨fun W hW => (right_calls e A cp cs W (HRP.out W hW)).mono fun _ _ ⟨h1, h2⟩ => ⟨by rw [hpr]; exact h1, ⟨hW.out.trans (h2.mono hW.out.size)⟩⟩⟩
        have k58 : Aside0 (∀ W, Aside0 (Below w9.heap.size w9 W) → Calls Try.prog 58 #[.agg #[.int .i64 e, .slice A cs.length cp]] W fun ex w' => ex = .returned (.bool pr) ∧ Aside0 (Below w9.heap.size w9 w')) := ⟨fun W hW => (refright_calls e A cp cs W (HRP.out W hW) hc (by omega)).mono fun _ _ ⟨h1, h2⟩ => ⟨by rw [hpr]; exact h1, ⟨hW.out.trans (h2.mono hW.out.size)⟩⟩⟩
        obtain ⟨pl, hpl⟩ : ∃ pl, pl = placeOf e cs at_ := ⟨_, rfl⟩
        have k43 : Aside0 (∀ W, Aside0 (Below w9.heap.size w9 W) → Calls Try.prog 43 #[.agg #[.int .i64 e, .slice A cs.length cp], .int .i64 at_] W fun ex w' => ∃ B1 d1, ex = .returned (.slice B1 pl.length d1) ∧ Aside0 (RI w' B1 pl ∧ pl.length ≤ d1) ∧ Aside0 (Below w9.heap.size w9 w')) := ⟨fun W hW => (place_calls e A cp cs at_ W (HRP.out W hW) (fun x hx => by have := hfl.2.1 x hx; omega) ha).mono fun _ _ ⟨v, h1, h2, h3⟩ => by
          obtain ⟨B1, d1, e1, r1, l1⟩ := OI.slice h2
          rw [hpl]
          exact ⟨B1, d1, by rw [h1, e1], ⟨r1, l1⟩, ⟨hW.out.trans (h3.mono hW.out.size)⟩⟩⟩
        have k59 : Aside0 (∀ W, Aside0 (Below w9.heap.size w9 W) → Calls Try.prog 59 #[.agg #[.int .i64 e, .slice A cs.length cp], .int .i64 at_] W fun ex w' => ∃ B2 d2, ex = .returned (.slice B2 pl.length d2) ∧ Aside0 (RI w' B2 pl ∧ pl.length ≤ d2) ∧ Aside0 (Below W.heap.size W w') ∧ Aside0 (Below w9.heap.size w9 w')) := ⟨fun W hW => (refplace_calls e A cp cs at_ W (HRP.out W hW) hc (by omega) ha).mono fun _ _ ⟨B2, d2, h1, h2, h3, h4⟩ => by
          rw [hpl]
          exact ⟨B2, d2, h1, ⟨h2, h3⟩, ⟨h4⟩, ⟨hW.out.trans (h4.mono hW.out.size)⟩⟩⟩
        have k45 : Aside0 (∀ W B1 d1 B2 d2, Aside0 (Below w9.heap.size w9 W) → Aside0 (RI W B1 pl ∧ pl.length ≤ d1) → Aside0 (RI W B2 pl ∧ pl.length ≤ d2) → Calls Try.prog 45 #[.slice B1 pl.length d1, .slice B2 pl.length d2] W fun ex w' => ex = .returned (.bool true) ∧ Aside0 (Below w9.heap.size w9 w')) := ⟨fun W B1 d1 B2 d2 hW h1 h2 => (same_ri B1 d1 B2 d2 pl W h1.out.1 h1.out.2 h2.out.1 h2.out.2).mono fun _ _ ⟨h1, h2⟩ => ⟨h1, ⟨hW.out.trans (h2.mono hW.out.size)⟩⟩⟩
        have her := encRows_le hfl.2.1
        obtain ⟨en, hen⟩ : ∃ en, en = wrapped (encOf e cs) := ⟨_, rfl⟩
        have k60 : Aside0 (∀ W, Aside0 (Below w9.heap.size w9 W) → Calls Try.prog 60 #[.agg #[.int .i64 e, .slice A cs.length cp]] W fun ex w' => ∃ B3 d3, ex = .returned (.slice B3 en.length d3) ∧ Aside0 (RB w' B3 en) ∧ Aside0 (Below w9.heap.size w9 w')) := ⟨fun W hW => (encode_calls e A cp cs W (HRP.out W hW) (by omega) he).mono fun _ _ ⟨v, h1, h2, h3⟩ => by
          obtain ⟨B3, d3, e3, r3, _⟩ := OB.slice h2
          rw [hen]
          exact ⟨B3, d3, by rw [h1, e3], ⟨r3⟩, ⟨hW.out.trans (h3.mono hW.out.size)⟩⟩⟩
        have k61 : Aside0 (∀ W, Aside0 (Below w9.heap.size w9 W) → Calls Try.prog 61 #[.agg #[.int .i64 e, .slice A cs.length cp]] W fun ex w' => ∃ B4 d4, ex = .returned (.slice B4 en.length d4) ∧ Aside0 (RB w' B4 en) ∧ Aside0 (Below W.heap.size W w') ∧ Aside0 (Below w9.heap.size w9 w')) := ⟨fun W hW => (refencode_calls e A cp cs W (HRP.out W hW) (by omega) he).mono fun _ _ ⟨v, h1, h2, h3⟩ => by
          obtain ⟨B4, d4, e4, r4, _⟩ := OB.slice h2
          rw [hen]
          exact ⟨B4, d4, by rw [h1, e4], ⟨r4⟩, ⟨h3⟩, ⟨hW.out.trans (h3.mono hW.out.size)⟩⟩⟩
        have k49 : Aside0 (∀ W B3 d3 B4 d4, Aside0 (Below w9.heap.size w9 W) → Aside0 (RB W B3 en) → Aside0 (RB W B4 en) → Calls Try.prog 49 #[.slice B3 en.length d3, .slice B4 en.length d4] W fun ex w' => ex = .returned (.bool true) ∧ Aside0 (Below w9.heap.size w9 w')) := ⟨fun W B3 d3 B4 d4 hW h1 h2 => (same_self B3 d3 en B4 d4 W hW.out h1.out h2.out).mono fun _ _ ⟨h1, h2⟩ => ⟨h1, h2⟩⟩
        have E0 := Aside0.mk (Below.refl w9.heap.size w9)
        have HS0 : Aside0 (∀ W, Aside0 (Below w9.heap.size w9 W) → W.cell? ⟨w.heap.size, 0, none⟩ = some (.int .i64 e) ∧ W.cell? ⟨w.heap.size, 1, none⟩ = some (.slice A cs.length cp) ∧ W.cell? ⟨w3.heap.size, 0, none⟩ = some (.int .i64 0) ∧ W.cell? ⟨w3.heap.size, 1, none⟩ = some (.slice La fs.length ca) ∧ W.cell? ⟨w4.heap.size, 0, none⟩ = some (.int .i64 0) ∧ W.cell? ⟨w4.heap.size, 1, none⟩ = some (.slice Lb fs.length cb) ∧ W.cell? ⟨b, 0, none⟩ = some (.int .i64 ne) ∧ W.cell? ⟨b, 1, none⟩ = some (.slice Ac ncs.length cc) ∧ W.cell? ⟨w8.heap.size, 0, none⟩ = some (.int .i64 ne) ∧ W.cell? ⟨w8.heap.size, 1, none⟩ = some (.slice Ad ncs.length cd) ∧ Aside0 (Below w9.heap.size w9 W)) :=
          ⟨fun W hW => ⟨cell_later hW.out p0, cell_later hW.out p1, cell_later hW.out a0, cell_later hW.out a1, cell_later hW.out q0, cell_later hW.out q1, cell_later hW.out c0, cell_later hW.out c1, cell_later hW.out d0, cell_later hW.out d1, hW⟩⟩
        clear hpr hpl hen hncs hfl her hD b89 bc9 b59 HX5 HA5 HB5 RA5 RB5 RC HC HXc R8 B8 EC hw9 HRP HRA HRB HRC HRD
        go_region_held3 (fun W => W.cell? ⟨w.heap.size, 0, none⟩ = some (.int .i64 e) ∧ W.cell? ⟨w.heap.size, 1, none⟩ = some (.slice A cs.length cp) ∧ W.cell? ⟨w3.heap.size, 0, none⟩ = some (.int .i64 0) ∧ W.cell? ⟨w3.heap.size, 1, none⟩ = some (.slice La fs.length ca) ∧ W.cell? ⟨w4.heap.size, 0, none⟩ = some (.int .i64 0) ∧ W.cell? ⟨w4.heap.size, 1, none⟩ = some (.slice Lb fs.length cb) ∧ W.cell? ⟨b, 0, none⟩ = some (.int .i64 ne) ∧ W.cell? ⟨b, 1, none⟩ = some (.slice Ac ncs.length cc) ∧ W.cell? ⟨w8.heap.size, 0, none⟩ = some (.int .i64 ne) ∧ W.cell? ⟨w8.heap.size, 1, none⟩ = some (.slice Ad ncs.length cd) ∧ Aside0 (Below w9.heap.size w9 W)) ((refine HS0.out _ ?_; first | assumption | (apply drewB; assumption))) (first
          | (go_at_call 44; ((with_reducible refine (k44a.out _ (drewB E0)).mono ?_); rintro ex v1 ⟨rfl, F1⟩))
          | (go_at_call 44; ((with_reducible refine (k44b.out _ F1).mono ?_); rintro ex v2 ⟨rfl, F2⟩))
          | (go_at_call 42; ((with_reducible refine (k42.out _ F2).mono ?_); rintro ex v3 ⟨rfl, F3⟩))
          | (go_at_call 58; ((with_reducible refine (k58.out _ F3).mono ?_); rintro ex v4 ⟨rfl, F4⟩))
          | (go_at_call 43; ((with_reducible refine (k43.out _ F4).mono ?_); rintro ex v5 ⟨B1, d1, rfl, G5, F5⟩))
          | (go_at_call 59; ((with_reducible refine (k59.out _ F5).mono ?_); rintro ex v6 ⟨B2, d2, rfl, G6, K6, F6⟩; have G56 := Aside0.mk (show RI v6 B1 pl ∧ pl.length ≤ d1 from ⟨RB.keep G5.out.1 K6.out, G5.out.2⟩)))
          | (go_at_call 45; ((with_reducible refine (k45.out _ _ _ _ _ F6 G56 G6).mono ?_); rintro ex v7 ⟨rfl, F7⟩))
          | (go_at_call 60; ((with_reducible refine (k60.out _ F7).mono ?_); rintro ex v8 ⟨B3, d3, rfl, G8, F8⟩))
          | (go_at_call 61; ((with_reducible refine (k61.out _ F8).mono ?_); rintro ex v9 ⟨B4, d4, rfl, G9, K9, F9⟩; have G89 := Aside0.mk (show RB v9 B3 en from RB.keep G8.out K9.out)))
          | (go_at_call 49; ((with_reducible refine (k49.out _ _ _ _ _ F9 G89 G9).mono ?_); rintro ex v10 ⟨rfl, F10⟩)))
        go_wp2
        go_ret
        exact ⟨rfl, B09.out.trans (F10.out.mono B09.out.size)⟩
end Go.Proofs.Ytmdnokfmlbjbhaa
