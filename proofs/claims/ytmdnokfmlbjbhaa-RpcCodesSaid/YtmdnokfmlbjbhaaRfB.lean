/- Messages' right, their bytes by the reference: contracts (out of the print of them). -/
import Derived.Test.YtmdnokfmlbjbhaaPRpcCodesx0
namespace Go.Proofs.Ytmdnokfmlbjbhaa.RefMs
open Go.Proofs.Ytmdnokfmlbjbhaa.PRpcCodes
open Go.RowKit Go.Proofs.YtmdnokfmlbjbhaaW.PrintWords Go.Proofs.YtmdnokfmlbjbhaaW.PrintLast Go.Proofs.YtmdnokfmlbjbhaaW.PrintMore
attribute [local go_sem] max2_int min2_int max_two min_two max_three min_three max_four min_four   -- for this text's walks alone
set_option linter.unusedVariables false
set_option linter.unusedSimpArgs false

/-! ### rpc_node: function 143 -/
def rpc_node.f (a0 : Int) : Option (Bool) := if a0 ≥ (-128) then (some (decide (a0 ≤ 127))) else (some false)
set_option maxHeartbeats 8000000 in
set_option maxRecDepth 100000 in
theorem rpc_node.calls (a0 : Int) (r : Bool) (w : World) (h : rpc_node.f a0 = some r) :
    Calls Try.prog 143 #[.int .i64 a0] w fun e w' => e = .returned (.bool r) ∧ Drawn0 w w' := by
  have H : (if a0 ≥ (-128) then (some (decide (a0 ≤ 127))) else (some false)) = some r := h
  clear h
  by_cases c2 : a0 ≥ (-128)
  · rw [if_pos c2] at H
    have c2b0 : decide ((-128) ≤ a0) = true := decide_eq_true c2
    clear c2
    obtain rfl := Option.some.inj H
    go_enter Try.func143, Try.ntmps143
    go_wp2
    go_ret
    exact ⟨by first | rfl | (simp; done) | (simp [*]; done), by repeat (first | exact Drawn0.refl _ | apply Drawn0.step)⟩
  · rw [if_neg c2] at H
    have c2b0 : decide ((-128) ≤ a0) = false := decide_eq_false c2
    clear c2
    obtain rfl := Option.some.inj H
    go_enter Try.func143, Try.ntmps143
    go_wp2
    go_ret
    exact ⟨by first | rfl | (simp; done) | (simp [*]; done), by repeat (first | exact Drawn0.refl _ | apply Drawn0.step)⟩

/-! ### rpc_right: function 128 -/
def rpc_right.f (a0_0 : Int) (a0_1 : Int) (a0_2 : Int) (a0_3 : Bool) (a0_4 : Int) (a0_5 : Int) (a0_6 : Int) (a0_7 : Int) (l0_8 : List Int) (a0_9 : Int) (a0_10 : Int) (l0_11 : List Int) (a0_12 : Int) (a0_13 : Int) (a0_14 : Int) (a0_15 : Int) : Option (Bool) := (rpc_node.f a0_0).bind fun t163 => (if t163 = true then ((rpc_node.f a0_1).bind fun t164 => (if t164 = true then (if a0_4 ≥ 1 then (if a0_7 ≥ 0 then (if a0_7 ≤ 3 then (if a0_4 ≤ 9 then (if (l0_8.length : Int) ≤ 65536 then (some (decide ((l0_11.length : Int) ≤ 1000))) else (some false)) else (some false)) else (if a0_4 ≤ 9 then (some false) else (some false))) else (if a0_4 ≤ 9 then (some false) else (some false))) else (if a0_7 ≥ 0 then (if a0_7 ≤ 3 then (some false) else (some false)) else (some false))) else (if a0_7 ≥ 0 then (if a0_7 ≤ 3 then (some false) else (some false)) else (some false)))) else (if a0_7 ≥ 0 then (if a0_7 ≤ 3 then (some false) else (some false)) else (some false)))
set_option maxHeartbeats 8000000 in
set_option maxRecDepth 100000 in
theorem rpc_right.calls (a0_0 : Int) (a0_1 : Int) (a0_2 : Int) (a0_3 : Bool) (a0_4 : Int) (a0_5 : Int) (a0_6 : Int) (a0_7 : Int) (A0_8 : Option Addr) (c0_8 : Nat) (l0_8 : List Int) (a0_9 : Int) (a0_10 : Int) (A0_11 : Option Addr) (c0_11 : Nat) (l0_11 : List Int) (a0_12 : Int) (a0_13 : Int) (a0_14 : Int) (a0_15 : Int) (r : Bool) (w : World) (hr0_8 : Kd.C (Kd.int .u8) w A0_8 l0_8.length l0_8) (hc0_8 : l0_8.length ≤ c0_8) (hr0_11 : Kd.C (Kd.int .u8) w A0_11 l0_11.length l0_11) (hc0_11 : l0_11.length ≤ c0_11) (h : rpc_right.f a0_0 a0_1 a0_2 a0_3 a0_4 a0_5 a0_6 a0_7 l0_8 a0_9 a0_10 l0_11 a0_12 a0_13 a0_14 a0_15 = some r) :
    Calls Try.prog 128 #[.agg #[.int .i64 a0_0, .int .i64 a0_1, .int .i64 a0_2, .bool a0_3, .int .i64 a0_4, .int .i64 a0_5, .int .i64 a0_6, .int .i64 a0_7, .slice A0_8 l0_8.length c0_8, .int .i64 a0_9, .int .i64 a0_10, .slice A0_11 l0_11.length c0_11, .int .i64 a0_12, .int .i64 a0_13, .int .i64 a0_14, .int .i64 a0_15]] w fun e w' => e = .returned (.bool r) ∧ Below w.heap.size w w' := by
  have hu29 := Try.underlying29
  have HR0_8 := Aside0.mk hr0_8
  have HC0_8 := Aside0.mk hc0_8
  clear hr0_8 hc0_8
  have HR0_11 := Aside0.mk hr0_11
  have HC0_11 := Aside0.mk hc0_11
  clear hr0_11 hc0_11
  have HB := Aside0.mk (Below.refl w.heap.size w)
  have H : ((rpc_node.f a0_0).bind fun t163 => (if t163 = true then ((rpc_node.f a0_1).bind fun t164 => (if t164 = true then (if a0_4 ≥ 1 then (if a0_7 ≥ 0 then (if a0_7 ≤ 3 then (if a0_4 ≤ 9 then (if (l0_8.length : Int) ≤ 65536 then (some (decide ((l0_11.length : Int) ≤ 1000))) else (some false)) else (some false)) else (if a0_4 ≤ 9 then (some false) else (some false))) else (if a0_4 ≤ 9 then (some false) else (some false))) else (if a0_7 ≥ 0 then (if a0_7 ≤ 3 then (some false) else (some false)) else (some false))) else (if a0_7 ≥ 0 then (if a0_7 ≤ 3 then (some false) else (some false)) else (some false)))) else (if a0_7 ≥ 0 then (if a0_7 ≤ 3 then (some false) else (some false)) else (some false)))) = some r := h
  clear h
  replace H := Option.bind_eq_some_iff.mp H
  obtain ⟨t163, A20, H⟩ := H
  replace H : (if t163 = true then ((rpc_node.f a0_1).bind fun t164 => (if t164 = true then (if a0_4 ≥ 1 then (if a0_7 ≥ 0 then (if a0_7 ≤ 3 then (if a0_4 ≤ 9 then (if (l0_8.length : Int) ≤ 65536 then (some (decide ((l0_11.length : Int) ≤ 1000))) else (some false)) else (some false)) else (if a0_4 ≤ 9 then (some false) else (some false))) else (if a0_4 ≤ 9 then (some false) else (some false))) else (if a0_7 ≥ 0 then (if a0_7 ≤ 3 then (some false) else (some false)) else (some false))) else (if a0_7 ≥ 0 then (if a0_7 ≤ 3 then (some false) else (some false)) else (some false)))) else (if a0_7 ≥ 0 then (if a0_7 ≤ 3 then (some false) else (some false)) else (some false))) = some r := H
  have A2 := Aside0.mk A20
  clear A20
  by_cases c3 : t163 = true
  · subst c3
    have H1 : ((rpc_node.f a0_1).bind fun t164 => (if t164 = true then (if a0_4 ≥ 1 then (if a0_7 ≥ 0 then (if a0_7 ≤ 3 then (if a0_4 ≤ 9 then (if (l0_8.length : Int) ≤ 65536 then (some (decide ((l0_11.length : Int) ≤ 1000))) else (some false)) else (some false)) else (if a0_4 ≤ 9 then (some false) else (some false))) else (if a0_4 ≤ 9 then (some false) else (some false))) else (if a0_7 ≥ 0 then (if a0_7 ≤ 3 then (some false) else (some false)) else (some false))) else (if a0_7 ≥ 0 then (if a0_7 ≤ 3 then (some false) else (some false)) else (some false)))) = some r := by rw [if_pos rfl] at H; exact H
    clear H
    have H := H1
    clear H1
    replace H := Option.bind_eq_some_iff.mp H
    obtain ⟨t164, A40, H⟩ := H
    replace H : (if t164 = true then (if a0_4 ≥ 1 then (if a0_7 ≥ 0 then (if a0_7 ≤ 3 then (if a0_4 ≤ 9 then (if (l0_8.length : Int) ≤ 65536 then (some (decide ((l0_11.length : Int) ≤ 1000))) else (some false)) else (some false)) else (if a0_4 ≤ 9 then (some false) else (some false))) else (if a0_4 ≤ 9 then (some false) else (some false))) else (if a0_7 ≥ 0 then (if a0_7 ≤ 3 then (some false) else (some false)) else (some false))) else (if a0_7 ≥ 0 then (if a0_7 ≤ 3 then (some false) else (some false)) else (some false))) = some r := H
    have A4 := Aside0.mk A40
    clear A40
    by_cases c5 : t164 = true
    · subst c5
      have H1 : (if a0_4 ≥ 1 then (if a0_7 ≥ 0 then (if a0_7 ≤ 3 then (if a0_4 ≤ 9 then (if (l0_8.length : Int) ≤ 65536 then (some (decide ((l0_11.length : Int) ≤ 1000))) else (some false)) else (some false)) else (if a0_4 ≤ 9 then (some false) else (some false))) else (if a0_4 ≤ 9 then (some false) else (some false))) else (if a0_7 ≥ 0 then (if a0_7 ≤ 3 then (some false) else (some false)) else (some false))) = some r := by rw [if_pos rfl] at H; exact H
      clear H
      have H := H1
      clear H1
      by_cases c6 : a0_4 ≥ 1
      · rw [if_pos c6] at H
        have c6b0 : decide (1 ≤ a0_4) = true := decide_eq_true c6
        clear c6
        by_cases c7 : a0_7 ≥ 0
        · rw [if_pos c7] at H
          have c7b0 : decide (0 ≤ a0_7) = true := decide_eq_true c7
          clear c7
          by_cases c8 : a0_7 ≤ 3
          · rw [if_pos c8] at H
            have c8b0 : decide (a0_7 ≤ 3) = true := decide_eq_true c8
            clear c8
            by_cases c9 : a0_4 ≤ 9
            · rw [if_pos c9] at H
              have c9b0 : decide (a0_4 ≤ 9) = true := decide_eq_true c9
              clear c9
              by_cases c10 : (l0_8.length : Int) ≤ 65536
              · rw [if_pos c10] at H
                have c10b0 : decide ((l0_8.length : Int) ≤ 65536) = true := decide_eq_true c10
                have c10b1 : decide (l0_8.length ≤ 65536) = true := decide_eq_true (by omega)
                clear c10
                obtain rfl := Option.some.inj H
                go_enter Try.func128, Try.ntmps128
                go_wp2_with (first | ((with_reducible refine gate_dst (N := 1) rfl ?_); (try (refine gate_guard (by rfl) ?_; dsimp only)); refine box_event ?hg (N := 1) ?hd (cs := #[.int .i64 a0_0, .int .i64 a0_1, .int .i64 a0_2, .bool a0_3, .int .i64 a0_4, .int .i64 a0_5, .int .i64 a0_6, .int .i64 a0_7, .slice A0_8 l0_8.length c0_8, .int .i64 a0_9, .int .i64 a0_10, .slice A0_11 l0_11.length c0_11, .int .i64 a0_12, .int .i64 a0_13, .int .i64 a0_14, .int .i64 a0_15]) (t := 29) ?hr ?_; (case hd => rfl); (case hg => rfl); (case hr => first | (go_simp; done) | (go_simp; rfl)); intro gb162 hg w11 hbox hb; have n0_ := Aside0.mk (below_step (by repeat (first | (with_reducible first | exact HB.out | apply below_alloc | apply pw_below_drewN | apply below_drew1) | exact HB.out)) hb); have n1_ := Aside0.mk (hbox); have n2_ := Aside0.mk ((by rw [hg]; exact (below_size (by repeat (first | (with_reducible first | exact HB.out | apply below_alloc | apply pw_below_drewN | apply below_drew1) | exact HB.out))) : w.heap.size ≤ gb162)); have n3_ := Aside0.mk ((by rw [hg]; exact (below_size (by repeat (first | (with_reducible first | exact HB.out | apply below_alloc | apply pw_below_drewN | apply below_drew1) | exact HB.out))) : w.heap.size ≤ gb162)); clear HB; have HB := n0_; have BK162 := n1_; have GW162 := n2_; have GE162 := n3_; clear n0_ n1_ n2_ n3_; clear hb hbox hg; have hcz12_0 : w11.cell? ⟨gb162, 0, none⟩ = some (.int .i64 a0_0) := (blk_cell BK162.out 0).trans rfl; have hcz12_1 : w11.cell? ⟨gb162, 1, none⟩ = some (.int .i64 a0_1) := (blk_cell BK162.out 1).trans rfl; have hcz12_2 : w11.cell? ⟨gb162, 2, none⟩ = some (.int .i64 a0_2) := (blk_cell BK162.out 2).trans rfl; have hcz12_3 : w11.cell? ⟨gb162, 3, none⟩ = some (.bool a0_3) := (blk_cell BK162.out 3).trans rfl; have hcz12_4 : w11.cell? ⟨gb162, 4, none⟩ = some (.int .i64 a0_4) := (blk_cell BK162.out 4).trans rfl; have hcz12_5 : w11.cell? ⟨gb162, 5, none⟩ = some (.int .i64 a0_5) := (blk_cell BK162.out 5).trans rfl; have hcz12_6 : w11.cell? ⟨gb162, 6, none⟩ = some (.int .i64 a0_6) := (blk_cell BK162.out 6).trans rfl; have hcz12_7 : w11.cell? ⟨gb162, 7, none⟩ = some (.int .i64 a0_7) := (blk_cell BK162.out 7).trans rfl; have hcz12_8 : w11.cell? ⟨gb162, 8, none⟩ = some (.slice A0_8 l0_8.length c0_8) := (blk_cell BK162.out 8).trans rfl; have hcz12_9 : w11.cell? ⟨gb162, 9, none⟩ = some (.int .i64 a0_9) := (blk_cell BK162.out 9).trans rfl; have hcz12_10 : w11.cell? ⟨gb162, 10, none⟩ = some (.int .i64 a0_10) := (blk_cell BK162.out 10).trans rfl; have hcz12_11 : w11.cell? ⟨gb162, 11, none⟩ = some (.slice A0_11 l0_11.length c0_11) := (blk_cell BK162.out 11).trans rfl; have hcz12_12 : w11.cell? ⟨gb162, 12, none⟩ = some (.int .i64 a0_12) := (blk_cell BK162.out 12).trans rfl; have hcz12_13 : w11.cell? ⟨gb162, 13, none⟩ = some (.int .i64 a0_13) := (blk_cell BK162.out 13).trans rfl; have hcz12_14 : w11.cell? ⟨gb162, 14, none⟩ = some (.int .i64 a0_14) := (blk_cell BK162.out 14).trans rfl; have hcz12_15 : w11.cell? ⟨gb162, 15, none⟩ = some (.int .i64 a0_15) := (blk_cell BK162.out 15).trans rfl; have hfz12_0 := blk_frozen BK162.out 0; have hfz12_1 := blk_frozen BK162.out 1; have hfz12_2 := blk_frozen BK162.out 2; have hfz12_3 := blk_frozen BK162.out 3; have hfz12_4 := blk_frozen BK162.out 4; have hfz12_5 := blk_frozen BK162.out 5; have hfz12_6 := blk_frozen BK162.out 6; have hfz12_7 := blk_frozen BK162.out 7; have hfz12_8 := blk_frozen BK162.out 8; have hfz12_9 := blk_frozen BK162.out 9; have hfz12_10 := blk_frozen BK162.out 10; have hfz12_11 := blk_frozen BK162.out 11; have hfz12_12 := blk_frozen BK162.out 12; have hfz12_13 := blk_frozen BK162.out 13; have hfz12_14 := blk_frozen BK162.out 14; have hfz12_15 := blk_frozen BK162.out 15) | ((with_reducible refine gate_callee (f := 143) rfl ?_); refine goesL_ (some 7) rfl rfl Try.func143 (by kernel_rfl) rfl #[.int .i64 a0_0] rfl (by (try simp only [List.map_toArray, List.map_cons, List.map_nil]); first | done | rfl | (simp only [List.length_drop, List.length_take]; rfl)) ?_; (with_reducible refine (rpc_node.calls a0_0 true _ A2.out).mono ?_); rintro e w' ⟨rfl, ⟨nd, rfl⟩⟩; refine ⟨_, rfl, ?_⟩) | (go_at_call 143; (with_reducible refine (rpc_node.calls a0_1 true _ A4.out).mono ?_); rintro e w' ⟨rfl, ⟨nd, rfl⟩⟩))
                go_ret
                exact ⟨by first | rfl | (simp [errW_none, errW_some] <;> rfl) | (simp [*, errW_none, errW_some] <;> rfl), by repeat (first | (with_reducible first | exact HB.out | apply below_alloc | apply pw_below_drewN | apply below_drew1 | refine below_set ?_ GE162.out) | exact HB.out)⟩
              · rw [if_neg c10] at H
                have c10b0 : decide ((l0_8.length : Int) ≤ 65536) = false := decide_eq_false c10
                have c10b1 : decide (l0_8.length ≤ 65536) = false := decide_eq_false (by omega)
                clear c10
                obtain rfl := Option.some.inj H
                go_enter Try.func128, Try.ntmps128
                go_wp2_with (first | ((with_reducible refine gate_dst (N := 1) rfl ?_); (try (refine gate_guard (by rfl) ?_; dsimp only)); refine box_event ?hg (N := 1) ?hd (cs := #[.int .i64 a0_0, .int .i64 a0_1, .int .i64 a0_2, .bool a0_3, .int .i64 a0_4, .int .i64 a0_5, .int .i64 a0_6, .int .i64 a0_7, .slice A0_8 l0_8.length c0_8, .int .i64 a0_9, .int .i64 a0_10, .slice A0_11 l0_11.length c0_11, .int .i64 a0_12, .int .i64 a0_13, .int .i64 a0_14, .int .i64 a0_15]) (t := 29) ?hr ?_; (case hd => rfl); (case hg => rfl); (case hr => first | (go_simp; done) | (go_simp; rfl)); intro gb162 hg w13 hbox hb; have n0_ := Aside0.mk (below_step (by repeat (first | (with_reducible first | exact HB.out | apply below_alloc | apply pw_below_drewN | apply below_drew1) | exact HB.out)) hb); have n1_ := Aside0.mk (hbox); have n2_ := Aside0.mk ((by rw [hg]; exact (below_size (by repeat (first | (with_reducible first | exact HB.out | apply below_alloc | apply pw_below_drewN | apply below_drew1) | exact HB.out))) : w.heap.size ≤ gb162)); have n3_ := Aside0.mk ((by rw [hg]; exact (below_size (by repeat (first | (with_reducible first | exact HB.out | apply below_alloc | apply pw_below_drewN | apply below_drew1) | exact HB.out))) : w.heap.size ≤ gb162)); clear HB; have HB := n0_; have BK162 := n1_; have GW162 := n2_; have GE162 := n3_; clear n0_ n1_ n2_ n3_; clear hb hbox hg; have hcz14_0 : w13.cell? ⟨gb162, 0, none⟩ = some (.int .i64 a0_0) := (blk_cell BK162.out 0).trans rfl; have hcz14_1 : w13.cell? ⟨gb162, 1, none⟩ = some (.int .i64 a0_1) := (blk_cell BK162.out 1).trans rfl; have hcz14_2 : w13.cell? ⟨gb162, 2, none⟩ = some (.int .i64 a0_2) := (blk_cell BK162.out 2).trans rfl; have hcz14_3 : w13.cell? ⟨gb162, 3, none⟩ = some (.bool a0_3) := (blk_cell BK162.out 3).trans rfl; have hcz14_4 : w13.cell? ⟨gb162, 4, none⟩ = some (.int .i64 a0_4) := (blk_cell BK162.out 4).trans rfl; have hcz14_5 : w13.cell? ⟨gb162, 5, none⟩ = some (.int .i64 a0_5) := (blk_cell BK162.out 5).trans rfl; have hcz14_6 : w13.cell? ⟨gb162, 6, none⟩ = some (.int .i64 a0_6) := (blk_cell BK162.out 6).trans rfl; have hcz14_7 : w13.cell? ⟨gb162, 7, none⟩ = some (.int .i64 a0_7) := (blk_cell BK162.out 7).trans rfl; have hcz14_8 : w13.cell? ⟨gb162, 8, none⟩ = some (.slice A0_8 l0_8.length c0_8) := (blk_cell BK162.out 8).trans rfl; have hcz14_9 : w13.cell? ⟨gb162, 9, none⟩ = some (.int .i64 a0_9) := (blk_cell BK162.out 9).trans rfl; have hcz14_10 : w13.cell? ⟨gb162, 10, none⟩ = some (.int .i64 a0_10) := (blk_cell BK162.out 10).trans rfl; have hcz14_11 : w13.cell? ⟨gb162, 11, none⟩ = some (.slice A0_11 l0_11.length c0_11) := (blk_cell BK162.out 11).trans rfl; have hcz14_12 : w13.cell? ⟨gb162, 12, none⟩ = some (.int .i64 a0_12) := (blk_cell BK162.out 12).trans rfl; have hcz14_13 : w13.cell? ⟨gb162, 13, none⟩ = some (.int .i64 a0_13) := (blk_cell BK162.out 13).trans rfl; have hcz14_14 : w13.cell? ⟨gb162, 14, none⟩ = some (.int .i64 a0_14) := (blk_cell BK162.out 14).trans rfl; have hcz14_15 : w13.cell? ⟨gb162, 15, none⟩ = some (.int .i64 a0_15) := (blk_cell BK162.out 15).trans rfl; have hfz14_0 := blk_frozen BK162.out 0; have hfz14_1 := blk_frozen BK162.out 1; have hfz14_2 := blk_frozen BK162.out 2; have hfz14_3 := blk_frozen BK162.out 3; have hfz14_4 := blk_frozen BK162.out 4; have hfz14_5 := blk_frozen BK162.out 5; have hfz14_6 := blk_frozen BK162.out 6; have hfz14_7 := blk_frozen BK162.out 7; have hfz14_8 := blk_frozen BK162.out 8; have hfz14_9 := blk_frozen BK162.out 9; have hfz14_10 := blk_frozen BK162.out 10; have hfz14_11 := blk_frozen BK162.out 11; have hfz14_12 := blk_frozen BK162.out 12; have hfz14_13 := blk_frozen BK162.out 13; have hfz14_14 := blk_frozen BK162.out 14; have hfz14_15 := blk_frozen BK162.out 15) | ((with_reducible refine gate_callee (f := 143) rfl ?_); refine goesL_ (some 7) rfl rfl Try.func143 (by kernel_rfl) rfl #[.int .i64 a0_0] rfl (by (try simp only [List.map_toArray, List.map_cons, List.map_nil]); first | done | rfl | (simp only [List.length_drop, List.length_take]; rfl)) ?_; (with_reducible refine (rpc_node.calls a0_0 true _ A2.out).mono ?_); rintro e w' ⟨rfl, ⟨nd, rfl⟩⟩; refine ⟨_, rfl, ?_⟩) | (go_at_call 143; (with_reducible refine (rpc_node.calls a0_1 true _ A4.out).mono ?_); rintro e w' ⟨rfl, ⟨nd, rfl⟩⟩))
                go_ret
                exact ⟨by first | rfl | (simp [errW_none, errW_some] <;> rfl) | (simp [*, errW_none, errW_some] <;> rfl), by repeat (first | (with_reducible first | exact HB.out | apply below_alloc | apply pw_below_drewN | apply below_drew1 | refine below_set ?_ GE162.out) | exact HB.out)⟩
            · rw [if_neg c9] at H
              have c9b0 : decide (a0_4 ≤ 9) = false := decide_eq_false c9
              clear c9
              obtain rfl := Option.some.inj H
              go_enter Try.func128, Try.ntmps128
              go_wp2_with (first | ((with_reducible refine gate_dst (N := 1) rfl ?_); (try (refine gate_guard (by rfl) ?_; dsimp only)); refine box_event ?hg (N := 1) ?hd (cs := #[.int .i64 a0_0, .int .i64 a0_1, .int .i64 a0_2, .bool a0_3, .int .i64 a0_4, .int .i64 a0_5, .int .i64 a0_6, .int .i64 a0_7, .slice A0_8 l0_8.length c0_8, .int .i64 a0_9, .int .i64 a0_10, .slice A0_11 l0_11.length c0_11, .int .i64 a0_12, .int .i64 a0_13, .int .i64 a0_14, .int .i64 a0_15]) (t := 29) ?hr ?_; (case hd => rfl); (case hg => rfl); (case hr => first | (go_simp; done) | (go_simp; rfl)); intro gb162 hg w15 hbox hb; have n0_ := Aside0.mk (below_step (by repeat (first | (with_reducible first | exact HB.out | apply below_alloc | apply pw_below_drewN | apply below_drew1) | exact HB.out)) hb); have n1_ := Aside0.mk (hbox); have n2_ := Aside0.mk ((by rw [hg]; exact (below_size (by repeat (first | (with_reducible first | exact HB.out | apply below_alloc | apply pw_below_drewN | apply below_drew1) | exact HB.out))) : w.heap.size ≤ gb162)); have n3_ := Aside0.mk ((by rw [hg]; exact (below_size (by repeat (first | (with_reducible first | exact HB.out | apply below_alloc | apply pw_below_drewN | apply below_drew1) | exact HB.out))) : w.heap.size ≤ gb162)); clear HB; have HB := n0_; have BK162 := n1_; have GW162 := n2_; have GE162 := n3_; clear n0_ n1_ n2_ n3_; clear hb hbox hg; have hcz16_0 : w15.cell? ⟨gb162, 0, none⟩ = some (.int .i64 a0_0) := (blk_cell BK162.out 0).trans rfl; have hcz16_1 : w15.cell? ⟨gb162, 1, none⟩ = some (.int .i64 a0_1) := (blk_cell BK162.out 1).trans rfl; have hcz16_2 : w15.cell? ⟨gb162, 2, none⟩ = some (.int .i64 a0_2) := (blk_cell BK162.out 2).trans rfl; have hcz16_3 : w15.cell? ⟨gb162, 3, none⟩ = some (.bool a0_3) := (blk_cell BK162.out 3).trans rfl; have hcz16_4 : w15.cell? ⟨gb162, 4, none⟩ = some (.int .i64 a0_4) := (blk_cell BK162.out 4).trans rfl; have hcz16_5 : w15.cell? ⟨gb162, 5, none⟩ = some (.int .i64 a0_5) := (blk_cell BK162.out 5).trans rfl; have hcz16_6 : w15.cell? ⟨gb162, 6, none⟩ = some (.int .i64 a0_6) := (blk_cell BK162.out 6).trans rfl; have hcz16_7 : w15.cell? ⟨gb162, 7, none⟩ = some (.int .i64 a0_7) := (blk_cell BK162.out 7).trans rfl; have hcz16_8 : w15.cell? ⟨gb162, 8, none⟩ = some (.slice A0_8 l0_8.length c0_8) := (blk_cell BK162.out 8).trans rfl; have hcz16_9 : w15.cell? ⟨gb162, 9, none⟩ = some (.int .i64 a0_9) := (blk_cell BK162.out 9).trans rfl; have hcz16_10 : w15.cell? ⟨gb162, 10, none⟩ = some (.int .i64 a0_10) := (blk_cell BK162.out 10).trans rfl; have hcz16_11 : w15.cell? ⟨gb162, 11, none⟩ = some (.slice A0_11 l0_11.length c0_11) := (blk_cell BK162.out 11).trans rfl; have hcz16_12 : w15.cell? ⟨gb162, 12, none⟩ = some (.int .i64 a0_12) := (blk_cell BK162.out 12).trans rfl; have hcz16_13 : w15.cell? ⟨gb162, 13, none⟩ = some (.int .i64 a0_13) := (blk_cell BK162.out 13).trans rfl; have hcz16_14 : w15.cell? ⟨gb162, 14, none⟩ = some (.int .i64 a0_14) := (blk_cell BK162.out 14).trans rfl; have hcz16_15 : w15.cell? ⟨gb162, 15, none⟩ = some (.int .i64 a0_15) := (blk_cell BK162.out 15).trans rfl; have hfz16_0 := blk_frozen BK162.out 0; have hfz16_1 := blk_frozen BK162.out 1; have hfz16_2 := blk_frozen BK162.out 2; have hfz16_3 := blk_frozen BK162.out 3; have hfz16_4 := blk_frozen BK162.out 4; have hfz16_5 := blk_frozen BK162.out 5; have hfz16_6 := blk_frozen BK162.out 6; have hfz16_7 := blk_frozen BK162.out 7; have hfz16_8 := blk_frozen BK162.out 8; have hfz16_9 := blk_frozen BK162.out 9; have hfz16_10 := blk_frozen BK162.out 10; have hfz16_11 := blk_frozen BK162.out 11; have hfz16_12 := blk_frozen BK162.out 12; have hfz16_13 := blk_frozen BK162.out 13; have hfz16_14 := blk_frozen BK162.out 14; have hfz16_15 := blk_frozen BK162.out 15) | ((with_reducible refine gate_callee (f := 143) rfl ?_); refine goesL_ (some 7) rfl rfl Try.func143 (by kernel_rfl) rfl #[.int .i64 a0_0] rfl (by (try simp only [List.map_toArray, List.map_cons, List.map_nil]); first | done | rfl | (simp only [List.length_drop, List.length_take]; rfl)) ?_; (with_reducible refine (rpc_node.calls a0_0 true _ A2.out).mono ?_); rintro e w' ⟨rfl, ⟨nd, rfl⟩⟩; refine ⟨_, rfl, ?_⟩) | (go_at_call 143; (with_reducible refine (rpc_node.calls a0_1 true _ A4.out).mono ?_); rintro e w' ⟨rfl, ⟨nd, rfl⟩⟩))
              go_ret
              exact ⟨by first | rfl | (simp [errW_none, errW_some] <;> rfl) | (simp [*, errW_none, errW_some] <;> rfl), by repeat (first | (with_reducible first | exact HB.out | apply below_alloc | apply pw_below_drewN | apply below_drew1 | refine below_set ?_ GE162.out) | exact HB.out)⟩
          · rw [if_neg c8] at H
            have c8b0 : decide (a0_7 ≤ 3) = false := decide_eq_false c8
            clear c8
            by_cases c17 : a0_4 ≤ 9
            · rw [if_pos c17] at H
              have c17b0 : decide (a0_4 ≤ 9) = true := decide_eq_true c17
              clear c17
              obtain rfl := Option.some.inj H
              go_enter Try.func128, Try.ntmps128
              go_wp2_with (first | ((with_reducible refine gate_dst (N := 1) rfl ?_); (try (refine gate_guard (by rfl) ?_; dsimp only)); refine box_event ?hg (N := 1) ?hd (cs := #[.int .i64 a0_0, .int .i64 a0_1, .int .i64 a0_2, .bool a0_3, .int .i64 a0_4, .int .i64 a0_5, .int .i64 a0_6, .int .i64 a0_7, .slice A0_8 l0_8.length c0_8, .int .i64 a0_9, .int .i64 a0_10, .slice A0_11 l0_11.length c0_11, .int .i64 a0_12, .int .i64 a0_13, .int .i64 a0_14, .int .i64 a0_15]) (t := 29) ?hr ?_; (case hd => rfl); (case hg => rfl); (case hr => first | (go_simp; done) | (go_simp; rfl)); intro gb162 hg w18 hbox hb; have n0_ := Aside0.mk (below_step (by repeat (first | (with_reducible first | exact HB.out | apply below_alloc | apply pw_below_drewN | apply below_drew1) | exact HB.out)) hb); have n1_ := Aside0.mk (hbox); have n2_ := Aside0.mk ((by rw [hg]; exact (below_size (by repeat (first | (with_reducible first | exact HB.out | apply below_alloc | apply pw_below_drewN | apply below_drew1) | exact HB.out))) : w.heap.size ≤ gb162)); have n3_ := Aside0.mk ((by rw [hg]; exact (below_size (by repeat (first | (with_reducible first | exact HB.out | apply below_alloc | apply pw_below_drewN | apply below_drew1) | exact HB.out))) : w.heap.size ≤ gb162)); clear HB; have HB := n0_; have BK162 := n1_; have GW162 := n2_; have GE162 := n3_; clear n0_ n1_ n2_ n3_; clear hb hbox hg; have hcz19_0 : w18.cell? ⟨gb162, 0, none⟩ = some (.int .i64 a0_0) := (blk_cell BK162.out 0).trans rfl; have hcz19_1 : w18.cell? ⟨gb162, 1, none⟩ = some (.int .i64 a0_1) := (blk_cell BK162.out 1).trans rfl; have hcz19_2 : w18.cell? ⟨gb162, 2, none⟩ = some (.int .i64 a0_2) := (blk_cell BK162.out 2).trans rfl; have hcz19_3 : w18.cell? ⟨gb162, 3, none⟩ = some (.bool a0_3) := (blk_cell BK162.out 3).trans rfl; have hcz19_4 : w18.cell? ⟨gb162, 4, none⟩ = some (.int .i64 a0_4) := (blk_cell BK162.out 4).trans rfl; have hcz19_5 : w18.cell? ⟨gb162, 5, none⟩ = some (.int .i64 a0_5) := (blk_cell BK162.out 5).trans rfl; have hcz19_6 : w18.cell? ⟨gb162, 6, none⟩ = some (.int .i64 a0_6) := (blk_cell BK162.out 6).trans rfl; have hcz19_7 : w18.cell? ⟨gb162, 7, none⟩ = some (.int .i64 a0_7) := (blk_cell BK162.out 7).trans rfl; have hcz19_8 : w18.cell? ⟨gb162, 8, none⟩ = some (.slice A0_8 l0_8.length c0_8) := (blk_cell BK162.out 8).trans rfl; have hcz19_9 : w18.cell? ⟨gb162, 9, none⟩ = some (.int .i64 a0_9) := (blk_cell BK162.out 9).trans rfl; have hcz19_10 : w18.cell? ⟨gb162, 10, none⟩ = some (.int .i64 a0_10) := (blk_cell BK162.out 10).trans rfl; have hcz19_11 : w18.cell? ⟨gb162, 11, none⟩ = some (.slice A0_11 l0_11.length c0_11) := (blk_cell BK162.out 11).trans rfl; have hcz19_12 : w18.cell? ⟨gb162, 12, none⟩ = some (.int .i64 a0_12) := (blk_cell BK162.out 12).trans rfl; have hcz19_13 : w18.cell? ⟨gb162, 13, none⟩ = some (.int .i64 a0_13) := (blk_cell BK162.out 13).trans rfl; have hcz19_14 : w18.cell? ⟨gb162, 14, none⟩ = some (.int .i64 a0_14) := (blk_cell BK162.out 14).trans rfl; have hcz19_15 : w18.cell? ⟨gb162, 15, none⟩ = some (.int .i64 a0_15) := (blk_cell BK162.out 15).trans rfl; have hfz19_0 := blk_frozen BK162.out 0; have hfz19_1 := blk_frozen BK162.out 1; have hfz19_2 := blk_frozen BK162.out 2; have hfz19_3 := blk_frozen BK162.out 3; have hfz19_4 := blk_frozen BK162.out 4; have hfz19_5 := blk_frozen BK162.out 5; have hfz19_6 := blk_frozen BK162.out 6; have hfz19_7 := blk_frozen BK162.out 7; have hfz19_8 := blk_frozen BK162.out 8; have hfz19_9 := blk_frozen BK162.out 9; have hfz19_10 := blk_frozen BK162.out 10; have hfz19_11 := blk_frozen BK162.out 11; have hfz19_12 := blk_frozen BK162.out 12; have hfz19_13 := blk_frozen BK162.out 13; have hfz19_14 := blk_frozen BK162.out 14; have hfz19_15 := blk_frozen BK162.out 15) | ((with_reducible refine gate_callee (f := 143) rfl ?_); refine goesL_ (some 7) rfl rfl Try.func143 (by kernel_rfl) rfl #[.int .i64 a0_0] rfl (by (try simp only [List.map_toArray, List.map_cons, List.map_nil]); first | done | rfl | (simp only [List.length_drop, List.length_take]; rfl)) ?_; (with_reducible refine (rpc_node.calls a0_0 true _ A2.out).mono ?_); rintro e w' ⟨rfl, ⟨nd, rfl⟩⟩; refine ⟨_, rfl, ?_⟩) | (go_at_call 143; (with_reducible refine (rpc_node.calls a0_1 true _ A4.out).mono ?_); rintro e w' ⟨rfl, ⟨nd, rfl⟩⟩))
              go_ret
              exact ⟨by first | rfl | (simp [errW_none, errW_some] <;> rfl) | (simp [*, errW_none, errW_some] <;> rfl), by repeat (first | (with_reducible first | exact HB.out | apply below_alloc | apply pw_below_drewN | apply below_drew1 | refine below_set ?_ GE162.out) | exact HB.out)⟩
            · rw [if_neg c17] at H
              have c17b0 : decide (a0_4 ≤ 9) = false := decide_eq_false c17
              clear c17
              obtain rfl := Option.some.inj H
              go_enter Try.func128, Try.ntmps128
              go_wp2_with (first | ((with_reducible refine gate_dst (N := 1) rfl ?_); (try (refine gate_guard (by rfl) ?_; dsimp only)); refine box_event ?hg (N := 1) ?hd (cs := #[.int .i64 a0_0, .int .i64 a0_1, .int .i64 a0_2, .bool a0_3, .int .i64 a0_4, .int .i64 a0_5, .int .i64 a0_6, .int .i64 a0_7, .slice A0_8 l0_8.length c0_8, .int .i64 a0_9, .int .i64 a0_10, .slice A0_11 l0_11.length c0_11, .int .i64 a0_12, .int .i64 a0_13, .int .i64 a0_14, .int .i64 a0_15]) (t := 29) ?hr ?_; (case hd => rfl); (case hg => rfl); (case hr => first | (go_simp; done) | (go_simp; rfl)); intro gb162 hg w20 hbox hb; have n0_ := Aside0.mk (below_step (by repeat (first | (with_reducible first | exact HB.out | apply below_alloc | apply pw_below_drewN | apply below_drew1) | exact HB.out)) hb); have n1_ := Aside0.mk (hbox); have n2_ := Aside0.mk ((by rw [hg]; exact (below_size (by repeat (first | (with_reducible first | exact HB.out | apply below_alloc | apply pw_below_drewN | apply below_drew1) | exact HB.out))) : w.heap.size ≤ gb162)); have n3_ := Aside0.mk ((by rw [hg]; exact (below_size (by repeat (first | (with_reducible first | exact HB.out | apply below_alloc | apply pw_below_drewN | apply below_drew1) | exact HB.out))) : w.heap.size ≤ gb162)); clear HB; have HB := n0_; have BK162 := n1_; have GW162 := n2_; have GE162 := n3_; clear n0_ n1_ n2_ n3_; clear hb hbox hg; have hcz21_0 : w20.cell? ⟨gb162, 0, none⟩ = some (.int .i64 a0_0) := (blk_cell BK162.out 0).trans rfl; have hcz21_1 : w20.cell? ⟨gb162, 1, none⟩ = some (.int .i64 a0_1) := (blk_cell BK162.out 1).trans rfl; have hcz21_2 : w20.cell? ⟨gb162, 2, none⟩ = some (.int .i64 a0_2) := (blk_cell BK162.out 2).trans rfl; have hcz21_3 : w20.cell? ⟨gb162, 3, none⟩ = some (.bool a0_3) := (blk_cell BK162.out 3).trans rfl; have hcz21_4 : w20.cell? ⟨gb162, 4, none⟩ = some (.int .i64 a0_4) := (blk_cell BK162.out 4).trans rfl; have hcz21_5 : w20.cell? ⟨gb162, 5, none⟩ = some (.int .i64 a0_5) := (blk_cell BK162.out 5).trans rfl; have hcz21_6 : w20.cell? ⟨gb162, 6, none⟩ = some (.int .i64 a0_6) := (blk_cell BK162.out 6).trans rfl; have hcz21_7 : w20.cell? ⟨gb162, 7, none⟩ = some (.int .i64 a0_7) := (blk_cell BK162.out 7).trans rfl; have hcz21_8 : w20.cell? ⟨gb162, 8, none⟩ = some (.slice A0_8 l0_8.length c0_8) := (blk_cell BK162.out 8).trans rfl; have hcz21_9 : w20.cell? ⟨gb162, 9, none⟩ = some (.int .i64 a0_9) := (blk_cell BK162.out 9).trans rfl; have hcz21_10 : w20.cell? ⟨gb162, 10, none⟩ = some (.int .i64 a0_10) := (blk_cell BK162.out 10).trans rfl; have hcz21_11 : w20.cell? ⟨gb162, 11, none⟩ = some (.slice A0_11 l0_11.length c0_11) := (blk_cell BK162.out 11).trans rfl; have hcz21_12 : w20.cell? ⟨gb162, 12, none⟩ = some (.int .i64 a0_12) := (blk_cell BK162.out 12).trans rfl; have hcz21_13 : w20.cell? ⟨gb162, 13, none⟩ = some (.int .i64 a0_13) := (blk_cell BK162.out 13).trans rfl; have hcz21_14 : w20.cell? ⟨gb162, 14, none⟩ = some (.int .i64 a0_14) := (blk_cell BK162.out 14).trans rfl; have hcz21_15 : w20.cell? ⟨gb162, 15, none⟩ = some (.int .i64 a0_15) := (blk_cell BK162.out 15).trans rfl; have hfz21_0 := blk_frozen BK162.out 0; have hfz21_1 := blk_frozen BK162.out 1; have hfz21_2 := blk_frozen BK162.out 2; have hfz21_3 := blk_frozen BK162.out 3; have hfz21_4 := blk_frozen BK162.out 4; have hfz21_5 := blk_frozen BK162.out 5; have hfz21_6 := blk_frozen BK162.out 6; have hfz21_7 := blk_frozen BK162.out 7; have hfz21_8 := blk_frozen BK162.out 8; have hfz21_9 := blk_frozen BK162.out 9; have hfz21_10 := blk_frozen BK162.out 10; have hfz21_11 := blk_frozen BK162.out 11; have hfz21_12 := blk_frozen BK162.out 12; have hfz21_13 := blk_frozen BK162.out 13; have hfz21_14 := blk_frozen BK162.out 14; have hfz21_15 := blk_frozen BK162.out 15) | ((with_reducible refine gate_callee (f := 143) rfl ?_); refine goesL_ (some 7) rfl rfl Try.func143 (by kernel_rfl) rfl #[.int .i64 a0_0] rfl (by (try simp only [List.map_toArray, List.map_cons, List.map_nil]); first | done | rfl | (simp only [List.length_drop, List.length_take]; rfl)) ?_; (with_reducible refine (rpc_node.calls a0_0 true _ A2.out).mono ?_); rintro e w' ⟨rfl, ⟨nd, rfl⟩⟩; refine ⟨_, rfl, ?_⟩) | (go_at_call 143; (with_reducible refine (rpc_node.calls a0_1 true _ A4.out).mono ?_); rintro e w' ⟨rfl, ⟨nd, rfl⟩⟩))
              go_ret
              exact ⟨by first | rfl | (simp [errW_none, errW_some] <;> rfl) | (simp [*, errW_none, errW_some] <;> rfl), by repeat (first | (with_reducible first | exact HB.out | apply below_alloc | apply pw_below_drewN | apply below_drew1 | refine below_set ?_ GE162.out) | exact HB.out)⟩
        · rw [if_neg c7] at H
          have c7b0 : decide (0 ≤ a0_7) = false := decide_eq_false c7
          clear c7
          by_cases c22 : a0_4 ≤ 9
          · rw [if_pos c22] at H
            have c22b0 : decide (a0_4 ≤ 9) = true := decide_eq_true c22
            clear c22
            obtain rfl := Option.some.inj H
            go_enter Try.func128, Try.ntmps128
            go_wp2_with (first | ((with_reducible refine gate_dst (N := 1) rfl ?_); (try (refine gate_guard (by rfl) ?_; dsimp only)); refine box_event ?hg (N := 1) ?hd (cs := #[.int .i64 a0_0, .int .i64 a0_1, .int .i64 a0_2, .bool a0_3, .int .i64 a0_4, .int .i64 a0_5, .int .i64 a0_6, .int .i64 a0_7, .slice A0_8 l0_8.length c0_8, .int .i64 a0_9, .int .i64 a0_10, .slice A0_11 l0_11.length c0_11, .int .i64 a0_12, .int .i64 a0_13, .int .i64 a0_14, .int .i64 a0_15]) (t := 29) ?hr ?_; (case hd => rfl); (case hg => rfl); (case hr => first | (go_simp; done) | (go_simp; rfl)); intro gb162 hg w23 hbox hb; have n0_ := Aside0.mk (below_step (by repeat (first | (with_reducible first | exact HB.out | apply below_alloc | apply pw_below_drewN | apply below_drew1) | exact HB.out)) hb); have n1_ := Aside0.mk (hbox); have n2_ := Aside0.mk ((by rw [hg]; exact (below_size (by repeat (first | (with_reducible first | exact HB.out | apply below_alloc | apply pw_below_drewN | apply below_drew1) | exact HB.out))) : w.heap.size ≤ gb162)); have n3_ := Aside0.mk ((by rw [hg]; exact (below_size (by repeat (first | (with_reducible first | exact HB.out | apply below_alloc | apply pw_below_drewN | apply below_drew1) | exact HB.out))) : w.heap.size ≤ gb162)); clear HB; have HB := n0_; have BK162 := n1_; have GW162 := n2_; have GE162 := n3_; clear n0_ n1_ n2_ n3_; clear hb hbox hg; have hcz24_0 : w23.cell? ⟨gb162, 0, none⟩ = some (.int .i64 a0_0) := (blk_cell BK162.out 0).trans rfl; have hcz24_1 : w23.cell? ⟨gb162, 1, none⟩ = some (.int .i64 a0_1) := (blk_cell BK162.out 1).trans rfl; have hcz24_2 : w23.cell? ⟨gb162, 2, none⟩ = some (.int .i64 a0_2) := (blk_cell BK162.out 2).trans rfl; have hcz24_3 : w23.cell? ⟨gb162, 3, none⟩ = some (.bool a0_3) := (blk_cell BK162.out 3).trans rfl; have hcz24_4 : w23.cell? ⟨gb162, 4, none⟩ = some (.int .i64 a0_4) := (blk_cell BK162.out 4).trans rfl; have hcz24_5 : w23.cell? ⟨gb162, 5, none⟩ = some (.int .i64 a0_5) := (blk_cell BK162.out 5).trans rfl; have hcz24_6 : w23.cell? ⟨gb162, 6, none⟩ = some (.int .i64 a0_6) := (blk_cell BK162.out 6).trans rfl; have hcz24_7 : w23.cell? ⟨gb162, 7, none⟩ = some (.int .i64 a0_7) := (blk_cell BK162.out 7).trans rfl; have hcz24_8 : w23.cell? ⟨gb162, 8, none⟩ = some (.slice A0_8 l0_8.length c0_8) := (blk_cell BK162.out 8).trans rfl; have hcz24_9 : w23.cell? ⟨gb162, 9, none⟩ = some (.int .i64 a0_9) := (blk_cell BK162.out 9).trans rfl; have hcz24_10 : w23.cell? ⟨gb162, 10, none⟩ = some (.int .i64 a0_10) := (blk_cell BK162.out 10).trans rfl; have hcz24_11 : w23.cell? ⟨gb162, 11, none⟩ = some (.slice A0_11 l0_11.length c0_11) := (blk_cell BK162.out 11).trans rfl; have hcz24_12 : w23.cell? ⟨gb162, 12, none⟩ = some (.int .i64 a0_12) := (blk_cell BK162.out 12).trans rfl; have hcz24_13 : w23.cell? ⟨gb162, 13, none⟩ = some (.int .i64 a0_13) := (blk_cell BK162.out 13).trans rfl; have hcz24_14 : w23.cell? ⟨gb162, 14, none⟩ = some (.int .i64 a0_14) := (blk_cell BK162.out 14).trans rfl; have hcz24_15 : w23.cell? ⟨gb162, 15, none⟩ = some (.int .i64 a0_15) := (blk_cell BK162.out 15).trans rfl; have hfz24_0 := blk_frozen BK162.out 0; have hfz24_1 := blk_frozen BK162.out 1; have hfz24_2 := blk_frozen BK162.out 2; have hfz24_3 := blk_frozen BK162.out 3; have hfz24_4 := blk_frozen BK162.out 4; have hfz24_5 := blk_frozen BK162.out 5; have hfz24_6 := blk_frozen BK162.out 6; have hfz24_7 := blk_frozen BK162.out 7; have hfz24_8 := blk_frozen BK162.out 8; have hfz24_9 := blk_frozen BK162.out 9; have hfz24_10 := blk_frozen BK162.out 10; have hfz24_11 := blk_frozen BK162.out 11; have hfz24_12 := blk_frozen BK162.out 12; have hfz24_13 := blk_frozen BK162.out 13; have hfz24_14 := blk_frozen BK162.out 14; have hfz24_15 := blk_frozen BK162.out 15) | ((with_reducible refine gate_callee (f := 143) rfl ?_); refine goesL_ (some 7) rfl rfl Try.func143 (by kernel_rfl) rfl #[.int .i64 a0_0] rfl (by (try simp only [List.map_toArray, List.map_cons, List.map_nil]); first | done | rfl | (simp only [List.length_drop, List.length_take]; rfl)) ?_; (with_reducible refine (rpc_node.calls a0_0 true _ A2.out).mono ?_); rintro e w' ⟨rfl, ⟨nd, rfl⟩⟩; refine ⟨_, rfl, ?_⟩) | (go_at_call 143; (with_reducible refine (rpc_node.calls a0_1 true _ A4.out).mono ?_); rintro e w' ⟨rfl, ⟨nd, rfl⟩⟩))
            go_ret
            exact ⟨by first | rfl | (simp [errW_none, errW_some] <;> rfl) | (simp [*, errW_none, errW_some] <;> rfl), by repeat (first | (with_reducible first | exact HB.out | apply below_alloc | apply pw_below_drewN | apply below_drew1 | refine below_set ?_ GE162.out) | exact HB.out)⟩
          · rw [if_neg c22] at H
            have c22b0 : decide (a0_4 ≤ 9) = false := decide_eq_false c22
            clear c22
            obtain rfl := Option.some.inj H
            go_enter Try.func128, Try.ntmps128
            go_wp2_with (first | ((with_reducible refine gate_dst (N := 1) rfl ?_); (try (refine gate_guard (by rfl) ?_; dsimp only)); refine box_event ?hg (N := 1) ?hd (cs := #[.int .i64 a0_0, .int .i64 a0_1, .int .i64 a0_2, .bool a0_3, .int .i64 a0_4, .int .i64 a0_5, .int .i64 a0_6, .int .i64 a0_7, .slice A0_8 l0_8.length c0_8, .int .i64 a0_9, .int .i64 a0_10, .slice A0_11 l0_11.length c0_11, .int .i64 a0_12, .int .i64 a0_13, .int .i64 a0_14, .int .i64 a0_15]) (t := 29) ?hr ?_; (case hd => rfl); (case hg => rfl); (case hr => first | (go_simp; done) | (go_simp; rfl)); intro gb162 hg w25 hbox hb; have n0_ := Aside0.mk (below_step (by repeat (first | (with_reducible first | exact HB.out | apply below_alloc | apply pw_below_drewN | apply below_drew1) | exact HB.out)) hb); have n1_ := Aside0.mk (hbox); have n2_ := Aside0.mk ((by rw [hg]; exact (below_size (by repeat (first | (with_reducible first | exact HB.out | apply below_alloc | apply pw_below_drewN | apply below_drew1) | exact HB.out))) : w.heap.size ≤ gb162)); have n3_ := Aside0.mk ((by rw [hg]; exact (below_size (by repeat (first | (with_reducible first | exact HB.out | apply below_alloc | apply pw_below_drewN | apply below_drew1) | exact HB.out))) : w.heap.size ≤ gb162)); clear HB; have HB := n0_; have BK162 := n1_; have GW162 := n2_; have GE162 := n3_; clear n0_ n1_ n2_ n3_; clear hb hbox hg; have hcz26_0 : w25.cell? ⟨gb162, 0, none⟩ = some (.int .i64 a0_0) := (blk_cell BK162.out 0).trans rfl; have hcz26_1 : w25.cell? ⟨gb162, 1, none⟩ = some (.int .i64 a0_1) := (blk_cell BK162.out 1).trans rfl; have hcz26_2 : w25.cell? ⟨gb162, 2, none⟩ = some (.int .i64 a0_2) := (blk_cell BK162.out 2).trans rfl; have hcz26_3 : w25.cell? ⟨gb162, 3, none⟩ = some (.bool a0_3) := (blk_cell BK162.out 3).trans rfl; have hcz26_4 : w25.cell? ⟨gb162, 4, none⟩ = some (.int .i64 a0_4) := (blk_cell BK162.out 4).trans rfl; have hcz26_5 : w25.cell? ⟨gb162, 5, none⟩ = some (.int .i64 a0_5) := (blk_cell BK162.out 5).trans rfl; have hcz26_6 : w25.cell? ⟨gb162, 6, none⟩ = some (.int .i64 a0_6) := (blk_cell BK162.out 6).trans rfl; have hcz26_7 : w25.cell? ⟨gb162, 7, none⟩ = some (.int .i64 a0_7) := (blk_cell BK162.out 7).trans rfl; have hcz26_8 : w25.cell? ⟨gb162, 8, none⟩ = some (.slice A0_8 l0_8.length c0_8) := (blk_cell BK162.out 8).trans rfl; have hcz26_9 : w25.cell? ⟨gb162, 9, none⟩ = some (.int .i64 a0_9) := (blk_cell BK162.out 9).trans rfl; have hcz26_10 : w25.cell? ⟨gb162, 10, none⟩ = some (.int .i64 a0_10) := (blk_cell BK162.out 10).trans rfl; have hcz26_11 : w25.cell? ⟨gb162, 11, none⟩ = some (.slice A0_11 l0_11.length c0_11) := (blk_cell BK162.out 11).trans rfl; have hcz26_12 : w25.cell? ⟨gb162, 12, none⟩ = some (.int .i64 a0_12) := (blk_cell BK162.out 12).trans rfl; have hcz26_13 : w25.cell? ⟨gb162, 13, none⟩ = some (.int .i64 a0_13) := (blk_cell BK162.out 13).trans rfl; have hcz26_14 : w25.cell? ⟨gb162, 14, none⟩ = some (.int .i64 a0_14) := (blk_cell BK162.out 14).trans rfl; have hcz26_15 : w25.cell? ⟨gb162, 15, none⟩ = some (.int .i64 a0_15) := (blk_cell BK162.out 15).trans rfl; have hfz26_0 := blk_frozen BK162.out 0; have hfz26_1 := blk_frozen BK162.out 1; have hfz26_2 := blk_frozen BK162.out 2; have hfz26_3 := blk_frozen BK162.out 3; have hfz26_4 := blk_frozen BK162.out 4; have hfz26_5 := blk_frozen BK162.out 5; have hfz26_6 := blk_frozen BK162.out 6; have hfz26_7 := blk_frozen BK162.out 7; have hfz26_8 := blk_frozen BK162.out 8; have hfz26_9 := blk_frozen BK162.out 9; have hfz26_10 := blk_frozen BK162.out 10; have hfz26_11 := blk_frozen BK162.out 11; have hfz26_12 := blk_frozen BK162.out 12; have hfz26_13 := blk_frozen BK162.out 13; have hfz26_14 := blk_frozen BK162.out 14; have hfz26_15 := blk_frozen BK162.out 15) | ((with_reducible refine gate_callee (f := 143) rfl ?_); refine goesL_ (some 7) rfl rfl Try.func143 (by kernel_rfl) rfl #[.int .i64 a0_0] rfl (by (try simp only [List.map_toArray, List.map_cons, List.map_nil]); first | done | rfl | (simp only [List.length_drop, List.length_take]; rfl)) ?_; (with_reducible refine (rpc_node.calls a0_0 true _ A2.out).mono ?_); rintro e w' ⟨rfl, ⟨nd, rfl⟩⟩; refine ⟨_, rfl, ?_⟩) | (go_at_call 143; (with_reducible refine (rpc_node.calls a0_1 true _ A4.out).mono ?_); rintro e w' ⟨rfl, ⟨nd, rfl⟩⟩))
            go_ret
            exact ⟨by first | rfl | (simp [errW_none, errW_some] <;> rfl) | (simp [*, errW_none, errW_some] <;> rfl), by repeat (first | (with_reducible first | exact HB.out | apply below_alloc | apply pw_below_drewN | apply below_drew1 | refine below_set ?_ GE162.out) | exact HB.out)⟩
      · rw [if_neg c6] at H
        have c6b0 : decide (1 ≤ a0_4) = false := decide_eq_false c6
        clear c6
        by_cases c27 : a0_7 ≥ 0
        · rw [if_pos c27] at H
          have c27b0 : decide (0 ≤ a0_7) = true := decide_eq_true c27
          clear c27
          by_cases c28 : a0_7 ≤ 3
          · rw [if_pos c28] at H
            have c28b0 : decide (a0_7 ≤ 3) = true := decide_eq_true c28
            clear c28
            obtain rfl := Option.some.inj H
            go_enter Try.func128, Try.ntmps128
            go_wp2_with (first | ((with_reducible refine gate_dst (N := 1) rfl ?_); (try (refine gate_guard (by rfl) ?_; dsimp only)); refine box_event ?hg (N := 1) ?hd (cs := #[.int .i64 a0_0, .int .i64 a0_1, .int .i64 a0_2, .bool a0_3, .int .i64 a0_4, .int .i64 a0_5, .int .i64 a0_6, .int .i64 a0_7, .slice A0_8 l0_8.length c0_8, .int .i64 a0_9, .int .i64 a0_10, .slice A0_11 l0_11.length c0_11, .int .i64 a0_12, .int .i64 a0_13, .int .i64 a0_14, .int .i64 a0_15]) (t := 29) ?hr ?_; (case hd => rfl); (case hg => rfl); (case hr => first | (go_simp; done) | (go_simp; rfl)); intro gb162 hg w29 hbox hb; have n0_ := Aside0.mk (below_step (by repeat (first | (with_reducible first | exact HB.out | apply below_alloc | apply pw_below_drewN | apply below_drew1) | exact HB.out)) hb); have n1_ := Aside0.mk (hbox); have n2_ := Aside0.mk ((by rw [hg]; exact (below_size (by repeat (first | (with_reducible first | exact HB.out | apply below_alloc | apply pw_below_drewN | apply below_drew1) | exact HB.out))) : w.heap.size ≤ gb162)); have n3_ := Aside0.mk ((by rw [hg]; exact (below_size (by repeat (first | (with_reducible first | exact HB.out | apply below_alloc | apply pw_below_drewN | apply below_drew1) | exact HB.out))) : w.heap.size ≤ gb162)); clear HB; have HB := n0_; have BK162 := n1_; have GW162 := n2_; have GE162 := n3_; clear n0_ n1_ n2_ n3_; clear hb hbox hg; have hcz30_0 : w29.cell? ⟨gb162, 0, none⟩ = some (.int .i64 a0_0) := (blk_cell BK162.out 0).trans rfl; have hcz30_1 : w29.cell? ⟨gb162, 1, none⟩ = some (.int .i64 a0_1) := (blk_cell BK162.out 1).trans rfl; have hcz30_2 : w29.cell? ⟨gb162, 2, none⟩ = some (.int .i64 a0_2) := (blk_cell BK162.out 2).trans rfl; have hcz30_3 : w29.cell? ⟨gb162, 3, none⟩ = some (.bool a0_3) := (blk_cell BK162.out 3).trans rfl; have hcz30_4 : w29.cell? ⟨gb162, 4, none⟩ = some (.int .i64 a0_4) := (blk_cell BK162.out 4).trans rfl; have hcz30_5 : w29.cell? ⟨gb162, 5, none⟩ = some (.int .i64 a0_5) := (blk_cell BK162.out 5).trans rfl; have hcz30_6 : w29.cell? ⟨gb162, 6, none⟩ = some (.int .i64 a0_6) := (blk_cell BK162.out 6).trans rfl; have hcz30_7 : w29.cell? ⟨gb162, 7, none⟩ = some (.int .i64 a0_7) := (blk_cell BK162.out 7).trans rfl; have hcz30_8 : w29.cell? ⟨gb162, 8, none⟩ = some (.slice A0_8 l0_8.length c0_8) := (blk_cell BK162.out 8).trans rfl; have hcz30_9 : w29.cell? ⟨gb162, 9, none⟩ = some (.int .i64 a0_9) := (blk_cell BK162.out 9).trans rfl; have hcz30_10 : w29.cell? ⟨gb162, 10, none⟩ = some (.int .i64 a0_10) := (blk_cell BK162.out 10).trans rfl; have hcz30_11 : w29.cell? ⟨gb162, 11, none⟩ = some (.slice A0_11 l0_11.length c0_11) := (blk_cell BK162.out 11).trans rfl; have hcz30_12 : w29.cell? ⟨gb162, 12, none⟩ = some (.int .i64 a0_12) := (blk_cell BK162.out 12).trans rfl; have hcz30_13 : w29.cell? ⟨gb162, 13, none⟩ = some (.int .i64 a0_13) := (blk_cell BK162.out 13).trans rfl; have hcz30_14 : w29.cell? ⟨gb162, 14, none⟩ = some (.int .i64 a0_14) := (blk_cell BK162.out 14).trans rfl; have hcz30_15 : w29.cell? ⟨gb162, 15, none⟩ = some (.int .i64 a0_15) := (blk_cell BK162.out 15).trans rfl; have hfz30_0 := blk_frozen BK162.out 0; have hfz30_1 := blk_frozen BK162.out 1; have hfz30_2 := blk_frozen BK162.out 2; have hfz30_3 := blk_frozen BK162.out 3; have hfz30_4 := blk_frozen BK162.out 4; have hfz30_5 := blk_frozen BK162.out 5; have hfz30_6 := blk_frozen BK162.out 6; have hfz30_7 := blk_frozen BK162.out 7; have hfz30_8 := blk_frozen BK162.out 8; have hfz30_9 := blk_frozen BK162.out 9; have hfz30_10 := blk_frozen BK162.out 10; have hfz30_11 := blk_frozen BK162.out 11; have hfz30_12 := blk_frozen BK162.out 12; have hfz30_13 := blk_frozen BK162.out 13; have hfz30_14 := blk_frozen BK162.out 14; have hfz30_15 := blk_frozen BK162.out 15) | ((with_reducible refine gate_callee (f := 143) rfl ?_); refine goesL_ (some 7) rfl rfl Try.func143 (by kernel_rfl) rfl #[.int .i64 a0_0] rfl (by (try simp only [List.map_toArray, List.map_cons, List.map_nil]); first | done | rfl | (simp only [List.length_drop, List.length_take]; rfl)) ?_; (with_reducible refine (rpc_node.calls a0_0 true _ A2.out).mono ?_); rintro e w' ⟨rfl, ⟨nd, rfl⟩⟩; refine ⟨_, rfl, ?_⟩) | (go_at_call 143; (with_reducible refine (rpc_node.calls a0_1 true _ A4.out).mono ?_); rintro e w' ⟨rfl, ⟨nd, rfl⟩⟩))
            go_ret
            exact ⟨by first | rfl | (simp [errW_none, errW_some] <;> rfl) | (simp [*, errW_none, errW_some] <;> rfl), by repeat (first | (with_reducible first | exact HB.out | apply below_alloc | apply pw_below_drewN | apply below_drew1 | refine below_set ?_ GE162.out) | exact HB.out)⟩
          · rw [if_neg c28] at H
            have c28b0 : decide (a0_7 ≤ 3) = false := decide_eq_false c28
            clear c28
            obtain rfl := Option.some.inj H
            go_enter Try.func128, Try.ntmps128
            go_wp2_with (first | ((with_reducible refine gate_dst (N := 1) rfl ?_); (try (refine gate_guard (by rfl) ?_; dsimp only)); refine box_event ?hg (N := 1) ?hd (cs := #[.int .i64 a0_0, .int .i64 a0_1, .int .i64 a0_2, .bool a0_3, .int .i64 a0_4, .int .i64 a0_5, .int .i64 a0_6, .int .i64 a0_7, .slice A0_8 l0_8.length c0_8, .int .i64 a0_9, .int .i64 a0_10, .slice A0_11 l0_11.length c0_11, .int .i64 a0_12, .int .i64 a0_13, .int .i64 a0_14, .int .i64 a0_15]) (t := 29) ?hr ?_; (case hd => rfl); (case hg => rfl); (case hr => first | (go_simp; done) | (go_simp; rfl)); intro gb162 hg w31 hbox hb; have n0_ := Aside0.mk (below_step (by repeat (first | (with_reducible first | exact HB.out | apply below_alloc | apply pw_below_drewN | apply below_drew1) | exact HB.out)) hb); have n1_ := Aside0.mk (hbox); have n2_ := Aside0.mk ((by rw [hg]; exact (below_size (by repeat (first | (with_reducible first | exact HB.out | apply below_alloc | apply pw_below_drewN | apply below_drew1) | exact HB.out))) : w.heap.size ≤ gb162)); have n3_ := Aside0.mk ((by rw [hg]; exact (below_size (by repeat (first | (with_reducible first | exact HB.out | apply below_alloc | apply pw_below_drewN | apply below_drew1) | exact HB.out))) : w.heap.size ≤ gb162)); clear HB; have HB := n0_; have BK162 := n1_; have GW162 := n2_; have GE162 := n3_; clear n0_ n1_ n2_ n3_; clear hb hbox hg; have hcz32_0 : w31.cell? ⟨gb162, 0, none⟩ = some (.int .i64 a0_0) := (blk_cell BK162.out 0).trans rfl; have hcz32_1 : w31.cell? ⟨gb162, 1, none⟩ = some (.int .i64 a0_1) := (blk_cell BK162.out 1).trans rfl; have hcz32_2 : w31.cell? ⟨gb162, 2, none⟩ = some (.int .i64 a0_2) := (blk_cell BK162.out 2).trans rfl; have hcz32_3 : w31.cell? ⟨gb162, 3, none⟩ = some (.bool a0_3) := (blk_cell BK162.out 3).trans rfl; have hcz32_4 : w31.cell? ⟨gb162, 4, none⟩ = some (.int .i64 a0_4) := (blk_cell BK162.out 4).trans rfl; have hcz32_5 : w31.cell? ⟨gb162, 5, none⟩ = some (.int .i64 a0_5) := (blk_cell BK162.out 5).trans rfl; have hcz32_6 : w31.cell? ⟨gb162, 6, none⟩ = some (.int .i64 a0_6) := (blk_cell BK162.out 6).trans rfl; have hcz32_7 : w31.cell? ⟨gb162, 7, none⟩ = some (.int .i64 a0_7) := (blk_cell BK162.out 7).trans rfl; have hcz32_8 : w31.cell? ⟨gb162, 8, none⟩ = some (.slice A0_8 l0_8.length c0_8) := (blk_cell BK162.out 8).trans rfl; have hcz32_9 : w31.cell? ⟨gb162, 9, none⟩ = some (.int .i64 a0_9) := (blk_cell BK162.out 9).trans rfl; have hcz32_10 : w31.cell? ⟨gb162, 10, none⟩ = some (.int .i64 a0_10) := (blk_cell BK162.out 10).trans rfl; have hcz32_11 : w31.cell? ⟨gb162, 11, none⟩ = some (.slice A0_11 l0_11.length c0_11) := (blk_cell BK162.out 11).trans rfl; have hcz32_12 : w31.cell? ⟨gb162, 12, none⟩ = some (.int .i64 a0_12) := (blk_cell BK162.out 12).trans rfl; have hcz32_13 : w31.cell? ⟨gb162, 13, none⟩ = some (.int .i64 a0_13) := (blk_cell BK162.out 13).trans rfl; have hcz32_14 : w31.cell? ⟨gb162, 14, none⟩ = some (.int .i64 a0_14) := (blk_cell BK162.out 14).trans rfl; have hcz32_15 : w31.cell? ⟨gb162, 15, none⟩ = some (.int .i64 a0_15) := (blk_cell BK162.out 15).trans rfl; have hfz32_0 := blk_frozen BK162.out 0; have hfz32_1 := blk_frozen BK162.out 1; have hfz32_2 := blk_frozen BK162.out 2; have hfz32_3 := blk_frozen BK162.out 3; have hfz32_4 := blk_frozen BK162.out 4; have hfz32_5 := blk_frozen BK162.out 5; have hfz32_6 := blk_frozen BK162.out 6; have hfz32_7 := blk_frozen BK162.out 7; have hfz32_8 := blk_frozen BK162.out 8; have hfz32_9 := blk_frozen BK162.out 9; have hfz32_10 := blk_frozen BK162.out 10; have hfz32_11 := blk_frozen BK162.out 11; have hfz32_12 := blk_frozen BK162.out 12; have hfz32_13 := blk_frozen BK162.out 13; have hfz32_14 := blk_frozen BK162.out 14; have hfz32_15 := blk_frozen BK162.out 15) | ((with_reducible refine gate_callee (f := 143) rfl ?_); refine goesL_ (some 7) rfl rfl Try.func143 (by kernel_rfl) rfl #[.int .i64 a0_0] rfl (by (try simp only [List.map_toArray, List.map_cons, List.map_nil]); first | done | rfl | (simp only [List.length_drop, List.length_take]; rfl)) ?_; (with_reducible refine (rpc_node.calls a0_0 true _ A2.out).mono ?_); rintro e w' ⟨rfl, ⟨nd, rfl⟩⟩; refine ⟨_, rfl, ?_⟩) | (go_at_call 143; (with_reducible refine (rpc_node.calls a0_1 true _ A4.out).mono ?_); rintro e w' ⟨rfl, ⟨nd, rfl⟩⟩))
            go_ret
            exact ⟨by first | rfl | (simp [errW_none, errW_some] <;> rfl) | (simp [*, errW_none, errW_some] <;> rfl), by repeat (first | (with_reducible first | exact HB.out | apply below_alloc | apply pw_below_drewN | apply below_drew1 | refine below_set ?_ GE162.out) | exact HB.out)⟩
        · rw [if_neg c27] at H
          have c27b0 : decide (0 ≤ a0_7) = false := decide_eq_false c27
          clear c27
          obtain rfl := Option.some.inj H
          go_enter Try.func128, Try.ntmps128
          go_wp2_with (first | ((with_reducible refine gate_dst (N := 1) rfl ?_); (try (refine gate_guard (by rfl) ?_; dsimp only)); refine box_event ?hg (N := 1) ?hd (cs := #[.int .i64 a0_0, .int .i64 a0_1, .int .i64 a0_2, .bool a0_3, .int .i64 a0_4, .int .i64 a0_5, .int .i64 a0_6, .int .i64 a0_7, .slice A0_8 l0_8.length c0_8, .int .i64 a0_9, .int .i64 a0_10, .slice A0_11 l0_11.length c0_11, .int .i64 a0_12, .int .i64 a0_13, .int .i64 a0_14, .int .i64 a0_15]) (t := 29) ?hr ?_; (case hd => rfl); (case hg => rfl); (case hr => first | (go_simp; done) | (go_simp; rfl)); intro gb162 hg w33 hbox hb; have n0_ := Aside0.mk (below_step (by repeat (first | (with_reducible first | exact HB.out | apply below_alloc | apply pw_below_drewN | apply below_drew1) | exact HB.out)) hb); have n1_ := Aside0.mk (hbox); have n2_ := Aside0.mk ((by rw [hg]; exact (below_size (by repeat (first | (with_reducible first | exact HB.out | apply below_alloc | apply pw_below_drewN | apply below_drew1) | exact HB.out))) : w.heap.size ≤ gb162)); have n3_ := Aside0.mk ((by rw [hg]; exact (below_size (by repeat (first | (with_reducible first | exact HB.out | apply below_alloc | apply pw_below_drewN | apply below_drew1) | exact HB.out))) : w.heap.size ≤ gb162)); clear HB; have HB := n0_; have BK162 := n1_; have GW162 := n2_; have GE162 := n3_; clear n0_ n1_ n2_ n3_; clear hb hbox hg; have hcz34_0 : w33.cell? ⟨gb162, 0, none⟩ = some (.int .i64 a0_0) := (blk_cell BK162.out 0).trans rfl; have hcz34_1 : w33.cell? ⟨gb162, 1, none⟩ = some (.int .i64 a0_1) := (blk_cell BK162.out 1).trans rfl; have hcz34_2 : w33.cell? ⟨gb162, 2, none⟩ = some (.int .i64 a0_2) := (blk_cell BK162.out 2).trans rfl; have hcz34_3 : w33.cell? ⟨gb162, 3, none⟩ = some (.bool a0_3) := (blk_cell BK162.out 3).trans rfl; have hcz34_4 : w33.cell? ⟨gb162, 4, none⟩ = some (.int .i64 a0_4) := (blk_cell BK162.out 4).trans rfl; have hcz34_5 : w33.cell? ⟨gb162, 5, none⟩ = some (.int .i64 a0_5) := (blk_cell BK162.out 5).trans rfl; have hcz34_6 : w33.cell? ⟨gb162, 6, none⟩ = some (.int .i64 a0_6) := (blk_cell BK162.out 6).trans rfl; have hcz34_7 : w33.cell? ⟨gb162, 7, none⟩ = some (.int .i64 a0_7) := (blk_cell BK162.out 7).trans rfl; have hcz34_8 : w33.cell? ⟨gb162, 8, none⟩ = some (.slice A0_8 l0_8.length c0_8) := (blk_cell BK162.out 8).trans rfl; have hcz34_9 : w33.cell? ⟨gb162, 9, none⟩ = some (.int .i64 a0_9) := (blk_cell BK162.out 9).trans rfl; have hcz34_10 : w33.cell? ⟨gb162, 10, none⟩ = some (.int .i64 a0_10) := (blk_cell BK162.out 10).trans rfl; have hcz34_11 : w33.cell? ⟨gb162, 11, none⟩ = some (.slice A0_11 l0_11.length c0_11) := (blk_cell BK162.out 11).trans rfl; have hcz34_12 : w33.cell? ⟨gb162, 12, none⟩ = some (.int .i64 a0_12) := (blk_cell BK162.out 12).trans rfl; have hcz34_13 : w33.cell? ⟨gb162, 13, none⟩ = some (.int .i64 a0_13) := (blk_cell BK162.out 13).trans rfl; have hcz34_14 : w33.cell? ⟨gb162, 14, none⟩ = some (.int .i64 a0_14) := (blk_cell BK162.out 14).trans rfl; have hcz34_15 : w33.cell? ⟨gb162, 15, none⟩ = some (.int .i64 a0_15) := (blk_cell BK162.out 15).trans rfl; have hfz34_0 := blk_frozen BK162.out 0; have hfz34_1 := blk_frozen BK162.out 1; have hfz34_2 := blk_frozen BK162.out 2; have hfz34_3 := blk_frozen BK162.out 3; have hfz34_4 := blk_frozen BK162.out 4; have hfz34_5 := blk_frozen BK162.out 5; have hfz34_6 := blk_frozen BK162.out 6; have hfz34_7 := blk_frozen BK162.out 7; have hfz34_8 := blk_frozen BK162.out 8; have hfz34_9 := blk_frozen BK162.out 9; have hfz34_10 := blk_frozen BK162.out 10; have hfz34_11 := blk_frozen BK162.out 11; have hfz34_12 := blk_frozen BK162.out 12; have hfz34_13 := blk_frozen BK162.out 13; have hfz34_14 := blk_frozen BK162.out 14; have hfz34_15 := blk_frozen BK162.out 15) | ((with_reducible refine gate_callee (f := 143) rfl ?_); refine goesL_ (some 7) rfl rfl Try.func143 (by kernel_rfl) rfl #[.int .i64 a0_0] rfl (by (try simp only [List.map_toArray, List.map_cons, List.map_nil]); first | done | rfl | (simp only [List.length_drop, List.length_take]; rfl)) ?_; (with_reducible refine (rpc_node.calls a0_0 true _ A2.out).mono ?_); rintro e w' ⟨rfl, ⟨nd, rfl⟩⟩; refine ⟨_, rfl, ?_⟩) | (go_at_call 143; (with_reducible refine (rpc_node.calls a0_1 true _ A4.out).mono ?_); rintro e w' ⟨rfl, ⟨nd, rfl⟩⟩))
          go_ret
          exact ⟨by first | rfl | (simp [errW_none, errW_some] <;> rfl) | (simp [*, errW_none, errW_some] <;> rfl), by repeat (first | (with_reducible first | exact HB.out | apply below_alloc | apply pw_below_drewN | apply below_drew1 | refine below_set ?_ GE162.out) | exact HB.out)⟩
    · replace c5 := Bool.eq_false_iff.mpr c5
      subst c5
      have H1 : (if a0_7 ≥ 0 then (if a0_7 ≤ 3 then (some false) else (some false)) else (some false)) = some r := by rw [if_neg (show ¬ (false = true) by decide)] at H; exact H
      clear H
      have H := H1
      clear H1
      by_cases c35 : a0_7 ≥ 0
      · rw [if_pos c35] at H
        have c35b0 : decide (0 ≤ a0_7) = true := decide_eq_true c35
        clear c35
        by_cases c36 : a0_7 ≤ 3
        · rw [if_pos c36] at H
          have c36b0 : decide (a0_7 ≤ 3) = true := decide_eq_true c36
          clear c36
          obtain rfl := Option.some.inj H
          go_enter Try.func128, Try.ntmps128
          go_wp2_with (first | ((with_reducible refine gate_dst (N := 1) rfl ?_); (try (refine gate_guard (by rfl) ?_; dsimp only)); refine box_event ?hg (N := 1) ?hd (cs := #[.int .i64 a0_0, .int .i64 a0_1, .int .i64 a0_2, .bool a0_3, .int .i64 a0_4, .int .i64 a0_5, .int .i64 a0_6, .int .i64 a0_7, .slice A0_8 l0_8.length c0_8, .int .i64 a0_9, .int .i64 a0_10, .slice A0_11 l0_11.length c0_11, .int .i64 a0_12, .int .i64 a0_13, .int .i64 a0_14, .int .i64 a0_15]) (t := 29) ?hr ?_; (case hd => rfl); (case hg => rfl); (case hr => first | (go_simp; done) | (go_simp; rfl)); intro gb162 hg w37 hbox hb; have n0_ := Aside0.mk (below_step (by repeat (first | (with_reducible first | exact HB.out | apply below_alloc | apply pw_below_drewN | apply below_drew1) | exact HB.out)) hb); have n1_ := Aside0.mk (hbox); have n2_ := Aside0.mk ((by rw [hg]; exact (below_size (by repeat (first | (with_reducible first | exact HB.out | apply below_alloc | apply pw_below_drewN | apply below_drew1) | exact HB.out))) : w.heap.size ≤ gb162)); have n3_ := Aside0.mk ((by rw [hg]; exact (below_size (by repeat (first | (with_reducible first | exact HB.out | apply below_alloc | apply pw_below_drewN | apply below_drew1) | exact HB.out))) : w.heap.size ≤ gb162)); clear HB; have HB := n0_; have BK162 := n1_; have GW162 := n2_; have GE162 := n3_; clear n0_ n1_ n2_ n3_; clear hb hbox hg; have hcz38_0 : w37.cell? ⟨gb162, 0, none⟩ = some (.int .i64 a0_0) := (blk_cell BK162.out 0).trans rfl; have hcz38_1 : w37.cell? ⟨gb162, 1, none⟩ = some (.int .i64 a0_1) := (blk_cell BK162.out 1).trans rfl; have hcz38_2 : w37.cell? ⟨gb162, 2, none⟩ = some (.int .i64 a0_2) := (blk_cell BK162.out 2).trans rfl; have hcz38_3 : w37.cell? ⟨gb162, 3, none⟩ = some (.bool a0_3) := (blk_cell BK162.out 3).trans rfl; have hcz38_4 : w37.cell? ⟨gb162, 4, none⟩ = some (.int .i64 a0_4) := (blk_cell BK162.out 4).trans rfl; have hcz38_5 : w37.cell? ⟨gb162, 5, none⟩ = some (.int .i64 a0_5) := (blk_cell BK162.out 5).trans rfl; have hcz38_6 : w37.cell? ⟨gb162, 6, none⟩ = some (.int .i64 a0_6) := (blk_cell BK162.out 6).trans rfl; have hcz38_7 : w37.cell? ⟨gb162, 7, none⟩ = some (.int .i64 a0_7) := (blk_cell BK162.out 7).trans rfl; have hcz38_8 : w37.cell? ⟨gb162, 8, none⟩ = some (.slice A0_8 l0_8.length c0_8) := (blk_cell BK162.out 8).trans rfl; have hcz38_9 : w37.cell? ⟨gb162, 9, none⟩ = some (.int .i64 a0_9) := (blk_cell BK162.out 9).trans rfl; have hcz38_10 : w37.cell? ⟨gb162, 10, none⟩ = some (.int .i64 a0_10) := (blk_cell BK162.out 10).trans rfl; have hcz38_11 : w37.cell? ⟨gb162, 11, none⟩ = some (.slice A0_11 l0_11.length c0_11) := (blk_cell BK162.out 11).trans rfl; have hcz38_12 : w37.cell? ⟨gb162, 12, none⟩ = some (.int .i64 a0_12) := (blk_cell BK162.out 12).trans rfl; have hcz38_13 : w37.cell? ⟨gb162, 13, none⟩ = some (.int .i64 a0_13) := (blk_cell BK162.out 13).trans rfl; have hcz38_14 : w37.cell? ⟨gb162, 14, none⟩ = some (.int .i64 a0_14) := (blk_cell BK162.out 14).trans rfl; have hcz38_15 : w37.cell? ⟨gb162, 15, none⟩ = some (.int .i64 a0_15) := (blk_cell BK162.out 15).trans rfl; have hfz38_0 := blk_frozen BK162.out 0; have hfz38_1 := blk_frozen BK162.out 1; have hfz38_2 := blk_frozen BK162.out 2; have hfz38_3 := blk_frozen BK162.out 3; have hfz38_4 := blk_frozen BK162.out 4; have hfz38_5 := blk_frozen BK162.out 5; have hfz38_6 := blk_frozen BK162.out 6; have hfz38_7 := blk_frozen BK162.out 7; have hfz38_8 := blk_frozen BK162.out 8; have hfz38_9 := blk_frozen BK162.out 9; have hfz38_10 := blk_frozen BK162.out 10; have hfz38_11 := blk_frozen BK162.out 11; have hfz38_12 := blk_frozen BK162.out 12; have hfz38_13 := blk_frozen BK162.out 13; have hfz38_14 := blk_frozen BK162.out 14; have hfz38_15 := blk_frozen BK162.out 15) | ((with_reducible refine gate_callee (f := 143) rfl ?_); refine goesL_ (some 7) rfl rfl Try.func143 (by kernel_rfl) rfl #[.int .i64 a0_0] rfl (by (try simp only [List.map_toArray, List.map_cons, List.map_nil]); first | done | rfl | (simp only [List.length_drop, List.length_take]; rfl)) ?_; (with_reducible refine (rpc_node.calls a0_0 true _ A2.out).mono ?_); rintro e w' ⟨rfl, ⟨nd, rfl⟩⟩; refine ⟨_, rfl, ?_⟩) | (go_at_call 143; (with_reducible refine (rpc_node.calls a0_1 false _ A4.out).mono ?_); rintro e w' ⟨rfl, ⟨nd, rfl⟩⟩))
          go_ret
          exact ⟨by first | rfl | (simp [errW_none, errW_some] <;> rfl) | (simp [*, errW_none, errW_some] <;> rfl), by repeat (first | (with_reducible first | exact HB.out | apply below_alloc | apply pw_below_drewN | apply below_drew1 | refine below_set ?_ GE162.out) | exact HB.out)⟩
        · rw [if_neg c36] at H
          have c36b0 : decide (a0_7 ≤ 3) = false := decide_eq_false c36
          clear c36
          obtain rfl := Option.some.inj H
          go_enter Try.func128, Try.ntmps128
          go_wp2_with (first | ((with_reducible refine gate_dst (N := 1) rfl ?_); (try (refine gate_guard (by rfl) ?_; dsimp only)); refine box_event ?hg (N := 1) ?hd (cs := #[.int .i64 a0_0, .int .i64 a0_1, .int .i64 a0_2, .bool a0_3, .int .i64 a0_4, .int .i64 a0_5, .int .i64 a0_6, .int .i64 a0_7, .slice A0_8 l0_8.length c0_8, .int .i64 a0_9, .int .i64 a0_10, .slice A0_11 l0_11.length c0_11, .int .i64 a0_12, .int .i64 a0_13, .int .i64 a0_14, .int .i64 a0_15]) (t := 29) ?hr ?_; (case hd => rfl); (case hg => rfl); (case hr => first | (go_simp; done) | (go_simp; rfl)); intro gb162 hg w39 hbox hb; have n0_ := Aside0.mk (below_step (by repeat (first | (with_reducible first | exact HB.out | apply below_alloc | apply pw_below_drewN | apply below_drew1) | exact HB.out)) hb); have n1_ := Aside0.mk (hbox); have n2_ := Aside0.mk ((by rw [hg]; exact (below_size (by repeat (first | (with_reducible first | exact HB.out | apply below_alloc | apply pw_below_drewN | apply below_drew1) | exact HB.out))) : w.heap.size ≤ gb162)); have n3_ := Aside0.mk ((by rw [hg]; exact (below_size (by repeat (first | (with_reducible first | exact HB.out | apply below_alloc | apply pw_below_drewN | apply below_drew1) | exact HB.out))) : w.heap.size ≤ gb162)); clear HB; have HB := n0_; have BK162 := n1_; have GW162 := n2_; have GE162 := n3_; clear n0_ n1_ n2_ n3_; clear hb hbox hg; have hcz40_0 : w39.cell? ⟨gb162, 0, none⟩ = some (.int .i64 a0_0) := (blk_cell BK162.out 0).trans rfl; have hcz40_1 : w39.cell? ⟨gb162, 1, none⟩ = some (.int .i64 a0_1) := (blk_cell BK162.out 1).trans rfl; have hcz40_2 : w39.cell? ⟨gb162, 2, none⟩ = some (.int .i64 a0_2) := (blk_cell BK162.out 2).trans rfl; have hcz40_3 : w39.cell? ⟨gb162, 3, none⟩ = some (.bool a0_3) := (blk_cell BK162.out 3).trans rfl; have hcz40_4 : w39.cell? ⟨gb162, 4, none⟩ = some (.int .i64 a0_4) := (blk_cell BK162.out 4).trans rfl; have hcz40_5 : w39.cell? ⟨gb162, 5, none⟩ = some (.int .i64 a0_5) := (blk_cell BK162.out 5).trans rfl; have hcz40_6 : w39.cell? ⟨gb162, 6, none⟩ = some (.int .i64 a0_6) := (blk_cell BK162.out 6).trans rfl; have hcz40_7 : w39.cell? ⟨gb162, 7, none⟩ = some (.int .i64 a0_7) := (blk_cell BK162.out 7).trans rfl; have hcz40_8 : w39.cell? ⟨gb162, 8, none⟩ = some (.slice A0_8 l0_8.length c0_8) := (blk_cell BK162.out 8).trans rfl; have hcz40_9 : w39.cell? ⟨gb162, 9, none⟩ = some (.int .i64 a0_9) := (blk_cell BK162.out 9).trans rfl; have hcz40_10 : w39.cell? ⟨gb162, 10, none⟩ = some (.int .i64 a0_10) := (blk_cell BK162.out 10).trans rfl; have hcz40_11 : w39.cell? ⟨gb162, 11, none⟩ = some (.slice A0_11 l0_11.length c0_11) := (blk_cell BK162.out 11).trans rfl; have hcz40_12 : w39.cell? ⟨gb162, 12, none⟩ = some (.int .i64 a0_12) := (blk_cell BK162.out 12).trans rfl; have hcz40_13 : w39.cell? ⟨gb162, 13, none⟩ = some (.int .i64 a0_13) := (blk_cell BK162.out 13).trans rfl; have hcz40_14 : w39.cell? ⟨gb162, 14, none⟩ = some (.int .i64 a0_14) := (blk_cell BK162.out 14).trans rfl; have hcz40_15 : w39.cell? ⟨gb162, 15, none⟩ = some (.int .i64 a0_15) := (blk_cell BK162.out 15).trans rfl; have hfz40_0 := blk_frozen BK162.out 0; have hfz40_1 := blk_frozen BK162.out 1; have hfz40_2 := blk_frozen BK162.out 2; have hfz40_3 := blk_frozen BK162.out 3; have hfz40_4 := blk_frozen BK162.out 4; have hfz40_5 := blk_frozen BK162.out 5; have hfz40_6 := blk_frozen BK162.out 6; have hfz40_7 := blk_frozen BK162.out 7; have hfz40_8 := blk_frozen BK162.out 8; have hfz40_9 := blk_frozen BK162.out 9; have hfz40_10 := blk_frozen BK162.out 10; have hfz40_11 := blk_frozen BK162.out 11; have hfz40_12 := blk_frozen BK162.out 12; have hfz40_13 := blk_frozen BK162.out 13; have hfz40_14 := blk_frozen BK162.out 14; have hfz40_15 := blk_frozen BK162.out 15) | ((with_reducible refine gate_callee (f := 143) rfl ?_); refine goesL_ (some 7) rfl rfl Try.func143 (by kernel_rfl) rfl #[.int .i64 a0_0] rfl (by (try simp only [List.map_toArray, List.map_cons, List.map_nil]); first | done | rfl | (simp only [List.length_drop, List.length_take]; rfl)) ?_; (with_reducible refine (rpc_node.calls a0_0 true _ A2.out).mono ?_); rintro e w' ⟨rfl, ⟨nd, rfl⟩⟩; refine ⟨_, rfl, ?_⟩) | (go_at_call 143; (with_reducible refine (rpc_node.calls a0_1 false _ A4.out).mono ?_); rintro e w' ⟨rfl, ⟨nd, rfl⟩⟩))
          go_ret
          exact ⟨by first | rfl | (simp [errW_none, errW_some] <;> rfl) | (simp [*, errW_none, errW_some] <;> rfl), by repeat (first | (with_reducible first | exact HB.out | apply below_alloc | apply pw_below_drewN | apply below_drew1 | refine below_set ?_ GE162.out) | exact HB.out)⟩
      · rw [if_neg c35] at H
        have c35b0 : decide (0 ≤ a0_7) = false := decide_eq_false c35
        clear c35
        obtain rfl := Option.some.inj H
        go_enter Try.func128, Try.ntmps128
        go_wp2_with (first | ((with_reducible refine gate_dst (N := 1) rfl ?_); (try (refine gate_guard (by rfl) ?_; dsimp only)); refine box_event ?hg (N := 1) ?hd (cs := #[.int .i64 a0_0, .int .i64 a0_1, .int .i64 a0_2, .bool a0_3, .int .i64 a0_4, .int .i64 a0_5, .int .i64 a0_6, .int .i64 a0_7, .slice A0_8 l0_8.length c0_8, .int .i64 a0_9, .int .i64 a0_10, .slice A0_11 l0_11.length c0_11, .int .i64 a0_12, .int .i64 a0_13, .int .i64 a0_14, .int .i64 a0_15]) (t := 29) ?hr ?_; (case hd => rfl); (case hg => rfl); (case hr => first | (go_simp; done) | (go_simp; rfl)); intro gb162 hg w41 hbox hb; have n0_ := Aside0.mk (below_step (by repeat (first | (with_reducible first | exact HB.out | apply below_alloc | apply pw_below_drewN | apply below_drew1) | exact HB.out)) hb); have n1_ := Aside0.mk (hbox); have n2_ := Aside0.mk ((by rw [hg]; exact (below_size (by repeat (first | (with_reducible first | exact HB.out | apply below_alloc | apply pw_below_drewN | apply below_drew1) | exact HB.out))) : w.heap.size ≤ gb162)); have n3_ := Aside0.mk ((by rw [hg]; exact (below_size (by repeat (first | (with_reducible first | exact HB.out | apply below_alloc | apply pw_below_drewN | apply below_drew1) | exact HB.out))) : w.heap.size ≤ gb162)); clear HB; have HB := n0_; have BK162 := n1_; have GW162 := n2_; have GE162 := n3_; clear n0_ n1_ n2_ n3_; clear hb hbox hg; have hcz42_0 : w41.cell? ⟨gb162, 0, none⟩ = some (.int .i64 a0_0) := (blk_cell BK162.out 0).trans rfl; have hcz42_1 : w41.cell? ⟨gb162, 1, none⟩ = some (.int .i64 a0_1) := (blk_cell BK162.out 1).trans rfl; have hcz42_2 : w41.cell? ⟨gb162, 2, none⟩ = some (.int .i64 a0_2) := (blk_cell BK162.out 2).trans rfl; have hcz42_3 : w41.cell? ⟨gb162, 3, none⟩ = some (.bool a0_3) := (blk_cell BK162.out 3).trans rfl; have hcz42_4 : w41.cell? ⟨gb162, 4, none⟩ = some (.int .i64 a0_4) := (blk_cell BK162.out 4).trans rfl; have hcz42_5 : w41.cell? ⟨gb162, 5, none⟩ = some (.int .i64 a0_5) := (blk_cell BK162.out 5).trans rfl; have hcz42_6 : w41.cell? ⟨gb162, 6, none⟩ = some (.int .i64 a0_6) := (blk_cell BK162.out 6).trans rfl; have hcz42_7 : w41.cell? ⟨gb162, 7, none⟩ = some (.int .i64 a0_7) := (blk_cell BK162.out 7).trans rfl; have hcz42_8 : w41.cell? ⟨gb162, 8, none⟩ = some (.slice A0_8 l0_8.length c0_8) := (blk_cell BK162.out 8).trans rfl; have hcz42_9 : w41.cell? ⟨gb162, 9, none⟩ = some (.int .i64 a0_9) := (blk_cell BK162.out 9).trans rfl; have hcz42_10 : w41.cell? ⟨gb162, 10, none⟩ = some (.int .i64 a0_10) := (blk_cell BK162.out 10).trans rfl; have hcz42_11 : w41.cell? ⟨gb162, 11, none⟩ = some (.slice A0_11 l0_11.length c0_11) := (blk_cell BK162.out 11).trans rfl; have hcz42_12 : w41.cell? ⟨gb162, 12, none⟩ = some (.int .i64 a0_12) := (blk_cell BK162.out 12).trans rfl; have hcz42_13 : w41.cell? ⟨gb162, 13, none⟩ = some (.int .i64 a0_13) := (blk_cell BK162.out 13).trans rfl; have hcz42_14 : w41.cell? ⟨gb162, 14, none⟩ = some (.int .i64 a0_14) := (blk_cell BK162.out 14).trans rfl; have hcz42_15 : w41.cell? ⟨gb162, 15, none⟩ = some (.int .i64 a0_15) := (blk_cell BK162.out 15).trans rfl; have hfz42_0 := blk_frozen BK162.out 0; have hfz42_1 := blk_frozen BK162.out 1; have hfz42_2 := blk_frozen BK162.out 2; have hfz42_3 := blk_frozen BK162.out 3; have hfz42_4 := blk_frozen BK162.out 4; have hfz42_5 := blk_frozen BK162.out 5; have hfz42_6 := blk_frozen BK162.out 6; have hfz42_7 := blk_frozen BK162.out 7; have hfz42_8 := blk_frozen BK162.out 8; have hfz42_9 := blk_frozen BK162.out 9; have hfz42_10 := blk_frozen BK162.out 10; have hfz42_11 := blk_frozen BK162.out 11; have hfz42_12 := blk_frozen BK162.out 12; have hfz42_13 := blk_frozen BK162.out 13; have hfz42_14 := blk_frozen BK162.out 14; have hfz42_15 := blk_frozen BK162.out 15) | ((with_reducible refine gate_callee (f := 143) rfl ?_); refine goesL_ (some 7) rfl rfl Try.func143 (by kernel_rfl) rfl #[.int .i64 a0_0] rfl (by (try simp only [List.map_toArray, List.map_cons, List.map_nil]); first | done | rfl | (simp only [List.length_drop, List.length_take]; rfl)) ?_; (with_reducible refine (rpc_node.calls a0_0 true _ A2.out).mono ?_); rintro e w' ⟨rfl, ⟨nd, rfl⟩⟩; refine ⟨_, rfl, ?_⟩) | (go_at_call 143; (with_reducible refine (rpc_node.calls a0_1 false _ A4.out).mono ?_); rintro e w' ⟨rfl, ⟨nd, rfl⟩⟩))
        go_ret
        exact ⟨by first | rfl | (simp [errW_none, errW_some] <;> rfl) | (simp [*, errW_none, errW_some] <;> rfl), by repeat (first | (with_reducible first | exact HB.out | apply below_alloc | apply pw_below_drewN | apply below_drew1 | refine below_set ?_ GE162.out) | exact HB.out)⟩
  · replace c3 := Bool.eq_false_iff.mpr c3
    subst c3
    have H1 : (if a0_7 ≥ 0 then (if a0_7 ≤ 3 then (some false) else (some false)) else (some false)) = some r := by rw [if_neg (show ¬ (false = true) by decide)] at H; exact H
    clear H
    have H := H1
    clear H1
    by_cases c43 : a0_7 ≥ 0
    · rw [if_pos c43] at H
      have c43b0 : decide (0 ≤ a0_7) = true := decide_eq_true c43
      clear c43
      by_cases c44 : a0_7 ≤ 3
      · rw [if_pos c44] at H
        have c44b0 : decide (a0_7 ≤ 3) = true := decide_eq_true c44
        clear c44
        obtain rfl := Option.some.inj H
        go_enter Try.func128, Try.ntmps128
        go_wp2_with (first | ((with_reducible refine gate_dst (N := 1) rfl ?_); (try (refine gate_guard (by rfl) ?_; dsimp only)); refine box_event ?hg (N := 1) ?hd (cs := #[.int .i64 a0_0, .int .i64 a0_1, .int .i64 a0_2, .bool a0_3, .int .i64 a0_4, .int .i64 a0_5, .int .i64 a0_6, .int .i64 a0_7, .slice A0_8 l0_8.length c0_8, .int .i64 a0_9, .int .i64 a0_10, .slice A0_11 l0_11.length c0_11, .int .i64 a0_12, .int .i64 a0_13, .int .i64 a0_14, .int .i64 a0_15]) (t := 29) ?hr ?_; (case hd => rfl); (case hg => rfl); (case hr => first | (go_simp; done) | (go_simp; rfl)); intro gb162 hg w45 hbox hb; have n0_ := Aside0.mk (below_step (by repeat (first | (with_reducible first | exact HB.out | apply below_alloc | apply pw_below_drewN | apply below_drew1) | exact HB.out)) hb); have n1_ := Aside0.mk (hbox); have n2_ := Aside0.mk ((by rw [hg]; exact (below_size (by repeat (first | (with_reducible first | exact HB.out | apply below_alloc | apply pw_below_drewN | apply below_drew1) | exact HB.out))) : w.heap.size ≤ gb162)); have n3_ := Aside0.mk ((by rw [hg]; exact (below_size (by repeat (first | (with_reducible first | exact HB.out | apply below_alloc | apply pw_below_drewN | apply below_drew1) | exact HB.out))) : w.heap.size ≤ gb162)); clear HB; have HB := n0_; have BK162 := n1_; have GW162 := n2_; have GE162 := n3_; clear n0_ n1_ n2_ n3_; clear hb hbox hg; have hcz46_0 : w45.cell? ⟨gb162, 0, none⟩ = some (.int .i64 a0_0) := (blk_cell BK162.out 0).trans rfl; have hcz46_1 : w45.cell? ⟨gb162, 1, none⟩ = some (.int .i64 a0_1) := (blk_cell BK162.out 1).trans rfl; have hcz46_2 : w45.cell? ⟨gb162, 2, none⟩ = some (.int .i64 a0_2) := (blk_cell BK162.out 2).trans rfl; have hcz46_3 : w45.cell? ⟨gb162, 3, none⟩ = some (.bool a0_3) := (blk_cell BK162.out 3).trans rfl; have hcz46_4 : w45.cell? ⟨gb162, 4, none⟩ = some (.int .i64 a0_4) := (blk_cell BK162.out 4).trans rfl; have hcz46_5 : w45.cell? ⟨gb162, 5, none⟩ = some (.int .i64 a0_5) := (blk_cell BK162.out 5).trans rfl; have hcz46_6 : w45.cell? ⟨gb162, 6, none⟩ = some (.int .i64 a0_6) := (blk_cell BK162.out 6).trans rfl; have hcz46_7 : w45.cell? ⟨gb162, 7, none⟩ = some (.int .i64 a0_7) := (blk_cell BK162.out 7).trans rfl; have hcz46_8 : w45.cell? ⟨gb162, 8, none⟩ = some (.slice A0_8 l0_8.length c0_8) := (blk_cell BK162.out 8).trans rfl; have hcz46_9 : w45.cell? ⟨gb162, 9, none⟩ = some (.int .i64 a0_9) := (blk_cell BK162.out 9).trans rfl; have hcz46_10 : w45.cell? ⟨gb162, 10, none⟩ = some (.int .i64 a0_10) := (blk_cell BK162.out 10).trans rfl; have hcz46_11 : w45.cell? ⟨gb162, 11, none⟩ = some (.slice A0_11 l0_11.length c0_11) := (blk_cell BK162.out 11).trans rfl; have hcz46_12 : w45.cell? ⟨gb162, 12, none⟩ = some (.int .i64 a0_12) := (blk_cell BK162.out 12).trans rfl; have hcz46_13 : w45.cell? ⟨gb162, 13, none⟩ = some (.int .i64 a0_13) := (blk_cell BK162.out 13).trans rfl; have hcz46_14 : w45.cell? ⟨gb162, 14, none⟩ = some (.int .i64 a0_14) := (blk_cell BK162.out 14).trans rfl; have hcz46_15 : w45.cell? ⟨gb162, 15, none⟩ = some (.int .i64 a0_15) := (blk_cell BK162.out 15).trans rfl; have hfz46_0 := blk_frozen BK162.out 0; have hfz46_1 := blk_frozen BK162.out 1; have hfz46_2 := blk_frozen BK162.out 2; have hfz46_3 := blk_frozen BK162.out 3; have hfz46_4 := blk_frozen BK162.out 4; have hfz46_5 := blk_frozen BK162.out 5; have hfz46_6 := blk_frozen BK162.out 6; have hfz46_7 := blk_frozen BK162.out 7; have hfz46_8 := blk_frozen BK162.out 8; have hfz46_9 := blk_frozen BK162.out 9; have hfz46_10 := blk_frozen BK162.out 10; have hfz46_11 := blk_frozen BK162.out 11; have hfz46_12 := blk_frozen BK162.out 12; have hfz46_13 := blk_frozen BK162.out 13; have hfz46_14 := blk_frozen BK162.out 14; have hfz46_15 := blk_frozen BK162.out 15) | ((with_reducible refine gate_callee (f := 143) rfl ?_); refine goesL_ (some 7) rfl rfl Try.func143 (by kernel_rfl) rfl #[.int .i64 a0_0] rfl (by (try simp only [List.map_toArray, List.map_cons, List.map_nil]); first | done | rfl | (simp only [List.length_drop, List.length_take]; rfl)) ?_; (with_reducible refine (rpc_node.calls a0_0 false _ A2.out).mono ?_); rintro e w' ⟨rfl, ⟨nd, rfl⟩⟩; refine ⟨_, rfl, ?_⟩))
        go_ret
        exact ⟨by first | rfl | (simp [errW_none, errW_some] <;> rfl) | (simp [*, errW_none, errW_some] <;> rfl), by repeat (first | (with_reducible first | exact HB.out | apply below_alloc | apply pw_below_drewN | apply below_drew1 | refine below_set ?_ GE162.out) | exact HB.out)⟩
      · rw [if_neg c44] at H
        have c44b0 : decide (a0_7 ≤ 3) = false := decide_eq_false c44
        clear c44
        obtain rfl := Option.some.inj H
        go_enter Try.func128, Try.ntmps128
        go_wp2_with (first | ((with_reducible refine gate_dst (N := 1) rfl ?_); (try (refine gate_guard (by rfl) ?_; dsimp only)); refine box_event ?hg (N := 1) ?hd (cs := #[.int .i64 a0_0, .int .i64 a0_1, .int .i64 a0_2, .bool a0_3, .int .i64 a0_4, .int .i64 a0_5, .int .i64 a0_6, .int .i64 a0_7, .slice A0_8 l0_8.length c0_8, .int .i64 a0_9, .int .i64 a0_10, .slice A0_11 l0_11.length c0_11, .int .i64 a0_12, .int .i64 a0_13, .int .i64 a0_14, .int .i64 a0_15]) (t := 29) ?hr ?_; (case hd => rfl); (case hg => rfl); (case hr => first | (go_simp; done) | (go_simp; rfl)); intro gb162 hg w47 hbox hb; have n0_ := Aside0.mk (below_step (by repeat (first | (with_reducible first | exact HB.out | apply below_alloc | apply pw_below_drewN | apply below_drew1) | exact HB.out)) hb); have n1_ := Aside0.mk (hbox); have n2_ := Aside0.mk ((by rw [hg]; exact (below_size (by repeat (first | (with_reducible first | exact HB.out | apply below_alloc | apply pw_below_drewN | apply below_drew1) | exact HB.out))) : w.heap.size ≤ gb162)); have n3_ := Aside0.mk ((by rw [hg]; exact (below_size (by repeat (first | (with_reducible first | exact HB.out | apply below_alloc | apply pw_below_drewN | apply below_drew1) | exact HB.out))) : w.heap.size ≤ gb162)); clear HB; have HB := n0_; have BK162 := n1_; have GW162 := n2_; have GE162 := n3_; clear n0_ n1_ n2_ n3_; clear hb hbox hg; have hcz48_0 : w47.cell? ⟨gb162, 0, none⟩ = some (.int .i64 a0_0) := (blk_cell BK162.out 0).trans rfl; have hcz48_1 : w47.cell? ⟨gb162, 1, none⟩ = some (.int .i64 a0_1) := (blk_cell BK162.out 1).trans rfl; have hcz48_2 : w47.cell? ⟨gb162, 2, none⟩ = some (.int .i64 a0_2) := (blk_cell BK162.out 2).trans rfl; have hcz48_3 : w47.cell? ⟨gb162, 3, none⟩ = some (.bool a0_3) := (blk_cell BK162.out 3).trans rfl; have hcz48_4 : w47.cell? ⟨gb162, 4, none⟩ = some (.int .i64 a0_4) := (blk_cell BK162.out 4).trans rfl; have hcz48_5 : w47.cell? ⟨gb162, 5, none⟩ = some (.int .i64 a0_5) := (blk_cell BK162.out 5).trans rfl; have hcz48_6 : w47.cell? ⟨gb162, 6, none⟩ = some (.int .i64 a0_6) := (blk_cell BK162.out 6).trans rfl; have hcz48_7 : w47.cell? ⟨gb162, 7, none⟩ = some (.int .i64 a0_7) := (blk_cell BK162.out 7).trans rfl; have hcz48_8 : w47.cell? ⟨gb162, 8, none⟩ = some (.slice A0_8 l0_8.length c0_8) := (blk_cell BK162.out 8).trans rfl; have hcz48_9 : w47.cell? ⟨gb162, 9, none⟩ = some (.int .i64 a0_9) := (blk_cell BK162.out 9).trans rfl; have hcz48_10 : w47.cell? ⟨gb162, 10, none⟩ = some (.int .i64 a0_10) := (blk_cell BK162.out 10).trans rfl; have hcz48_11 : w47.cell? ⟨gb162, 11, none⟩ = some (.slice A0_11 l0_11.length c0_11) := (blk_cell BK162.out 11).trans rfl; have hcz48_12 : w47.cell? ⟨gb162, 12, none⟩ = some (.int .i64 a0_12) := (blk_cell BK162.out 12).trans rfl; have hcz48_13 : w47.cell? ⟨gb162, 13, none⟩ = some (.int .i64 a0_13) := (blk_cell BK162.out 13).trans rfl; have hcz48_14 : w47.cell? ⟨gb162, 14, none⟩ = some (.int .i64 a0_14) := (blk_cell BK162.out 14).trans rfl; have hcz48_15 : w47.cell? ⟨gb162, 15, none⟩ = some (.int .i64 a0_15) := (blk_cell BK162.out 15).trans rfl; have hfz48_0 := blk_frozen BK162.out 0; have hfz48_1 := blk_frozen BK162.out 1; have hfz48_2 := blk_frozen BK162.out 2; have hfz48_3 := blk_frozen BK162.out 3; have hfz48_4 := blk_frozen BK162.out 4; have hfz48_5 := blk_frozen BK162.out 5; have hfz48_6 := blk_frozen BK162.out 6; have hfz48_7 := blk_frozen BK162.out 7; have hfz48_8 := blk_frozen BK162.out 8; have hfz48_9 := blk_frozen BK162.out 9; have hfz48_10 := blk_frozen BK162.out 10; have hfz48_11 := blk_frozen BK162.out 11; have hfz48_12 := blk_frozen BK162.out 12; have hfz48_13 := blk_frozen BK162.out 13; have hfz48_14 := blk_frozen BK162.out 14; have hfz48_15 := blk_frozen BK162.out 15) | ((with_reducible refine gate_callee (f := 143) rfl ?_); refine goesL_ (some 7) rfl rfl Try.func143 (by kernel_rfl) rfl #[.int .i64 a0_0] rfl (by (try simp only [List.map_toArray, List.map_cons, List.map_nil]); first | done | rfl | (simp only [List.length_drop, List.length_take]; rfl)) ?_; (with_reducible refine (rpc_node.calls a0_0 false _ A2.out).mono ?_); rintro e w' ⟨rfl, ⟨nd, rfl⟩⟩; refine ⟨_, rfl, ?_⟩))
        go_ret
        exact ⟨by first | rfl | (simp [errW_none, errW_some] <;> rfl) | (simp [*, errW_none, errW_some] <;> rfl), by repeat (first | (with_reducible first | exact HB.out | apply below_alloc | apply pw_below_drewN | apply below_drew1 | refine below_set ?_ GE162.out) | exact HB.out)⟩
    · rw [if_neg c43] at H
      have c43b0 : decide (0 ≤ a0_7) = false := decide_eq_false c43
      clear c43
      obtain rfl := Option.some.inj H
      go_enter Try.func128, Try.ntmps128
      go_wp2_with (first | ((with_reducible refine gate_dst (N := 1) rfl ?_); (try (refine gate_guard (by rfl) ?_; dsimp only)); refine box_event ?hg (N := 1) ?hd (cs := #[.int .i64 a0_0, .int .i64 a0_1, .int .i64 a0_2, .bool a0_3, .int .i64 a0_4, .int .i64 a0_5, .int .i64 a0_6, .int .i64 a0_7, .slice A0_8 l0_8.length c0_8, .int .i64 a0_9, .int .i64 a0_10, .slice A0_11 l0_11.length c0_11, .int .i64 a0_12, .int .i64 a0_13, .int .i64 a0_14, .int .i64 a0_15]) (t := 29) ?hr ?_; (case hd => rfl); (case hg => rfl); (case hr => first | (go_simp; done) | (go_simp; rfl)); intro gb162 hg w49 hbox hb; have n0_ := Aside0.mk (below_step (by repeat (first | (with_reducible first | exact HB.out | apply below_alloc | apply pw_below_drewN | apply below_drew1) | exact HB.out)) hb); have n1_ := Aside0.mk (hbox); have n2_ := Aside0.mk ((by rw [hg]; exact (below_size (by repeat (first | (with_reducible first | exact HB.out | apply below_alloc | apply pw_below_drewN | apply below_drew1) | exact HB.out))) : w.heap.size ≤ gb162)); have n3_ := Aside0.mk ((by rw [hg]; exact (below_size (by repeat (first | (with_reducible first | exact HB.out | apply below_alloc | apply pw_below_drewN | apply below_drew1) | exact HB.out))) : w.heap.size ≤ gb162)); clear HB; have HB := n0_; have BK162 := n1_; have GW162 := n2_; have GE162 := n3_; clear n0_ n1_ n2_ n3_; clear hb hbox hg; have hcz50_0 : w49.cell? ⟨gb162, 0, none⟩ = some (.int .i64 a0_0) := (blk_cell BK162.out 0).trans rfl; have hcz50_1 : w49.cell? ⟨gb162, 1, none⟩ = some (.int .i64 a0_1) := (blk_cell BK162.out 1).trans rfl; have hcz50_2 : w49.cell? ⟨gb162, 2, none⟩ = some (.int .i64 a0_2) := (blk_cell BK162.out 2).trans rfl; have hcz50_3 : w49.cell? ⟨gb162, 3, none⟩ = some (.bool a0_3) := (blk_cell BK162.out 3).trans rfl; have hcz50_4 : w49.cell? ⟨gb162, 4, none⟩ = some (.int .i64 a0_4) := (blk_cell BK162.out 4).trans rfl; have hcz50_5 : w49.cell? ⟨gb162, 5, none⟩ = some (.int .i64 a0_5) := (blk_cell BK162.out 5).trans rfl; have hcz50_6 : w49.cell? ⟨gb162, 6, none⟩ = some (.int .i64 a0_6) := (blk_cell BK162.out 6).trans rfl; have hcz50_7 : w49.cell? ⟨gb162, 7, none⟩ = some (.int .i64 a0_7) := (blk_cell BK162.out 7).trans rfl; have hcz50_8 : w49.cell? ⟨gb162, 8, none⟩ = some (.slice A0_8 l0_8.length c0_8) := (blk_cell BK162.out 8).trans rfl; have hcz50_9 : w49.cell? ⟨gb162, 9, none⟩ = some (.int .i64 a0_9) := (blk_cell BK162.out 9).trans rfl; have hcz50_10 : w49.cell? ⟨gb162, 10, none⟩ = some (.int .i64 a0_10) := (blk_cell BK162.out 10).trans rfl; have hcz50_11 : w49.cell? ⟨gb162, 11, none⟩ = some (.slice A0_11 l0_11.length c0_11) := (blk_cell BK162.out 11).trans rfl; have hcz50_12 : w49.cell? ⟨gb162, 12, none⟩ = some (.int .i64 a0_12) := (blk_cell BK162.out 12).trans rfl; have hcz50_13 : w49.cell? ⟨gb162, 13, none⟩ = some (.int .i64 a0_13) := (blk_cell BK162.out 13).trans rfl; have hcz50_14 : w49.cell? ⟨gb162, 14, none⟩ = some (.int .i64 a0_14) := (blk_cell BK162.out 14).trans rfl; have hcz50_15 : w49.cell? ⟨gb162, 15, none⟩ = some (.int .i64 a0_15) := (blk_cell BK162.out 15).trans rfl; have hfz50_0 := blk_frozen BK162.out 0; have hfz50_1 := blk_frozen BK162.out 1; have hfz50_2 := blk_frozen BK162.out 2; have hfz50_3 := blk_frozen BK162.out 3; have hfz50_4 := blk_frozen BK162.out 4; have hfz50_5 := blk_frozen BK162.out 5; have hfz50_6 := blk_frozen BK162.out 6; have hfz50_7 := blk_frozen BK162.out 7; have hfz50_8 := blk_frozen BK162.out 8; have hfz50_9 := blk_frozen BK162.out 9; have hfz50_10 := blk_frozen BK162.out 10; have hfz50_11 := blk_frozen BK162.out 11; have hfz50_12 := blk_frozen BK162.out 12; have hfz50_13 := blk_frozen BK162.out 13; have hfz50_14 := blk_frozen BK162.out 14; have hfz50_15 := blk_frozen BK162.out 15) | ((with_reducible refine gate_callee (f := 143) rfl ?_); refine goesL_ (some 7) rfl rfl Try.func143 (by kernel_rfl) rfl #[.int .i64 a0_0] rfl (by (try simp only [List.map_toArray, List.map_cons, List.map_nil]); first | done | rfl | (simp only [List.length_drop, List.length_take]; rfl)) ?_; (with_reducible refine (rpc_node.calls a0_0 false _ A2.out).mono ?_); rintro e w' ⟨rfl, ⟨nd, rfl⟩⟩; refine ⟨_, rfl, ?_⟩))
      go_ret
      exact ⟨by first | rfl | (simp [errW_none, errW_some] <;> rfl) | (simp [*, errW_none, errW_some] <;> rfl), by repeat (first | (with_reducible first | exact HB.out | apply below_alloc | apply pw_below_drewN | apply below_drew1 | refine below_set ?_ GE162.out) | exact HB.out)⟩

-- NOT PRINTED: function 71 (rpc_Encode)

-- NOT PRINTED: function 29 (octet_Read)

-- NOT PRINTED: function 96 (octet_Reader_fail)

-- NOT PRINTED: function 92 (octet_Reader_take)

-- NOT PRINTED: function 34 (octet_Reader_Number)

-- NOT PRINTED: function 93 (octet_Reader_count)

-- NOT PRINTED: function 30 (octet_Reader_Bytes)

-- NOT PRINTED: function 33 (octet_Reader_Byte)

-- NOT PRINTED: function 35 (octet_Reader_Int)

-- NOT PRINTED: function 36 (octet_Reader_Flag)

/-! ### tidelineref02_Sum: function 48 -/
mutual
def tidelineref02_Sum.l0 : Nat → List Int → Int → Int → Option (Int)
  | 0, _, _, _ => none
  | k + 1, x0, x3, x4 => if x4 < (x0.length : Int) then (if 0 ≤ x4 then (tidelineref02_Sum.l1 k x0 (Go.bits .xor .u32 x3 ((rd x0 x4) % 4294967296)) x4 0) else (none)) else (some ((4294967295 - x3) % 4294967296))
def tidelineref02_Sum.l1 : Nat → List Int → Int → Int → Int → Option (Int)
  | 0, _, _, _, _ => none
  | k + 1, x0, x3, x4, x5 => if x5 < 8 then (if (Int.tmod x3 2) = 1 then (tidelineref02_Sum.l1 k x0 (Go.bits .xor .u32 ((Int.tdiv x3 2) % 4294967296) 3988292384) x4 (wrap64 (x5 + 1))) else (tidelineref02_Sum.l1 k x0 ((Int.tdiv x3 2) % 4294967296) x4 (wrap64 (x5 + 1)))) else (tidelineref02_Sum.l0 k x0 x3 (wrap64 (x4 + 1)))
end
def tidelineref02_Sum.f (k : Nat) (l0 : List Int) : Option (Int) := tidelineref02_Sum.l0 k l0 4294967295 0
theorem tidelineref02_Sum.mono_l : ∀ k, (∀ y0 y1 y2, LeO (tidelineref02_Sum.l0 k y0 y1 y2) (tidelineref02_Sum.l0 (k + 1) y0 y1 y2)) ∧ (∀ y0 y1 y2 y3, LeO (tidelineref02_Sum.l1 k y0 y1 y2 y3) (tidelineref02_Sum.l1 (k + 1) y0 y1 y2 y3))
  | 0 => ⟨fun _ _ _ r h => by simp [tidelineref02_Sum.l0] at h, fun _ _ _ _ r h => by simp [tidelineref02_Sum.l1] at h⟩
  | k + 1 => by
    obtain ⟨ih0, ih1⟩ := tidelineref02_Sum.mono_l k
    refine ⟨?_, ?_⟩
    · intro y0 y1 y2
      unfold tidelineref02_Sum.l0
      repeat' first
      | (with_reducible exact ih0 _ _ _)
      | (with_reducible exact ih1 _ _ _ _)
      | (with_reducible exact LeO.refl _)
      | (with_reducible exact LeO.none _)
      | (with_reducible refine LeO.ite ?_ ?_)
      | (with_reducible refine LeO.bind ?_ (fun _ => ?_))
      | exact ih0 _ _ _
      | exact ih1 _ _ _ _
      | exact LeO.none _
      | refine LeO.ite ?_ ?_
      | refine LeO.bind ?_ (fun _ => ?_)
    · intro y0 y1 y2 y3
      unfold tidelineref02_Sum.l1
      repeat' first
      | (with_reducible exact ih0 _ _ _)
      | (with_reducible exact ih1 _ _ _ _)
      | (with_reducible exact LeO.refl _)
      | (with_reducible exact LeO.none _)
      | (with_reducible refine LeO.ite ?_ ?_)
      | (with_reducible refine LeO.bind ?_ (fun _ => ?_))
      | exact ih0 _ _ _
      | exact ih1 _ _ _ _
      | exact LeO.none _
      | refine LeO.ite ?_ ?_
      | refine LeO.bind ?_ (fun _ => ?_)
theorem tidelineref02_Sum.mono : ∀ a0 k, LeO (tidelineref02_Sum.f k a0) (tidelineref02_Sum.f (k + 1) a0) := by
  intro a0 k
  obtain ⟨ih0, ih1⟩ := tidelineref02_Sum.mono_l k
  unfold tidelineref02_Sum.f
  repeat' first
      | (with_reducible exact ih0 _ _ _)
      | (with_reducible exact ih1 _ _ _ _)
      | (with_reducible exact LeO.refl _)
      | (with_reducible exact LeO.none _)
      | (with_reducible refine LeO.ite ?_ ?_)
      | (with_reducible refine LeO.bind ?_ (fun _ => ?_))
      | exact ih0 _ _ _
      | exact ih1 _ _ _ _
      | exact LeO.none _
      | refine LeO.ite ?_ ?_
      | refine LeO.bind ?_ (fun _ => ?_)
set_option maxHeartbeats 8000000 in
set_option maxRecDepth 100000 in
theorem tidelineref02_Sum.calls (k : Nat) (A0 : Option Addr) (c0 : Nat) (l0 : List Int) (r : Int) (w : World) (hr0 : Kd.C (Kd.int .u8) w A0 l0.length l0) (hc0 : l0.length ≤ c0) (h : tidelineref02_Sum.f k l0 = some r) :
    Calls Try.prog 48 #[.slice A0 l0.length c0] w fun e w' => e = .returned (.int .u32 r) ∧ Drawn0 w w' := by
  have HR0 := Aside0.mk hr0
  have HC0 := Aside0.mk hc0
  clear hr0 hc0
  have H : (tidelineref02_Sum.l0 k l0 4294967295 0) = some r := h
  clear h
  have H' := Aside0.mk H
  clear H
  go_enter Try.func48, Try.ntmps48
  go_wp2
  go_loopg [3, 4] k (fun kq v3 v4 w' => ∃ (x3_1 : Int) (x4_1 : Int), v3 = .int .u32 x3_1 ∧ v4 = .int .i64 x4_1 ∧ Aside0 (tidelineref02_Sum.l0 kq l0 x3_1 x4_1 = some r) ∧ Aside0 (kq ≤ k) ∧ Drawn0 w w')
  case atStart => exact ⟨(4294967295), (0), (by first | rfl | (simp; done) | (simp [*]; done)), (by first | rfl | (simp; done) | (simp [*]; done)), H', ⟨Nat.le_refl _⟩, by repeat (first | exact Drawn0.refl _ | apply Drawn0.step)⟩
  case round =>
    clear H'
    obtain ⟨x3_1, x4_1, rfl, rfl, HA, HK1, ⟨m1, rfl⟩⟩ := hrel
    cases gk with
    | zero => exact absurd HA.out (by simp [tidelineref02_Sum.l0])
    | succ k1 =>
      have H := HA.out
      clear HA
      simp only [tidelineref02_Sum.l0] at H
      by_cases c2 : x4_1 < (l0.length : Int)
      · rw [if_pos c2] at H
        have c2b0 : decide (x4_1 < (l0.length : Int)) = true := decide_eq_true c2
        clear c2
        by_cases c3 : 0 ≤ x4_1
        · rw [if_pos c3] at H
          have c3b0 : decide (0 ≤ x4_1) = true := decide_eq_true c3
          clear c3
          have H' := Aside0.mk H
          clear H
          have p171 : 0 ≤ (x4_1 : Int) := of_decide_eq_true (by first | (with_reducible assumption) | assumption)
          have q171 : x4_1 < (l0.length : Int) := of_decide_eq_true (by first | (with_reducible assumption) | assumption)
          obtain ⟨ad171, e171, hx171_0⟩ := Kd.at_int HR0.out x4_1 p171 q171
          cases e171
          replace p171 := eq_true p171
          replace q171 := eq_true q171
          go_wp2
          go_loopg [3, 5] k1 (fun kq v3 v5 w' => ∃ (x3_2 : Int) (x5_2 : Int), v3 = .int .u32 x3_2 ∧ v5 = .int .i64 x5_2 ∧ Aside0 (tidelineref02_Sum.l1 kq l0 x3_2 x4_1 x5_2 = some r) ∧ Aside0 (kq ≤ k1) ∧ Drawn0 w w')
          case atStart => exact ⟨(Go.bits .xor .u32 x3_1 ((rd l0 x4_1) % 4294967296)), (0), (by first | rfl | (simp; done) | (simp [*]; done)), (by first | rfl | (simp; done) | (simp [*]; done)), H', ⟨Nat.le_refl _⟩, by repeat (first | exact Drawn0.refl _ | apply Drawn0.step)⟩
          case round =>
            clear H'
            try clear p1
            try clear q1
            try clear hx1
            try clear c2
            try clear c2b0
            try clear p2
            try clear c3
            try clear c3b0
            try clear hx171_0
            try clear p171
            try clear q171
            obtain ⟨x3_2, x5_2, rfl, rfl, HA, HK2, ⟨m2, rfl⟩⟩ := hrel
            cases gk with
            | zero => exact absurd HA.out (by simp [tidelineref02_Sum.l1])
            | succ k2 =>
              have H := HA.out
              clear HA
              simp only [tidelineref02_Sum.l1] at H
              by_cases c4 : x5_2 < 8
              · rw [if_pos c4] at H
                have c4b0 : decide (x5_2 < 8) = true := decide_eq_true c4
                clear c4
                by_cases c5 : (Int.tmod x3_2 2) = 1
                · rw [if_pos c5] at H
                  have c5b0 : ((Int.tmod x3_2 2) == 1) = true := beq_iff_eq.mpr c5
                  have c5b1 : ((Int.tmod x3_2 2) != 1) = false := bne_eq_false_iff_eq.mpr c5
                  clear c5
                  have H' := Aside0.mk H
                  clear H
                  go_wp2
                  go_roundg k2
                  case measure => have := HK1.out; have := HK2.out; omega
                  case rel => exact ⟨(Go.bits .xor .u32 ((Int.tdiv x3_2 2) % 4294967296) 3988292384), (wrap64 (x5_2 + 1)), (by first | rfl | (simp; done) | (simp [*]; done)), (by first | rfl | (simp; done) | (simp [*]; done)), H', ⟨by have := HK1.out; have := HK2.out; omega⟩, by repeat (first | exact Drawn0.refl _ | apply Drawn0.step)⟩
                · rw [if_neg c5] at H
                  have c5b0 : ((Int.tmod x3_2 2) == 1) = false := beq_eq_false_iff_ne.mpr c5
                  have c5b1 : ((Int.tmod x3_2 2) != 1) = true := bne_iff_ne.mpr c5
                  have H' := Aside0.mk H
                  clear H
                  go_wp2
                  go_roundg k2
                  case measure => have := HK1.out; have := HK2.out; omega
                  case rel => exact ⟨((Int.tdiv x3_2 2) % 4294967296), (wrap64 (x5_2 + 1)), (by first | rfl | (simp; done) | (simp [*]; done)), (by first | rfl | (simp; done) | (simp [*]; done)), H', ⟨by have := HK1.out; have := HK2.out; omega⟩, by repeat (first | exact Drawn0.refl _ | apply Drawn0.step)⟩
              · rw [if_neg c4] at H
                have c4b0 : decide (x5_2 < 8) = false := decide_eq_false c4
                clear c4
                have H' := Aside0.mk H
                clear H
                go_wp2
                go_roundg k2
                case measure => have := HK1.out; have := HK2.out; omega
                case rel => exact ⟨(x3_2), (wrap64 (x4_1 + 1)), (by first | rfl | (simp; done) | (simp [*]; done)), (by first | rfl | (simp; done) | (simp [*]; done)), H', ⟨by have := HK1.out; have := HK2.out; omega⟩, by repeat (first | exact Drawn0.refl _ | apply Drawn0.step)⟩
        · rw [if_neg c3] at H
          exact absurd H (by simp)
      · rw [if_neg c2] at H
        have c2b0 : decide (x4_1 < (l0.length : Int)) = false := decide_eq_false c2
        clear c2
        obtain rfl := Option.some.inj H
        go_wp2
        go_ret
        exact ⟨by first | rfl | (simp; done) | (simp [*]; done), by repeat (first | exact Drawn0.refl _ | apply Drawn0.step)⟩

/-! ### tidelineref01_Put: function 103 -/
mutual
def tidelineref01_Put.j0 : Nat → List Int → Int → Int → Option (List Int)
  | 0, _, _, _ => none
  | k + 1, x0, x1, x2 => tidelineref01_Put.l0 k x0 x1 (wrap64 (x2 - 1))
def tidelineref01_Put.l0 : Nat → List Int → Int → Int → Option (List Int)
  | 0, _, _, _ => none
  | k + 1, x0, x1, x7 => if x7 ≥ 0 then (tidelineref01_Put.l1 k x0 x1 x7 x1 0) else (some x0)
def tidelineref01_Put.l1 : Nat → List Int → Int → Int → Int → Int → Option (List Int)
  | 0, _, _, _, _, _ => none
  | k + 1, x0, x1, x7, x8, x9 => if x9 < x7 then (tidelineref01_Put.l1 k x0 x1 x7 (IntKind.u64.wrap (Int.tdiv x8 256)) (wrap64 (x9 + 1))) else (if x0.length < 140737488355328 then (tidelineref01_Put.l0 k (x0 ++ [(Int.tmod x8 256) % 256]) x1 (wrap64 (x7 - 1))) else (none))
end
def tidelineref01_Put.f (k : Nat) (l0 : List Int) (a1 : Int) (a2 : Int) : Option (List Int) := if a2 > 8 then (tidelineref01_Put.j0 k l0 a1 8) else (tidelineref01_Put.j0 k l0 a1 a2)
theorem tidelineref01_Put.mono_l : ∀ k, (∀ y0 y1 y2, LeO (tidelineref01_Put.j0 k y0 y1 y2) (tidelineref01_Put.j0 (k + 1) y0 y1 y2)) ∧ (∀ y0 y1 y2, LeO (tidelineref01_Put.l0 k y0 y1 y2) (tidelineref01_Put.l0 (k + 1) y0 y1 y2)) ∧ (∀ y0 y1 y2 y3 y4, LeO (tidelineref01_Put.l1 k y0 y1 y2 y3 y4) (tidelineref01_Put.l1 (k + 1) y0 y1 y2 y3 y4))
  | 0 => ⟨fun _ _ _ r h => by simp [tidelineref01_Put.j0] at h, fun _ _ _ r h => by simp [tidelineref01_Put.l0] at h, fun _ _ _ _ _ r h => by simp [tidelineref01_Put.l1] at h⟩
  | k + 1 => by
    obtain ⟨ih0, ih1, ih2⟩ := tidelineref01_Put.mono_l k
    refine ⟨?_, ?_, ?_⟩
    · intro y0 y1 y2
      unfold tidelineref01_Put.j0
      repeat' first
      | (with_reducible exact ih0 _ _ _)
      | (with_reducible exact ih1 _ _ _)
      | (with_reducible exact ih2 _ _ _ _ _)
      | (with_reducible exact LeO.refl _)
      | (with_reducible exact LeO.none _)
      | (with_reducible refine LeO.ite ?_ ?_)
      | (with_reducible refine LeO.bind ?_ (fun _ => ?_))
      | exact ih0 _ _ _
      | exact ih1 _ _ _
      | exact ih2 _ _ _ _ _
      | exact LeO.none _
      | refine LeO.ite ?_ ?_
      | refine LeO.bind ?_ (fun _ => ?_)
    · intro y0 y1 y2
      unfold tidelineref01_Put.l0
      repeat' first
      | (with_reducible exact ih0 _ _ _)
      | (with_reducible exact ih1 _ _ _)
      | (with_reducible exact ih2 _ _ _ _ _)
      | (with_reducible exact LeO.refl _)
      | (with_reducible exact LeO.none _)
      | (with_reducible refine LeO.ite ?_ ?_)
      | (with_reducible refine LeO.bind ?_ (fun _ => ?_))
      | exact ih0 _ _ _
      | exact ih1 _ _ _
      | exact ih2 _ _ _ _ _
      | exact LeO.none _
      | refine LeO.ite ?_ ?_
      | refine LeO.bind ?_ (fun _ => ?_)
    · intro y0 y1 y2 y3 y4
      unfold tidelineref01_Put.l1
      repeat' first
      | (with_reducible exact ih0 _ _ _)
      | (with_reducible exact ih1 _ _ _)
      | (with_reducible exact ih2 _ _ _ _ _)
      | (with_reducible exact LeO.refl _)
      | (with_reducible exact LeO.none _)
      | (with_reducible refine LeO.ite ?_ ?_)
      | (with_reducible refine LeO.bind ?_ (fun _ => ?_))
      | exact ih0 _ _ _
      | exact ih1 _ _ _
      | exact ih2 _ _ _ _ _
      | exact LeO.none _
      | refine LeO.ite ?_ ?_
      | refine LeO.bind ?_ (fun _ => ?_)
theorem tidelineref01_Put.mono : ∀ a0 a1 a2 k, LeO (tidelineref01_Put.f k a0 a1 a2) (tidelineref01_Put.f (k + 1) a0 a1 a2) := by
  intro a0 a1 a2 k
  obtain ⟨ih0, ih1, ih2⟩ := tidelineref01_Put.mono_l k
  unfold tidelineref01_Put.f
  repeat' first
      | (with_reducible exact ih0 _ _ _)
      | (with_reducible exact ih1 _ _ _)
      | (with_reducible exact ih2 _ _ _ _ _)
      | (with_reducible exact LeO.refl _)
      | (with_reducible exact LeO.none _)
      | (with_reducible refine LeO.ite ?_ ?_)
      | (with_reducible refine LeO.bind ?_ (fun _ => ?_))
      | exact ih0 _ _ _
      | exact ih1 _ _ _
      | exact ih2 _ _ _ _ _
      | exact LeO.none _
      | refine LeO.ite ?_ ?_
      | refine LeO.bind ?_ (fun _ => ?_)
set_option maxHeartbeats 8000000 in
set_option maxRecDepth 100000 in
theorem tidelineref01_Put.calls (k : Nat) (P0_ : Nat → Prop) (u9000_ : Value) (l0 : List Int) (a1 : Int) (a2 : Int) (r : List Int) (w0 w : World) (hB : Below w0.heap.size w0 w) (ho0 : Kd.R (Kd.int .u8) 5 w w0.heap.size P0_ u9000_ l0) (h : tidelineref01_Put.f k l0 a1 a2 = some r) :
    Calls Try.prog 103 #[u9000_, .int .u64 a1, .int .i64 a2] w fun e w' => ∃ v0_ : Value, e = .returned (v0_) ∧ Kd.R (Kd.int .u8) 5 w' w0.heap.size (fun k_ => (P0_ k_ ∨ w.heap.size ≤ k_)) v0_ r ∧ Below w0.heap.size w0 w' ∧ Kept w w' (fun k_ => P0_ k_) := by
  have HO0 := Aside0.mk (show Kd.R (Kd.int .u8) 5 w w0.heap.size (fun k_ => (P0_ k_ ∨ w.heap.size ≤ k_)) u9000_ l0 from Kd.R_mono ho0 (fun k_ hk => (.inl hk)))
  have HK := Aside0.mk (Kept.refl w (fun k_ => P0_ k_))
  have HW0 := Aside0.mk hB.size
  have HB := Aside0.mk hB
  clear hB
  have H : (if a2 > 8 then (tidelineref01_Put.j0 k l0 a1 8) else (tidelineref01_Put.j0 k l0 a1 a2)) = some r := h
  clear h
  have HC4 := Aside0.mk H
  clear H
  go_enter Try.func103, Try.ntmps103
  go_upto_if 11 with (fail)
  go_cut [2] (fun v2 wc => ∃ (kq : Nat) (x2_3 : Int), v2 = .int .i64 x2_3 ∧ Aside0 (tidelineref01_Put.j0 kq l0 a1 x2_3 = some r) ∧ Aside0 (kq ≤ k) ∧ Aside0 (Kd.R (Kd.int .u8) 5 wc w0.heap.size (fun k_ => (P0_ k_ ∨ w.heap.size ≤ k_)) u9000_ l0) ∧ Aside0 (Kept w wc (fun k_ => P0_ k_)) ∧ Aside0 (Below w0.heap.size w0 wc))
  case first =>
    have H := HC4.out
    clear HC4
    by_cases c5 : a2 > 8
    · rw [if_pos c5] at H
      have c5b0 : decide (8 < a2) = true := decide_eq_true c5
      clear c5
      (first | rw [c5b0] | (simp only [i64_w, i32_w]; rw [c5b0]) | skip)
      have H' := Aside0.mk H
      clear H
      go_wp2
      go_meet
      case rel => exact ⟨_, (8), (by first | rfl | (simp; done) | (simp [*]; done)), H', ⟨by first | omega | exact Nat.le_refl _⟩, ⟨by (with_reducible repeat (first | apply Kd.R_alloc | apply Kd.R_drewN | apply Kd.R_drew)); exact HO0.out⟩, ⟨by repeat (first | (with_reducible first | exact HK.out | apply Kept.alloc | apply Kept.drewN | apply Kept.drew) | exact HK.out)⟩, ⟨by repeat (first | (with_reducible first | exact HB.out | apply below_alloc | apply pw_below_drewN | apply below_drew1) | exact HB.out)⟩⟩
    · rw [if_neg c5] at H
      have c5b0 : decide (8 < a2) = false := decide_eq_false c5
      clear c5
      (first | rw [c5b0] | (simp only [i64_w, i32_w]; rw [c5b0]) | skip)
      have H' := Aside0.mk H
      clear H
      go_wp2
      go_meet
      case rel => exact ⟨_, (a2), (by first | rfl | (simp; done) | (simp [*]; done)), H', ⟨by first | omega | exact Nat.le_refl _⟩, ⟨by (with_reducible repeat (first | apply Kd.R_alloc | apply Kd.R_drewN | apply Kd.R_drew)); exact HO0.out⟩, ⟨by repeat (first | (with_reducible first | exact HK.out | apply Kept.alloc | apply Kept.drewN | apply Kept.drew) | exact HK.out)⟩, ⟨by repeat (first | (with_reducible first | exact HB.out | apply below_alloc | apply pw_below_drewN | apply below_drew1) | exact HB.out)⟩⟩
  case rest =>
    clear HC4
    try clear c1
    try clear p2
    try clear c5
    try clear c5b0
    obtain ⟨kq, x2_3, rfl, HA, HJ3, HO_0, HK, HB⟩ := hcut
    cases kq with
    | zero => exact absurd HA.out (by simp [tidelineref01_Put.j0])
    | succ kj3 =>
      have H := HA.out
      clear HA
      simp only [tidelineref01_Put.j0] at H
      have H' := Aside0.mk H
      clear H
      go_wp2
      go_loopg [0, 7] kj3 (fun kq v0 v7 w' => ∃ (x0_2 : List Int) (x7_2 : Int), v7 = .int .i64 x7_2 ∧ Aside0 (tidelineref01_Put.l0 kq x0_2 a1 x7_2 = some r) ∧ Aside0 (kq ≤ kj3) ∧ Aside0 (Kd.R (Kd.int .u8) 5 w' w0.heap.size (fun k_ => (P0_ k_ ∨ w.heap.size ≤ k_)) v0 x0_2) ∧ Aside0 (Kept w w' (fun k_ => P0_ k_)) ∧ Aside0 (Below w0.heap.size w0 w'))
      case atStart => exact ⟨(l0), (wrap64 (x2_3 - 1)), (by first | rfl | (simp; done) | (simp [*]; done)), H', ⟨Nat.le_refl _⟩, ⟨by (with_reducible repeat (first | apply Kd.R_alloc | apply Kd.R_drewN | apply Kd.R_drew)); exact HO_0.out⟩, ⟨by repeat (first | (with_reducible first | exact HK.out | apply Kept.alloc | apply Kept.drewN | apply Kept.drew) | exact HK.out)⟩, ⟨by repeat (first | (with_reducible first | exact HB.out | apply below_alloc | apply pw_below_drewN | apply below_drew1) | exact HB.out)⟩⟩
      case round =>
        clear H'
        try clear c1
        try clear p2
        try clear c5
        try clear c5b0
        try clear p2
        obtain ⟨x0_2, x7_2, rfl, HA, HK2, HO_0, HK, HB⟩ := hrel
        cases gk with
        | zero => exact absurd HA.out (by simp [tidelineref01_Put.l0])
        | succ k2 =>
          have H := HA.out
          clear HA
          simp only [tidelineref01_Put.l0] at H
          by_cases c6 : x7_2 ≥ 0
          · rw [if_pos c6] at H
            have c6b0 : decide (0 ≤ x7_2) = true := decide_eq_true c6
            clear c6
            have H' := Aside0.mk H
            clear H
            go_wp2
            go_loopg [8, 9] k2 (fun kq v8 v9 w' => ∃ (x8_3 : Int) (x9_3 : Int), v8 = .int .u64 x8_3 ∧ v9 = .int .i64 x9_3 ∧ Aside0 (tidelineref01_Put.l1 kq x0_2 a1 x7_2 x8_3 x9_3 = some r) ∧ Aside0 (kq ≤ k2) ∧ Aside0 (Kd.R (Kd.int .u8) 5 w' w0.heap.size (fun k_ => (P0_ k_ ∨ w.heap.size ≤ k_)) u0 x0_2) ∧ Aside0 (Kept w w' (fun k_ => P0_ k_)) ∧ Aside0 (Below w0.heap.size w0 w'))
            case atStart => exact ⟨(a1), (0), (by first | rfl | (simp; done) | (simp [*]; done)), (by first | rfl | (simp; done) | (simp [*]; done)), H', ⟨Nat.le_refl _⟩, ⟨by (with_reducible repeat (first | apply Kd.R_alloc | apply Kd.R_drewN | apply Kd.R_drew)); exact HO_0.out⟩, ⟨by repeat (first | (with_reducible first | exact HK.out | apply Kept.alloc | apply Kept.drewN | apply Kept.drew) | exact HK.out)⟩, ⟨by repeat (first | (with_reducible first | exact HB.out | apply below_alloc | apply pw_below_drewN | apply below_drew1) | exact HB.out)⟩⟩
            case round =>
              clear H'
              try clear c1
              try clear p2
              try clear c5
              try clear c5b0
              try clear c6
              try clear c6b0
              try clear p6
              try clear p2
              obtain ⟨x8_3, x9_3, rfl, rfl, HA, HK3, HO_0, HK, HB⟩ := hrel
              cases gk with
              | zero => exact absurd HA.out (by simp [tidelineref01_Put.l1])
              | succ k3 =>
                have H := HA.out
                clear HA
                simp only [tidelineref01_Put.l1] at H
                by_cases c7 : x9_3 < x7_2
                · rw [if_pos c7] at H
                  have c7b0 : decide (x9_3 < x7_2) = true := decide_eq_true c7
                  clear c7
                  have H' := Aside0.mk H
                  clear H
                  go_wp2
                  go_roundg k3
                  case measure => have := HJ3.out; have := HK2.out; have := HK3.out; omega
                  case rel => exact ⟨(IntKind.u64.wrap (Int.tdiv x8_3 256)), (wrap64 (x9_3 + 1)), (by first | rfl | (simp; done) | (simp [*]; done)), (by first | rfl | (simp; done) | (simp [*]; done)), H', ⟨by have := HJ3.out; have := HK2.out; have := HK3.out; omega⟩, ⟨by (with_reducible repeat (first | apply Kd.R_alloc | apply Kd.R_drewN | apply Kd.R_drew)); exact HO_0.out⟩, ⟨by repeat (first | (with_reducible first | exact HK.out | apply Kept.alloc | apply Kept.drewN | apply Kept.drew) | exact HK.out)⟩, ⟨by repeat (first | (with_reducible first | exact HB.out | apply below_alloc | apply pw_below_drewN | apply below_drew1) | exact HB.out)⟩⟩
                · rw [if_neg c7] at H
                  have c7b0 : decide (x9_3 < x7_2) = false := decide_eq_false c7
                  clear c7
                  by_cases c8 : x0_2.length < 140737488355328
                  · rw [if_pos c8] at H
                    have LMc8 := Aside0.mk c8
                    clear c8
                    obtain ⟨y172, hy172⟩ : ∃ y_ : List Int, y_ = (x0_2 ++ [(Int.tmod x8_3 256) % 256]) := ⟨_, rfl⟩
                    replace H : (tidelineref01_Put.l0 k3 y172 a1 (wrap64 (x7_2 - 1))) = some r := by first | (rw [hy172]; with_reducible exact H) | (have H2_ := (Option.bind_some _ _).symm.trans H; rw [hy172]; with_reducible exact H2_) | (have H2_ := (Option.bind_some _ _).symm.trans H; with_reducible exact H2_) | with_reducible exact H | (rw [hy172]; exact H) | exact H
                    have Ny172 := Aside0.mk hy172
                    clear hy172
                    have H' := Aside0.mk H
                    clear H
                    go_wp2_with (first | ((with_reducible refine gate_builtin (b := .append) (xs := #[.tmp 26, .tmp 30]) rfl ?_); at_builtin; refine Kd.R_append (Kd.int .u8) (w0 := w0) w0.heap.size rfl (.tmp 26) (.tmp 30) 22 5 (.int .u8 0) 1 rfl Try.underlying22 info5 rfl (by decide) (by omega) u0 x0_2 ((Int.tmod x8_3 256) % 256) [.int .u8 ((Int.tmod x8_3 256) % 256)] (fun k_ => (P0_ k_ ∨ w.heap.size ≤ k_)) (fun _ => False) rfl rfl ?aP (fun _ hk => hk.elim) ?aF ?aO ?aB ?aS ?aL ?_; (case aP => exact rfl); (case aB => exact (by repeat (first | (with_reducible first | exact HB.out | apply below_alloc | apply pw_below_drewN | apply below_drew1) | exact HB.out))); (case aF => exact (fun k_ hk => (.inr (Nat.le_trans (by first | exact HK.out.1 | exact (show Kept w _ (fun k_ => P0_ k_) from by repeat (first | (with_reducible first | exact HK.out | apply Kept.alloc | apply Kept.drewN | apply Kept.drew) | exact HK.out)).1) hk)))); (case aO => exact (by (with_reducible repeat (first | apply Kd.R_alloc | apply Kd.R_drewN | apply Kd.R_drew)); exact HO_0.out)); (case aS => exact (below_size (by repeat (first | (with_reducible first | exact HB.out | apply below_alloc | apply pw_below_drewN | apply below_drew1) | exact HB.out)))); (case aL => have := LMc8.out; omega); intro v173 w9 ho hb hg hat; rw [← Ny172.out] at ho; have n0_ := Aside0.mk (hb); have n1_ := Aside0.mk (Kept.of_grown (S := (fun k_ => P0_ k_)) hg (by repeat (first | (with_reducible first | exact HK.out | apply Kept.alloc | apply Kept.drewN | apply Kept.drew) | exact HK.out)) (fun k_ e_ => (HO_0.out.1 k_ e_))); have n2_ := Aside0.mk (ho); clear HB; clear HK; clear HO_0; have HB := n0_; have HK := n1_; have HO174 := n2_; clear n0_ n1_ n2_; clear ho hb hg hat))
                    go_roundg k3
                    case measure => have := HJ3.out; have := HK2.out; have := HK3.out; omega
                    case rel => exact ⟨(y172), (wrap64 (x7_2 - 1)), (by first | rfl | (simp; done) | (simp [*]; done)), H', ⟨by have := HJ3.out; have := HK2.out; have := HK3.out; omega⟩, ⟨by (with_reducible repeat (first | apply Kd.R_alloc | apply Kd.R_drewN | apply Kd.R_drew)); exact HO174.out⟩, ⟨by repeat (first | (with_reducible first | exact HK.out | apply Kept.alloc | apply Kept.drewN | apply Kept.drew) | exact HK.out)⟩, ⟨by repeat (first | (with_reducible first | exact HB.out | apply below_alloc | apply pw_below_drewN | apply below_drew1) | exact HB.out)⟩⟩
                  · rw [if_neg c8] at H
                    exact absurd H (by simp)
          · rw [if_neg c6] at H
            have c6b0 : decide (0 ≤ x7_2) = false := decide_eq_false c6
            clear c6
            obtain rfl := Option.some.inj H
            go_wp2
            go_ret
            exact ⟨_, by first | rfl | (simp [errW_none, errW_some] <;> rfl) | (simp [*, errW_none, errW_some] <;> rfl), by (with_reducible repeat (first | apply Kd.R_alloc | apply Kd.R_drewN | apply Kd.R_drew)); exact HO_0.out, by repeat (first | (with_reducible first | exact HB.out | apply below_alloc | apply pw_below_drewN | apply below_drew1) | exact HB.out), by repeat (first | (with_reducible first | exact HK.out | apply Kept.alloc | apply Kept.drewN | apply Kept.drew) | exact HK.out)⟩

/-! ### tidelineref02_Wrap: function 51 -/
def tidelineref02_Wrap.f (k : Nat) (l0 : List Int) : Option (List Int) := (some (([] : List Int) : List Int)).bind fun y175 => (if y175.length + l0.length < 140737488355328 then ((tidelineref02_Sum.f k l0).bind fun t181 => ((tidelineref01_Put.f k (y175 ++ l0) (IntKind.u64.wrap (t181)) 4).bind fun t182 => (some t182))) else (none))
theorem tidelineref02_Wrap.mono : ∀ a0 k, LeO (tidelineref02_Wrap.f k a0) (tidelineref02_Wrap.f (k + 1) a0) := by
  intro a0 k
  unfold tidelineref02_Wrap.f
  repeat' first
      | (with_reducible exact tidelineref01_Put.mono _ _ _ _)
      | (with_reducible exact tidelineref02_Sum.mono _ _)
      | (with_reducible exact LeO.refl _)
      | (with_reducible exact LeO.none _)
      | (with_reducible refine LeO.ite ?_ ?_)
      | (with_reducible refine LeO.bind ?_ (fun _ => ?_))
      | exact tidelineref01_Put.mono _ _ _ _
      | exact tidelineref02_Sum.mono _ _
      | exact LeO.none _
      | refine LeO.ite ?_ ?_
      | refine LeO.bind ?_ (fun _ => ?_)
set_option maxHeartbeats 8000000 in
set_option maxRecDepth 100000 in
theorem tidelineref02_Wrap.calls (k : Nat) (A0 : Option Addr) (c0 : Nat) (l0 : List Int) (r : List Int) (w : World) (hr0 : Kd.C (Kd.int .u8) w A0 l0.length l0) (hc0 : l0.length ≤ c0) (h : tidelineref02_Wrap.f k l0 = some r) :
    Calls Try.prog 51 #[.slice A0 l0.length c0] w fun e w' => ∃ v0_ : Value, e = .returned (v0_) ∧ Kd.R (Kd.int .u8) 5 w' w.heap.size (fun _ => True) v0_ r ∧ Below w.heap.size w w' := by
  have HR0 := Aside0.mk hr0
  have HC0 := Aside0.mk hc0
  clear hr0 hc0
  have HB := Aside0.mk (Below.refl w.heap.size w)
  have H : ((some (([] : List Int) : List Int)).bind fun y175 => (if y175.length + l0.length < 140737488355328 then ((tidelineref02_Sum.f k l0).bind fun t181 => ((tidelineref01_Put.f k (y175 ++ l0) (IntKind.u64.wrap (t181)) 4).bind fun t182 => (some t182))) else (none))) = some r := h
  clear h
  obtain ⟨y175, hy175⟩ : ∃ y_ : List Int, y_ = (([] : List Int)) := ⟨_, rfl⟩
  replace H : (if y175.length + l0.length < 140737488355328 then ((tidelineref02_Sum.f k l0).bind fun t181 => ((tidelineref01_Put.f k (y175 ++ l0) (IntKind.u64.wrap (t181)) 4).bind fun t182 => (some t182))) else (none)) = some r := by first | (rw [hy175]; with_reducible exact H) | (have H2_ := (Option.bind_some _ _).symm.trans H; rw [hy175]; with_reducible exact H2_) | (have H2_ := (Option.bind_some _ _).symm.trans H; with_reducible exact H2_) | with_reducible exact H | (rw [hy175]; exact H) | exact H
  have Ny175 := Aside0.mk hy175
  clear hy175
  by_cases c2 : y175.length + l0.length < 140737488355328
  · rw [if_pos c2] at H
    have LMc2 := Aside0.mk c2
    clear c2
    obtain ⟨y178, hy178⟩ : ∃ y_ : List Int, y_ = (y175 ++ l0) := ⟨_, rfl⟩
    replace H : ((tidelineref02_Sum.f k l0).bind fun t181 => ((tidelineref01_Put.f k y178 (IntKind.u64.wrap (t181)) 4).bind fun t182 => (some t182))) = some r := by first | (rw [hy178]; with_reducible exact H) | (have H2_ := (Option.bind_some _ _).symm.trans H; rw [hy178]; with_reducible exact H2_) | (have H2_ := (Option.bind_some _ _).symm.trans H; with_reducible exact H2_) | with_reducible exact H | (rw [hy178]; exact H) | exact H
    have Ny178 := Aside0.mk hy178
    clear hy178
    replace H := Option.bind_eq_some_iff.mp H
    obtain ⟨t181, A30, H⟩ := H
    replace H : ((tidelineref01_Put.f k y178 (IntKind.u64.wrap (t181)) 4).bind fun t182 => (some t182)) = some r := H
    have A3 := Aside0.mk A30
    clear A30
    replace H := Option.bind_eq_some_iff.mp H
    obtain ⟨t182, A40, H⟩ := H
    replace H : (some t182) = some r := H
    have A4 := Aside0.mk A40
    clear A40
    obtain rfl := Option.some.inj H
    go_enter Try.func51, Try.ntmps51
    go_wp2_with (first | ((with_reducible refine gate_dst (N := 4) rfl ?_); refine Kd.R_lit (Kd.int .u8) _ 5 ?hg (N := 4) ?hd (xs := ([] : List Int)) (inner := []) (ok := fun _ => True) (okp := fun _ => True) ?hr ?hp (fun _ hk => hk) trivial (Below.refl _ _) (Nat.le_refl _) (by simp) ?_; (case hd => rfl); (case hg => rfl); (case hr => first | (go_simp; done) | (go_simp; rfl)); (case hp => exact (Reps.none _ _)); intro v176 w5 ho6 hb hg_ hnew_; clear hg_ hnew_; (first | rw [← Ny175.out] at ho6 | (simp only [Int.reduceToNat] at ho6; rw [← Ny175.out] at ho6)); have n0_ := Aside0.mk (Kd.R_lower ho6 (below_size (by repeat (first | (with_reducible first | exact HB.out | apply below_alloc | apply pw_below_drewN | apply below_drew1) | exact HB.out)))); have n1_ := Aside0.mk (below_step (by repeat (first | (with_reducible first | exact HB.out | apply below_alloc | apply pw_below_drewN | apply below_drew1) | exact HB.out)) hb); clear HB; have HO177 := n0_; have HB := n1_; clear n0_ n1_; clear hb ho6) | ((with_reducible refine gate_builtin (b := .append) (xs := #[.tmp 4, .tmp 5]) rfl ?_); at_builtin; refine Kd.R_append_rows (Kd.int .u8) (w0 := w) w.heap.size rfl (.tmp 4) (.tmp 5) 22 5 (.int .u8 0) 1 rfl Try.underlying22 info5 rfl (by decide) (by omega) v176 y175 l0 _ _ _ (fun _ => True) (fun _ => False) rfl rfl ?aO ?aR (fun _ _ h => h) (fun _ h => h.elim) ?aF ?aB ?aS ?aL ?_; (case aR => repeat (first | exact (Kd.C_below HR0.out HB.out) | (with_reducible refine Kd.C_alloc ?_ _) | (with_reducible refine Kd.C_drewN ?_ _) | (with_reducible refine Kd.C_drew ?_))); (case aB => exact (by repeat (first | (with_reducible first | exact HB.out | apply below_alloc | apply pw_below_drewN | apply below_drew1) | exact HB.out))); (case aF => exact (fun _ _ => trivial)); (case aO => exact (by (with_reducible repeat (first | apply Kd.R_alloc | apply Kd.R_drewN | apply Kd.R_drew)); exact HO177.out)); (case aS => exact (below_size (by repeat (first | (with_reducible first | exact HB.out | apply below_alloc | apply pw_below_drewN | apply below_drew1) | exact HB.out)))); (case aL => have := LMc2.out; omega); intro v179 w7 ho hb hg hat; rw [← Ny178.out] at ho; have n0_ := Aside0.mk (hb); have n1_ := Aside0.mk (ho); clear HB; clear HO177; have HB := n0_; have HO180 := n1_; clear n0_ n1_; clear ho hb hg hat) | ((with_reducible refine gate_callee (f := 48) rfl ?_); refine goesL_ (some 9) rfl rfl Try.func48 (by kernel_rfl) rfl #[.slice A0 l0.length c0] rfl (by (try simp only [List.map_toArray, List.map_cons, List.map_nil]); first | done | rfl | (simp only [List.length_drop, List.length_take]; rfl)) ?_; (with_reducible refine (tidelineref02_Sum.calls k _ _ l0 t181 _ ?side1 ?side2 A3.out).mono ?_); (case side1 => repeat (first | exact (Kd.C_below HR0.out HB.out) | (with_reducible refine Kd.C_alloc ?_ _) | (with_reducible refine Kd.C_drewN ?_ _) | (with_reducible refine Kd.C_drew ?_))); (case side2 => exact HC0.out); rintro e w' ⟨rfl, ⟨nd, rfl⟩⟩; refine ⟨_, rfl, ?_⟩; obtain ⟨Ao8, co8, eo8⟩ := Kd.R_slice HO180.out; subst eo8) | ((with_reducible refine gate_callee (f := 103) rfl ?_); refine goesL_ (some 11) rfl rfl Try.func103 (by kernel_rfl) rfl #[.slice Ao8 y178.length co8, .int .u64 (IntKind.u64.wrap (t181)), .int .i64 4] rfl (by (try simp only [List.map_toArray, List.map_cons, List.map_nil]); first | done | rfl | (simp only [List.length_drop, List.length_take]; rfl)) ?_; (with_reducible refine (tidelineref01_Put.calls k (fun k_ => some k_ = (.slice Ao8 y178.length co8 : Value).ownBlock) (.slice Ao8 y178.length co8) y178 (IntKind.u64.wrap (t181)) 4 t182 w _ ?side1 ?side2 A4.out).mono ?_); (case side1 => repeat (first | (with_reducible first | exact HB.out | apply below_alloc | apply pw_below_drewN | apply below_drew1) | exact HB.out)); (case side2 => exact Kd.R_tight rfl HO180.out); rintro e w9 ⟨v183, rfl, ho0, hb, hkp⟩; refine ⟨_, rfl, ?_⟩; have n0_ := Aside0.mk (Kd.R_mono (ok' := fun k_ => True) ho0 (fun k_ hk_ => trivial)); have n1_ := Aside0.mk (hb); clear HB; clear HO180; have HO184 := n0_; have HB := n1_; clear n0_ n1_; (try clear hb); (try clear hkp); (try clear ho0)))
    go_ret
    exact ⟨_, by first | rfl | (simp [errW_none, errW_some] <;> rfl) | (simp [*, errW_none, errW_some] <;> rfl), by (with_reducible repeat (first | apply Kd.R_alloc | apply Kd.R_drewN | apply Kd.R_drew)); exact HO184.out, by repeat (first | (with_reducible first | exact HB.out | apply below_alloc | apply pw_below_drewN | apply below_drew1) | exact HB.out)⟩
  · rw [if_neg c2] at H
    exact absurd H (by simp)

/-! ### tidelineref12_Right: function 74 -/
def tidelineref12_Right.f (a0_0 : Int) (a0_1 : Int) (a0_2 : Int) (a0_3 : Bool) (a0_4 : Int) (a0_5 : Int) (a0_6 : Int) (a0_7 : Int) (l0_8 : List Int) (a0_9 : Int) (a0_10 : Int) (l0_11 : List Int) (a0_12 : Int) (a0_13 : Int) (a0_14 : Int) (a0_15 : Int) : Option (Bool) := if a0_0 < (-128) then (some false) else (if a0_0 > 127 then (some false) else (if a0_1 < (-128) then (some false) else (if a0_1 > 127 then (some false) else (if a0_4 < 1 then (some false) else (if a0_4 > 9 then (some false) else (if a0_7 ≥ 0 then (if a0_7 ≤ 3 then (if (l0_8.length : Int) ≤ 65536 then (some (decide ((l0_11.length : Int) ≤ 1000))) else (some false)) else (some false)) else (some false)))))))
set_option maxHeartbeats 8000000 in
set_option maxRecDepth 100000 in
theorem tidelineref12_Right.calls (a0_0 : Int) (a0_1 : Int) (a0_2 : Int) (a0_3 : Bool) (a0_4 : Int) (a0_5 : Int) (a0_6 : Int) (a0_7 : Int) (A0_8 : Option Addr) (c0_8 : Nat) (l0_8 : List Int) (a0_9 : Int) (a0_10 : Int) (A0_11 : Option Addr) (c0_11 : Nat) (l0_11 : List Int) (a0_12 : Int) (a0_13 : Int) (a0_14 : Int) (a0_15 : Int) (r : Bool) (w : World) (hr0_8 : Kd.C (Kd.int .u8) w A0_8 l0_8.length l0_8) (hc0_8 : l0_8.length ≤ c0_8) (hr0_11 : Kd.C (Kd.int .u8) w A0_11 l0_11.length l0_11) (hc0_11 : l0_11.length ≤ c0_11) (h : tidelineref12_Right.f a0_0 a0_1 a0_2 a0_3 a0_4 a0_5 a0_6 a0_7 l0_8 a0_9 a0_10 l0_11 a0_12 a0_13 a0_14 a0_15 = some r) :
    Calls Try.prog 74 #[.agg #[.int .i64 a0_0, .int .i64 a0_1, .int .i64 a0_2, .bool a0_3, .int .i64 a0_4, .int .i64 a0_5, .int .i64 a0_6, .int .i64 a0_7, .slice A0_8 l0_8.length c0_8, .int .i64 a0_9, .int .i64 a0_10, .slice A0_11 l0_11.length c0_11, .int .i64 a0_12, .int .i64 a0_13, .int .i64 a0_14, .int .i64 a0_15]] w fun e w' => e = .returned (.bool r) ∧ Below w.heap.size w w' := by
  have hu29 := Try.underlying29
  have HR0_8 := Aside0.mk hr0_8
  have HC0_8 := Aside0.mk hc0_8
  clear hr0_8 hc0_8
  have HR0_11 := Aside0.mk hr0_11
  have HC0_11 := Aside0.mk hc0_11
  clear hr0_11 hc0_11
  have HB := Aside0.mk (Below.refl w.heap.size w)
  have H : (if a0_0 < (-128) then (some false) else (if a0_0 > 127 then (some false) else (if a0_1 < (-128) then (some false) else (if a0_1 > 127 then (some false) else (if a0_4 < 1 then (some false) else (if a0_4 > 9 then (some false) else (if a0_7 ≥ 0 then (if a0_7 ≤ 3 then (if (l0_8.length : Int) ≤ 65536 then (some (decide ((l0_11.length : Int) ≤ 1000))) else (some false)) else (some false)) else (some false)))))))) = some r := h
  clear h
  by_cases c2 : a0_0 < (-128)
  · rw [if_pos c2] at H
    have c2b0 : decide (a0_0 < (-128)) = true := decide_eq_true c2
    clear c2
    obtain rfl := Option.some.inj H
    go_enter Try.func74, Try.ntmps74
    go_wp2_with (first | ((with_reducible refine gate_dst (N := 1) rfl ?_); (try (refine gate_guard (by rfl) ?_; dsimp only)); refine box_event ?hg (N := 1) ?hd (cs := #[.int .i64 a0_0, .int .i64 a0_1, .int .i64 a0_2, .bool a0_3, .int .i64 a0_4, .int .i64 a0_5, .int .i64 a0_6, .int .i64 a0_7, .slice A0_8 l0_8.length c0_8, .int .i64 a0_9, .int .i64 a0_10, .slice A0_11 l0_11.length c0_11, .int .i64 a0_12, .int .i64 a0_13, .int .i64 a0_14, .int .i64 a0_15]) (t := 29) ?hr ?_; (case hd => rfl); (case hg => rfl); (case hr => first | (go_simp; done) | (go_simp; rfl)); intro gb197 hg w3 hbox hb; have n0_ := Aside0.mk (below_step (by repeat (first | (with_reducible first | exact HB.out | apply below_alloc | apply pw_below_drewN | apply below_drew1) | exact HB.out)) hb); have n1_ := Aside0.mk (hbox); have n2_ := Aside0.mk ((by rw [hg]; exact (below_size (by repeat (first | (with_reducible first | exact HB.out | apply below_alloc | apply pw_below_drewN | apply below_drew1) | exact HB.out))) : w.heap.size ≤ gb197)); have n3_ := Aside0.mk ((by rw [hg]; exact (below_size (by repeat (first | (with_reducible first | exact HB.out | apply below_alloc | apply pw_below_drewN | apply below_drew1) | exact HB.out))) : w.heap.size ≤ gb197)); clear HB; have HB := n0_; have BK197 := n1_; have GW197 := n2_; have GE197 := n3_; clear n0_ n1_ n2_ n3_; clear hb hbox hg; have hcz4_0 : w3.cell? ⟨gb197, 0, none⟩ = some (.int .i64 a0_0) := (blk_cell BK197.out 0).trans rfl; have hcz4_1 : w3.cell? ⟨gb197, 1, none⟩ = some (.int .i64 a0_1) := (blk_cell BK197.out 1).trans rfl; have hcz4_2 : w3.cell? ⟨gb197, 2, none⟩ = some (.int .i64 a0_2) := (blk_cell BK197.out 2).trans rfl; have hcz4_3 : w3.cell? ⟨gb197, 3, none⟩ = some (.bool a0_3) := (blk_cell BK197.out 3).trans rfl; have hcz4_4 : w3.cell? ⟨gb197, 4, none⟩ = some (.int .i64 a0_4) := (blk_cell BK197.out 4).trans rfl; have hcz4_5 : w3.cell? ⟨gb197, 5, none⟩ = some (.int .i64 a0_5) := (blk_cell BK197.out 5).trans rfl; have hcz4_6 : w3.cell? ⟨gb197, 6, none⟩ = some (.int .i64 a0_6) := (blk_cell BK197.out 6).trans rfl; have hcz4_7 : w3.cell? ⟨gb197, 7, none⟩ = some (.int .i64 a0_7) := (blk_cell BK197.out 7).trans rfl; have hcz4_8 : w3.cell? ⟨gb197, 8, none⟩ = some (.slice A0_8 l0_8.length c0_8) := (blk_cell BK197.out 8).trans rfl; have hcz4_9 : w3.cell? ⟨gb197, 9, none⟩ = some (.int .i64 a0_9) := (blk_cell BK197.out 9).trans rfl; have hcz4_10 : w3.cell? ⟨gb197, 10, none⟩ = some (.int .i64 a0_10) := (blk_cell BK197.out 10).trans rfl; have hcz4_11 : w3.cell? ⟨gb197, 11, none⟩ = some (.slice A0_11 l0_11.length c0_11) := (blk_cell BK197.out 11).trans rfl; have hcz4_12 : w3.cell? ⟨gb197, 12, none⟩ = some (.int .i64 a0_12) := (blk_cell BK197.out 12).trans rfl; have hcz4_13 : w3.cell? ⟨gb197, 13, none⟩ = some (.int .i64 a0_13) := (blk_cell BK197.out 13).trans rfl; have hcz4_14 : w3.cell? ⟨gb197, 14, none⟩ = some (.int .i64 a0_14) := (blk_cell BK197.out 14).trans rfl; have hcz4_15 : w3.cell? ⟨gb197, 15, none⟩ = some (.int .i64 a0_15) := (blk_cell BK197.out 15).trans rfl; have hfz4_0 := blk_frozen BK197.out 0; have hfz4_1 := blk_frozen BK197.out 1; have hfz4_2 := blk_frozen BK197.out 2; have hfz4_3 := blk_frozen BK197.out 3; have hfz4_4 := blk_frozen BK197.out 4; have hfz4_5 := blk_frozen BK197.out 5; have hfz4_6 := blk_frozen BK197.out 6; have hfz4_7 := blk_frozen BK197.out 7; have hfz4_8 := blk_frozen BK197.out 8; have hfz4_9 := blk_frozen BK197.out 9; have hfz4_10 := blk_frozen BK197.out 10; have hfz4_11 := blk_frozen BK197.out 11; have hfz4_12 := blk_frozen BK197.out 12; have hfz4_13 := blk_frozen BK197.out 13; have hfz4_14 := blk_frozen BK197.out 14; have hfz4_15 := blk_frozen BK197.out 15))
    go_ret
    exact ⟨by first | rfl | (simp [errW_none, errW_some] <;> rfl) | (simp [*, errW_none, errW_some] <;> rfl), by repeat (first | (with_reducible first | exact HB.out | apply below_alloc | apply pw_below_drewN | apply below_drew1 | refine below_set ?_ GE197.out) | exact HB.out)⟩
  · rw [if_neg c2] at H
    have c2b0 : decide (a0_0 < (-128)) = false := decide_eq_false c2
    clear c2
    by_cases c5 : a0_0 > 127
    · rw [if_pos c5] at H
      have c5b0 : decide (127 < a0_0) = true := decide_eq_true c5
      clear c5
      obtain rfl := Option.some.inj H
      go_enter Try.func74, Try.ntmps74
      go_wp2_with (first | ((with_reducible refine gate_dst (N := 1) rfl ?_); (try (refine gate_guard (by rfl) ?_; dsimp only)); refine box_event ?hg (N := 1) ?hd (cs := #[.int .i64 a0_0, .int .i64 a0_1, .int .i64 a0_2, .bool a0_3, .int .i64 a0_4, .int .i64 a0_5, .int .i64 a0_6, .int .i64 a0_7, .slice A0_8 l0_8.length c0_8, .int .i64 a0_9, .int .i64 a0_10, .slice A0_11 l0_11.length c0_11, .int .i64 a0_12, .int .i64 a0_13, .int .i64 a0_14, .int .i64 a0_15]) (t := 29) ?hr ?_; (case hd => rfl); (case hg => rfl); (case hr => first | (go_simp; done) | (go_simp; rfl)); intro gb197 hg w6 hbox hb; have n0_ := Aside0.mk (below_step (by repeat (first | (with_reducible first | exact HB.out | apply below_alloc | apply pw_below_drewN | apply below_drew1) | exact HB.out)) hb); have n1_ := Aside0.mk (hbox); have n2_ := Aside0.mk ((by rw [hg]; exact (below_size (by repeat (first | (with_reducible first | exact HB.out | apply below_alloc | apply pw_below_drewN | apply below_drew1) | exact HB.out))) : w.heap.size ≤ gb197)); have n3_ := Aside0.mk ((by rw [hg]; exact (below_size (by repeat (first | (with_reducible first | exact HB.out | apply below_alloc | apply pw_below_drewN | apply below_drew1) | exact HB.out))) : w.heap.size ≤ gb197)); clear HB; have HB := n0_; have BK197 := n1_; have GW197 := n2_; have GE197 := n3_; clear n0_ n1_ n2_ n3_; clear hb hbox hg; have hcz7_0 : w6.cell? ⟨gb197, 0, none⟩ = some (.int .i64 a0_0) := (blk_cell BK197.out 0).trans rfl; have hcz7_1 : w6.cell? ⟨gb197, 1, none⟩ = some (.int .i64 a0_1) := (blk_cell BK197.out 1).trans rfl; have hcz7_2 : w6.cell? ⟨gb197, 2, none⟩ = some (.int .i64 a0_2) := (blk_cell BK197.out 2).trans rfl; have hcz7_3 : w6.cell? ⟨gb197, 3, none⟩ = some (.bool a0_3) := (blk_cell BK197.out 3).trans rfl; have hcz7_4 : w6.cell? ⟨gb197, 4, none⟩ = some (.int .i64 a0_4) := (blk_cell BK197.out 4).trans rfl; have hcz7_5 : w6.cell? ⟨gb197, 5, none⟩ = some (.int .i64 a0_5) := (blk_cell BK197.out 5).trans rfl; have hcz7_6 : w6.cell? ⟨gb197, 6, none⟩ = some (.int .i64 a0_6) := (blk_cell BK197.out 6).trans rfl; have hcz7_7 : w6.cell? ⟨gb197, 7, none⟩ = some (.int .i64 a0_7) := (blk_cell BK197.out 7).trans rfl; have hcz7_8 : w6.cell? ⟨gb197, 8, none⟩ = some (.slice A0_8 l0_8.length c0_8) := (blk_cell BK197.out 8).trans rfl; have hcz7_9 : w6.cell? ⟨gb197, 9, none⟩ = some (.int .i64 a0_9) := (blk_cell BK197.out 9).trans rfl; have hcz7_10 : w6.cell? ⟨gb197, 10, none⟩ = some (.int .i64 a0_10) := (blk_cell BK197.out 10).trans rfl; have hcz7_11 : w6.cell? ⟨gb197, 11, none⟩ = some (.slice A0_11 l0_11.length c0_11) := (blk_cell BK197.out 11).trans rfl; have hcz7_12 : w6.cell? ⟨gb197, 12, none⟩ = some (.int .i64 a0_12) := (blk_cell BK197.out 12).trans rfl; have hcz7_13 : w6.cell? ⟨gb197, 13, none⟩ = some (.int .i64 a0_13) := (blk_cell BK197.out 13).trans rfl; have hcz7_14 : w6.cell? ⟨gb197, 14, none⟩ = some (.int .i64 a0_14) := (blk_cell BK197.out 14).trans rfl; have hcz7_15 : w6.cell? ⟨gb197, 15, none⟩ = some (.int .i64 a0_15) := (blk_cell BK197.out 15).trans rfl; have hfz7_0 := blk_frozen BK197.out 0; have hfz7_1 := blk_frozen BK197.out 1; have hfz7_2 := blk_frozen BK197.out 2; have hfz7_3 := blk_frozen BK197.out 3; have hfz7_4 := blk_frozen BK197.out 4; have hfz7_5 := blk_frozen BK197.out 5; have hfz7_6 := blk_frozen BK197.out 6; have hfz7_7 := blk_frozen BK197.out 7; have hfz7_8 := blk_frozen BK197.out 8; have hfz7_9 := blk_frozen BK197.out 9; have hfz7_10 := blk_frozen BK197.out 10; have hfz7_11 := blk_frozen BK197.out 11; have hfz7_12 := blk_frozen BK197.out 12; have hfz7_13 := blk_frozen BK197.out 13; have hfz7_14 := blk_frozen BK197.out 14; have hfz7_15 := blk_frozen BK197.out 15))
      go_ret
      exact ⟨by first | rfl | (simp [errW_none, errW_some] <;> rfl) | (simp [*, errW_none, errW_some] <;> rfl), by repeat (first | (with_reducible first | exact HB.out | apply below_alloc | apply pw_below_drewN | apply below_drew1 | refine below_set ?_ GE197.out) | exact HB.out)⟩
    · rw [if_neg c5] at H
      have c5b0 : decide (127 < a0_0) = false := decide_eq_false c5
      clear c5
      by_cases c8 : a0_1 < (-128)
      · rw [if_pos c8] at H
        have c8b0 : decide (a0_1 < (-128)) = true := decide_eq_true c8
        clear c8
        obtain rfl := Option.some.inj H
        go_enter Try.func74, Try.ntmps74
        go_wp2_with (first | ((with_reducible refine gate_dst (N := 1) rfl ?_); (try (refine gate_guard (by rfl) ?_; dsimp only)); refine box_event ?hg (N := 1) ?hd (cs := #[.int .i64 a0_0, .int .i64 a0_1, .int .i64 a0_2, .bool a0_3, .int .i64 a0_4, .int .i64 a0_5, .int .i64 a0_6, .int .i64 a0_7, .slice A0_8 l0_8.length c0_8, .int .i64 a0_9, .int .i64 a0_10, .slice A0_11 l0_11.length c0_11, .int .i64 a0_12, .int .i64 a0_13, .int .i64 a0_14, .int .i64 a0_15]) (t := 29) ?hr ?_; (case hd => rfl); (case hg => rfl); (case hr => first | (go_simp; done) | (go_simp; rfl)); intro gb197 hg w9 hbox hb; have n0_ := Aside0.mk (below_step (by repeat (first | (with_reducible first | exact HB.out | apply below_alloc | apply pw_below_drewN | apply below_drew1) | exact HB.out)) hb); have n1_ := Aside0.mk (hbox); have n2_ := Aside0.mk ((by rw [hg]; exact (below_size (by repeat (first | (with_reducible first | exact HB.out | apply below_alloc | apply pw_below_drewN | apply below_drew1) | exact HB.out))) : w.heap.size ≤ gb197)); have n3_ := Aside0.mk ((by rw [hg]; exact (below_size (by repeat (first | (with_reducible first | exact HB.out | apply below_alloc | apply pw_below_drewN | apply below_drew1) | exact HB.out))) : w.heap.size ≤ gb197)); clear HB; have HB := n0_; have BK197 := n1_; have GW197 := n2_; have GE197 := n3_; clear n0_ n1_ n2_ n3_; clear hb hbox hg; have hcz10_0 : w9.cell? ⟨gb197, 0, none⟩ = some (.int .i64 a0_0) := (blk_cell BK197.out 0).trans rfl; have hcz10_1 : w9.cell? ⟨gb197, 1, none⟩ = some (.int .i64 a0_1) := (blk_cell BK197.out 1).trans rfl; have hcz10_2 : w9.cell? ⟨gb197, 2, none⟩ = some (.int .i64 a0_2) := (blk_cell BK197.out 2).trans rfl; have hcz10_3 : w9.cell? ⟨gb197, 3, none⟩ = some (.bool a0_3) := (blk_cell BK197.out 3).trans rfl; have hcz10_4 : w9.cell? ⟨gb197, 4, none⟩ = some (.int .i64 a0_4) := (blk_cell BK197.out 4).trans rfl; have hcz10_5 : w9.cell? ⟨gb197, 5, none⟩ = some (.int .i64 a0_5) := (blk_cell BK197.out 5).trans rfl; have hcz10_6 : w9.cell? ⟨gb197, 6, none⟩ = some (.int .i64 a0_6) := (blk_cell BK197.out 6).trans rfl; have hcz10_7 : w9.cell? ⟨gb197, 7, none⟩ = some (.int .i64 a0_7) := (blk_cell BK197.out 7).trans rfl; have hcz10_8 : w9.cell? ⟨gb197, 8, none⟩ = some (.slice A0_8 l0_8.length c0_8) := (blk_cell BK197.out 8).trans rfl; have hcz10_9 : w9.cell? ⟨gb197, 9, none⟩ = some (.int .i64 a0_9) := (blk_cell BK197.out 9).trans rfl; have hcz10_10 : w9.cell? ⟨gb197, 10, none⟩ = some (.int .i64 a0_10) := (blk_cell BK197.out 10).trans rfl; have hcz10_11 : w9.cell? ⟨gb197, 11, none⟩ = some (.slice A0_11 l0_11.length c0_11) := (blk_cell BK197.out 11).trans rfl; have hcz10_12 : w9.cell? ⟨gb197, 12, none⟩ = some (.int .i64 a0_12) := (blk_cell BK197.out 12).trans rfl; have hcz10_13 : w9.cell? ⟨gb197, 13, none⟩ = some (.int .i64 a0_13) := (blk_cell BK197.out 13).trans rfl; have hcz10_14 : w9.cell? ⟨gb197, 14, none⟩ = some (.int .i64 a0_14) := (blk_cell BK197.out 14).trans rfl; have hcz10_15 : w9.cell? ⟨gb197, 15, none⟩ = some (.int .i64 a0_15) := (blk_cell BK197.out 15).trans rfl; have hfz10_0 := blk_frozen BK197.out 0; have hfz10_1 := blk_frozen BK197.out 1; have hfz10_2 := blk_frozen BK197.out 2; have hfz10_3 := blk_frozen BK197.out 3; have hfz10_4 := blk_frozen BK197.out 4; have hfz10_5 := blk_frozen BK197.out 5; have hfz10_6 := blk_frozen BK197.out 6; have hfz10_7 := blk_frozen BK197.out 7; have hfz10_8 := blk_frozen BK197.out 8; have hfz10_9 := blk_frozen BK197.out 9; have hfz10_10 := blk_frozen BK197.out 10; have hfz10_11 := blk_frozen BK197.out 11; have hfz10_12 := blk_frozen BK197.out 12; have hfz10_13 := blk_frozen BK197.out 13; have hfz10_14 := blk_frozen BK197.out 14; have hfz10_15 := blk_frozen BK197.out 15))
        go_ret
        exact ⟨by first | rfl | (simp [errW_none, errW_some] <;> rfl) | (simp [*, errW_none, errW_some] <;> rfl), by repeat (first | (with_reducible first | exact HB.out | apply below_alloc | apply pw_below_drewN | apply below_drew1 | refine below_set ?_ GE197.out) | exact HB.out)⟩
      · rw [if_neg c8] at H
        have c8b0 : decide (a0_1 < (-128)) = false := decide_eq_false c8
        clear c8
        by_cases c11 : a0_1 > 127
        · rw [if_pos c11] at H
          have c11b0 : decide (127 < a0_1) = true := decide_eq_true c11
          clear c11
          obtain rfl := Option.some.inj H
          go_enter Try.func74, Try.ntmps74
          go_wp2_with (first | ((with_reducible refine gate_dst (N := 1) rfl ?_); (try (refine gate_guard (by rfl) ?_; dsimp only)); refine box_event ?hg (N := 1) ?hd (cs := #[.int .i64 a0_0, .int .i64 a0_1, .int .i64 a0_2, .bool a0_3, .int .i64 a0_4, .int .i64 a0_5, .int .i64 a0_6, .int .i64 a0_7, .slice A0_8 l0_8.length c0_8, .int .i64 a0_9, .int .i64 a0_10, .slice A0_11 l0_11.length c0_11, .int .i64 a0_12, .int .i64 a0_13, .int .i64 a0_14, .int .i64 a0_15]) (t := 29) ?hr ?_; (case hd => rfl); (case hg => rfl); (case hr => first | (go_simp; done) | (go_simp; rfl)); intro gb197 hg w12 hbox hb; have n0_ := Aside0.mk (below_step (by repeat (first | (with_reducible first | exact HB.out | apply below_alloc | apply pw_below_drewN | apply below_drew1) | exact HB.out)) hb); have n1_ := Aside0.mk (hbox); have n2_ := Aside0.mk ((by rw [hg]; exact (below_size (by repeat (first | (with_reducible first | exact HB.out | apply below_alloc | apply pw_below_drewN | apply below_drew1) | exact HB.out))) : w.heap.size ≤ gb197)); have n3_ := Aside0.mk ((by rw [hg]; exact (below_size (by repeat (first | (with_reducible first | exact HB.out | apply below_alloc | apply pw_below_drewN | apply below_drew1) | exact HB.out))) : w.heap.size ≤ gb197)); clear HB; have HB := n0_; have BK197 := n1_; have GW197 := n2_; have GE197 := n3_; clear n0_ n1_ n2_ n3_; clear hb hbox hg; have hcz13_0 : w12.cell? ⟨gb197, 0, none⟩ = some (.int .i64 a0_0) := (blk_cell BK197.out 0).trans rfl; have hcz13_1 : w12.cell? ⟨gb197, 1, none⟩ = some (.int .i64 a0_1) := (blk_cell BK197.out 1).trans rfl; have hcz13_2 : w12.cell? ⟨gb197, 2, none⟩ = some (.int .i64 a0_2) := (blk_cell BK197.out 2).trans rfl; have hcz13_3 : w12.cell? ⟨gb197, 3, none⟩ = some (.bool a0_3) := (blk_cell BK197.out 3).trans rfl; have hcz13_4 : w12.cell? ⟨gb197, 4, none⟩ = some (.int .i64 a0_4) := (blk_cell BK197.out 4).trans rfl; have hcz13_5 : w12.cell? ⟨gb197, 5, none⟩ = some (.int .i64 a0_5) := (blk_cell BK197.out 5).trans rfl; have hcz13_6 : w12.cell? ⟨gb197, 6, none⟩ = some (.int .i64 a0_6) := (blk_cell BK197.out 6).trans rfl; have hcz13_7 : w12.cell? ⟨gb197, 7, none⟩ = some (.int .i64 a0_7) := (blk_cell BK197.out 7).trans rfl; have hcz13_8 : w12.cell? ⟨gb197, 8, none⟩ = some (.slice A0_8 l0_8.length c0_8) := (blk_cell BK197.out 8).trans rfl; have hcz13_9 : w12.cell? ⟨gb197, 9, none⟩ = some (.int .i64 a0_9) := (blk_cell BK197.out 9).trans rfl; have hcz13_10 : w12.cell? ⟨gb197, 10, none⟩ = some (.int .i64 a0_10) := (blk_cell BK197.out 10).trans rfl; have hcz13_11 : w12.cell? ⟨gb197, 11, none⟩ = some (.slice A0_11 l0_11.length c0_11) := (blk_cell BK197.out 11).trans rfl; have hcz13_12 : w12.cell? ⟨gb197, 12, none⟩ = some (.int .i64 a0_12) := (blk_cell BK197.out 12).trans rfl; have hcz13_13 : w12.cell? ⟨gb197, 13, none⟩ = some (.int .i64 a0_13) := (blk_cell BK197.out 13).trans rfl; have hcz13_14 : w12.cell? ⟨gb197, 14, none⟩ = some (.int .i64 a0_14) := (blk_cell BK197.out 14).trans rfl; have hcz13_15 : w12.cell? ⟨gb197, 15, none⟩ = some (.int .i64 a0_15) := (blk_cell BK197.out 15).trans rfl; have hfz13_0 := blk_frozen BK197.out 0; have hfz13_1 := blk_frozen BK197.out 1; have hfz13_2 := blk_frozen BK197.out 2; have hfz13_3 := blk_frozen BK197.out 3; have hfz13_4 := blk_frozen BK197.out 4; have hfz13_5 := blk_frozen BK197.out 5; have hfz13_6 := blk_frozen BK197.out 6; have hfz13_7 := blk_frozen BK197.out 7; have hfz13_8 := blk_frozen BK197.out 8; have hfz13_9 := blk_frozen BK197.out 9; have hfz13_10 := blk_frozen BK197.out 10; have hfz13_11 := blk_frozen BK197.out 11; have hfz13_12 := blk_frozen BK197.out 12; have hfz13_13 := blk_frozen BK197.out 13; have hfz13_14 := blk_frozen BK197.out 14; have hfz13_15 := blk_frozen BK197.out 15))
          go_ret
          exact ⟨by first | rfl | (simp [errW_none, errW_some] <;> rfl) | (simp [*, errW_none, errW_some] <;> rfl), by repeat (first | (with_reducible first | exact HB.out | apply below_alloc | apply pw_below_drewN | apply below_drew1 | refine below_set ?_ GE197.out) | exact HB.out)⟩
        · rw [if_neg c11] at H
          have c11b0 : decide (127 < a0_1) = false := decide_eq_false c11
          clear c11
          by_cases c14 : a0_4 < 1
          · rw [if_pos c14] at H
            have c14b0 : decide (a0_4 < 1) = true := decide_eq_true c14
            clear c14
            obtain rfl := Option.some.inj H
            go_enter Try.func74, Try.ntmps74
            go_wp2_with (first | ((with_reducible refine gate_dst (N := 1) rfl ?_); (try (refine gate_guard (by rfl) ?_; dsimp only)); refine box_event ?hg (N := 1) ?hd (cs := #[.int .i64 a0_0, .int .i64 a0_1, .int .i64 a0_2, .bool a0_3, .int .i64 a0_4, .int .i64 a0_5, .int .i64 a0_6, .int .i64 a0_7, .slice A0_8 l0_8.length c0_8, .int .i64 a0_9, .int .i64 a0_10, .slice A0_11 l0_11.length c0_11, .int .i64 a0_12, .int .i64 a0_13, .int .i64 a0_14, .int .i64 a0_15]) (t := 29) ?hr ?_; (case hd => rfl); (case hg => rfl); (case hr => first | (go_simp; done) | (go_simp; rfl)); intro gb197 hg w15 hbox hb; have n0_ := Aside0.mk (below_step (by repeat (first | (with_reducible first | exact HB.out | apply below_alloc | apply pw_below_drewN | apply below_drew1) | exact HB.out)) hb); have n1_ := Aside0.mk (hbox); have n2_ := Aside0.mk ((by rw [hg]; exact (below_size (by repeat (first | (with_reducible first | exact HB.out | apply below_alloc | apply pw_below_drewN | apply below_drew1) | exact HB.out))) : w.heap.size ≤ gb197)); have n3_ := Aside0.mk ((by rw [hg]; exact (below_size (by repeat (first | (with_reducible first | exact HB.out | apply below_alloc | apply pw_below_drewN | apply below_drew1) | exact HB.out))) : w.heap.size ≤ gb197)); clear HB; have HB := n0_; have BK197 := n1_; have GW197 := n2_; have GE197 := n3_; clear n0_ n1_ n2_ n3_; clear hb hbox hg; have hcz16_0 : w15.cell? ⟨gb197, 0, none⟩ = some (.int .i64 a0_0) := (blk_cell BK197.out 0).trans rfl; have hcz16_1 : w15.cell? ⟨gb197, 1, none⟩ = some (.int .i64 a0_1) := (blk_cell BK197.out 1).trans rfl; have hcz16_2 : w15.cell? ⟨gb197, 2, none⟩ = some (.int .i64 a0_2) := (blk_cell BK197.out 2).trans rfl; have hcz16_3 : w15.cell? ⟨gb197, 3, none⟩ = some (.bool a0_3) := (blk_cell BK197.out 3).trans rfl; have hcz16_4 : w15.cell? ⟨gb197, 4, none⟩ = some (.int .i64 a0_4) := (blk_cell BK197.out 4).trans rfl; have hcz16_5 : w15.cell? ⟨gb197, 5, none⟩ = some (.int .i64 a0_5) := (blk_cell BK197.out 5).trans rfl; have hcz16_6 : w15.cell? ⟨gb197, 6, none⟩ = some (.int .i64 a0_6) := (blk_cell BK197.out 6).trans rfl; have hcz16_7 : w15.cell? ⟨gb197, 7, none⟩ = some (.int .i64 a0_7) := (blk_cell BK197.out 7).trans rfl; have hcz16_8 : w15.cell? ⟨gb197, 8, none⟩ = some (.slice A0_8 l0_8.length c0_8) := (blk_cell BK197.out 8).trans rfl; have hcz16_9 : w15.cell? ⟨gb197, 9, none⟩ = some (.int .i64 a0_9) := (blk_cell BK197.out 9).trans rfl; have hcz16_10 : w15.cell? ⟨gb197, 10, none⟩ = some (.int .i64 a0_10) := (blk_cell BK197.out 10).trans rfl; have hcz16_11 : w15.cell? ⟨gb197, 11, none⟩ = some (.slice A0_11 l0_11.length c0_11) := (blk_cell BK197.out 11).trans rfl; have hcz16_12 : w15.cell? ⟨gb197, 12, none⟩ = some (.int .i64 a0_12) := (blk_cell BK197.out 12).trans rfl; have hcz16_13 : w15.cell? ⟨gb197, 13, none⟩ = some (.int .i64 a0_13) := (blk_cell BK197.out 13).trans rfl; have hcz16_14 : w15.cell? ⟨gb197, 14, none⟩ = some (.int .i64 a0_14) := (blk_cell BK197.out 14).trans rfl; have hcz16_15 : w15.cell? ⟨gb197, 15, none⟩ = some (.int .i64 a0_15) := (blk_cell BK197.out 15).trans rfl; have hfz16_0 := blk_frozen BK197.out 0; have hfz16_1 := blk_frozen BK197.out 1; have hfz16_2 := blk_frozen BK197.out 2; have hfz16_3 := blk_frozen BK197.out 3; have hfz16_4 := blk_frozen BK197.out 4; have hfz16_5 := blk_frozen BK197.out 5; have hfz16_6 := blk_frozen BK197.out 6; have hfz16_7 := blk_frozen BK197.out 7; have hfz16_8 := blk_frozen BK197.out 8; have hfz16_9 := blk_frozen BK197.out 9; have hfz16_10 := blk_frozen BK197.out 10; have hfz16_11 := blk_frozen BK197.out 11; have hfz16_12 := blk_frozen BK197.out 12; have hfz16_13 := blk_frozen BK197.out 13; have hfz16_14 := blk_frozen BK197.out 14; have hfz16_15 := blk_frozen BK197.out 15))
            go_ret
            exact ⟨by first | rfl | (simp [errW_none, errW_some] <;> rfl) | (simp [*, errW_none, errW_some] <;> rfl), by repeat (first | (with_reducible first | exact HB.out | apply below_alloc | apply pw_below_drewN | apply below_drew1 | refine below_set ?_ GE197.out) | exact HB.out)⟩
          · rw [if_neg c14] at H
            have c14b0 : decide (a0_4 < 1) = false := decide_eq_false c14
            clear c14
            by_cases c17 : a0_4 > 9
            · rw [if_pos c17] at H
              have c17b0 : decide (9 < a0_4) = true := decide_eq_true c17
              clear c17
              obtain rfl := Option.some.inj H
              go_enter Try.func74, Try.ntmps74
              go_wp2_with (first | ((with_reducible refine gate_dst (N := 1) rfl ?_); (try (refine gate_guard (by rfl) ?_; dsimp only)); refine box_event ?hg (N := 1) ?hd (cs := #[.int .i64 a0_0, .int .i64 a0_1, .int .i64 a0_2, .bool a0_3, .int .i64 a0_4, .int .i64 a0_5, .int .i64 a0_6, .int .i64 a0_7, .slice A0_8 l0_8.length c0_8, .int .i64 a0_9, .int .i64 a0_10, .slice A0_11 l0_11.length c0_11, .int .i64 a0_12, .int .i64 a0_13, .int .i64 a0_14, .int .i64 a0_15]) (t := 29) ?hr ?_; (case hd => rfl); (case hg => rfl); (case hr => first | (go_simp; done) | (go_simp; rfl)); intro gb197 hg w18 hbox hb; have n0_ := Aside0.mk (below_step (by repeat (first | (with_reducible first | exact HB.out | apply below_alloc | apply pw_below_drewN | apply below_drew1) | exact HB.out)) hb); have n1_ := Aside0.mk (hbox); have n2_ := Aside0.mk ((by rw [hg]; exact (below_size (by repeat (first | (with_reducible first | exact HB.out | apply below_alloc | apply pw_below_drewN | apply below_drew1) | exact HB.out))) : w.heap.size ≤ gb197)); have n3_ := Aside0.mk ((by rw [hg]; exact (below_size (by repeat (first | (with_reducible first | exact HB.out | apply below_alloc | apply pw_below_drewN | apply below_drew1) | exact HB.out))) : w.heap.size ≤ gb197)); clear HB; have HB := n0_; have BK197 := n1_; have GW197 := n2_; have GE197 := n3_; clear n0_ n1_ n2_ n3_; clear hb hbox hg; have hcz19_0 : w18.cell? ⟨gb197, 0, none⟩ = some (.int .i64 a0_0) := (blk_cell BK197.out 0).trans rfl; have hcz19_1 : w18.cell? ⟨gb197, 1, none⟩ = some (.int .i64 a0_1) := (blk_cell BK197.out 1).trans rfl; have hcz19_2 : w18.cell? ⟨gb197, 2, none⟩ = some (.int .i64 a0_2) := (blk_cell BK197.out 2).trans rfl; have hcz19_3 : w18.cell? ⟨gb197, 3, none⟩ = some (.bool a0_3) := (blk_cell BK197.out 3).trans rfl; have hcz19_4 : w18.cell? ⟨gb197, 4, none⟩ = some (.int .i64 a0_4) := (blk_cell BK197.out 4).trans rfl; have hcz19_5 : w18.cell? ⟨gb197, 5, none⟩ = some (.int .i64 a0_5) := (blk_cell BK197.out 5).trans rfl; have hcz19_6 : w18.cell? ⟨gb197, 6, none⟩ = some (.int .i64 a0_6) := (blk_cell BK197.out 6).trans rfl; have hcz19_7 : w18.cell? ⟨gb197, 7, none⟩ = some (.int .i64 a0_7) := (blk_cell BK197.out 7).trans rfl; have hcz19_8 : w18.cell? ⟨gb197, 8, none⟩ = some (.slice A0_8 l0_8.length c0_8) := (blk_cell BK197.out 8).trans rfl; have hcz19_9 : w18.cell? ⟨gb197, 9, none⟩ = some (.int .i64 a0_9) := (blk_cell BK197.out 9).trans rfl; have hcz19_10 : w18.cell? ⟨gb197, 10, none⟩ = some (.int .i64 a0_10) := (blk_cell BK197.out 10).trans rfl; have hcz19_11 : w18.cell? ⟨gb197, 11, none⟩ = some (.slice A0_11 l0_11.length c0_11) := (blk_cell BK197.out 11).trans rfl; have hcz19_12 : w18.cell? ⟨gb197, 12, none⟩ = some (.int .i64 a0_12) := (blk_cell BK197.out 12).trans rfl; have hcz19_13 : w18.cell? ⟨gb197, 13, none⟩ = some (.int .i64 a0_13) := (blk_cell BK197.out 13).trans rfl; have hcz19_14 : w18.cell? ⟨gb197, 14, none⟩ = some (.int .i64 a0_14) := (blk_cell BK197.out 14).trans rfl; have hcz19_15 : w18.cell? ⟨gb197, 15, none⟩ = some (.int .i64 a0_15) := (blk_cell BK197.out 15).trans rfl; have hfz19_0 := blk_frozen BK197.out 0; have hfz19_1 := blk_frozen BK197.out 1; have hfz19_2 := blk_frozen BK197.out 2; have hfz19_3 := blk_frozen BK197.out 3; have hfz19_4 := blk_frozen BK197.out 4; have hfz19_5 := blk_frozen BK197.out 5; have hfz19_6 := blk_frozen BK197.out 6; have hfz19_7 := blk_frozen BK197.out 7; have hfz19_8 := blk_frozen BK197.out 8; have hfz19_9 := blk_frozen BK197.out 9; have hfz19_10 := blk_frozen BK197.out 10; have hfz19_11 := blk_frozen BK197.out 11; have hfz19_12 := blk_frozen BK197.out 12; have hfz19_13 := blk_frozen BK197.out 13; have hfz19_14 := blk_frozen BK197.out 14; have hfz19_15 := blk_frozen BK197.out 15))
              go_ret
              exact ⟨by first | rfl | (simp [errW_none, errW_some] <;> rfl) | (simp [*, errW_none, errW_some] <;> rfl), by repeat (first | (with_reducible first | exact HB.out | apply below_alloc | apply pw_below_drewN | apply below_drew1 | refine below_set ?_ GE197.out) | exact HB.out)⟩
            · rw [if_neg c17] at H
              have c17b0 : decide (9 < a0_4) = false := decide_eq_false c17
              clear c17
              by_cases c20 : a0_7 ≥ 0
              · rw [if_pos c20] at H
                have c20b0 : decide (0 ≤ a0_7) = true := decide_eq_true c20
                clear c20
                by_cases c21 : a0_7 ≤ 3
                · rw [if_pos c21] at H
                  have c21b0 : decide (a0_7 ≤ 3) = true := decide_eq_true c21
                  clear c21
                  by_cases c22 : (l0_8.length : Int) ≤ 65536
                  · rw [if_pos c22] at H
                    have c22b0 : decide ((l0_8.length : Int) ≤ 65536) = true := decide_eq_true c22
                    have c22b1 : decide (l0_8.length ≤ 65536) = true := decide_eq_true (by omega)
                    clear c22
                    obtain rfl := Option.some.inj H
                    go_enter Try.func74, Try.ntmps74
                    go_wp2_with (first | ((with_reducible refine gate_dst (N := 1) rfl ?_); (try (refine gate_guard (by rfl) ?_; dsimp only)); refine box_event ?hg (N := 1) ?hd (cs := #[.int .i64 a0_0, .int .i64 a0_1, .int .i64 a0_2, .bool a0_3, .int .i64 a0_4, .int .i64 a0_5, .int .i64 a0_6, .int .i64 a0_7, .slice A0_8 l0_8.length c0_8, .int .i64 a0_9, .int .i64 a0_10, .slice A0_11 l0_11.length c0_11, .int .i64 a0_12, .int .i64 a0_13, .int .i64 a0_14, .int .i64 a0_15]) (t := 29) ?hr ?_; (case hd => rfl); (case hg => rfl); (case hr => first | (go_simp; done) | (go_simp; rfl)); intro gb197 hg w23 hbox hb; have n0_ := Aside0.mk (below_step (by repeat (first | (with_reducible first | exact HB.out | apply below_alloc | apply pw_below_drewN | apply below_drew1) | exact HB.out)) hb); have n1_ := Aside0.mk (hbox); have n2_ := Aside0.mk ((by rw [hg]; exact (below_size (by repeat (first | (with_reducible first | exact HB.out | apply below_alloc | apply pw_below_drewN | apply below_drew1) | exact HB.out))) : w.heap.size ≤ gb197)); have n3_ := Aside0.mk ((by rw [hg]; exact (below_size (by repeat (first | (with_reducible first | exact HB.out | apply below_alloc | apply pw_below_drewN | apply below_drew1) | exact HB.out))) : w.heap.size ≤ gb197)); clear HB; have HB := n0_; have BK197 := n1_; have GW197 := n2_; have GE197 := n3_; clear n0_ n1_ n2_ n3_; clear hb hbox hg; have hcz24_0 : w23.cell? ⟨gb197, 0, none⟩ = some (.int .i64 a0_0) := (blk_cell BK197.out 0).trans rfl; have hcz24_1 : w23.cell? ⟨gb197, 1, none⟩ = some (.int .i64 a0_1) := (blk_cell BK197.out 1).trans rfl; have hcz24_2 : w23.cell? ⟨gb197, 2, none⟩ = some (.int .i64 a0_2) := (blk_cell BK197.out 2).trans rfl; have hcz24_3 : w23.cell? ⟨gb197, 3, none⟩ = some (.bool a0_3) := (blk_cell BK197.out 3).trans rfl; have hcz24_4 : w23.cell? ⟨gb197, 4, none⟩ = some (.int .i64 a0_4) := (blk_cell BK197.out 4).trans rfl; have hcz24_5 : w23.cell? ⟨gb197, 5, none⟩ = some (.int .i64 a0_5) := (blk_cell BK197.out 5).trans rfl; have hcz24_6 : w23.cell? ⟨gb197, 6, none⟩ = some (.int .i64 a0_6) := (blk_cell BK197.out 6).trans rfl; have hcz24_7 : w23.cell? ⟨gb197, 7, none⟩ = some (.int .i64 a0_7) := (blk_cell BK197.out 7).trans rfl; have hcz24_8 : w23.cell? ⟨gb197, 8, none⟩ = some (.slice A0_8 l0_8.length c0_8) := (blk_cell BK197.out 8).trans rfl; have hcz24_9 : w23.cell? ⟨gb197, 9, none⟩ = some (.int .i64 a0_9) := (blk_cell BK197.out 9).trans rfl; have hcz24_10 : w23.cell? ⟨gb197, 10, none⟩ = some (.int .i64 a0_10) := (blk_cell BK197.out 10).trans rfl; have hcz24_11 : w23.cell? ⟨gb197, 11, none⟩ = some (.slice A0_11 l0_11.length c0_11) := (blk_cell BK197.out 11).trans rfl; have hcz24_12 : w23.cell? ⟨gb197, 12, none⟩ = some (.int .i64 a0_12) := (blk_cell BK197.out 12).trans rfl; have hcz24_13 : w23.cell? ⟨gb197, 13, none⟩ = some (.int .i64 a0_13) := (blk_cell BK197.out 13).trans rfl; have hcz24_14 : w23.cell? ⟨gb197, 14, none⟩ = some (.int .i64 a0_14) := (blk_cell BK197.out 14).trans rfl; have hcz24_15 : w23.cell? ⟨gb197, 15, none⟩ = some (.int .i64 a0_15) := (blk_cell BK197.out 15).trans rfl; have hfz24_0 := blk_frozen BK197.out 0; have hfz24_1 := blk_frozen BK197.out 1; have hfz24_2 := blk_frozen BK197.out 2; have hfz24_3 := blk_frozen BK197.out 3; have hfz24_4 := blk_frozen BK197.out 4; have hfz24_5 := blk_frozen BK197.out 5; have hfz24_6 := blk_frozen BK197.out 6; have hfz24_7 := blk_frozen BK197.out 7; have hfz24_8 := blk_frozen BK197.out 8; have hfz24_9 := blk_frozen BK197.out 9; have hfz24_10 := blk_frozen BK197.out 10; have hfz24_11 := blk_frozen BK197.out 11; have hfz24_12 := blk_frozen BK197.out 12; have hfz24_13 := blk_frozen BK197.out 13; have hfz24_14 := blk_frozen BK197.out 14; have hfz24_15 := blk_frozen BK197.out 15))
                    go_ret
                    exact ⟨by first | rfl | (simp [errW_none, errW_some] <;> rfl) | (simp [*, errW_none, errW_some] <;> rfl), by repeat (first | (with_reducible first | exact HB.out | apply below_alloc | apply pw_below_drewN | apply below_drew1 | refine below_set ?_ GE197.out) | exact HB.out)⟩
                  · rw [if_neg c22] at H
                    have c22b0 : decide ((l0_8.length : Int) ≤ 65536) = false := decide_eq_false c22
                    have c22b1 : decide (l0_8.length ≤ 65536) = false := decide_eq_false (by omega)
                    clear c22
                    obtain rfl := Option.some.inj H
                    go_enter Try.func74, Try.ntmps74
                    go_wp2_with (first | ((with_reducible refine gate_dst (N := 1) rfl ?_); (try (refine gate_guard (by rfl) ?_; dsimp only)); refine box_event ?hg (N := 1) ?hd (cs := #[.int .i64 a0_0, .int .i64 a0_1, .int .i64 a0_2, .bool a0_3, .int .i64 a0_4, .int .i64 a0_5, .int .i64 a0_6, .int .i64 a0_7, .slice A0_8 l0_8.length c0_8, .int .i64 a0_9, .int .i64 a0_10, .slice A0_11 l0_11.length c0_11, .int .i64 a0_12, .int .i64 a0_13, .int .i64 a0_14, .int .i64 a0_15]) (t := 29) ?hr ?_; (case hd => rfl); (case hg => rfl); (case hr => first | (go_simp; done) | (go_simp; rfl)); intro gb197 hg w25 hbox hb; have n0_ := Aside0.mk (below_step (by repeat (first | (with_reducible first | exact HB.out | apply below_alloc | apply pw_below_drewN | apply below_drew1) | exact HB.out)) hb); have n1_ := Aside0.mk (hbox); have n2_ := Aside0.mk ((by rw [hg]; exact (below_size (by repeat (first | (with_reducible first | exact HB.out | apply below_alloc | apply pw_below_drewN | apply below_drew1) | exact HB.out))) : w.heap.size ≤ gb197)); have n3_ := Aside0.mk ((by rw [hg]; exact (below_size (by repeat (first | (with_reducible first | exact HB.out | apply below_alloc | apply pw_below_drewN | apply below_drew1) | exact HB.out))) : w.heap.size ≤ gb197)); clear HB; have HB := n0_; have BK197 := n1_; have GW197 := n2_; have GE197 := n3_; clear n0_ n1_ n2_ n3_; clear hb hbox hg; have hcz26_0 : w25.cell? ⟨gb197, 0, none⟩ = some (.int .i64 a0_0) := (blk_cell BK197.out 0).trans rfl; have hcz26_1 : w25.cell? ⟨gb197, 1, none⟩ = some (.int .i64 a0_1) := (blk_cell BK197.out 1).trans rfl; have hcz26_2 : w25.cell? ⟨gb197, 2, none⟩ = some (.int .i64 a0_2) := (blk_cell BK197.out 2).trans rfl; have hcz26_3 : w25.cell? ⟨gb197, 3, none⟩ = some (.bool a0_3) := (blk_cell BK197.out 3).trans rfl; have hcz26_4 : w25.cell? ⟨gb197, 4, none⟩ = some (.int .i64 a0_4) := (blk_cell BK197.out 4).trans rfl; have hcz26_5 : w25.cell? ⟨gb197, 5, none⟩ = some (.int .i64 a0_5) := (blk_cell BK197.out 5).trans rfl; have hcz26_6 : w25.cell? ⟨gb197, 6, none⟩ = some (.int .i64 a0_6) := (blk_cell BK197.out 6).trans rfl; have hcz26_7 : w25.cell? ⟨gb197, 7, none⟩ = some (.int .i64 a0_7) := (blk_cell BK197.out 7).trans rfl; have hcz26_8 : w25.cell? ⟨gb197, 8, none⟩ = some (.slice A0_8 l0_8.length c0_8) := (blk_cell BK197.out 8).trans rfl; have hcz26_9 : w25.cell? ⟨gb197, 9, none⟩ = some (.int .i64 a0_9) := (blk_cell BK197.out 9).trans rfl; have hcz26_10 : w25.cell? ⟨gb197, 10, none⟩ = some (.int .i64 a0_10) := (blk_cell BK197.out 10).trans rfl; have hcz26_11 : w25.cell? ⟨gb197, 11, none⟩ = some (.slice A0_11 l0_11.length c0_11) := (blk_cell BK197.out 11).trans rfl; have hcz26_12 : w25.cell? ⟨gb197, 12, none⟩ = some (.int .i64 a0_12) := (blk_cell BK197.out 12).trans rfl; have hcz26_13 : w25.cell? ⟨gb197, 13, none⟩ = some (.int .i64 a0_13) := (blk_cell BK197.out 13).trans rfl; have hcz26_14 : w25.cell? ⟨gb197, 14, none⟩ = some (.int .i64 a0_14) := (blk_cell BK197.out 14).trans rfl; have hcz26_15 : w25.cell? ⟨gb197, 15, none⟩ = some (.int .i64 a0_15) := (blk_cell BK197.out 15).trans rfl; have hfz26_0 := blk_frozen BK197.out 0; have hfz26_1 := blk_frozen BK197.out 1; have hfz26_2 := blk_frozen BK197.out 2; have hfz26_3 := blk_frozen BK197.out 3; have hfz26_4 := blk_frozen BK197.out 4; have hfz26_5 := blk_frozen BK197.out 5; have hfz26_6 := blk_frozen BK197.out 6; have hfz26_7 := blk_frozen BK197.out 7; have hfz26_8 := blk_frozen BK197.out 8; have hfz26_9 := blk_frozen BK197.out 9; have hfz26_10 := blk_frozen BK197.out 10; have hfz26_11 := blk_frozen BK197.out 11; have hfz26_12 := blk_frozen BK197.out 12; have hfz26_13 := blk_frozen BK197.out 13; have hfz26_14 := blk_frozen BK197.out 14; have hfz26_15 := blk_frozen BK197.out 15))
                    go_ret
                    exact ⟨by first | rfl | (simp [errW_none, errW_some] <;> rfl) | (simp [*, errW_none, errW_some] <;> rfl), by repeat (first | (with_reducible first | exact HB.out | apply below_alloc | apply pw_below_drewN | apply below_drew1 | refine below_set ?_ GE197.out) | exact HB.out)⟩
                · rw [if_neg c21] at H
                  have c21b0 : decide (a0_7 ≤ 3) = false := decide_eq_false c21
                  clear c21
                  obtain rfl := Option.some.inj H
                  go_enter Try.func74, Try.ntmps74
                  go_wp2_with (first | ((with_reducible refine gate_dst (N := 1) rfl ?_); (try (refine gate_guard (by rfl) ?_; dsimp only)); refine box_event ?hg (N := 1) ?hd (cs := #[.int .i64 a0_0, .int .i64 a0_1, .int .i64 a0_2, .bool a0_3, .int .i64 a0_4, .int .i64 a0_5, .int .i64 a0_6, .int .i64 a0_7, .slice A0_8 l0_8.length c0_8, .int .i64 a0_9, .int .i64 a0_10, .slice A0_11 l0_11.length c0_11, .int .i64 a0_12, .int .i64 a0_13, .int .i64 a0_14, .int .i64 a0_15]) (t := 29) ?hr ?_; (case hd => rfl); (case hg => rfl); (case hr => first | (go_simp; done) | (go_simp; rfl)); intro gb197 hg w27 hbox hb; have n0_ := Aside0.mk (below_step (by repeat (first | (with_reducible first | exact HB.out | apply below_alloc | apply pw_below_drewN | apply below_drew1) | exact HB.out)) hb); have n1_ := Aside0.mk (hbox); have n2_ := Aside0.mk ((by rw [hg]; exact (below_size (by repeat (first | (with_reducible first | exact HB.out | apply below_alloc | apply pw_below_drewN | apply below_drew1) | exact HB.out))) : w.heap.size ≤ gb197)); have n3_ := Aside0.mk ((by rw [hg]; exact (below_size (by repeat (first | (with_reducible first | exact HB.out | apply below_alloc | apply pw_below_drewN | apply below_drew1) | exact HB.out))) : w.heap.size ≤ gb197)); clear HB; have HB := n0_; have BK197 := n1_; have GW197 := n2_; have GE197 := n3_; clear n0_ n1_ n2_ n3_; clear hb hbox hg; have hcz28_0 : w27.cell? ⟨gb197, 0, none⟩ = some (.int .i64 a0_0) := (blk_cell BK197.out 0).trans rfl; have hcz28_1 : w27.cell? ⟨gb197, 1, none⟩ = some (.int .i64 a0_1) := (blk_cell BK197.out 1).trans rfl; have hcz28_2 : w27.cell? ⟨gb197, 2, none⟩ = some (.int .i64 a0_2) := (blk_cell BK197.out 2).trans rfl; have hcz28_3 : w27.cell? ⟨gb197, 3, none⟩ = some (.bool a0_3) := (blk_cell BK197.out 3).trans rfl; have hcz28_4 : w27.cell? ⟨gb197, 4, none⟩ = some (.int .i64 a0_4) := (blk_cell BK197.out 4).trans rfl; have hcz28_5 : w27.cell? ⟨gb197, 5, none⟩ = some (.int .i64 a0_5) := (blk_cell BK197.out 5).trans rfl; have hcz28_6 : w27.cell? ⟨gb197, 6, none⟩ = some (.int .i64 a0_6) := (blk_cell BK197.out 6).trans rfl; have hcz28_7 : w27.cell? ⟨gb197, 7, none⟩ = some (.int .i64 a0_7) := (blk_cell BK197.out 7).trans rfl; have hcz28_8 : w27.cell? ⟨gb197, 8, none⟩ = some (.slice A0_8 l0_8.length c0_8) := (blk_cell BK197.out 8).trans rfl; have hcz28_9 : w27.cell? ⟨gb197, 9, none⟩ = some (.int .i64 a0_9) := (blk_cell BK197.out 9).trans rfl; have hcz28_10 : w27.cell? ⟨gb197, 10, none⟩ = some (.int .i64 a0_10) := (blk_cell BK197.out 10).trans rfl; have hcz28_11 : w27.cell? ⟨gb197, 11, none⟩ = some (.slice A0_11 l0_11.length c0_11) := (blk_cell BK197.out 11).trans rfl; have hcz28_12 : w27.cell? ⟨gb197, 12, none⟩ = some (.int .i64 a0_12) := (blk_cell BK197.out 12).trans rfl; have hcz28_13 : w27.cell? ⟨gb197, 13, none⟩ = some (.int .i64 a0_13) := (blk_cell BK197.out 13).trans rfl; have hcz28_14 : w27.cell? ⟨gb197, 14, none⟩ = some (.int .i64 a0_14) := (blk_cell BK197.out 14).trans rfl; have hcz28_15 : w27.cell? ⟨gb197, 15, none⟩ = some (.int .i64 a0_15) := (blk_cell BK197.out 15).trans rfl; have hfz28_0 := blk_frozen BK197.out 0; have hfz28_1 := blk_frozen BK197.out 1; have hfz28_2 := blk_frozen BK197.out 2; have hfz28_3 := blk_frozen BK197.out 3; have hfz28_4 := blk_frozen BK197.out 4; have hfz28_5 := blk_frozen BK197.out 5; have hfz28_6 := blk_frozen BK197.out 6; have hfz28_7 := blk_frozen BK197.out 7; have hfz28_8 := blk_frozen BK197.out 8; have hfz28_9 := blk_frozen BK197.out 9; have hfz28_10 := blk_frozen BK197.out 10; have hfz28_11 := blk_frozen BK197.out 11; have hfz28_12 := blk_frozen BK197.out 12; have hfz28_13 := blk_frozen BK197.out 13; have hfz28_14 := blk_frozen BK197.out 14; have hfz28_15 := blk_frozen BK197.out 15))
                  go_ret
                  exact ⟨by first | rfl | (simp [errW_none, errW_some] <;> rfl) | (simp [*, errW_none, errW_some] <;> rfl), by repeat (first | (with_reducible first | exact HB.out | apply below_alloc | apply pw_below_drewN | apply below_drew1 | refine below_set ?_ GE197.out) | exact HB.out)⟩
              · rw [if_neg c20] at H
                have c20b0 : decide (0 ≤ a0_7) = false := decide_eq_false c20
                clear c20
                obtain rfl := Option.some.inj H
                go_enter Try.func74, Try.ntmps74
                go_wp2_with (first | ((with_reducible refine gate_dst (N := 1) rfl ?_); (try (refine gate_guard (by rfl) ?_; dsimp only)); refine box_event ?hg (N := 1) ?hd (cs := #[.int .i64 a0_0, .int .i64 a0_1, .int .i64 a0_2, .bool a0_3, .int .i64 a0_4, .int .i64 a0_5, .int .i64 a0_6, .int .i64 a0_7, .slice A0_8 l0_8.length c0_8, .int .i64 a0_9, .int .i64 a0_10, .slice A0_11 l0_11.length c0_11, .int .i64 a0_12, .int .i64 a0_13, .int .i64 a0_14, .int .i64 a0_15]) (t := 29) ?hr ?_; (case hd => rfl); (case hg => rfl); (case hr => first | (go_simp; done) | (go_simp; rfl)); intro gb197 hg w29 hbox hb; have n0_ := Aside0.mk (below_step (by repeat (first | (with_reducible first | exact HB.out | apply below_alloc | apply pw_below_drewN | apply below_drew1) | exact HB.out)) hb); have n1_ := Aside0.mk (hbox); have n2_ := Aside0.mk ((by rw [hg]; exact (below_size (by repeat (first | (with_reducible first | exact HB.out | apply below_alloc | apply pw_below_drewN | apply below_drew1) | exact HB.out))) : w.heap.size ≤ gb197)); have n3_ := Aside0.mk ((by rw [hg]; exact (below_size (by repeat (first | (with_reducible first | exact HB.out | apply below_alloc | apply pw_below_drewN | apply below_drew1) | exact HB.out))) : w.heap.size ≤ gb197)); clear HB; have HB := n0_; have BK197 := n1_; have GW197 := n2_; have GE197 := n3_; clear n0_ n1_ n2_ n3_; clear hb hbox hg; have hcz30_0 : w29.cell? ⟨gb197, 0, none⟩ = some (.int .i64 a0_0) := (blk_cell BK197.out 0).trans rfl; have hcz30_1 : w29.cell? ⟨gb197, 1, none⟩ = some (.int .i64 a0_1) := (blk_cell BK197.out 1).trans rfl; have hcz30_2 : w29.cell? ⟨gb197, 2, none⟩ = some (.int .i64 a0_2) := (blk_cell BK197.out 2).trans rfl; have hcz30_3 : w29.cell? ⟨gb197, 3, none⟩ = some (.bool a0_3) := (blk_cell BK197.out 3).trans rfl; have hcz30_4 : w29.cell? ⟨gb197, 4, none⟩ = some (.int .i64 a0_4) := (blk_cell BK197.out 4).trans rfl; have hcz30_5 : w29.cell? ⟨gb197, 5, none⟩ = some (.int .i64 a0_5) := (blk_cell BK197.out 5).trans rfl; have hcz30_6 : w29.cell? ⟨gb197, 6, none⟩ = some (.int .i64 a0_6) := (blk_cell BK197.out 6).trans rfl; have hcz30_7 : w29.cell? ⟨gb197, 7, none⟩ = some (.int .i64 a0_7) := (blk_cell BK197.out 7).trans rfl; have hcz30_8 : w29.cell? ⟨gb197, 8, none⟩ = some (.slice A0_8 l0_8.length c0_8) := (blk_cell BK197.out 8).trans rfl; have hcz30_9 : w29.cell? ⟨gb197, 9, none⟩ = some (.int .i64 a0_9) := (blk_cell BK197.out 9).trans rfl; have hcz30_10 : w29.cell? ⟨gb197, 10, none⟩ = some (.int .i64 a0_10) := (blk_cell BK197.out 10).trans rfl; have hcz30_11 : w29.cell? ⟨gb197, 11, none⟩ = some (.slice A0_11 l0_11.length c0_11) := (blk_cell BK197.out 11).trans rfl; have hcz30_12 : w29.cell? ⟨gb197, 12, none⟩ = some (.int .i64 a0_12) := (blk_cell BK197.out 12).trans rfl; have hcz30_13 : w29.cell? ⟨gb197, 13, none⟩ = some (.int .i64 a0_13) := (blk_cell BK197.out 13).trans rfl; have hcz30_14 : w29.cell? ⟨gb197, 14, none⟩ = some (.int .i64 a0_14) := (blk_cell BK197.out 14).trans rfl; have hcz30_15 : w29.cell? ⟨gb197, 15, none⟩ = some (.int .i64 a0_15) := (blk_cell BK197.out 15).trans rfl; have hfz30_0 := blk_frozen BK197.out 0; have hfz30_1 := blk_frozen BK197.out 1; have hfz30_2 := blk_frozen BK197.out 2; have hfz30_3 := blk_frozen BK197.out 3; have hfz30_4 := blk_frozen BK197.out 4; have hfz30_5 := blk_frozen BK197.out 5; have hfz30_6 := blk_frozen BK197.out 6; have hfz30_7 := blk_frozen BK197.out 7; have hfz30_8 := blk_frozen BK197.out 8; have hfz30_9 := blk_frozen BK197.out 9; have hfz30_10 := blk_frozen BK197.out 10; have hfz30_11 := blk_frozen BK197.out 11; have hfz30_12 := blk_frozen BK197.out 12; have hfz30_13 := blk_frozen BK197.out 13; have hfz30_14 := blk_frozen BK197.out 14; have hfz30_15 := blk_frozen BK197.out 15))
                go_ret
                exact ⟨by first | rfl | (simp [errW_none, errW_some] <;> rfl) | (simp [*, errW_none, errW_some] <;> rfl), by repeat (first | (with_reducible first | exact HB.out | apply below_alloc | apply pw_below_drewN | apply below_drew1 | refine below_set ?_ GE197.out) | exact HB.out)⟩

/-! ### tidelineref01_Bytes: function 106 -/
def tidelineref01_Bytes.f (k : Nat) (l0 : List Int) (l1 : List Int) : Option (List Int) := (tidelineref01_Put.f k l0 (IntKind.u64.wrap ((l1.length : Int))) 4).bind fun t250 => (if t250.length + l1.length < 140737488355328 then (some (t250 ++ l1)) else (none))
theorem tidelineref01_Bytes.mono : ∀ a0 a1 k, LeO (tidelineref01_Bytes.f k a0 a1) (tidelineref01_Bytes.f (k + 1) a0 a1) := by
  intro a0 a1 k
  unfold tidelineref01_Bytes.f
  repeat' first
      | (with_reducible exact tidelineref01_Put.mono _ _ _ _)
      | (with_reducible exact LeO.refl _)
      | (with_reducible exact LeO.none _)
      | (with_reducible refine LeO.ite ?_ ?_)
      | (with_reducible refine LeO.bind ?_ (fun _ => ?_))
      | exact tidelineref01_Put.mono _ _ _ _
      | exact LeO.none _
      | refine LeO.ite ?_ ?_
      | refine LeO.bind ?_ (fun _ => ?_)
set_option maxHeartbeats 8000000 in
set_option maxRecDepth 100000 in
theorem tidelineref01_Bytes.calls (k : Nat) (P0_ : Nat → Prop) (u9000_ : Value) (l0 : List Int) (A1 : Option Addr) (c1 : Nat) (l1 : List Int) (r : List Int) (w0 w : World) (hB : Below w0.heap.size w0 w) (ho0 : Kd.R (Kd.int .u8) 5 w w0.heap.size P0_ u9000_ l0) (hr1 : ∀ W_, Kept w W_ (fun k_ => P0_ k_) → Kd.C (Kd.int .u8) W_ A1 l1.length l1) (hc1 : l1.length ≤ c1) (h : tidelineref01_Bytes.f k l0 l1 = some r) :
    Calls Try.prog 106 #[u9000_, .slice A1 l1.length c1] w fun e w' => ∃ v0_ : Value, e = .returned (v0_) ∧ Kd.R (Kd.int .u8) 5 w' w0.heap.size (fun k_ => (P0_ k_ ∨ w.heap.size ≤ k_)) v0_ r ∧ Below w0.heap.size w0 w' ∧ Kept w w' (fun k_ => P0_ k_) := by
  have HO0 := Aside0.mk (show Kd.R (Kd.int .u8) 5 w w0.heap.size (fun k_ => (P0_ k_ ∨ w.heap.size ≤ k_)) u9000_ l0 from Kd.R_mono ho0 (fun k_ hk => (.inl hk)))
  have HR1 := Aside0.mk hr1
  have HC1 := Aside0.mk hc1
  clear hr1 hc1
  have HK := Aside0.mk (Kept.refl w (fun k_ => P0_ k_))
  have HW0 := Aside0.mk hB.size
  have HB := Aside0.mk hB
  clear hB
  have H : ((tidelineref01_Put.f k l0 (IntKind.u64.wrap ((l1.length : Int))) 4).bind fun t250 => (if t250.length + l1.length < 140737488355328 then (some (t250 ++ l1)) else (none))) = some r := h
  clear h
  replace H := Option.bind_eq_some_iff.mp H
  obtain ⟨t250, A30, H⟩ := H
  replace H : (if t250.length + l1.length < 140737488355328 then (some (t250 ++ l1)) else (none)) = some r := H
  have A3 := Aside0.mk A30
  clear A30
  by_cases c4 : t250.length + l1.length < 140737488355328
  · rw [if_pos c4] at H
    have LMc4 := Aside0.mk c4
    clear c4
    obtain ⟨y253, hy253⟩ : ∃ y_ : List Int, y_ = (t250 ++ l1) := ⟨_, rfl⟩
    replace H : (some y253) = some r := by first | (rw [hy253]; with_reducible exact H) | (have H2_ := (Option.bind_some _ _).symm.trans H; rw [hy253]; with_reducible exact H2_) | (have H2_ := (Option.bind_some _ _).symm.trans H; with_reducible exact H2_) | with_reducible exact H | (rw [hy253]; exact H) | exact H
    have Ny253 := Aside0.mk hy253
    clear hy253
    obtain rfl := Option.some.inj H
    obtain ⟨Ao5, co5, eo5⟩ := Kd.R_slice HO0.out
    subst eo5
    go_enter Try.func106, Try.ntmps106
    go_wp2_with (first | ((with_reducible refine gate_callee (f := 103) rfl ?_); refine goesL_ (some 9) rfl rfl Try.func103 (by kernel_rfl) rfl #[.slice Ao5 l0.length co5, .int .u64 (IntKind.u64.wrap ((l1.length : Int))), .int .i64 4] rfl (by (try simp only [List.map_toArray, List.map_cons, List.map_nil]); first | done | rfl | (simp only [List.length_drop, List.length_take]; rfl)) ?_; (with_reducible refine (tidelineref01_Put.calls k (fun k_ => some k_ = (.slice Ao5 l0.length co5 : Value).ownBlock) (.slice Ao5 l0.length co5) l0 (IntKind.u64.wrap ((l1.length : Int))) 4 t250 w0 _ ?side1 ?side2 A3.out).mono ?_); (case side1 => repeat (first | (with_reducible first | exact HB.out | apply below_alloc | apply pw_below_drewN | apply below_drew1) | exact HB.out)); (case side2 => exact Kd.R_tight rfl HO0.out); rintro e w6 ⟨v251, rfl, ho0, hb, hkp⟩; refine ⟨_, rfl, ?_⟩; have n0_ := Aside0.mk (Kd.R_mono (ok' := fun k_ => (P0_ k_ ∨ w.heap.size ≤ k_)) ho0 (fun k_ hk_ => Or.elim hk_ (fun hs_ => (HO0.out.1 k_ (hs_).symm)) (fun hn_ => (.inr (Nat.le_trans (by first | exact HK.out.1 | exact (show Kept w _ (fun k_ => P0_ k_) from by repeat (first | (with_reducible first | exact HK.out | apply Kept.alloc | apply Kept.drewN | apply Kept.drew) | exact HK.out)).1) hn_))))); have n1_ := Aside0.mk (Kept.then_ (S := (fun k_ => P0_ k_)) (by repeat (first | (with_reducible first | exact HK.out | apply Kept.alloc | apply Kept.drewN | apply Kept.drew) | exact HK.out)) hkp (fun k_ hs_ => (fun e_ => (HO0.out.1 k_ e_.symm)) hs_)); have n2_ := Aside0.mk (hb); clear HK; clear HB; clear HO0; have HO252 := n0_; have HK := n1_; have HB := n2_; clear n0_ n1_ n2_; (try clear hb); (try clear hkp); (try clear ho0)) | ((with_reducible refine gate_builtin (b := .append) (xs := #[.tmp 10, .tmp 11]) rfl ?_); at_builtin; refine Kd.R_append_rows (Kd.int .u8) (w0 := w0) w0.heap.size rfl (.tmp 10) (.tmp 11) 22 5 (.int .u8 0) 1 rfl Try.underlying22 info5 rfl (by decide) (by omega) v251 t250 l1 _ _ _ (fun k_ => (P0_ k_ ∨ w.heap.size ≤ k_)) (fun _ => False) rfl rfl ?aO ?aR (fun _ _ h => h) (fun _ h => h.elim) ?aF ?aB ?aS ?aL ?_; (case aR => exact Kd.C_kept_now HR1.out (by repeat (first | (with_reducible first | exact HK.out | apply Kept.alloc | apply Kept.drewN | apply Kept.drew) | exact HK.out))); (case aB => exact (by repeat (first | (with_reducible first | exact HB.out | apply below_alloc | apply pw_below_drewN | apply below_drew1) | exact HB.out))); (case aF => exact (fun k_ hk => (.inr (Nat.le_trans (by first | exact HK.out.1 | exact (show Kept w _ (fun k_ => P0_ k_) from by repeat (first | (with_reducible first | exact HK.out | apply Kept.alloc | apply Kept.drewN | apply Kept.drew) | exact HK.out)).1) hk)))); (case aO => exact (by (with_reducible repeat (first | apply Kd.R_alloc | apply Kd.R_drewN | apply Kd.R_drew)); exact HO252.out)); (case aS => exact (below_size (by repeat (first | (with_reducible first | exact HB.out | apply below_alloc | apply pw_below_drewN | apply below_drew1) | exact HB.out)))); (case aL => have := LMc4.out; omega); intro v254 w7 ho hb hg hat; rw [← Ny253.out] at ho; have n0_ := Aside0.mk (hb); have n1_ := Aside0.mk (Kept.of_grown (S := (fun k_ => P0_ k_)) hg (by repeat (first | (with_reducible first | exact HK.out | apply Kept.alloc | apply Kept.drewN | apply Kept.drew) | exact HK.out)) (fun k_ e_ => (HO252.out.1 k_ e_))); have n2_ := Aside0.mk (ho); clear HB; clear HK; clear HO252; have HB := n0_; have HK := n1_; have HO255 := n2_; clear n0_ n1_ n2_; clear ho hb hg hat))
    go_ret
    exact ⟨_, by first | rfl | (simp [errW_none, errW_some] <;> rfl) | (simp [*, errW_none, errW_some] <;> rfl), by (with_reducible repeat (first | apply Kd.R_alloc | apply Kd.R_drewN | apply Kd.R_drew)); exact HO255.out, by repeat (first | (with_reducible first | exact HB.out | apply below_alloc | apply pw_below_drewN | apply below_drew1) | exact HB.out), by repeat (first | (with_reducible first | exact HK.out | apply Kept.alloc | apply Kept.drewN | apply Kept.drew) | exact HK.out)⟩
  · rw [if_neg c4] at H
    exact absurd H (by simp)

/-! ### tidelineref01_Flag: function 108 -/
def tidelineref01_Flag.f (l0 : List Int) (a1 : Bool) : Option (List Int) := if a1 = true then (if l0.length < 140737488355328 then (some (l0 ++ [1])) else (none)) else (if l0.length < 140737488355328 then (some (l0 ++ [0])) else (none))
set_option maxHeartbeats 8000000 in
set_option maxRecDepth 100000 in
theorem tidelineref01_Flag.calls (P0_ : Nat → Prop) (u9000_ : Value) (l0 : List Int) (a1 : Bool) (r : List Int) (w0 w : World) (hB : Below w0.heap.size w0 w) (ho0 : Kd.R (Kd.int .u8) 5 w w0.heap.size P0_ u9000_ l0) (h : tidelineref01_Flag.f l0 a1 = some r) :
    Calls Try.prog 108 #[u9000_, .bool a1] w fun e w' => ∃ v0_ : Value, e = .returned (v0_) ∧ Kd.R (Kd.int .u8) 5 w' w0.heap.size (fun k_ => (P0_ k_ ∨ w.heap.size ≤ k_)) v0_ r ∧ Below w0.heap.size w0 w' ∧ Kept w w' (fun k_ => P0_ k_) := by
  have HO0 := Aside0.mk (show Kd.R (Kd.int .u8) 5 w w0.heap.size (fun k_ => (P0_ k_ ∨ w.heap.size ≤ k_)) u9000_ l0 from Kd.R_mono ho0 (fun k_ hk => (.inl hk)))
  have HK := Aside0.mk (Kept.refl w (fun k_ => P0_ k_))
  have HW0 := Aside0.mk hB.size
  have HB := Aside0.mk hB
  clear hB
  have H : (if a1 = true then (if l0.length < 140737488355328 then (some (l0 ++ [1])) else (none)) else (if l0.length < 140737488355328 then (some (l0 ++ [0])) else (none))) = some r := h
  clear h
  by_cases c3 : a1 = true
  · subst c3
    have H1 : (if l0.length < 140737488355328 then (some (l0 ++ [1])) else (none)) = some r := by rw [if_pos rfl] at H; exact H
    clear H
    have H := H1
    clear H1
    by_cases c4 : l0.length < 140737488355328
    · rw [if_pos c4] at H
      have LMc4 := Aside0.mk c4
      clear c4
      obtain ⟨y256, hy256⟩ : ∃ y_ : List Int, y_ = (l0 ++ [1]) := ⟨_, rfl⟩
      replace H : (some y256) = some r := by first | (rw [hy256]; with_reducible exact H) | (have H2_ := (Option.bind_some _ _).symm.trans H; rw [hy256]; with_reducible exact H2_) | (have H2_ := (Option.bind_some _ _).symm.trans H; with_reducible exact H2_) | with_reducible exact H | (rw [hy256]; exact H) | exact H
      have Ny256 := Aside0.mk hy256
      clear hy256
      obtain rfl := Option.some.inj H
      go_enter Try.func108, Try.ntmps108
      go_wp2_with (first | ((with_reducible refine gate_builtin (b := .append) (xs := #[.tmp 6, .tmp 7]) rfl ?_); at_builtin; refine Kd.R_append (Kd.int .u8) (w0 := w0) w0.heap.size rfl (.tmp 6) (.tmp 7) 22 5 (.int .u8 0) 1 rfl Try.underlying22 info5 rfl (by decide) (by omega) u9000_ l0 1 [.int .u8 1] (fun k_ => (P0_ k_ ∨ w.heap.size ≤ k_)) (fun _ => False) rfl rfl ?aP (fun _ hk => hk.elim) ?aF ?aO ?aB ?aS ?aL ?_; (case aP => exact rfl); (case aB => exact (by repeat (first | (with_reducible first | exact HB.out | apply below_alloc | apply pw_below_drewN | apply below_drew1) | exact HB.out))); (case aF => exact (fun k_ hk => (.inr (Nat.le_trans (by first | exact HK.out.1 | exact (show Kept w _ (fun k_ => P0_ k_) from by repeat (first | (with_reducible first | exact HK.out | apply Kept.alloc | apply Kept.drewN | apply Kept.drew) | exact HK.out)).1) hk)))); (case aO => exact (by (with_reducible repeat (first | apply Kd.R_alloc | apply Kd.R_drewN | apply Kd.R_drew)); exact HO0.out)); (case aS => exact (below_size (by repeat (first | (with_reducible first | exact HB.out | apply below_alloc | apply pw_below_drewN | apply below_drew1) | exact HB.out)))); (case aL => have := LMc4.out; omega); intro v257 w5 ho hb hg hat; rw [← Ny256.out] at ho; have n0_ := Aside0.mk (hb); have n1_ := Aside0.mk (Kept.of_grown (S := (fun k_ => P0_ k_)) hg (by repeat (first | (with_reducible first | exact HK.out | apply Kept.alloc | apply Kept.drewN | apply Kept.drew) | exact HK.out)) (fun k_ e_ => (HO0.out.1 k_ e_))); have n2_ := Aside0.mk (ho); clear HB; clear HK; clear HO0; have HB := n0_; have HK := n1_; have HO258 := n2_; clear n0_ n1_ n2_; clear ho hb hg hat))
      go_ret
      exact ⟨_, by first | rfl | (simp [errW_none, errW_some] <;> rfl) | (simp [*, errW_none, errW_some] <;> rfl), by (with_reducible repeat (first | apply Kd.R_alloc | apply Kd.R_drewN | apply Kd.R_drew)); exact HO258.out, by repeat (first | (with_reducible first | exact HB.out | apply below_alloc | apply pw_below_drewN | apply below_drew1) | exact HB.out), by repeat (first | (with_reducible first | exact HK.out | apply Kept.alloc | apply Kept.drewN | apply Kept.drew) | exact HK.out)⟩
    · rw [if_neg c4] at H
      exact absurd H (by simp)
  · replace c3 := Bool.eq_false_iff.mpr c3
    subst c3
    have H1 : (if l0.length < 140737488355328 then (some (l0 ++ [0])) else (none)) = some r := by rw [if_neg (show ¬ (false = true) by decide)] at H; exact H
    clear H
    have H := H1
    clear H1
    by_cases c6 : l0.length < 140737488355328
    · rw [if_pos c6] at H
      have LMc6 := Aside0.mk c6
      clear c6
      obtain ⟨y259, hy259⟩ : ∃ y_ : List Int, y_ = (l0 ++ [0]) := ⟨_, rfl⟩
      replace H : (some y259) = some r := by first | (rw [hy259]; with_reducible exact H) | (have H2_ := (Option.bind_some _ _).symm.trans H; rw [hy259]; with_reducible exact H2_) | (have H2_ := (Option.bind_some _ _).symm.trans H; with_reducible exact H2_) | with_reducible exact H | (rw [hy259]; exact H) | exact H
      have Ny259 := Aside0.mk hy259
      clear hy259
      obtain rfl := Option.some.inj H
      go_enter Try.func108, Try.ntmps108
      go_wp2_with (first | ((with_reducible refine gate_builtin (b := .append) (xs := #[.tmp 9, .tmp 10]) rfl ?_); at_builtin; refine Kd.R_append (Kd.int .u8) (w0 := w0) w0.heap.size rfl (.tmp 9) (.tmp 10) 22 5 (.int .u8 0) 1 rfl Try.underlying22 info5 rfl (by decide) (by omega) u9000_ l0 0 [.int .u8 0] (fun k_ => (P0_ k_ ∨ w.heap.size ≤ k_)) (fun _ => False) rfl rfl ?aP (fun _ hk => hk.elim) ?aF ?aO ?aB ?aS ?aL ?_; (case aP => exact rfl); (case aB => exact (by repeat (first | (with_reducible first | exact HB.out | apply below_alloc | apply pw_below_drewN | apply below_drew1) | exact HB.out))); (case aF => exact (fun k_ hk => (.inr (Nat.le_trans (by first | exact HK.out.1 | exact (show Kept w _ (fun k_ => P0_ k_) from by repeat (first | (with_reducible first | exact HK.out | apply Kept.alloc | apply Kept.drewN | apply Kept.drew) | exact HK.out)).1) hk)))); (case aO => exact (by (with_reducible repeat (first | apply Kd.R_alloc | apply Kd.R_drewN | apply Kd.R_drew)); exact HO0.out)); (case aS => exact (below_size (by repeat (first | (with_reducible first | exact HB.out | apply below_alloc | apply pw_below_drewN | apply below_drew1) | exact HB.out)))); (case aL => have := LMc6.out; omega); intro v260 w7 ho hb hg hat; rw [← Ny259.out] at ho; have n0_ := Aside0.mk (hb); have n1_ := Aside0.mk (Kept.of_grown (S := (fun k_ => P0_ k_)) hg (by repeat (first | (with_reducible first | exact HK.out | apply Kept.alloc | apply Kept.drewN | apply Kept.drew) | exact HK.out)) (fun k_ e_ => (HO0.out.1 k_ e_))); have n2_ := Aside0.mk (ho); clear HB; clear HK; clear HO0; have HB := n0_; have HK := n1_; have HO261 := n2_; clear n0_ n1_ n2_; clear ho hb hg hat))
      go_ret
      exact ⟨_, by first | rfl | (simp [errW_none, errW_some] <;> rfl) | (simp [*, errW_none, errW_some] <;> rfl), by (with_reducible repeat (first | apply Kd.R_alloc | apply Kd.R_drewN | apply Kd.R_drew)); exact HO261.out, by repeat (first | (with_reducible first | exact HB.out | apply below_alloc | apply pw_below_drewN | apply below_drew1) | exact HB.out), by repeat (first | (with_reducible first | exact HK.out | apply Kept.alloc | apply Kept.drewN | apply Kept.drew) | exact HK.out)⟩
    · rw [if_neg c6] at H
      exact absurd H (by simp)

/-! ### tidelineref05_Int: function 132 -/
def tidelineref05_Int.f (k : Nat) (l0 : List Int) (a1 : Int) : Option (List Int) := (tidelineref01_Put.f k l0 (IntKind.u64.wrap (a1)) 8).bind fun t262 => (some t262)
theorem tidelineref05_Int.mono : ∀ a0 a1 k, LeO (tidelineref05_Int.f k a0 a1) (tidelineref05_Int.f (k + 1) a0 a1) := by
  intro a0 a1 k
  unfold tidelineref05_Int.f
  repeat' first
      | (with_reducible exact tidelineref01_Put.mono _ _ _ _)
      | (with_reducible exact LeO.refl _)
      | (with_reducible exact LeO.none _)
      | (with_reducible refine LeO.ite ?_ ?_)
      | (with_reducible refine LeO.bind ?_ (fun _ => ?_))
      | exact tidelineref01_Put.mono _ _ _ _
      | exact LeO.none _
      | refine LeO.ite ?_ ?_
      | refine LeO.bind ?_ (fun _ => ?_)
set_option maxHeartbeats 8000000 in
set_option maxRecDepth 100000 in
theorem tidelineref05_Int.calls (k : Nat) (P0_ : Nat → Prop) (u9000_ : Value) (l0 : List Int) (a1 : Int) (r : List Int) (w0 w : World) (hB : Below w0.heap.size w0 w) (ho0 : Kd.R (Kd.int .u8) 5 w w0.heap.size P0_ u9000_ l0) (h : tidelineref05_Int.f k l0 a1 = some r) :
    Calls Try.prog 132 #[u9000_, .int .i64 a1] w fun e w' => ∃ v0_ : Value, e = .returned (v0_) ∧ Kd.R (Kd.int .u8) 5 w' w0.heap.size (fun k_ => (P0_ k_ ∨ w.heap.size ≤ k_)) v0_ r ∧ Below w0.heap.size w0 w' ∧ Kept w w' (fun k_ => P0_ k_) := by
  have HO0 := Aside0.mk (show Kd.R (Kd.int .u8) 5 w w0.heap.size (fun k_ => (P0_ k_ ∨ w.heap.size ≤ k_)) u9000_ l0 from Kd.R_mono ho0 (fun k_ hk => (.inl hk)))
  have HK := Aside0.mk (Kept.refl w (fun k_ => P0_ k_))
  have HW0 := Aside0.mk hB.size
  have HB := Aside0.mk hB
  clear hB
  have H : ((tidelineref01_Put.f k l0 (IntKind.u64.wrap (a1)) 8).bind fun t262 => (some t262)) = some r := h
  clear h
  replace H := Option.bind_eq_some_iff.mp H
  obtain ⟨t262, A30, H⟩ := H
  replace H : (some t262) = some r := H
  have A3 := Aside0.mk A30
  clear A30
  obtain rfl := Option.some.inj H
  obtain ⟨Ao4, co4, eo4⟩ := Kd.R_slice HO0.out
  subst eo4
  go_enter Try.func132, Try.ntmps132
  go_wp2_with (first | ((with_reducible refine gate_callee (f := 103) rfl ?_); refine goesL_ (some 8) rfl rfl Try.func103 (by kernel_rfl) rfl #[.slice Ao4 l0.length co4, .int .u64 (IntKind.u64.wrap (a1)), .int .i64 8] rfl (by (try simp only [List.map_toArray, List.map_cons, List.map_nil]); first | done | rfl | (simp only [List.length_drop, List.length_take]; rfl)) ?_; (with_reducible refine (tidelineref01_Put.calls k (fun k_ => some k_ = (.slice Ao4 l0.length co4 : Value).ownBlock) (.slice Ao4 l0.length co4) l0 (IntKind.u64.wrap (a1)) 8 t262 w0 _ ?side1 ?side2 A3.out).mono ?_); (case side1 => repeat (first | (with_reducible first | exact HB.out | apply below_alloc | apply pw_below_drewN | apply below_drew1) | exact HB.out)); (case side2 => exact Kd.R_tight rfl HO0.out); rintro e w5 ⟨v263, rfl, ho0, hb, hkp⟩; refine ⟨_, rfl, ?_⟩; have n0_ := Aside0.mk (Kd.R_mono (ok' := fun k_ => (P0_ k_ ∨ w.heap.size ≤ k_)) ho0 (fun k_ hk_ => Or.elim hk_ (fun hs_ => (HO0.out.1 k_ (hs_).symm)) (fun hn_ => (.inr (Nat.le_trans (by first | exact HK.out.1 | exact (show Kept w _ (fun k_ => P0_ k_) from by repeat (first | (with_reducible first | exact HK.out | apply Kept.alloc | apply Kept.drewN | apply Kept.drew) | exact HK.out)).1) hn_))))); have n1_ := Aside0.mk (Kept.then_ (S := (fun k_ => P0_ k_)) (by repeat (first | (with_reducible first | exact HK.out | apply Kept.alloc | apply Kept.drewN | apply Kept.drew) | exact HK.out)) hkp (fun k_ hs_ => (fun e_ => (HO0.out.1 k_ e_.symm)) hs_)); have n2_ := Aside0.mk (hb); clear HK; clear HB; clear HO0; have HO264 := n0_; have HK := n1_; have HB := n2_; clear n0_ n1_ n2_; (try clear hb); (try clear hkp); (try clear ho0)))
  go_ret
  exact ⟨_, by first | rfl | (simp [errW_none, errW_some] <;> rfl) | (simp [*, errW_none, errW_some] <;> rfl), by (with_reducible repeat (first | apply Kd.R_alloc | apply Kd.R_drewN | apply Kd.R_drew)); exact HO264.out, by repeat (first | (with_reducible first | exact HB.out | apply below_alloc | apply pw_below_drewN | apply below_drew1) | exact HB.out), by repeat (first | (with_reducible first | exact HK.out | apply Kept.alloc | apply Kept.drewN | apply Kept.drew) | exact HK.out)⟩

/-! ### tidelineref12_Encode: function 75 -/
def tidelineref12_Encode.f (k : Nat) (a0_0 : Int) (a0_1 : Int) (a0_2 : Int) (a0_3 : Bool) (a0_4 : Int) (a0_5 : Int) (a0_6 : Int) (a0_7 : Int) (l0_8 : List Int) (a0_9 : Int) (a0_10 : Int) (l0_11 : List Int) (a0_12 : Int) (a0_13 : Int) (a0_14 : Int) (a0_15 : Int) : Option (List Int) := (tidelineref05_Int.f k (([(a0_0) % 256, (a0_1) % 256] : List Int)) a0_2).bind fun t269 => ((tidelineref01_Flag.f t269 a0_3).bind fun t272 => (if t272.length < 140737488355328 then ((tidelineref05_Int.f k (t272 ++ [(a0_4) % 256]) a0_5).bind fun t278 => ((tidelineref05_Int.f k t278 a0_6).bind fun t281 => (if t281.length < 140737488355328 then ((tidelineref01_Bytes.f k (t281 ++ [(a0_7) % 256]) l0_8).bind fun t287 => ((tidelineref05_Int.f k t287 a0_9).bind fun t290 => ((tidelineref05_Int.f k t290 a0_10).bind fun t293 => ((tidelineref01_Bytes.f k t293 l0_11).bind fun t296 => ((tidelineref05_Int.f k t296 a0_12).bind fun t299 => ((tidelineref05_Int.f k t299 a0_13).bind fun t302 => ((tidelineref05_Int.f k t302 a0_14).bind fun t305 => ((tidelineref05_Int.f k t305 a0_15).bind fun t308 => ((tidelineref02_Wrap.f k t308).bind fun t311 => (some t311)))))))))) else (none)))) else (none)))
theorem tidelineref12_Encode.mono : ∀ a0 a1 a2 a3 a4 a5 a6 a7 a8 a9 a10 a11 a12 a13 a14 a15 k, LeO (tidelineref12_Encode.f k a0 a1 a2 a3 a4 a5 a6 a7 a8 a9 a10 a11 a12 a13 a14 a15) (tidelineref12_Encode.f (k + 1) a0 a1 a2 a3 a4 a5 a6 a7 a8 a9 a10 a11 a12 a13 a14 a15) := by
  intro a0 a1 a2 a3 a4 a5 a6 a7 a8 a9 a10 a11 a12 a13 a14 a15 k
  unfold tidelineref12_Encode.f
  repeat' first
      | (with_reducible exact tidelineref01_Bytes.mono _ _ _)
      | (with_reducible exact tidelineref02_Wrap.mono _ _)
      | (with_reducible exact tidelineref05_Int.mono _ _ _)
      | (with_reducible exact LeO.refl _)
      | (with_reducible exact LeO.none _)
      | (with_reducible refine LeO.ite ?_ ?_)
      | (with_reducible refine LeO.bind ?_ (fun _ => ?_))
      | exact tidelineref01_Bytes.mono _ _ _
      | exact tidelineref02_Wrap.mono _ _
      | exact tidelineref05_Int.mono _ _ _
      | exact LeO.none _
      | refine LeO.ite ?_ ?_
      | refine LeO.bind ?_ (fun _ => ?_)
def tidelineref12_Encode.T5 : Bool × List (List Nat × List Nat) := (true, [([], []), ([], []), ([1], [1]), ([0, 2], [0, 2]), ([], []), ([4], [4]), ([3, 5, 3], [3, 5]), ([6, 6, 0, 1, 2, 3, 4, 5, 6], [0, 6])])
def tidelineref12_Encode.B5 : List Nat := [0, 0, 2, 7, 0, 16, 63, 127]
theorem tidelineref12_Encode.tab5 : rtab .any (opsOf Try.f75 5) = tidelineref12_Encode.T5 := by kernel_rfl
theorem tidelineref12_Encode.bits5 : waitsOk tidelineref12_Encode.T5.2 tidelineref12_Encode.B5 = true := by kernel_rfl
def tidelineref12_Encode.T8 : Bool × List (List Nat × List Nat) := (true, [([], []), ([], []), ([1], [1]), ([2], [2]), ([0, 3], [0, 3]), ([], []), ([5], [5]), ([6], [6]), ([4, 7, 4], [4, 7]), ([8, 8, 0, 1, 2, 3, 4, 5, 6, 7, 8], [0, 8])])
def tidelineref12_Encode.B8 : List Nat := [0, 0, 2, 6, 15, 0, 32, 96, 255, 511]
theorem tidelineref12_Encode.tab8 : rtab .any (opsOf Try.f75 8) = tidelineref12_Encode.T8 := by kernel_rfl
theorem tidelineref12_Encode.bits8 : waitsOk tidelineref12_Encode.T8.2 tidelineref12_Encode.B8 = true := by kernel_rfl
def tidelineref12_Encode.T10 : Bool × List (List Nat × List Nat) := (true, [([], []), ([], []), ([1], [1]), ([0, 2], [0, 2]), ([], []), ([4], [4]), ([3, 5, 3], [3, 5]), ([6, 6, 0, 1, 2, 3, 4, 5, 6], [0, 6])])
def tidelineref12_Encode.B10 : List Nat := [0, 0, 2, 7, 0, 16, 63, 127]
theorem tidelineref12_Encode.tab10 : rtab .any (opsOf Try.f75 10) = tidelineref12_Encode.T10 := by kernel_rfl
theorem tidelineref12_Encode.bits10 : waitsOk tidelineref12_Encode.T10.2 tidelineref12_Encode.B10 = true := by kernel_rfl
def tidelineref12_Encode.T11 : Bool × List (List Nat × List Nat) := (true, [([], []), ([], []), ([1], [1]), ([0, 2], [0, 2]), ([], []), ([4], [4]), ([3, 5, 3], [3, 5]), ([6, 6, 0, 1, 2, 3, 4, 5, 6], [0, 6])])
def tidelineref12_Encode.B11 : List Nat := [0, 0, 2, 7, 0, 16, 63, 127]
theorem tidelineref12_Encode.tab11 : rtab .any (opsOf Try.f75 11) = tidelineref12_Encode.T11 := by kernel_rfl
theorem tidelineref12_Encode.bits11 : waitsOk tidelineref12_Encode.T11.2 tidelineref12_Encode.B11 = true := by kernel_rfl
set_option maxHeartbeats 8000000 in
set_option maxRecDepth 100000 in
theorem tidelineref12_Encode.calls (k : Nat) (a0_0 : Int) (a0_1 : Int) (a0_2 : Int) (a0_3 : Bool) (a0_4 : Int) (a0_5 : Int) (a0_6 : Int) (a0_7 : Int) (A0_8 : Option Addr) (c0_8 : Nat) (l0_8 : List Int) (a0_9 : Int) (a0_10 : Int) (A0_11 : Option Addr) (c0_11 : Nat) (l0_11 : List Int) (a0_12 : Int) (a0_13 : Int) (a0_14 : Int) (a0_15 : Int) (r : List Int) (w : World) (hr0_8 : Kd.C (Kd.int .u8) w A0_8 l0_8.length l0_8) (hc0_8 : l0_8.length ≤ c0_8) (hr0_11 : Kd.C (Kd.int .u8) w A0_11 l0_11.length l0_11) (hc0_11 : l0_11.length ≤ c0_11) (h : tidelineref12_Encode.f k a0_0 a0_1 a0_2 a0_3 a0_4 a0_5 a0_6 a0_7 l0_8 a0_9 a0_10 l0_11 a0_12 a0_13 a0_14 a0_15 = some r) :
    Calls Try.prog 75 #[.agg #[.int .i64 a0_0, .int .i64 a0_1, .int .i64 a0_2, .bool a0_3, .int .i64 a0_4, .int .i64 a0_5, .int .i64 a0_6, .int .i64 a0_7, .slice A0_8 l0_8.length c0_8, .int .i64 a0_9, .int .i64 a0_10, .slice A0_11 l0_11.length c0_11, .int .i64 a0_12, .int .i64 a0_13, .int .i64 a0_14, .int .i64 a0_15]] w fun e w' => ∃ v0_ : Value, e = .returned (v0_) ∧ Kd.R (Kd.int .u8) 5 w' w.heap.size (fun _ => True) v0_ r ∧ Below w.heap.size w w' := by
  have hu29 := Try.underlying29
  have HR0_8 := Aside0.mk hr0_8
  have HC0_8 := Aside0.mk hc0_8
  clear hr0_8 hc0_8
  have HR0_11 := Aside0.mk hr0_11
  have HC0_11 := Aside0.mk hc0_11
  clear hr0_11 hc0_11
  have HB := Aside0.mk (Below.refl w.heap.size w)
  have H : ((tidelineref05_Int.f k (([(a0_0) % 256, (a0_1) % 256] : List Int)) a0_2).bind fun t269 => ((tidelineref01_Flag.f t269 a0_3).bind fun t272 => (if t272.length < 140737488355328 then ((tidelineref05_Int.f k (t272 ++ [(a0_4) % 256]) a0_5).bind fun t278 => ((tidelineref05_Int.f k t278 a0_6).bind fun t281 => (if t281.length < 140737488355328 then ((tidelineref01_Bytes.f k (t281 ++ [(a0_7) % 256]) l0_8).bind fun t287 => ((tidelineref05_Int.f k t287 a0_9).bind fun t290 => ((tidelineref05_Int.f k t290 a0_10).bind fun t293 => ((tidelineref01_Bytes.f k t293 l0_11).bind fun t296 => ((tidelineref05_Int.f k t296 a0_12).bind fun t299 => ((tidelineref05_Int.f k t299 a0_13).bind fun t302 => ((tidelineref05_Int.f k t302 a0_14).bind fun t305 => ((tidelineref05_Int.f k t305 a0_15).bind fun t308 => ((tidelineref02_Wrap.f k t308).bind fun t311 => (some t311)))))))))) else (none)))) else (none)))) = some r := h
  clear h
  obtain ⟨y266, hy266⟩ : ∃ y_ : List Int, y_ = (([(a0_0) % 256, (a0_1) % 256] : List Int)) := ⟨_, rfl⟩
  replace H : ((tidelineref05_Int.f k y266 a0_2).bind fun t269 => ((tidelineref01_Flag.f t269 a0_3).bind fun t272 => (if t272.length < 140737488355328 then ((tidelineref05_Int.f k (t272 ++ [(a0_4) % 256]) a0_5).bind fun t278 => ((tidelineref05_Int.f k t278 a0_6).bind fun t281 => (if t281.length < 140737488355328 then ((tidelineref01_Bytes.f k (t281 ++ [(a0_7) % 256]) l0_8).bind fun t287 => ((tidelineref05_Int.f k t287 a0_9).bind fun t290 => ((tidelineref05_Int.f k t290 a0_10).bind fun t293 => ((tidelineref01_Bytes.f k t293 l0_11).bind fun t296 => ((tidelineref05_Int.f k t296 a0_12).bind fun t299 => ((tidelineref05_Int.f k t299 a0_13).bind fun t302 => ((tidelineref05_Int.f k t302 a0_14).bind fun t305 => ((tidelineref05_Int.f k t305 a0_15).bind fun t308 => ((tidelineref02_Wrap.f k t308).bind fun t311 => (some t311)))))))))) else (none)))) else (none)))) = some r := by first | (rw [hy266]; with_reducible exact H) | (have H2_ := (Option.bind_some _ _).symm.trans H; rw [hy266]; with_reducible exact H2_) | (have H2_ := (Option.bind_some _ _).symm.trans H; with_reducible exact H2_) | with_reducible exact H | (rw [hy266]; exact H) | exact H
  have Ny266 := Aside0.mk hy266
  clear hy266
  replace H := Option.bind_eq_some_iff.mp H
  obtain ⟨t269, A20, H⟩ := H
  replace H : ((tidelineref01_Flag.f t269 a0_3).bind fun t272 => (if t272.length < 140737488355328 then ((tidelineref05_Int.f k (t272 ++ [(a0_4) % 256]) a0_5).bind fun t278 => ((tidelineref05_Int.f k t278 a0_6).bind fun t281 => (if t281.length < 140737488355328 then ((tidelineref01_Bytes.f k (t281 ++ [(a0_7) % 256]) l0_8).bind fun t287 => ((tidelineref05_Int.f k t287 a0_9).bind fun t290 => ((tidelineref05_Int.f k t290 a0_10).bind fun t293 => ((tidelineref01_Bytes.f k t293 l0_11).bind fun t296 => ((tidelineref05_Int.f k t296 a0_12).bind fun t299 => ((tidelineref05_Int.f k t299 a0_13).bind fun t302 => ((tidelineref05_Int.f k t302 a0_14).bind fun t305 => ((tidelineref05_Int.f k t305 a0_15).bind fun t308 => ((tidelineref02_Wrap.f k t308).bind fun t311 => (some t311)))))))))) else (none)))) else (none))) = some r := H
  have A2 := Aside0.mk A20
  clear A20
  replace H := Option.bind_eq_some_iff.mp H
  obtain ⟨t272, A30, H⟩ := H
  replace H : (if t272.length < 140737488355328 then ((tidelineref05_Int.f k (t272 ++ [(a0_4) % 256]) a0_5).bind fun t278 => ((tidelineref05_Int.f k t278 a0_6).bind fun t281 => (if t281.length < 140737488355328 then ((tidelineref01_Bytes.f k (t281 ++ [(a0_7) % 256]) l0_8).bind fun t287 => ((tidelineref05_Int.f k t287 a0_9).bind fun t290 => ((tidelineref05_Int.f k t290 a0_10).bind fun t293 => ((tidelineref01_Bytes.f k t293 l0_11).bind fun t296 => ((tidelineref05_Int.f k t296 a0_12).bind fun t299 => ((tidelineref05_Int.f k t299 a0_13).bind fun t302 => ((tidelineref05_Int.f k t302 a0_14).bind fun t305 => ((tidelineref05_Int.f k t305 a0_15).bind fun t308 => ((tidelineref02_Wrap.f k t308).bind fun t311 => (some t311)))))))))) else (none)))) else (none)) = some r := H
  have A3 := Aside0.mk A30
  clear A30
  by_cases c4 : t272.length < 140737488355328
  · rw [if_pos c4] at H
    have LMc4 := Aside0.mk c4
    clear c4
    obtain ⟨y275, hy275⟩ : ∃ y_ : List Int, y_ = (t272 ++ [(a0_4) % 256]) := ⟨_, rfl⟩
    replace H : ((tidelineref05_Int.f k y275 a0_5).bind fun t278 => ((tidelineref05_Int.f k t278 a0_6).bind fun t281 => (if t281.length < 140737488355328 then ((tidelineref01_Bytes.f k (t281 ++ [(a0_7) % 256]) l0_8).bind fun t287 => ((tidelineref05_Int.f k t287 a0_9).bind fun t290 => ((tidelineref05_Int.f k t290 a0_10).bind fun t293 => ((tidelineref01_Bytes.f k t293 l0_11).bind fun t296 => ((tidelineref05_Int.f k t296 a0_12).bind fun t299 => ((tidelineref05_Int.f k t299 a0_13).bind fun t302 => ((tidelineref05_Int.f k t302 a0_14).bind fun t305 => ((tidelineref05_Int.f k t305 a0_15).bind fun t308 => ((tidelineref02_Wrap.f k t308).bind fun t311 => (some t311)))))))))) else (none)))) = some r := by first | (rw [hy275]; with_reducible exact H) | (have H2_ := (Option.bind_some _ _).symm.trans H; rw [hy275]; with_reducible exact H2_) | (have H2_ := (Option.bind_some _ _).symm.trans H; with_reducible exact H2_) | with_reducible exact H | (rw [hy275]; exact H) | exact H
    have Ny275 := Aside0.mk hy275
    clear hy275
    replace H := Option.bind_eq_some_iff.mp H
    obtain ⟨t278, A50, H⟩ := H
    replace H : ((tidelineref05_Int.f k t278 a0_6).bind fun t281 => (if t281.length < 140737488355328 then ((tidelineref01_Bytes.f k (t281 ++ [(a0_7) % 256]) l0_8).bind fun t287 => ((tidelineref05_Int.f k t287 a0_9).bind fun t290 => ((tidelineref05_Int.f k t290 a0_10).bind fun t293 => ((tidelineref01_Bytes.f k t293 l0_11).bind fun t296 => ((tidelineref05_Int.f k t296 a0_12).bind fun t299 => ((tidelineref05_Int.f k t299 a0_13).bind fun t302 => ((tidelineref05_Int.f k t302 a0_14).bind fun t305 => ((tidelineref05_Int.f k t305 a0_15).bind fun t308 => ((tidelineref02_Wrap.f k t308).bind fun t311 => (some t311)))))))))) else (none))) = some r := H
    have A5 := Aside0.mk A50
    clear A50
    replace H := Option.bind_eq_some_iff.mp H
    obtain ⟨t281, A60, H⟩ := H
    replace H : (if t281.length < 140737488355328 then ((tidelineref01_Bytes.f k (t281 ++ [(a0_7) % 256]) l0_8).bind fun t287 => ((tidelineref05_Int.f k t287 a0_9).bind fun t290 => ((tidelineref05_Int.f k t290 a0_10).bind fun t293 => ((tidelineref01_Bytes.f k t293 l0_11).bind fun t296 => ((tidelineref05_Int.f k t296 a0_12).bind fun t299 => ((tidelineref05_Int.f k t299 a0_13).bind fun t302 => ((tidelineref05_Int.f k t302 a0_14).bind fun t305 => ((tidelineref05_Int.f k t305 a0_15).bind fun t308 => ((tidelineref02_Wrap.f k t308).bind fun t311 => (some t311)))))))))) else (none)) = some r := H
    have A6 := Aside0.mk A60
    clear A60
    by_cases c7 : t281.length < 140737488355328
    · rw [if_pos c7] at H
      have LMc7 := Aside0.mk c7
      clear c7
      obtain ⟨y284, hy284⟩ : ∃ y_ : List Int, y_ = (t281 ++ [(a0_7) % 256]) := ⟨_, rfl⟩
      replace H : ((tidelineref01_Bytes.f k y284 l0_8).bind fun t287 => ((tidelineref05_Int.f k t287 a0_9).bind fun t290 => ((tidelineref05_Int.f k t290 a0_10).bind fun t293 => ((tidelineref01_Bytes.f k t293 l0_11).bind fun t296 => ((tidelineref05_Int.f k t296 a0_12).bind fun t299 => ((tidelineref05_Int.f k t299 a0_13).bind fun t302 => ((tidelineref05_Int.f k t302 a0_14).bind fun t305 => ((tidelineref05_Int.f k t305 a0_15).bind fun t308 => ((tidelineref02_Wrap.f k t308).bind fun t311 => (some t311)))))))))) = some r := by first | (rw [hy284]; with_reducible exact H) | (have H2_ := (Option.bind_some _ _).symm.trans H; rw [hy284]; with_reducible exact H2_) | (have H2_ := (Option.bind_some _ _).symm.trans H; with_reducible exact H2_) | with_reducible exact H | (rw [hy284]; exact H) | exact H
      have Ny284 := Aside0.mk hy284
      clear hy284
      replace H := Option.bind_eq_some_iff.mp H
      obtain ⟨t287, A80, H⟩ := H
      replace H : ((tidelineref05_Int.f k t287 a0_9).bind fun t290 => ((tidelineref05_Int.f k t290 a0_10).bind fun t293 => ((tidelineref01_Bytes.f k t293 l0_11).bind fun t296 => ((tidelineref05_Int.f k t296 a0_12).bind fun t299 => ((tidelineref05_Int.f k t299 a0_13).bind fun t302 => ((tidelineref05_Int.f k t302 a0_14).bind fun t305 => ((tidelineref05_Int.f k t305 a0_15).bind fun t308 => ((tidelineref02_Wrap.f k t308).bind fun t311 => (some t311))))))))) = some r := H
      have A8 := Aside0.mk A80
      clear A80
      replace H := Option.bind_eq_some_iff.mp H
      obtain ⟨t290, A90, H⟩ := H
      replace H : ((tidelineref05_Int.f k t290 a0_10).bind fun t293 => ((tidelineref01_Bytes.f k t293 l0_11).bind fun t296 => ((tidelineref05_Int.f k t296 a0_12).bind fun t299 => ((tidelineref05_Int.f k t299 a0_13).bind fun t302 => ((tidelineref05_Int.f k t302 a0_14).bind fun t305 => ((tidelineref05_Int.f k t305 a0_15).bind fun t308 => ((tidelineref02_Wrap.f k t308).bind fun t311 => (some t311)))))))) = some r := H
      have A9 := Aside0.mk A90
      clear A90
      replace H := Option.bind_eq_some_iff.mp H
      obtain ⟨t293, A100, H⟩ := H
      replace H : ((tidelineref01_Bytes.f k t293 l0_11).bind fun t296 => ((tidelineref05_Int.f k t296 a0_12).bind fun t299 => ((tidelineref05_Int.f k t299 a0_13).bind fun t302 => ((tidelineref05_Int.f k t302 a0_14).bind fun t305 => ((tidelineref05_Int.f k t305 a0_15).bind fun t308 => ((tidelineref02_Wrap.f k t308).bind fun t311 => (some t311))))))) = some r := H
      have A10 := Aside0.mk A100
      clear A100
      replace H := Option.bind_eq_some_iff.mp H
      obtain ⟨t296, A110, H⟩ := H
      replace H : ((tidelineref05_Int.f k t296 a0_12).bind fun t299 => ((tidelineref05_Int.f k t299 a0_13).bind fun t302 => ((tidelineref05_Int.f k t302 a0_14).bind fun t305 => ((tidelineref05_Int.f k t305 a0_15).bind fun t308 => ((tidelineref02_Wrap.f k t308).bind fun t311 => (some t311)))))) = some r := H
      have A11 := Aside0.mk A110
      clear A110
      replace H := Option.bind_eq_some_iff.mp H
      obtain ⟨t299, A120, H⟩ := H
      replace H : ((tidelineref05_Int.f k t299 a0_13).bind fun t302 => ((tidelineref05_Int.f k t302 a0_14).bind fun t305 => ((tidelineref05_Int.f k t305 a0_15).bind fun t308 => ((tidelineref02_Wrap.f k t308).bind fun t311 => (some t311))))) = some r := H
      have A12 := Aside0.mk A120
      clear A120
      replace H := Option.bind_eq_some_iff.mp H
      obtain ⟨t302, A130, H⟩ := H
      replace H : ((tidelineref05_Int.f k t302 a0_14).bind fun t305 => ((tidelineref05_Int.f k t305 a0_15).bind fun t308 => ((tidelineref02_Wrap.f k t308).bind fun t311 => (some t311)))) = some r := H
      have A13 := Aside0.mk A130
      clear A130
      replace H := Option.bind_eq_some_iff.mp H
      obtain ⟨t305, A140, H⟩ := H
      replace H : ((tidelineref05_Int.f k t305 a0_15).bind fun t308 => ((tidelineref02_Wrap.f k t308).bind fun t311 => (some t311))) = some r := H
      have A14 := Aside0.mk A140
      clear A140
      replace H := Option.bind_eq_some_iff.mp H
      obtain ⟨t308, A150, H⟩ := H
      replace H : ((tidelineref02_Wrap.f k t308).bind fun t311 => (some t311)) = some r := H
      have A15 := Aside0.mk A150
      clear A150
      replace H := Option.bind_eq_some_iff.mp H
      obtain ⟨t311, A160, H⟩ := H
      replace H : (some t311) = some r := H
      have A16 := Aside0.mk A160
      clear A160
      obtain rfl := Option.some.inj H
      go_enter Try.func75, Try.ntmps75
      try go_wp2_with (first | ((with_reducible refine gate_dst (N := 1) rfl ?_); refine box_event ?hg (N := 1) ?hd (cs := #[.int .i64 a0_0, .int .i64 a0_1, .int .i64 a0_2, .bool a0_3, .int .i64 a0_4, .int .i64 a0_5, .int .i64 a0_6, .int .i64 a0_7, .slice A0_8 l0_8.length c0_8, .int .i64 a0_9, .int .i64 a0_10, .slice A0_11 l0_11.length c0_11, .int .i64 a0_12, .int .i64 a0_13, .int .i64 a0_14, .int .i64 a0_15]) (t := 29) ?hr ?_; (case hd => rfl); (case hg => rfl); (case hr => first | (go_simp; done) | (go_simp; rfl)); intro gb265 hg w17 hbox hb; have n0_ := Aside0.mk (below_step (by repeat (first | (with_reducible first | exact HB.out | apply below_alloc | apply pw_below_drewN | apply below_drew1) | exact HB.out)) hb); have n1_ := Aside0.mk (hbox); have n2_ := Aside0.mk ((by rw [hg]; exact (below_size (by repeat (first | (with_reducible first | exact HB.out | apply below_alloc | apply pw_below_drewN | apply below_drew1) | exact HB.out))) : w.heap.size ≤ gb265)); have n3_ := Aside0.mk ((by rw [hg]; exact (below_size (by repeat (first | (with_reducible first | exact HB.out | apply below_alloc | apply pw_below_drewN | apply below_drew1) | exact HB.out))) : w.heap.size ≤ gb265)); clear HB; have HB := n0_; have BK265 := n1_; have GW265 := n2_; have GE265 := n3_; clear n0_ n1_ n2_ n3_; clear hb hbox hg; have hcz18_0 : w17.cell? ⟨gb265, 0, none⟩ = some (.int .i64 a0_0) := (blk_cell BK265.out 0).trans rfl; have hcz18_1 : w17.cell? ⟨gb265, 1, none⟩ = some (.int .i64 a0_1) := (blk_cell BK265.out 1).trans rfl; have hcz18_2 : w17.cell? ⟨gb265, 2, none⟩ = some (.int .i64 a0_2) := (blk_cell BK265.out 2).trans rfl; have hcz18_3 : w17.cell? ⟨gb265, 3, none⟩ = some (.bool a0_3) := (blk_cell BK265.out 3).trans rfl; have hcz18_4 : w17.cell? ⟨gb265, 4, none⟩ = some (.int .i64 a0_4) := (blk_cell BK265.out 4).trans rfl; have hcz18_5 : w17.cell? ⟨gb265, 5, none⟩ = some (.int .i64 a0_5) := (blk_cell BK265.out 5).trans rfl; have hcz18_6 : w17.cell? ⟨gb265, 6, none⟩ = some (.int .i64 a0_6) := (blk_cell BK265.out 6).trans rfl; have hcz18_7 : w17.cell? ⟨gb265, 7, none⟩ = some (.int .i64 a0_7) := (blk_cell BK265.out 7).trans rfl; have hcz18_8 : w17.cell? ⟨gb265, 8, none⟩ = some (.slice A0_8 l0_8.length c0_8) := (blk_cell BK265.out 8).trans rfl; have hcz18_9 : w17.cell? ⟨gb265, 9, none⟩ = some (.int .i64 a0_9) := (blk_cell BK265.out 9).trans rfl; have hcz18_10 : w17.cell? ⟨gb265, 10, none⟩ = some (.int .i64 a0_10) := (blk_cell BK265.out 10).trans rfl; have hcz18_11 : w17.cell? ⟨gb265, 11, none⟩ = some (.slice A0_11 l0_11.length c0_11) := (blk_cell BK265.out 11).trans rfl; have hcz18_12 : w17.cell? ⟨gb265, 12, none⟩ = some (.int .i64 a0_12) := (blk_cell BK265.out 12).trans rfl; have hcz18_13 : w17.cell? ⟨gb265, 13, none⟩ = some (.int .i64 a0_13) := (blk_cell BK265.out 13).trans rfl; have hcz18_14 : w17.cell? ⟨gb265, 14, none⟩ = some (.int .i64 a0_14) := (blk_cell BK265.out 14).trans rfl; have hcz18_15 : w17.cell? ⟨gb265, 15, none⟩ = some (.int .i64 a0_15) := (blk_cell BK265.out 15).trans rfl; have hfz18_0 := blk_frozen BK265.out 0; have hfz18_1 := blk_frozen BK265.out 1; have hfz18_2 := blk_frozen BK265.out 2; have hfz18_3 := blk_frozen BK265.out 3; have hfz18_4 := blk_frozen BK265.out 4; have hfz18_5 := blk_frozen BK265.out 5; have hfz18_6 := blk_frozen BK265.out 6; have hfz18_7 := blk_frozen BK265.out 7; have hfz18_8 := blk_frozen BK265.out 8; have hfz18_9 := blk_frozen BK265.out 9; have hfz18_10 := blk_frozen BK265.out 10; have hfz18_11 := blk_frozen BK265.out 11; have hfz18_12 := blk_frozen BK265.out 12; have hfz18_13 := blk_frozen BK265.out 13; have hfz18_14 := blk_frozen BK265.out 14; have hfz18_15 := blk_frozen BK265.out 15) | ((with_reducible refine gate_dst (N := 10) rfl ?_); refine Kd.R_lit (Kd.int .u8) _ 5 ?hg (N := 10) ?hd (xs := ([(a0_0) % 256, (a0_1) % 256] : List Int)) (inner := [.int .u8 ((a0_0) % 256), .int .u8 ((a0_1) % 256)]) (ok := fun _ => True) (okp := fun _ => True) ?hr ?hp (fun _ hk => hk) trivial (Below.refl _ _) (Nat.le_refl _) (by simp) ?_; (case hd => rfl); (case hg => rfl); (case hr => first | (go_simp; done) | (go_simp; rfl)); (case hp => exact (Reps.one (show Kd.M (Kd.int .u8) _ _ _ ((a0_0) % 256) [.int .u8 ((a0_0) % 256)] from rfl) (Reps.one (show Kd.M (Kd.int .u8) _ _ _ ((a0_1) % 256) [.int .u8 ((a0_1) % 256)] from rfl) (Reps.none _ _)))); intro v267 w19 ho20 hb hg_ hnew_; clear hg_ hnew_; (first | rw [← Ny266.out] at ho20 | (simp only [Int.reduceToNat] at ho20; rw [← Ny266.out] at ho20)); have n0_ := Aside0.mk (Kd.R_lower ho20 (below_size (by repeat (first | (with_reducible first | exact HB.out | apply below_alloc | apply pw_below_drewN | apply below_drew1 | refine below_set ?_ GE265.out) | exact HB.out)))); have n1_ := Aside0.mk (blk_below (g := gb265) (o := .cells #[.int .i64 a0_0, .int .i64 a0_1, .int .i64 a0_2, .bool a0_3, .int .i64 a0_4, .int .i64 a0_5, .int .i64 a0_6, .int .i64 a0_7, .slice A0_8 l0_8.length c0_8, .int .i64 a0_9, .int .i64 a0_10, .slice A0_11 l0_11.length c0_11, .int .i64 a0_12, .int .i64 a0_13, .int .i64 a0_14, .int .i64 a0_15] 29 (0, 0)) (by (with_reducible repeat (first | refine blk_drewN ?_ _ | refine blk_drew ?_ | refine blk_alloc ?_ _)); exact BK265.out) hb); have n2_ := Aside0.mk (below_step (by repeat (first | (with_reducible first | exact HB.out | apply below_alloc | apply pw_below_drewN | apply below_drew1 | refine below_set ?_ GE265.out) | exact HB.out)) hb); clear BK265; clear HB; have HO268 := n0_; have BK265 := n1_; have HB := n2_; clear n0_ n1_ n2_; clear hb ho20; have hcz21_0 : w19.cell? ⟨gb265, 0, none⟩ = some (.int .i64 a0_0) := (blk_cell BK265.out 0).trans rfl; have hcz21_1 : w19.cell? ⟨gb265, 1, none⟩ = some (.int .i64 a0_1) := (blk_cell BK265.out 1).trans rfl; have hcz21_2 : w19.cell? ⟨gb265, 2, none⟩ = some (.int .i64 a0_2) := (blk_cell BK265.out 2).trans rfl; have hcz21_3 : w19.cell? ⟨gb265, 3, none⟩ = some (.bool a0_3) := (blk_cell BK265.out 3).trans rfl; have hcz21_4 : w19.cell? ⟨gb265, 4, none⟩ = some (.int .i64 a0_4) := (blk_cell BK265.out 4).trans rfl; have hcz21_5 : w19.cell? ⟨gb265, 5, none⟩ = some (.int .i64 a0_5) := (blk_cell BK265.out 5).trans rfl; have hcz21_6 : w19.cell? ⟨gb265, 6, none⟩ = some (.int .i64 a0_6) := (blk_cell BK265.out 6).trans rfl; have hcz21_7 : w19.cell? ⟨gb265, 7, none⟩ = some (.int .i64 a0_7) := (blk_cell BK265.out 7).trans rfl; have hcz21_8 : w19.cell? ⟨gb265, 8, none⟩ = some (.slice A0_8 l0_8.length c0_8) := (blk_cell BK265.out 8).trans rfl; have hcz21_9 : w19.cell? ⟨gb265, 9, none⟩ = some (.int .i64 a0_9) := (blk_cell BK265.out 9).trans rfl; have hcz21_10 : w19.cell? ⟨gb265, 10, none⟩ = some (.int .i64 a0_10) := (blk_cell BK265.out 10).trans rfl; have hcz21_11 : w19.cell? ⟨gb265, 11, none⟩ = some (.slice A0_11 l0_11.length c0_11) := (blk_cell BK265.out 11).trans rfl; have hcz21_12 : w19.cell? ⟨gb265, 12, none⟩ = some (.int .i64 a0_12) := (blk_cell BK265.out 12).trans rfl; have hcz21_13 : w19.cell? ⟨gb265, 13, none⟩ = some (.int .i64 a0_13) := (blk_cell BK265.out 13).trans rfl; have hcz21_14 : w19.cell? ⟨gb265, 14, none⟩ = some (.int .i64 a0_14) := (blk_cell BK265.out 14).trans rfl; have hcz21_15 : w19.cell? ⟨gb265, 15, none⟩ = some (.int .i64 a0_15) := (blk_cell BK265.out 15).trans rfl; have hfz21_0 := blk_frozen BK265.out 0; have hfz21_1 := blk_frozen BK265.out 1; have hfz21_2 := blk_frozen BK265.out 2; have hfz21_3 := blk_frozen BK265.out 3; have hfz21_4 := blk_frozen BK265.out 4; have hfz21_5 := blk_frozen BK265.out 5; have hfz21_6 := blk_frozen BK265.out 6; have hfz21_7 := blk_frozen BK265.out 7; have hfz21_8 := blk_frozen BK265.out 8; have hfz21_9 := blk_frozen BK265.out 9; have hfz21_10 := blk_frozen BK265.out 10; have hfz21_11 := blk_frozen BK265.out 11; have hfz21_12 := blk_frozen BK265.out 12; have hfz21_13 := blk_frozen BK265.out 13; have hfz21_14 := blk_frozen BK265.out 14; have hfz21_15 := blk_frozen BK265.out 15; obtain ⟨Ao22, co22, eo22⟩ := Kd.R_slice HO268.out; subst eo22) | ((with_reducible refine gate_callee (f := 132) rfl ?_); refine goesL_ (some 14) rfl rfl Try.func132 (by kernel_rfl) rfl #[.slice Ao22 y266.length co22, .int .i64 a0_2] rfl (by (try simp only [List.map_toArray, List.map_cons, List.map_nil]); first | done | rfl | (simp only [List.length_drop, List.length_take]; rfl)) ?_; (with_reducible refine (tidelineref05_Int.calls k (fun k_ => some k_ = (.slice Ao22 y266.length co22 : Value).ownBlock) (.slice Ao22 y266.length co22) y266 a0_2 t269 w _ ?side1 ?side2 A2.out).mono ?_); (case side1 => repeat (first | (with_reducible first | exact HB.out | apply below_alloc | apply pw_below_drewN | apply below_drew1 | refine below_set ?_ GE265.out) | exact HB.out)); (case side2 => exact Kd.R_tight rfl HO268.out); rintro e w23 ⟨v270, rfl, ho0, hb, hkp⟩; refine ⟨_, rfl, ?_⟩; have n0_ := Aside0.mk (blk_kept (by (with_reducible repeat (first | refine blk_drewN ?_ _ | refine blk_drew ?_ | refine blk_alloc ?_ _)); exact BK265.out) hkp (fun hs_ => (fun e_ => (Kd.R_ne HO268.out BK265.out (by decide)) e_) hs_)); have n1_ := Aside0.mk (Kd.R_mono (ok' := fun k_ => True) ho0 (fun k_ hk_ => trivial)); have n2_ := Aside0.mk (hb); clear BK265; clear HB; clear HO268; have BK265 := n0_; have HO271 := n1_; have HB := n2_; clear n0_ n1_ n2_; (try clear hb); (try clear hkp); (try clear ho0); have hcz24_0 : w23.cell? ⟨gb265, 0, none⟩ = some (.int .i64 a0_0) := (blk_cell BK265.out 0).trans rfl; have hcz24_1 : w23.cell? ⟨gb265, 1, none⟩ = some (.int .i64 a0_1) := (blk_cell BK265.out 1).trans rfl; have hcz24_2 : w23.cell? ⟨gb265, 2, none⟩ = some (.int .i64 a0_2) := (blk_cell BK265.out 2).trans rfl; have hcz24_3 : w23.cell? ⟨gb265, 3, none⟩ = some (.bool a0_3) := (blk_cell BK265.out 3).trans rfl; have hcz24_4 : w23.cell? ⟨gb265, 4, none⟩ = some (.int .i64 a0_4) := (blk_cell BK265.out 4).trans rfl; have hcz24_5 : w23.cell? ⟨gb265, 5, none⟩ = some (.int .i64 a0_5) := (blk_cell BK265.out 5).trans rfl; have hcz24_6 : w23.cell? ⟨gb265, 6, none⟩ = some (.int .i64 a0_6) := (blk_cell BK265.out 6).trans rfl; have hcz24_7 : w23.cell? ⟨gb265, 7, none⟩ = some (.int .i64 a0_7) := (blk_cell BK265.out 7).trans rfl; have hcz24_8 : w23.cell? ⟨gb265, 8, none⟩ = some (.slice A0_8 l0_8.length c0_8) := (blk_cell BK265.out 8).trans rfl; have hcz24_9 : w23.cell? ⟨gb265, 9, none⟩ = some (.int .i64 a0_9) := (blk_cell BK265.out 9).trans rfl; have hcz24_10 : w23.cell? ⟨gb265, 10, none⟩ = some (.int .i64 a0_10) := (blk_cell BK265.out 10).trans rfl; have hcz24_11 : w23.cell? ⟨gb265, 11, none⟩ = some (.slice A0_11 l0_11.length c0_11) := (blk_cell BK265.out 11).trans rfl; have hcz24_12 : w23.cell? ⟨gb265, 12, none⟩ = some (.int .i64 a0_12) := (blk_cell BK265.out 12).trans rfl; have hcz24_13 : w23.cell? ⟨gb265, 13, none⟩ = some (.int .i64 a0_13) := (blk_cell BK265.out 13).trans rfl; have hcz24_14 : w23.cell? ⟨gb265, 14, none⟩ = some (.int .i64 a0_14) := (blk_cell BK265.out 14).trans rfl; have hcz24_15 : w23.cell? ⟨gb265, 15, none⟩ = some (.int .i64 a0_15) := (blk_cell BK265.out 15).trans rfl; have hfz24_0 := blk_frozen BK265.out 0; have hfz24_1 := blk_frozen BK265.out 1; have hfz24_2 := blk_frozen BK265.out 2; have hfz24_3 := blk_frozen BK265.out 3; have hfz24_4 := blk_frozen BK265.out 4; have hfz24_5 := blk_frozen BK265.out 5; have hfz24_6 := blk_frozen BK265.out 6; have hfz24_7 := blk_frozen BK265.out 7; have hfz24_8 := blk_frozen BK265.out 8; have hfz24_9 := blk_frozen BK265.out 9; have hfz24_10 := blk_frozen BK265.out 10; have hfz24_11 := blk_frozen BK265.out 11; have hfz24_12 := blk_frozen BK265.out 12; have hfz24_13 := blk_frozen BK265.out 13; have hfz24_14 := blk_frozen BK265.out 14; have hfz24_15 := blk_frozen BK265.out 15; obtain ⟨Ao25, co25, eo25⟩ := Kd.R_slice HO271.out; subst eo25) | ((with_reducible refine gate_callee (f := 108) rfl ?_); refine goesL_ (some 18) rfl rfl Try.func108 (by kernel_rfl) rfl #[.slice Ao25 t269.length co25, .bool a0_3] rfl (by (try simp only [List.map_toArray, List.map_cons, List.map_nil]); first | done | rfl | (simp only [List.length_drop, List.length_take]; rfl)) ?_; (with_reducible refine (tidelineref01_Flag.calls (fun k_ => some k_ = (.slice Ao25 t269.length co25 : Value).ownBlock) (.slice Ao25 t269.length co25) t269 a0_3 t272 w _ ?side1 ?side2 A3.out).mono ?_); (case side1 => repeat (first | (with_reducible first | exact HB.out | apply below_alloc | apply pw_below_drewN | apply below_drew1 | refine below_set ?_ GE265.out) | exact HB.out)); (case side2 => exact Kd.R_tight rfl HO271.out); rintro e w26 ⟨v273, rfl, ho0, hb, hkp⟩; refine ⟨_, rfl, ?_⟩; have n0_ := Aside0.mk (blk_kept (by (with_reducible repeat (first | refine blk_drewN ?_ _ | refine blk_drew ?_ | refine blk_alloc ?_ _)); exact BK265.out) hkp (fun hs_ => (fun e_ => (Kd.R_ne HO271.out BK265.out (by decide)) e_) hs_)); have n1_ := Aside0.mk (Kd.R_mono (ok' := fun k_ => True) ho0 (fun k_ hk_ => trivial)); have n2_ := Aside0.mk (hb); clear BK265; clear HB; clear HO271; have BK265 := n0_; have HO274 := n1_; have HB := n2_; clear n0_ n1_ n2_; (try clear hb); (try clear hkp); (try clear ho0); have hcz27_0 : w26.cell? ⟨gb265, 0, none⟩ = some (.int .i64 a0_0) := (blk_cell BK265.out 0).trans rfl; have hcz27_1 : w26.cell? ⟨gb265, 1, none⟩ = some (.int .i64 a0_1) := (blk_cell BK265.out 1).trans rfl; have hcz27_2 : w26.cell? ⟨gb265, 2, none⟩ = some (.int .i64 a0_2) := (blk_cell BK265.out 2).trans rfl; have hcz27_3 : w26.cell? ⟨gb265, 3, none⟩ = some (.bool a0_3) := (blk_cell BK265.out 3).trans rfl; have hcz27_4 : w26.cell? ⟨gb265, 4, none⟩ = some (.int .i64 a0_4) := (blk_cell BK265.out 4).trans rfl; have hcz27_5 : w26.cell? ⟨gb265, 5, none⟩ = some (.int .i64 a0_5) := (blk_cell BK265.out 5).trans rfl; have hcz27_6 : w26.cell? ⟨gb265, 6, none⟩ = some (.int .i64 a0_6) := (blk_cell BK265.out 6).trans rfl; have hcz27_7 : w26.cell? ⟨gb265, 7, none⟩ = some (.int .i64 a0_7) := (blk_cell BK265.out 7).trans rfl; have hcz27_8 : w26.cell? ⟨gb265, 8, none⟩ = some (.slice A0_8 l0_8.length c0_8) := (blk_cell BK265.out 8).trans rfl; have hcz27_9 : w26.cell? ⟨gb265, 9, none⟩ = some (.int .i64 a0_9) := (blk_cell BK265.out 9).trans rfl; have hcz27_10 : w26.cell? ⟨gb265, 10, none⟩ = some (.int .i64 a0_10) := (blk_cell BK265.out 10).trans rfl; have hcz27_11 : w26.cell? ⟨gb265, 11, none⟩ = some (.slice A0_11 l0_11.length c0_11) := (blk_cell BK265.out 11).trans rfl; have hcz27_12 : w26.cell? ⟨gb265, 12, none⟩ = some (.int .i64 a0_12) := (blk_cell BK265.out 12).trans rfl; have hcz27_13 : w26.cell? ⟨gb265, 13, none⟩ = some (.int .i64 a0_13) := (blk_cell BK265.out 13).trans rfl; have hcz27_14 : w26.cell? ⟨gb265, 14, none⟩ = some (.int .i64 a0_14) := (blk_cell BK265.out 14).trans rfl; have hcz27_15 : w26.cell? ⟨gb265, 15, none⟩ = some (.int .i64 a0_15) := (blk_cell BK265.out 15).trans rfl; have hfz27_0 := blk_frozen BK265.out 0; have hfz27_1 := blk_frozen BK265.out 1; have hfz27_2 := blk_frozen BK265.out 2; have hfz27_3 := blk_frozen BK265.out 3; have hfz27_4 := blk_frozen BK265.out 4; have hfz27_5 := blk_frozen BK265.out 5; have hfz27_6 := blk_frozen BK265.out 6; have hfz27_7 := blk_frozen BK265.out 7; have hfz27_8 := blk_frozen BK265.out 8; have hfz27_9 := blk_frozen BK265.out 9; have hfz27_10 := blk_frozen BK265.out 10; have hfz27_11 := blk_frozen BK265.out 11; have hfz27_12 := blk_frozen BK265.out 12; have hfz27_13 := blk_frozen BK265.out 13; have hfz27_14 := blk_frozen BK265.out 14; have hfz27_15 := blk_frozen BK265.out 15) | ((with_reducible refine gate_builtin (b := .append) (xs := #[.tmp 19, .tmp 23]) rfl ?_); at_builtin; refine Kd.R_append (Kd.int .u8) (w0 := w) w.heap.size rfl (.tmp 19) (.tmp 23) 22 5 (.int .u8 0) 1 rfl Try.underlying22 info5 rfl (by decide) (by omega) v273 t272 ((a0_4) % 256) [.int .u8 ((a0_4) % 256)] (fun _ => True) (fun _ => False) rfl rfl ?aP (fun _ hk => hk.elim) ?aF ?aO ?aB ?aS ?aL ?_; (case aP => exact rfl); (case aB => exact (by repeat (first | (with_reducible first | exact HB.out | apply below_alloc | apply pw_below_drewN | apply below_drew1 | refine below_set ?_ GE265.out) | exact HB.out))); (case aF => exact (fun _ _ => trivial)); (case aO => exact (by (with_reducible repeat (first | apply Kd.R_alloc | apply Kd.R_drewN | apply Kd.R_drew)); exact HO274.out)); (case aS => exact (below_size (by repeat (first | (with_reducible first | exact HB.out | apply below_alloc | apply pw_below_drewN | apply below_drew1 | refine below_set ?_ GE265.out) | exact HB.out)))); (case aL => have := LMc4.out; omega); intro v276 w28 ho hb hg hat; rw [← Ny275.out] at ho; have n0_ := Aside0.mk (blk_grown (g := gb265) (o := .cells #[.int .i64 a0_0, .int .i64 a0_1, .int .i64 a0_2, .bool a0_3, .int .i64 a0_4, .int .i64 a0_5, .int .i64 a0_6, .int .i64 a0_7, .slice A0_8 l0_8.length c0_8, .int .i64 a0_9, .int .i64 a0_10, .slice A0_11 l0_11.length c0_11, .int .i64 a0_12, .int .i64 a0_13, .int .i64 a0_14, .int .i64 a0_15] 29 (0, 0)) (by (with_reducible repeat (first | refine blk_drewN ?_ _ | refine blk_drew ?_ | refine blk_alloc ?_ _)); exact BK265.out) hg (Kd.R_ne HO274.out BK265.out (by decide))); have n1_ := Aside0.mk (hb); have n2_ := Aside0.mk (ho); clear BK265; clear HB; clear HO274; have BK265 := n0_; have HB := n1_; have HO277 := n2_; clear n0_ n1_ n2_; clear ho hb hg hat))
      have n0_ := Aside0.mk (Kd.R_drew HO277.out)
      have n1_ := Aside0.mk (blk_drew BK265.out)
      have n2_ := Aside0.mk (below_drew1 HB.out)
      clear HO277
      clear BK265
      clear HB
      have HO277 := n0_
      have BK265 := n1_
      have HB := n2_
      clear n0_ n1_ n2_
      obtain ⟨Ao30, co30, eo30⟩ := Kd.R_slice HO277.out
      (first | subst eo30 | (injection eo30 with f1_ f2_ f3_; have f4_ := f1_.symm; have f5_ := f3_.symm; clear f1_ f2_ f3_; subst f4_; subst f5_))
      refine start_ (n := 8) (S := fun w' => w'.cell? ⟨gb265, 0, none⟩ = some (.int .i64 a0_0) ∧ w'.cell? ⟨gb265, 1, none⟩ = some (.int .i64 a0_1) ∧ w'.cell? ⟨gb265, 2, none⟩ = some (.int .i64 a0_2) ∧ w'.cell? ⟨gb265, 3, none⟩ = some (.bool a0_3) ∧ w'.cell? ⟨gb265, 4, none⟩ = some (.int .i64 a0_4) ∧ w'.cell? ⟨gb265, 5, none⟩ = some (.int .i64 a0_5) ∧ w'.cell? ⟨gb265, 6, none⟩ = some (.int .i64 a0_6) ∧ w'.cell? ⟨gb265, 7, none⟩ = some (.int .i64 a0_7) ∧ w'.cell? ⟨gb265, 8, none⟩ = some (.slice A0_8 l0_8.length c0_8) ∧ w'.cell? ⟨gb265, 9, none⟩ = some (.int .i64 a0_9) ∧ w'.cell? ⟨gb265, 10, none⟩ = some (.int .i64 a0_10) ∧ w'.cell? ⟨gb265, 11, none⟩ = some (.slice A0_11 l0_11.length c0_11) ∧ w'.cell? ⟨gb265, 12, none⟩ = some (.int .i64 a0_12) ∧ w'.cell? ⟨gb265, 13, none⟩ = some (.int .i64 a0_13) ∧ w'.cell? ⟨gb265, 14, none⟩ = some (.int .i64 a0_14) ∧ w'.cell? ⟨gb265, 15, none⟩ = some (.int .i64 a0_15)) (ds := []) #[false, false, false, false, false, false, false, false] (by kernel_rfl) rfl rfl ⟨(blk_cell BK265.out 0).trans rfl, (blk_cell BK265.out 1).trans rfl, (blk_cell BK265.out 2).trans rfl, (blk_cell BK265.out 3).trans rfl, (blk_cell BK265.out 4).trans rfl, (blk_cell BK265.out 5).trans rfl, (blk_cell BK265.out 6).trans rfl, (blk_cell BK265.out 7).trans rfl, (blk_cell BK265.out 8).trans rfl, (blk_cell BK265.out 9).trans rfl, (blk_cell BK265.out 10).trans rfl, (blk_cell BK265.out 11).trans rfl, (blk_cell BK265.out 12).trans rfl, (blk_cell BK265.out 13).trans rfl, (blk_cell BK265.out 14).trans rfl, (blk_cell BK265.out 15).trans rfl⟩ (fun hHeld => ?_); refine with_tabW tidelineref12_Encode.tab5 tidelineref12_Encode.bits5 (fun HT_ HW_ => ?_)
      generalize w28.drew = w29 at HO277 BK265 HB hHeld ⊢
      refine pure_ (i := 0) (N := some 25) (v := ?_) (a' := ?_) #[true, false, false, false, false, false, false, false] rfl rfl (any_of HT_.out (by kernel_rfl)) (fun _ _ _ h => h) (Or.inl ⟨by rfl, ?_⟩) ?_ ?_
      rotate_left
      · intro w'
        go_simp
        with_reducible rfl
      rotate_left
      · simp only [Act.put, List.setIfInBounds_toArray, List.set_cons_zero, List.set_cons_succ, i64_w, i32_w]
        rfl
      refine pure_ (i := 1) (N := some 26) (v := ?_) (a' := ?_) #[true, true, false, false, false, false, false, false] rfl rfl (any_of HT_.out (by kernel_rfl)) (fun _ _ _ h => h) (Or.inl ⟨by rfl, ?_⟩) ?_ ?_
      rotate_left
      · intro w'
        go_simp
        with_reducible rfl
      rotate_left
      · simp only [Act.put, List.setIfInBounds_toArray, List.set_cons_zero, List.set_cons_succ, i64_w, i32_w]
        rfl
      refine pure_ (i := 4) (N := some 29) (v := ?_) (a' := ?_) #[true, true, false, false, true, false, false, false] rfl rfl (any_of HT_.out (by kernel_rfl)) (fun _ _ _ h => h) (Or.inl ⟨by rfl, ?_⟩) ?_ ?_
      rotate_left
      · intro w'
        go_simp
        with_reducible rfl
      rotate_left
      · simp only [Act.put, List.setIfInBounds_toArray, List.set_cons_zero, List.set_cons_succ, i64_w, i32_w]
        rfl
      refine take_ (i := 2) (N := some 27) (v := ?_) (a' := ?_) #[true, true, true, false, true, false, false, false] rfl rfl (take_ofW HT_.out HW_.out (by kernel_rfl)) (fun _ _ _ h => h) (Or.inl ⟨by rfl, ?_⟩) hHeld ?_ ?_
      rotate_left
      · rintro w' ⟨s0, s1, s2, s3, s4, s5, s6, s7, s8, s9, s10, s11, s12, s13, s14, s15⟩
        go_simp
        with_reducible rfl
      rotate_left
      · simp only [Act.put, List.setIfInBounds_toArray, List.set_cons_zero, List.set_cons_succ, i64_w, i32_w]
        rfl
      refine take_ (i := 5) (N := some 30) (v := ?_) (a' := ?_) #[true, true, true, false, true, true, false, false] rfl rfl (take_ofW HT_.out HW_.out (by kernel_rfl)) (fun _ _ _ h => h) (Or.inl ⟨by rfl, ?_⟩) hHeld ?_ ?_
      rotate_left
      · rintro w' ⟨s0, s1, s2, s3, s4, s5, s6, s7, s8, s9, s10, s11, s12, s13, s14, s15⟩
        go_simp
        with_reducible rfl
      rotate_left
      · simp only [Act.put, List.setIfInBounds_toArray, List.set_cons_zero, List.set_cons_succ, i64_w, i32_w]
        rfl
      refine one_ (i := 3) (N := some 28) #[true, true, true, true, true, true, false, false] rfl rfl (one_of HT_.out (by kernel_rfl)) (by decide) (fun K hK => ?_)
      refine goes_ Try.func132 (by kernel_rfl) rfl #[.slice Ao30 y275.length co30, .int .i64 a0_5] (by rfl) rfl rfl (by (try simp only [List.map_toArray, List.map_cons, List.map_nil]); first | done | rfl | (simp only [List.length_drop, List.length_take]; rfl)) ?_
      with_reducible refine (tidelineref05_Int.calls k (fun k_ => some k_ = (.slice Ao30 y275.length co30 : Value).ownBlock) (.slice Ao30 y275.length co30) y275 a0_5 t278 w _ ?side1 ?side2 A5.out).mono ?_
      (case side1 => repeat (first | (with_reducible first | exact HB.out | apply below_alloc | apply pw_below_drewN | apply below_drew1 | refine below_set ?_ GE265.out) | exact HB.out))
      (case side2 => exact Kd.R_tight rfl HO277.out)
      rintro e w31 ⟨v279, rfl, ho0, hb, hkp⟩
      refine ⟨_, rfl, ?_⟩
      have n0_ := Aside0.mk (blk_kept (by (with_reducible repeat (first | refine blk_drewN ?_ _ | refine blk_drew ?_ | refine blk_alloc ?_ _)); exact BK265.out) hkp (fun hs_ => (fun e_ => (Kd.R_ne HO277.out BK265.out (by decide)) e_) hs_))
      have n1_ := Aside0.mk (Kd.R_mono (ok' := fun k_ => True) ho0 (fun k_ hk_ => trivial))
      have n2_ := Aside0.mk (hb)
      clear BK265
      clear HB
      clear HO277
      have BK265 := n0_
      have HO280 := n1_
      have HB := n2_
      clear n0_ n1_ n2_
      (try clear hb)
      (try clear hkp)
      (try clear ho0)
      obtain ⟨Ao32, co32, eo32⟩ := Kd.R_slice HO280.out
      (first | subst eo32 | (injection eo32 with f1_ f2_ f3_; have f4_ := f1_.symm; have f5_ := f3_.symm; clear f1_ f2_ f3_; subst f4_; subst f5_))
      refine hK.out _ _ ⟨(blk_cell BK265.out 0).trans rfl, (blk_cell BK265.out 1).trans rfl, (blk_cell BK265.out 2).trans rfl, (blk_cell BK265.out 3).trans rfl, (blk_cell BK265.out 4).trans rfl, (blk_cell BK265.out 5).trans rfl, (blk_cell BK265.out 6).trans rfl, (blk_cell BK265.out 7).trans rfl, (blk_cell BK265.out 8).trans rfl, (blk_cell BK265.out 9).trans rfl, (blk_cell BK265.out 10).trans rfl, (blk_cell BK265.out 11).trans rfl, (blk_cell BK265.out 12).trans rfl, (blk_cell BK265.out 13).trans rfl, (blk_cell BK265.out 14).trans rfl, (blk_cell BK265.out 15).trans rfl⟩ (fun hHeld => ?_)
      clear hK K
      refine norm_ (a' := ?_) ?_ ?_
      rotate_left
      · show Act.put _ (some 28) _ = _
        simp only [Act.put, List.setIfInBounds_toArray, List.set_cons_zero, List.set_cons_succ, i64_w, i32_w]
        rfl
      refine one_ (i := 6) (N := some 31) #[true, true, true, true, true, true, true, false] rfl rfl (one_of HT_.out (by kernel_rfl)) (by decide) (fun K hK => ?_)
      refine goes_ Try.func132 (by kernel_rfl) rfl #[.slice Ao32 t278.length co32, .int .i64 a0_6] (by rfl) rfl rfl (by (try simp only [List.map_toArray, List.map_cons, List.map_nil]); first | done | rfl | (simp only [List.length_drop, List.length_take]; rfl)) ?_
      with_reducible refine (tidelineref05_Int.calls k (fun k_ => some k_ = (.slice Ao32 t278.length co32 : Value).ownBlock) (.slice Ao32 t278.length co32) t278 a0_6 t281 w _ ?side1 ?side2 A6.out).mono ?_
      (case side1 => repeat (first | (with_reducible first | exact HB.out | apply below_alloc | apply pw_below_drewN | apply below_drew1 | refine below_set ?_ GE265.out) | exact HB.out))
      (case side2 => exact Kd.R_tight rfl HO280.out)
      rintro e w33 ⟨v282, rfl, ho0, hb, hkp⟩
      refine ⟨_, rfl, ?_⟩
      have n0_ := Aside0.mk (blk_kept (by (with_reducible repeat (first | refine blk_drewN ?_ _ | refine blk_drew ?_ | refine blk_alloc ?_ _)); exact BK265.out) hkp (fun hs_ => (fun e_ => (Kd.R_ne HO280.out BK265.out (by decide)) e_) hs_))
      have n1_ := Aside0.mk (Kd.R_mono (ok' := fun k_ => True) ho0 (fun k_ hk_ => trivial))
      have n2_ := Aside0.mk (hb)
      clear BK265
      clear HB
      clear HO280
      have BK265 := n0_
      have HO283 := n1_
      have HB := n2_
      clear n0_ n1_ n2_
      (try clear hb)
      (try clear hkp)
      (try clear ho0)
      refine hK.out _ _ ⟨(blk_cell BK265.out 0).trans rfl, (blk_cell BK265.out 1).trans rfl, (blk_cell BK265.out 2).trans rfl, (blk_cell BK265.out 3).trans rfl, (blk_cell BK265.out 4).trans rfl, (blk_cell BK265.out 5).trans rfl, (blk_cell BK265.out 6).trans rfl, (blk_cell BK265.out 7).trans rfl, (blk_cell BK265.out 8).trans rfl, (blk_cell BK265.out 9).trans rfl, (blk_cell BK265.out 10).trans rfl, (blk_cell BK265.out 11).trans rfl, (blk_cell BK265.out 12).trans rfl, (blk_cell BK265.out 13).trans rfl, (blk_cell BK265.out 14).trans rfl, (blk_cell BK265.out 15).trans rfl⟩ (fun hHeld => ?_)
      clear hK K
      refine norm_ (a' := ?_) ?_ ?_
      rotate_left
      · show Act.put _ (some 31) _ = _
        simp only [Act.put, List.setIfInBounds_toArray, List.set_cons_zero, List.set_cons_succ, i64_w, i32_w]
        rfl
      refine pure_ (i := 7) (N := some 3) (v := ?_) (a' := ?_) #[true, true, true, true, true, true, true, true] rfl rfl (any_of HT_.out (by kernel_rfl)) (fun _ _ _ h => h) (Or.inl ⟨by rfl, ?_⟩) ?_ ?_
      rotate_left
      · intro w'
        go_simp
        with_reducible rfl
      rotate_left
      · simp only [Act.put, List.setIfInBounds_toArray, List.set_cons_zero, List.set_cons_succ, i64_w, i32_w]
        rfl
      refine done_ (done_of HT_.out (by kernel_rfl)) ?_
      have hcz34_0 : w33.cell? ⟨gb265, 0, none⟩ = some (.int .i64 a0_0) := (blk_cell BK265.out 0).trans rfl
      have hcz34_1 : w33.cell? ⟨gb265, 1, none⟩ = some (.int .i64 a0_1) := (blk_cell BK265.out 1).trans rfl
      have hcz34_2 : w33.cell? ⟨gb265, 2, none⟩ = some (.int .i64 a0_2) := (blk_cell BK265.out 2).trans rfl
      have hcz34_3 : w33.cell? ⟨gb265, 3, none⟩ = some (.bool a0_3) := (blk_cell BK265.out 3).trans rfl
      have hcz34_4 : w33.cell? ⟨gb265, 4, none⟩ = some (.int .i64 a0_4) := (blk_cell BK265.out 4).trans rfl
      have hcz34_5 : w33.cell? ⟨gb265, 5, none⟩ = some (.int .i64 a0_5) := (blk_cell BK265.out 5).trans rfl
      have hcz34_6 : w33.cell? ⟨gb265, 6, none⟩ = some (.int .i64 a0_6) := (blk_cell BK265.out 6).trans rfl
      have hcz34_7 : w33.cell? ⟨gb265, 7, none⟩ = some (.int .i64 a0_7) := (blk_cell BK265.out 7).trans rfl
      have hcz34_8 : w33.cell? ⟨gb265, 8, none⟩ = some (.slice A0_8 l0_8.length c0_8) := (blk_cell BK265.out 8).trans rfl
      have hcz34_9 : w33.cell? ⟨gb265, 9, none⟩ = some (.int .i64 a0_9) := (blk_cell BK265.out 9).trans rfl
      have hcz34_10 : w33.cell? ⟨gb265, 10, none⟩ = some (.int .i64 a0_10) := (blk_cell BK265.out 10).trans rfl
      have hcz34_11 : w33.cell? ⟨gb265, 11, none⟩ = some (.slice A0_11 l0_11.length c0_11) := (blk_cell BK265.out 11).trans rfl
      have hcz34_12 : w33.cell? ⟨gb265, 12, none⟩ = some (.int .i64 a0_12) := (blk_cell BK265.out 12).trans rfl
      have hcz34_13 : w33.cell? ⟨gb265, 13, none⟩ = some (.int .i64 a0_13) := (blk_cell BK265.out 13).trans rfl
      have hcz34_14 : w33.cell? ⟨gb265, 14, none⟩ = some (.int .i64 a0_14) := (blk_cell BK265.out 14).trans rfl
      have hcz34_15 : w33.cell? ⟨gb265, 15, none⟩ = some (.int .i64 a0_15) := (blk_cell BK265.out 15).trans rfl
      have hfz34_0 := blk_frozen BK265.out 0
      have hfz34_1 := blk_frozen BK265.out 1
      have hfz34_2 := blk_frozen BK265.out 2
      have hfz34_3 := blk_frozen BK265.out 3
      have hfz34_4 := blk_frozen BK265.out 4
      have hfz34_5 := blk_frozen BK265.out 5
      have hfz34_6 := blk_frozen BK265.out 6
      have hfz34_7 := blk_frozen BK265.out 7
      have hfz34_8 := blk_frozen BK265.out 8
      have hfz34_9 := blk_frozen BK265.out 9
      have hfz34_10 := blk_frozen BK265.out 10
      have hfz34_11 := blk_frozen BK265.out 11
      have hfz34_12 := blk_frozen BK265.out 12
      have hfz34_13 := blk_frozen BK265.out 13
      have hfz34_14 := blk_frozen BK265.out 14
      have hfz34_15 := blk_frozen BK265.out 15
      try go_wp2_with (first | ((with_reducible refine gate_builtin (b := .append) (xs := #[.tmp 32, .tmp 37]) rfl ?_); at_builtin; refine Kd.R_append (Kd.int .u8) (w0 := w) w.heap.size rfl (.tmp 32) (.tmp 37) 22 5 (.int .u8 0) 1 rfl Try.underlying22 info5 rfl (by decide) (by omega) v282 t281 ((a0_7) % 256) [.int .u8 ((a0_7) % 256)] (fun _ => True) (fun _ => False) rfl rfl ?aP (fun _ hk => hk.elim) ?aF ?aO ?aB ?aS ?aL ?_; (case aP => exact rfl); (case aB => exact (by repeat (first | (with_reducible first | exact HB.out | apply below_alloc | apply pw_below_drewN | apply below_drew1 | refine below_set ?_ GE265.out) | exact HB.out))); (case aF => exact (fun _ _ => trivial)); (case aO => exact (by (with_reducible repeat (first | apply Kd.R_alloc | apply Kd.R_drewN | apply Kd.R_drew)); exact HO283.out)); (case aS => exact (below_size (by repeat (first | (with_reducible first | exact HB.out | apply below_alloc | apply pw_below_drewN | apply below_drew1 | refine below_set ?_ GE265.out) | exact HB.out)))); (case aL => have := LMc7.out; omega); intro v285 w35 ho hb hg hat; rw [← Ny284.out] at ho; have n0_ := Aside0.mk (blk_grown (g := gb265) (o := .cells #[.int .i64 a0_0, .int .i64 a0_1, .int .i64 a0_2, .bool a0_3, .int .i64 a0_4, .int .i64 a0_5, .int .i64 a0_6, .int .i64 a0_7, .slice A0_8 l0_8.length c0_8, .int .i64 a0_9, .int .i64 a0_10, .slice A0_11 l0_11.length c0_11, .int .i64 a0_12, .int .i64 a0_13, .int .i64 a0_14, .int .i64 a0_15] 29 (0, 0)) (by (with_reducible repeat (first | refine blk_drewN ?_ _ | refine blk_drew ?_ | refine blk_alloc ?_ _)); exact BK265.out) hg (Kd.R_ne HO283.out BK265.out (by decide))); have n1_ := Aside0.mk (hb); have n2_ := Aside0.mk (ho); clear BK265; clear HB; clear HO283; have BK265 := n0_; have HB := n1_; have HO286 := n2_; clear n0_ n1_ n2_; clear ho hb hg hat; have hcz36_0 : w35.cell? ⟨gb265, 0, none⟩ = some (.int .i64 a0_0) := (blk_cell BK265.out 0).trans rfl; have hcz36_1 : w35.cell? ⟨gb265, 1, none⟩ = some (.int .i64 a0_1) := (blk_cell BK265.out 1).trans rfl; have hcz36_2 : w35.cell? ⟨gb265, 2, none⟩ = some (.int .i64 a0_2) := (blk_cell BK265.out 2).trans rfl; have hcz36_3 : w35.cell? ⟨gb265, 3, none⟩ = some (.bool a0_3) := (blk_cell BK265.out 3).trans rfl; have hcz36_4 : w35.cell? ⟨gb265, 4, none⟩ = some (.int .i64 a0_4) := (blk_cell BK265.out 4).trans rfl; have hcz36_5 : w35.cell? ⟨gb265, 5, none⟩ = some (.int .i64 a0_5) := (blk_cell BK265.out 5).trans rfl; have hcz36_6 : w35.cell? ⟨gb265, 6, none⟩ = some (.int .i64 a0_6) := (blk_cell BK265.out 6).trans rfl; have hcz36_7 : w35.cell? ⟨gb265, 7, none⟩ = some (.int .i64 a0_7) := (blk_cell BK265.out 7).trans rfl; have hcz36_8 : w35.cell? ⟨gb265, 8, none⟩ = some (.slice A0_8 l0_8.length c0_8) := (blk_cell BK265.out 8).trans rfl; have hcz36_9 : w35.cell? ⟨gb265, 9, none⟩ = some (.int .i64 a0_9) := (blk_cell BK265.out 9).trans rfl; have hcz36_10 : w35.cell? ⟨gb265, 10, none⟩ = some (.int .i64 a0_10) := (blk_cell BK265.out 10).trans rfl; have hcz36_11 : w35.cell? ⟨gb265, 11, none⟩ = some (.slice A0_11 l0_11.length c0_11) := (blk_cell BK265.out 11).trans rfl; have hcz36_12 : w35.cell? ⟨gb265, 12, none⟩ = some (.int .i64 a0_12) := (blk_cell BK265.out 12).trans rfl; have hcz36_13 : w35.cell? ⟨gb265, 13, none⟩ = some (.int .i64 a0_13) := (blk_cell BK265.out 13).trans rfl; have hcz36_14 : w35.cell? ⟨gb265, 14, none⟩ = some (.int .i64 a0_14) := (blk_cell BK265.out 14).trans rfl; have hcz36_15 : w35.cell? ⟨gb265, 15, none⟩ = some (.int .i64 a0_15) := (blk_cell BK265.out 15).trans rfl; have hfz36_0 := blk_frozen BK265.out 0; have hfz36_1 := blk_frozen BK265.out 1; have hfz36_2 := blk_frozen BK265.out 2; have hfz36_3 := blk_frozen BK265.out 3; have hfz36_4 := blk_frozen BK265.out 4; have hfz36_5 := blk_frozen BK265.out 5; have hfz36_6 := blk_frozen BK265.out 6; have hfz36_7 := blk_frozen BK265.out 7; have hfz36_8 := blk_frozen BK265.out 8; have hfz36_9 := blk_frozen BK265.out 9; have hfz36_10 := blk_frozen BK265.out 10; have hfz36_11 := blk_frozen BK265.out 11; have hfz36_12 := blk_frozen BK265.out 12; have hfz36_13 := blk_frozen BK265.out 13; have hfz36_14 := blk_frozen BK265.out 14; have hfz36_15 := blk_frozen BK265.out 15; obtain ⟨Ao37, co37, eo37⟩ := Kd.R_slice HO286.out; subst eo37) | ((with_reducible refine gate_callee (f := 106) rfl ?_); refine goesL_ (some 43) rfl rfl Try.func106 (by kernel_rfl) rfl #[.slice Ao37 y284.length co37, .slice A0_8 l0_8.length c0_8] rfl (by (try simp only [List.map_toArray, List.map_cons, List.map_nil]); first | done | rfl | (simp only [List.length_drop, List.length_take]; rfl)) ?_; (with_reducible refine (tidelineref01_Bytes.calls k (fun k_ => some k_ = (.slice Ao37 y284.length co37 : Value).ownBlock) (.slice Ao37 y284.length co37) y284 _ _ l0_8 t287 w _ ?side1 ?side2 ?side3 ?side4 A8.out).mono ?_); (case side1 => repeat (first | (with_reducible first | exact HB.out | apply below_alloc | apply pw_below_drewN | apply below_drew1 | refine below_set ?_ GE265.out) | exact HB.out)); (case side2 => exact Kd.R_tight rfl HO286.out); (case side3 => exact Kd.C_kept_came (Kd.heap_int .u8) HR0_8.out (by repeat (first | (with_reducible first | exact HB.out | apply below_alloc | apply pw_below_drewN | apply below_drew1 | refine below_set ?_ GE265.out) | exact HB.out)) (fun k_ hs_ => (fun e_ => Kd.R_base HO286.out k_ e_.symm) hs_)); (case side4 => exact HC0_8.out); rintro e w38 ⟨v288, rfl, ho0, hb, hkp⟩; refine ⟨_, rfl, ?_⟩; have n0_ := Aside0.mk (blk_kept (by (with_reducible repeat (first | refine blk_drewN ?_ _ | refine blk_drew ?_ | refine blk_alloc ?_ _)); exact BK265.out) hkp (fun hs_ => (fun e_ => (Kd.R_ne HO286.out BK265.out (by decide)) e_) hs_)); have n1_ := Aside0.mk (Kd.R_mono (ok' := fun k_ => True) ho0 (fun k_ hk_ => trivial)); have n2_ := Aside0.mk (hb); clear BK265; clear HB; clear HO286; have BK265 := n0_; have HO289 := n1_; have HB := n2_; clear n0_ n1_ n2_; (try clear hb); (try clear hkp); (try clear ho0)))
      have n0_ := Aside0.mk (Kd.R_drew HO289.out)
      have n1_ := Aside0.mk (blk_drew BK265.out)
      have n2_ := Aside0.mk (below_drew1 HB.out)
      clear HO289
      clear BK265
      clear HB
      have HO289 := n0_
      have BK265 := n1_
      have HB := n2_
      clear n0_ n1_ n2_
      obtain ⟨Ao40, co40, eo40⟩ := Kd.R_slice HO289.out
      (first | subst eo40 | (injection eo40 with f1_ f2_ f3_; have f4_ := f1_.symm; have f5_ := f3_.symm; clear f1_ f2_ f3_; subst f4_; subst f5_))
      refine start_ (n := 10) (S := fun w' => w'.cell? ⟨gb265, 0, none⟩ = some (.int .i64 a0_0) ∧ w'.cell? ⟨gb265, 1, none⟩ = some (.int .i64 a0_1) ∧ w'.cell? ⟨gb265, 2, none⟩ = some (.int .i64 a0_2) ∧ w'.cell? ⟨gb265, 3, none⟩ = some (.bool a0_3) ∧ w'.cell? ⟨gb265, 4, none⟩ = some (.int .i64 a0_4) ∧ w'.cell? ⟨gb265, 5, none⟩ = some (.int .i64 a0_5) ∧ w'.cell? ⟨gb265, 6, none⟩ = some (.int .i64 a0_6) ∧ w'.cell? ⟨gb265, 7, none⟩ = some (.int .i64 a0_7) ∧ w'.cell? ⟨gb265, 8, none⟩ = some (.slice A0_8 l0_8.length c0_8) ∧ w'.cell? ⟨gb265, 9, none⟩ = some (.int .i64 a0_9) ∧ w'.cell? ⟨gb265, 10, none⟩ = some (.int .i64 a0_10) ∧ w'.cell? ⟨gb265, 11, none⟩ = some (.slice A0_11 l0_11.length c0_11) ∧ w'.cell? ⟨gb265, 12, none⟩ = some (.int .i64 a0_12) ∧ w'.cell? ⟨gb265, 13, none⟩ = some (.int .i64 a0_13) ∧ w'.cell? ⟨gb265, 14, none⟩ = some (.int .i64 a0_14) ∧ w'.cell? ⟨gb265, 15, none⟩ = some (.int .i64 a0_15)) (ds := []) #[false, false, false, false, false, false, false, false, false, false] (by kernel_rfl) rfl rfl ⟨(blk_cell BK265.out 0).trans rfl, (blk_cell BK265.out 1).trans rfl, (blk_cell BK265.out 2).trans rfl, (blk_cell BK265.out 3).trans rfl, (blk_cell BK265.out 4).trans rfl, (blk_cell BK265.out 5).trans rfl, (blk_cell BK265.out 6).trans rfl, (blk_cell BK265.out 7).trans rfl, (blk_cell BK265.out 8).trans rfl, (blk_cell BK265.out 9).trans rfl, (blk_cell BK265.out 10).trans rfl, (blk_cell BK265.out 11).trans rfl, (blk_cell BK265.out 12).trans rfl, (blk_cell BK265.out 13).trans rfl, (blk_cell BK265.out 14).trans rfl, (blk_cell BK265.out 15).trans rfl⟩ (fun hHeld => ?_); refine with_tabW tidelineref12_Encode.tab8 tidelineref12_Encode.bits8 (fun HT_ HW_ => ?_)
      generalize w38.drew = w39 at HO289 BK265 HB hHeld ⊢
      refine pure_ (i := 0) (N := some 44) (v := ?_) (a' := ?_) #[true, false, false, false, false, false, false, false, false, false] rfl rfl (any_of HT_.out (by kernel_rfl)) (fun _ _ _ h => h) (Or.inl ⟨by rfl, ?_⟩) ?_ ?_
      rotate_left
      · intro w'
        go_simp
        with_reducible rfl
      rotate_left
      · simp only [Act.put, List.setIfInBounds_toArray, List.set_cons_zero, List.set_cons_succ, i64_w, i32_w]
        rfl
      refine pure_ (i := 1) (N := some 45) (v := ?_) (a' := ?_) #[true, true, false, false, false, false, false, false, false, false] rfl rfl (any_of HT_.out (by kernel_rfl)) (fun _ _ _ h => h) (Or.inl ⟨by rfl, ?_⟩) ?_ ?_
      rotate_left
      · intro w'
        go_simp
        with_reducible rfl
      rotate_left
      · simp only [Act.put, List.setIfInBounds_toArray, List.set_cons_zero, List.set_cons_succ, i64_w, i32_w]
        rfl
      refine pure_ (i := 2) (N := some 46) (v := ?_) (a' := ?_) #[true, true, true, false, false, false, false, false, false, false] rfl rfl (any_of HT_.out (by kernel_rfl)) (fun _ _ _ h => h) (Or.inl ⟨by rfl, ?_⟩) ?_ ?_
      rotate_left
      · intro w'
        go_simp
        with_reducible rfl
      rotate_left
      · simp only [Act.put, List.setIfInBounds_toArray, List.set_cons_zero, List.set_cons_succ, i64_w, i32_w]
        rfl
      refine pure_ (i := 5) (N := some 49) (v := ?_) (a' := ?_) #[true, true, true, false, false, true, false, false, false, false] rfl rfl (any_of HT_.out (by kernel_rfl)) (fun _ _ _ h => h) (Or.inl ⟨by rfl, ?_⟩) ?_ ?_
      rotate_left
      · intro w'
        go_simp
        with_reducible rfl
      rotate_left
      · simp only [Act.put, List.setIfInBounds_toArray, List.set_cons_zero, List.set_cons_succ, i64_w, i32_w]
        rfl
      refine pure_ (i := 6) (N := some 50) (v := ?_) (a' := ?_) #[true, true, true, false, false, true, true, false, false, false] rfl rfl (any_of HT_.out (by kernel_rfl)) (fun _ _ _ h => h) (Or.inl ⟨by rfl, ?_⟩) ?_ ?_
      rotate_left
      · intro w'
        go_simp
        with_reducible rfl
      rotate_left
      · simp only [Act.put, List.setIfInBounds_toArray, List.set_cons_zero, List.set_cons_succ, i64_w, i32_w]
        rfl
      refine take_ (i := 3) (N := some 47) (v := ?_) (a' := ?_) #[true, true, true, true, false, true, true, false, false, false] rfl rfl (take_ofW HT_.out HW_.out (by kernel_rfl)) (fun _ _ _ h => h) (Or.inl ⟨by rfl, ?_⟩) hHeld ?_ ?_
      rotate_left
      · rintro w' ⟨s0, s1, s2, s3, s4, s5, s6, s7, s8, s9, s10, s11, s12, s13, s14, s15⟩
        go_simp
        with_reducible rfl
      rotate_left
      · simp only [Act.put, List.setIfInBounds_toArray, List.set_cons_zero, List.set_cons_succ, i64_w, i32_w]
        rfl
      refine take_ (i := 7) (N := some 51) (v := ?_) (a' := ?_) #[true, true, true, true, false, true, true, true, false, false] rfl rfl (take_ofW HT_.out HW_.out (by kernel_rfl)) (fun _ _ _ h => h) (Or.inl ⟨by rfl, ?_⟩) hHeld ?_ ?_
      rotate_left
      · rintro w' ⟨s0, s1, s2, s3, s4, s5, s6, s7, s8, s9, s10, s11, s12, s13, s14, s15⟩
        go_simp
        with_reducible rfl
      rotate_left
      · simp only [Act.put, List.setIfInBounds_toArray, List.set_cons_zero, List.set_cons_succ, i64_w, i32_w]
        rfl
      refine one_ (i := 4) (N := some 48) #[true, true, true, true, true, true, true, true, false, false] rfl rfl (one_of HT_.out (by kernel_rfl)) (by decide) (fun K hK => ?_)
      refine goes_ Try.func132 (by kernel_rfl) rfl #[.slice Ao40 t287.length co40, .int .i64 a0_9] (by rfl) rfl rfl (by (try simp only [List.map_toArray, List.map_cons, List.map_nil]); first | done | rfl | (simp only [List.length_drop, List.length_take]; rfl)) ?_
      with_reducible refine (tidelineref05_Int.calls k (fun k_ => some k_ = (.slice Ao40 t287.length co40 : Value).ownBlock) (.slice Ao40 t287.length co40) t287 a0_9 t290 w _ ?side1 ?side2 A9.out).mono ?_
      (case side1 => repeat (first | (with_reducible first | exact HB.out | apply below_alloc | apply pw_below_drewN | apply below_drew1 | refine below_set ?_ GE265.out) | exact HB.out))
      (case side2 => exact Kd.R_tight rfl HO289.out)
      rintro e w41 ⟨v291, rfl, ho0, hb, hkp⟩
      refine ⟨_, rfl, ?_⟩
      have n0_ := Aside0.mk (blk_kept (by (with_reducible repeat (first | refine blk_drewN ?_ _ | refine blk_drew ?_ | refine blk_alloc ?_ _)); exact BK265.out) hkp (fun hs_ => (fun e_ => (Kd.R_ne HO289.out BK265.out (by decide)) e_) hs_))
      have n1_ := Aside0.mk (Kd.R_mono (ok' := fun k_ => True) ho0 (fun k_ hk_ => trivial))
      have n2_ := Aside0.mk (hb)
      clear BK265
      clear HB
      clear HO289
      have BK265 := n0_
      have HO292 := n1_
      have HB := n2_
      clear n0_ n1_ n2_
      (try clear hb)
      (try clear hkp)
      (try clear ho0)
      obtain ⟨Ao42, co42, eo42⟩ := Kd.R_slice HO292.out
      (first | subst eo42 | (injection eo42 with f1_ f2_ f3_; have f4_ := f1_.symm; have f5_ := f3_.symm; clear f1_ f2_ f3_; subst f4_; subst f5_))
      refine hK.out _ _ ⟨(blk_cell BK265.out 0).trans rfl, (blk_cell BK265.out 1).trans rfl, (blk_cell BK265.out 2).trans rfl, (blk_cell BK265.out 3).trans rfl, (blk_cell BK265.out 4).trans rfl, (blk_cell BK265.out 5).trans rfl, (blk_cell BK265.out 6).trans rfl, (blk_cell BK265.out 7).trans rfl, (blk_cell BK265.out 8).trans rfl, (blk_cell BK265.out 9).trans rfl, (blk_cell BK265.out 10).trans rfl, (blk_cell BK265.out 11).trans rfl, (blk_cell BK265.out 12).trans rfl, (blk_cell BK265.out 13).trans rfl, (blk_cell BK265.out 14).trans rfl, (blk_cell BK265.out 15).trans rfl⟩ (fun hHeld => ?_)
      clear hK K
      refine norm_ (a' := ?_) ?_ ?_
      rotate_left
      · show Act.put _ (some 48) _ = _
        simp only [Act.put, List.setIfInBounds_toArray, List.set_cons_zero, List.set_cons_succ, i64_w, i32_w]
        rfl
      refine one_ (i := 8) (N := some 52) #[true, true, true, true, true, true, true, true, true, false] rfl rfl (one_of HT_.out (by kernel_rfl)) (by decide) (fun K hK => ?_)
      refine goes_ Try.func132 (by kernel_rfl) rfl #[.slice Ao42 t290.length co42, .int .i64 a0_10] (by rfl) rfl rfl (by (try simp only [List.map_toArray, List.map_cons, List.map_nil]); first | done | rfl | (simp only [List.length_drop, List.length_take]; rfl)) ?_
      with_reducible refine (tidelineref05_Int.calls k (fun k_ => some k_ = (.slice Ao42 t290.length co42 : Value).ownBlock) (.slice Ao42 t290.length co42) t290 a0_10 t293 w _ ?side1 ?side2 A10.out).mono ?_
      (case side1 => repeat (first | (with_reducible first | exact HB.out | apply below_alloc | apply pw_below_drewN | apply below_drew1 | refine below_set ?_ GE265.out) | exact HB.out))
      (case side2 => exact Kd.R_tight rfl HO292.out)
      rintro e w43 ⟨v294, rfl, ho0, hb, hkp⟩
      refine ⟨_, rfl, ?_⟩
      have n0_ := Aside0.mk (blk_kept (by (with_reducible repeat (first | refine blk_drewN ?_ _ | refine blk_drew ?_ | refine blk_alloc ?_ _)); exact BK265.out) hkp (fun hs_ => (fun e_ => (Kd.R_ne HO292.out BK265.out (by decide)) e_) hs_))
      have n1_ := Aside0.mk (Kd.R_mono (ok' := fun k_ => True) ho0 (fun k_ hk_ => trivial))
      have n2_ := Aside0.mk (hb)
      clear BK265
      clear HB
      clear HO292
      have BK265 := n0_
      have HO295 := n1_
      have HB := n2_
      clear n0_ n1_ n2_
      (try clear hb)
      (try clear hkp)
      (try clear ho0)
      refine hK.out _ _ ⟨(blk_cell BK265.out 0).trans rfl, (blk_cell BK265.out 1).trans rfl, (blk_cell BK265.out 2).trans rfl, (blk_cell BK265.out 3).trans rfl, (blk_cell BK265.out 4).trans rfl, (blk_cell BK265.out 5).trans rfl, (blk_cell BK265.out 6).trans rfl, (blk_cell BK265.out 7).trans rfl, (blk_cell BK265.out 8).trans rfl, (blk_cell BK265.out 9).trans rfl, (blk_cell BK265.out 10).trans rfl, (blk_cell BK265.out 11).trans rfl, (blk_cell BK265.out 12).trans rfl, (blk_cell BK265.out 13).trans rfl, (blk_cell BK265.out 14).trans rfl, (blk_cell BK265.out 15).trans rfl⟩ (fun hHeld => ?_)
      clear hK K
      refine norm_ (a' := ?_) ?_ ?_
      rotate_left
      · show Act.put _ (some 52) _ = _
        simp only [Act.put, List.setIfInBounds_toArray, List.set_cons_zero, List.set_cons_succ, i64_w, i32_w]
        rfl
      refine pure_ (i := 9) (N := some 3) (v := ?_) (a' := ?_) #[true, true, true, true, true, true, true, true, true, true] rfl rfl (any_of HT_.out (by kernel_rfl)) (fun _ _ _ h => h) (Or.inl ⟨by rfl, ?_⟩) ?_ ?_
      rotate_left
      · intro w'
        go_simp
        with_reducible rfl
      rotate_left
      · simp only [Act.put, List.setIfInBounds_toArray, List.set_cons_zero, List.set_cons_succ, i64_w, i32_w]
        rfl
      refine done_ (done_of HT_.out (by kernel_rfl)) ?_
      have hcz44_0 : w43.cell? ⟨gb265, 0, none⟩ = some (.int .i64 a0_0) := (blk_cell BK265.out 0).trans rfl
      have hcz44_1 : w43.cell? ⟨gb265, 1, none⟩ = some (.int .i64 a0_1) := (blk_cell BK265.out 1).trans rfl
      have hcz44_2 : w43.cell? ⟨gb265, 2, none⟩ = some (.int .i64 a0_2) := (blk_cell BK265.out 2).trans rfl
      have hcz44_3 : w43.cell? ⟨gb265, 3, none⟩ = some (.bool a0_3) := (blk_cell BK265.out 3).trans rfl
      have hcz44_4 : w43.cell? ⟨gb265, 4, none⟩ = some (.int .i64 a0_4) := (blk_cell BK265.out 4).trans rfl
      have hcz44_5 : w43.cell? ⟨gb265, 5, none⟩ = some (.int .i64 a0_5) := (blk_cell BK265.out 5).trans rfl
      have hcz44_6 : w43.cell? ⟨gb265, 6, none⟩ = some (.int .i64 a0_6) := (blk_cell BK265.out 6).trans rfl
      have hcz44_7 : w43.cell? ⟨gb265, 7, none⟩ = some (.int .i64 a0_7) := (blk_cell BK265.out 7).trans rfl
      have hcz44_8 : w43.cell? ⟨gb265, 8, none⟩ = some (.slice A0_8 l0_8.length c0_8) := (blk_cell BK265.out 8).trans rfl
      have hcz44_9 : w43.cell? ⟨gb265, 9, none⟩ = some (.int .i64 a0_9) := (blk_cell BK265.out 9).trans rfl
      have hcz44_10 : w43.cell? ⟨gb265, 10, none⟩ = some (.int .i64 a0_10) := (blk_cell BK265.out 10).trans rfl
      have hcz44_11 : w43.cell? ⟨gb265, 11, none⟩ = some (.slice A0_11 l0_11.length c0_11) := (blk_cell BK265.out 11).trans rfl
      have hcz44_12 : w43.cell? ⟨gb265, 12, none⟩ = some (.int .i64 a0_12) := (blk_cell BK265.out 12).trans rfl
      have hcz44_13 : w43.cell? ⟨gb265, 13, none⟩ = some (.int .i64 a0_13) := (blk_cell BK265.out 13).trans rfl
      have hcz44_14 : w43.cell? ⟨gb265, 14, none⟩ = some (.int .i64 a0_14) := (blk_cell BK265.out 14).trans rfl
      have hcz44_15 : w43.cell? ⟨gb265, 15, none⟩ = some (.int .i64 a0_15) := (blk_cell BK265.out 15).trans rfl
      have hfz44_0 := blk_frozen BK265.out 0
      have hfz44_1 := blk_frozen BK265.out 1
      have hfz44_2 := blk_frozen BK265.out 2
      have hfz44_3 := blk_frozen BK265.out 3
      have hfz44_4 := blk_frozen BK265.out 4
      have hfz44_5 := blk_frozen BK265.out 5
      have hfz44_6 := blk_frozen BK265.out 6
      have hfz44_7 := blk_frozen BK265.out 7
      have hfz44_8 := blk_frozen BK265.out 8
      have hfz44_9 := blk_frozen BK265.out 9
      have hfz44_10 := blk_frozen BK265.out 10
      have hfz44_11 := blk_frozen BK265.out 11
      have hfz44_12 := blk_frozen BK265.out 12
      have hfz44_13 := blk_frozen BK265.out 13
      have hfz44_14 := blk_frozen BK265.out 14
      have hfz44_15 := blk_frozen BK265.out 15
      obtain ⟨Ao45, co45, eo45⟩ := Kd.R_slice HO295.out
      subst eo45
      try go_wp2_with (first | ((with_reducible refine gate_callee (f := 106) rfl ?_); refine goesL_ (some 56) rfl rfl Try.func106 (by kernel_rfl) rfl #[.slice Ao45 t293.length co45, .slice A0_11 l0_11.length c0_11] rfl (by (try simp only [List.map_toArray, List.map_cons, List.map_nil]); first | done | rfl | (simp only [List.length_drop, List.length_take]; rfl)) ?_; (with_reducible refine (tidelineref01_Bytes.calls k (fun k_ => some k_ = (.slice Ao45 t293.length co45 : Value).ownBlock) (.slice Ao45 t293.length co45) t293 _ _ l0_11 t296 w _ ?side1 ?side2 ?side3 ?side4 A11.out).mono ?_); (case side1 => repeat (first | (with_reducible first | exact HB.out | apply below_alloc | apply pw_below_drewN | apply below_drew1 | refine below_set ?_ GE265.out) | exact HB.out)); (case side2 => exact Kd.R_tight rfl HO295.out); (case side3 => exact Kd.C_kept_came (Kd.heap_int .u8) HR0_11.out (by repeat (first | (with_reducible first | exact HB.out | apply below_alloc | apply pw_below_drewN | apply below_drew1 | refine below_set ?_ GE265.out) | exact HB.out)) (fun k_ hs_ => (fun e_ => Kd.R_base HO295.out k_ e_.symm) hs_)); (case side4 => exact HC0_11.out); rintro e w46 ⟨v297, rfl, ho0, hb, hkp⟩; refine ⟨_, rfl, ?_⟩; have n0_ := Aside0.mk (blk_kept (by (with_reducible repeat (first | refine blk_drewN ?_ _ | refine blk_drew ?_ | refine blk_alloc ?_ _)); exact BK265.out) hkp (fun hs_ => (fun e_ => (Kd.R_ne HO295.out BK265.out (by decide)) e_) hs_)); have n1_ := Aside0.mk (Kd.R_mono (ok' := fun k_ => True) ho0 (fun k_ hk_ => trivial)); have n2_ := Aside0.mk (hb); clear BK265; clear HB; clear HO295; have BK265 := n0_; have HO298 := n1_; have HB := n2_; clear n0_ n1_ n2_; (try clear hb); (try clear hkp); (try clear ho0)))
      have n0_ := Aside0.mk (Kd.R_drew HO298.out)
      have n1_ := Aside0.mk (blk_drew BK265.out)
      have n2_ := Aside0.mk (below_drew1 HB.out)
      clear HO298
      clear BK265
      clear HB
      have HO298 := n0_
      have BK265 := n1_
      have HB := n2_
      clear n0_ n1_ n2_
      obtain ⟨Ao48, co48, eo48⟩ := Kd.R_slice HO298.out
      (first | subst eo48 | (injection eo48 with f1_ f2_ f3_; have f4_ := f1_.symm; have f5_ := f3_.symm; clear f1_ f2_ f3_; subst f4_; subst f5_))
      refine start_ (n := 8) (S := fun w' => w'.cell? ⟨gb265, 0, none⟩ = some (.int .i64 a0_0) ∧ w'.cell? ⟨gb265, 1, none⟩ = some (.int .i64 a0_1) ∧ w'.cell? ⟨gb265, 2, none⟩ = some (.int .i64 a0_2) ∧ w'.cell? ⟨gb265, 3, none⟩ = some (.bool a0_3) ∧ w'.cell? ⟨gb265, 4, none⟩ = some (.int .i64 a0_4) ∧ w'.cell? ⟨gb265, 5, none⟩ = some (.int .i64 a0_5) ∧ w'.cell? ⟨gb265, 6, none⟩ = some (.int .i64 a0_6) ∧ w'.cell? ⟨gb265, 7, none⟩ = some (.int .i64 a0_7) ∧ w'.cell? ⟨gb265, 8, none⟩ = some (.slice A0_8 l0_8.length c0_8) ∧ w'.cell? ⟨gb265, 9, none⟩ = some (.int .i64 a0_9) ∧ w'.cell? ⟨gb265, 10, none⟩ = some (.int .i64 a0_10) ∧ w'.cell? ⟨gb265, 11, none⟩ = some (.slice A0_11 l0_11.length c0_11) ∧ w'.cell? ⟨gb265, 12, none⟩ = some (.int .i64 a0_12) ∧ w'.cell? ⟨gb265, 13, none⟩ = some (.int .i64 a0_13) ∧ w'.cell? ⟨gb265, 14, none⟩ = some (.int .i64 a0_14) ∧ w'.cell? ⟨gb265, 15, none⟩ = some (.int .i64 a0_15)) (ds := []) #[false, false, false, false, false, false, false, false] (by kernel_rfl) rfl rfl ⟨(blk_cell BK265.out 0).trans rfl, (blk_cell BK265.out 1).trans rfl, (blk_cell BK265.out 2).trans rfl, (blk_cell BK265.out 3).trans rfl, (blk_cell BK265.out 4).trans rfl, (blk_cell BK265.out 5).trans rfl, (blk_cell BK265.out 6).trans rfl, (blk_cell BK265.out 7).trans rfl, (blk_cell BK265.out 8).trans rfl, (blk_cell BK265.out 9).trans rfl, (blk_cell BK265.out 10).trans rfl, (blk_cell BK265.out 11).trans rfl, (blk_cell BK265.out 12).trans rfl, (blk_cell BK265.out 13).trans rfl, (blk_cell BK265.out 14).trans rfl, (blk_cell BK265.out 15).trans rfl⟩ (fun hHeld => ?_); refine with_tabW tidelineref12_Encode.tab10 tidelineref12_Encode.bits10 (fun HT_ HW_ => ?_)
      generalize w46.drew = w47 at HO298 BK265 HB hHeld ⊢
      refine pure_ (i := 0) (N := some 57) (v := ?_) (a' := ?_) #[true, false, false, false, false, false, false, false] rfl rfl (any_of HT_.out (by kernel_rfl)) (fun _ _ _ h => h) (Or.inl ⟨by rfl, ?_⟩) ?_ ?_
      rotate_left
      · intro w'
        go_simp
        with_reducible rfl
      rotate_left
      · simp only [Act.put, List.setIfInBounds_toArray, List.set_cons_zero, List.set_cons_succ, i64_w, i32_w]
        rfl
      refine pure_ (i := 1) (N := some 58) (v := ?_) (a' := ?_) #[true, true, false, false, false, false, false, false] rfl rfl (any_of HT_.out (by kernel_rfl)) (fun _ _ _ h => h) (Or.inl ⟨by rfl, ?_⟩) ?_ ?_
      rotate_left
      · intro w'
        go_simp
        with_reducible rfl
      rotate_left
      · simp only [Act.put, List.setIfInBounds_toArray, List.set_cons_zero, List.set_cons_succ, i64_w, i32_w]
        rfl
      refine pure_ (i := 4) (N := some 61) (v := ?_) (a' := ?_) #[true, true, false, false, true, false, false, false] rfl rfl (any_of HT_.out (by kernel_rfl)) (fun _ _ _ h => h) (Or.inl ⟨by rfl, ?_⟩) ?_ ?_
      rotate_left
      · intro w'
        go_simp
        with_reducible rfl
      rotate_left
      · simp only [Act.put, List.setIfInBounds_toArray, List.set_cons_zero, List.set_cons_succ, i64_w, i32_w]
        rfl
      refine take_ (i := 2) (N := some 59) (v := ?_) (a' := ?_) #[true, true, true, false, true, false, false, false] rfl rfl (take_ofW HT_.out HW_.out (by kernel_rfl)) (fun _ _ _ h => h) (Or.inl ⟨by rfl, ?_⟩) hHeld ?_ ?_
      rotate_left
      · rintro w' ⟨s0, s1, s2, s3, s4, s5, s6, s7, s8, s9, s10, s11, s12, s13, s14, s15⟩
        go_simp
        with_reducible rfl
      rotate_left
      · simp only [Act.put, List.setIfInBounds_toArray, List.set_cons_zero, List.set_cons_succ, i64_w, i32_w]
        rfl
      refine take_ (i := 5) (N := some 62) (v := ?_) (a' := ?_) #[true, true, true, false, true, true, false, false] rfl rfl (take_ofW HT_.out HW_.out (by kernel_rfl)) (fun _ _ _ h => h) (Or.inl ⟨by rfl, ?_⟩) hHeld ?_ ?_
      rotate_left
      · rintro w' ⟨s0, s1, s2, s3, s4, s5, s6, s7, s8, s9, s10, s11, s12, s13, s14, s15⟩
        go_simp
        with_reducible rfl
      rotate_left
      · simp only [Act.put, List.setIfInBounds_toArray, List.set_cons_zero, List.set_cons_succ, i64_w, i32_w]
        rfl
      refine one_ (i := 3) (N := some 60) #[true, true, true, true, true, true, false, false] rfl rfl (one_of HT_.out (by kernel_rfl)) (by decide) (fun K hK => ?_)
      refine goes_ Try.func132 (by kernel_rfl) rfl #[.slice Ao48 t296.length co48, .int .i64 a0_12] (by rfl) rfl rfl (by (try simp only [List.map_toArray, List.map_cons, List.map_nil]); first | done | rfl | (simp only [List.length_drop, List.length_take]; rfl)) ?_
      with_reducible refine (tidelineref05_Int.calls k (fun k_ => some k_ = (.slice Ao48 t296.length co48 : Value).ownBlock) (.slice Ao48 t296.length co48) t296 a0_12 t299 w _ ?side1 ?side2 A12.out).mono ?_
      (case side1 => repeat (first | (with_reducible first | exact HB.out | apply below_alloc | apply pw_below_drewN | apply below_drew1 | refine below_set ?_ GE265.out) | exact HB.out))
      (case side2 => exact Kd.R_tight rfl HO298.out)
      rintro e w49 ⟨v300, rfl, ho0, hb, hkp⟩
      refine ⟨_, rfl, ?_⟩
      have n0_ := Aside0.mk (blk_kept (by (with_reducible repeat (first | refine blk_drewN ?_ _ | refine blk_drew ?_ | refine blk_alloc ?_ _)); exact BK265.out) hkp (fun hs_ => (fun e_ => (Kd.R_ne HO298.out BK265.out (by decide)) e_) hs_))
      have n1_ := Aside0.mk (Kd.R_mono (ok' := fun k_ => True) ho0 (fun k_ hk_ => trivial))
      have n2_ := Aside0.mk (hb)
      clear BK265
      clear HB
      clear HO298
      have BK265 := n0_
      have HO301 := n1_
      have HB := n2_
      clear n0_ n1_ n2_
      (try clear hb)
      (try clear hkp)
      (try clear ho0)
      obtain ⟨Ao50, co50, eo50⟩ := Kd.R_slice HO301.out
      (first | subst eo50 | (injection eo50 with f1_ f2_ f3_; have f4_ := f1_.symm; have f5_ := f3_.symm; clear f1_ f2_ f3_; subst f4_; subst f5_))
      refine hK.out _ _ ⟨(blk_cell BK265.out 0).trans rfl, (blk_cell BK265.out 1).trans rfl, (blk_cell BK265.out 2).trans rfl, (blk_cell BK265.out 3).trans rfl, (blk_cell BK265.out 4).trans rfl, (blk_cell BK265.out 5).trans rfl, (blk_cell BK265.out 6).trans rfl, (blk_cell BK265.out 7).trans rfl, (blk_cell BK265.out 8).trans rfl, (blk_cell BK265.out 9).trans rfl, (blk_cell BK265.out 10).trans rfl, (blk_cell BK265.out 11).trans rfl, (blk_cell BK265.out 12).trans rfl, (blk_cell BK265.out 13).trans rfl, (blk_cell BK265.out 14).trans rfl, (blk_cell BK265.out 15).trans rfl⟩ (fun hHeld => ?_)
      clear hK K
      refine norm_ (a' := ?_) ?_ ?_
      rotate_left
      · show Act.put _ (some 60) _ = _
        simp only [Act.put, List.setIfInBounds_toArray, List.set_cons_zero, List.set_cons_succ, i64_w, i32_w]
        rfl
      refine one_ (i := 6) (N := some 63) #[true, true, true, true, true, true, true, false] rfl rfl (one_of HT_.out (by kernel_rfl)) (by decide) (fun K hK => ?_)
      refine goes_ Try.func132 (by kernel_rfl) rfl #[.slice Ao50 t299.length co50, .int .i64 a0_13] (by rfl) rfl rfl (by (try simp only [List.map_toArray, List.map_cons, List.map_nil]); first | done | rfl | (simp only [List.length_drop, List.length_take]; rfl)) ?_
      with_reducible refine (tidelineref05_Int.calls k (fun k_ => some k_ = (.slice Ao50 t299.length co50 : Value).ownBlock) (.slice Ao50 t299.length co50) t299 a0_13 t302 w _ ?side1 ?side2 A13.out).mono ?_
      (case side1 => repeat (first | (with_reducible first | exact HB.out | apply below_alloc | apply pw_below_drewN | apply below_drew1 | refine below_set ?_ GE265.out) | exact HB.out))
      (case side2 => exact Kd.R_tight rfl HO301.out)
      rintro e w51 ⟨v303, rfl, ho0, hb, hkp⟩
      refine ⟨_, rfl, ?_⟩
      have n0_ := Aside0.mk (blk_kept (by (with_reducible repeat (first | refine blk_drewN ?_ _ | refine blk_drew ?_ | refine blk_alloc ?_ _)); exact BK265.out) hkp (fun hs_ => (fun e_ => (Kd.R_ne HO301.out BK265.out (by decide)) e_) hs_))
      have n1_ := Aside0.mk (Kd.R_mono (ok' := fun k_ => True) ho0 (fun k_ hk_ => trivial))
      have n2_ := Aside0.mk (hb)
      clear BK265
      clear HB
      clear HO301
      have BK265 := n0_
      have HO304 := n1_
      have HB := n2_
      clear n0_ n1_ n2_
      (try clear hb)
      (try clear hkp)
      (try clear ho0)
      refine hK.out _ _ ⟨(blk_cell BK265.out 0).trans rfl, (blk_cell BK265.out 1).trans rfl, (blk_cell BK265.out 2).trans rfl, (blk_cell BK265.out 3).trans rfl, (blk_cell BK265.out 4).trans rfl, (blk_cell BK265.out 5).trans rfl, (blk_cell BK265.out 6).trans rfl, (blk_cell BK265.out 7).trans rfl, (blk_cell BK265.out 8).trans rfl, (blk_cell BK265.out 9).trans rfl, (blk_cell BK265.out 10).trans rfl, (blk_cell BK265.out 11).trans rfl, (blk_cell BK265.out 12).trans rfl, (blk_cell BK265.out 13).trans rfl, (blk_cell BK265.out 14).trans rfl, (blk_cell BK265.out 15).trans rfl⟩ (fun hHeld => ?_)
      clear hK K
      refine norm_ (a' := ?_) ?_ ?_
      rotate_left
      · show Act.put _ (some 63) _ = _
        simp only [Act.put, List.setIfInBounds_toArray, List.set_cons_zero, List.set_cons_succ, i64_w, i32_w]
        rfl
      refine pure_ (i := 7) (N := some 3) (v := ?_) (a' := ?_) #[true, true, true, true, true, true, true, true] rfl rfl (any_of HT_.out (by kernel_rfl)) (fun _ _ _ h => h) (Or.inl ⟨by rfl, ?_⟩) ?_ ?_
      rotate_left
      · intro w'
        go_simp
        with_reducible rfl
      rotate_left
      · simp only [Act.put, List.setIfInBounds_toArray, List.set_cons_zero, List.set_cons_succ, i64_w, i32_w]
        rfl
      refine done_ (done_of HT_.out (by kernel_rfl)) ?_
      try go_wp2
      have n0_ := Aside0.mk (Kd.R_drew HO304.out)
      have n1_ := Aside0.mk (blk_drew BK265.out)
      have n2_ := Aside0.mk (below_drew1 HB.out)
      clear HO304
      clear BK265
      clear HB
      have HO304 := n0_
      have BK265 := n1_
      have HB := n2_
      clear n0_ n1_ n2_
      obtain ⟨Ao53, co53, eo53⟩ := Kd.R_slice HO304.out
      (first | subst eo53 | (injection eo53 with f1_ f2_ f3_; have f4_ := f1_.symm; have f5_ := f3_.symm; clear f1_ f2_ f3_; subst f4_; subst f5_))
      refine start_ (n := 8) (S := fun w' => w'.cell? ⟨gb265, 0, none⟩ = some (.int .i64 a0_0) ∧ w'.cell? ⟨gb265, 1, none⟩ = some (.int .i64 a0_1) ∧ w'.cell? ⟨gb265, 2, none⟩ = some (.int .i64 a0_2) ∧ w'.cell? ⟨gb265, 3, none⟩ = some (.bool a0_3) ∧ w'.cell? ⟨gb265, 4, none⟩ = some (.int .i64 a0_4) ∧ w'.cell? ⟨gb265, 5, none⟩ = some (.int .i64 a0_5) ∧ w'.cell? ⟨gb265, 6, none⟩ = some (.int .i64 a0_6) ∧ w'.cell? ⟨gb265, 7, none⟩ = some (.int .i64 a0_7) ∧ w'.cell? ⟨gb265, 8, none⟩ = some (.slice A0_8 l0_8.length c0_8) ∧ w'.cell? ⟨gb265, 9, none⟩ = some (.int .i64 a0_9) ∧ w'.cell? ⟨gb265, 10, none⟩ = some (.int .i64 a0_10) ∧ w'.cell? ⟨gb265, 11, none⟩ = some (.slice A0_11 l0_11.length c0_11) ∧ w'.cell? ⟨gb265, 12, none⟩ = some (.int .i64 a0_12) ∧ w'.cell? ⟨gb265, 13, none⟩ = some (.int .i64 a0_13) ∧ w'.cell? ⟨gb265, 14, none⟩ = some (.int .i64 a0_14) ∧ w'.cell? ⟨gb265, 15, none⟩ = some (.int .i64 a0_15)) (ds := []) #[false, false, false, false, false, false, false, false] (by kernel_rfl) rfl rfl ⟨(blk_cell BK265.out 0).trans rfl, (blk_cell BK265.out 1).trans rfl, (blk_cell BK265.out 2).trans rfl, (blk_cell BK265.out 3).trans rfl, (blk_cell BK265.out 4).trans rfl, (blk_cell BK265.out 5).trans rfl, (blk_cell BK265.out 6).trans rfl, (blk_cell BK265.out 7).trans rfl, (blk_cell BK265.out 8).trans rfl, (blk_cell BK265.out 9).trans rfl, (blk_cell BK265.out 10).trans rfl, (blk_cell BK265.out 11).trans rfl, (blk_cell BK265.out 12).trans rfl, (blk_cell BK265.out 13).trans rfl, (blk_cell BK265.out 14).trans rfl, (blk_cell BK265.out 15).trans rfl⟩ (fun hHeld => ?_); refine with_tabW tidelineref12_Encode.tab11 tidelineref12_Encode.bits11 (fun HT_ HW_ => ?_)
      generalize w51.drew = w52 at HO304 BK265 HB hHeld ⊢
      refine pure_ (i := 0) (N := some 64) (v := ?_) (a' := ?_) #[true, false, false, false, false, false, false, false] rfl rfl (any_of HT_.out (by kernel_rfl)) (fun _ _ _ h => h) (Or.inl ⟨by rfl, ?_⟩) ?_ ?_
      rotate_left
      · intro w'
        go_simp
        with_reducible rfl
      rotate_left
      · simp only [Act.put, List.setIfInBounds_toArray, List.set_cons_zero, List.set_cons_succ, i64_w, i32_w]
        rfl
      refine pure_ (i := 1) (N := some 65) (v := ?_) (a' := ?_) #[true, true, false, false, false, false, false, false] rfl rfl (any_of HT_.out (by kernel_rfl)) (fun _ _ _ h => h) (Or.inl ⟨by rfl, ?_⟩) ?_ ?_
      rotate_left
      · intro w'
        go_simp
        with_reducible rfl
      rotate_left
      · simp only [Act.put, List.setIfInBounds_toArray, List.set_cons_zero, List.set_cons_succ, i64_w, i32_w]
        rfl
      refine pure_ (i := 4) (N := some 68) (v := ?_) (a' := ?_) #[true, true, false, false, true, false, false, false] rfl rfl (any_of HT_.out (by kernel_rfl)) (fun _ _ _ h => h) (Or.inl ⟨by rfl, ?_⟩) ?_ ?_
      rotate_left
      · intro w'
        go_simp
        with_reducible rfl
      rotate_left
      · simp only [Act.put, List.setIfInBounds_toArray, List.set_cons_zero, List.set_cons_succ, i64_w, i32_w]
        rfl
      refine take_ (i := 2) (N := some 66) (v := ?_) (a' := ?_) #[true, true, true, false, true, false, false, false] rfl rfl (take_ofW HT_.out HW_.out (by kernel_rfl)) (fun _ _ _ h => h) (Or.inl ⟨by rfl, ?_⟩) hHeld ?_ ?_
      rotate_left
      · rintro w' ⟨s0, s1, s2, s3, s4, s5, s6, s7, s8, s9, s10, s11, s12, s13, s14, s15⟩
        go_simp
        with_reducible rfl
      rotate_left
      · simp only [Act.put, List.setIfInBounds_toArray, List.set_cons_zero, List.set_cons_succ, i64_w, i32_w]
        rfl
      refine take_ (i := 5) (N := some 69) (v := ?_) (a' := ?_) #[true, true, true, false, true, true, false, false] rfl rfl (take_ofW HT_.out HW_.out (by kernel_rfl)) (fun _ _ _ h => h) (Or.inl ⟨by rfl, ?_⟩) hHeld ?_ ?_
      rotate_left
      · rintro w' ⟨s0, s1, s2, s3, s4, s5, s6, s7, s8, s9, s10, s11, s12, s13, s14, s15⟩
        go_simp
        with_reducible rfl
      rotate_left
      · simp only [Act.put, List.setIfInBounds_toArray, List.set_cons_zero, List.set_cons_succ, i64_w, i32_w]
        rfl
      refine one_ (i := 3) (N := some 67) #[true, true, true, true, true, true, false, false] rfl rfl (one_of HT_.out (by kernel_rfl)) (by decide) (fun K hK => ?_)
      refine goes_ Try.func132 (by kernel_rfl) rfl #[.slice Ao53 t302.length co53, .int .i64 a0_14] (by rfl) rfl rfl (by (try simp only [List.map_toArray, List.map_cons, List.map_nil]); first | done | rfl | (simp only [List.length_drop, List.length_take]; rfl)) ?_
      with_reducible refine (tidelineref05_Int.calls k (fun k_ => some k_ = (.slice Ao53 t302.length co53 : Value).ownBlock) (.slice Ao53 t302.length co53) t302 a0_14 t305 w _ ?side1 ?side2 A14.out).mono ?_
      (case side1 => repeat (first | (with_reducible first | exact HB.out | apply below_alloc | apply pw_below_drewN | apply below_drew1 | refine below_set ?_ GE265.out) | exact HB.out))
      (case side2 => exact Kd.R_tight rfl HO304.out)
      rintro e w54 ⟨v306, rfl, ho0, hb, hkp⟩
      refine ⟨_, rfl, ?_⟩
      have n0_ := Aside0.mk (blk_kept (by (with_reducible repeat (first | refine blk_drewN ?_ _ | refine blk_drew ?_ | refine blk_alloc ?_ _)); exact BK265.out) hkp (fun hs_ => (fun e_ => (Kd.R_ne HO304.out BK265.out (by decide)) e_) hs_))
      have n1_ := Aside0.mk (Kd.R_mono (ok' := fun k_ => True) ho0 (fun k_ hk_ => trivial))
      have n2_ := Aside0.mk (hb)
      clear BK265
      clear HB
      clear HO304
      have BK265 := n0_
      have HO307 := n1_
      have HB := n2_
      clear n0_ n1_ n2_
      (try clear hb)
      (try clear hkp)
      (try clear ho0)
      obtain ⟨Ao55, co55, eo55⟩ := Kd.R_slice HO307.out
      (first | subst eo55 | (injection eo55 with f1_ f2_ f3_; have f4_ := f1_.symm; have f5_ := f3_.symm; clear f1_ f2_ f3_; subst f4_; subst f5_))
      refine hK.out _ _ ⟨(blk_cell BK265.out 0).trans rfl, (blk_cell BK265.out 1).trans rfl, (blk_cell BK265.out 2).trans rfl, (blk_cell BK265.out 3).trans rfl, (blk_cell BK265.out 4).trans rfl, (blk_cell BK265.out 5).trans rfl, (blk_cell BK265.out 6).trans rfl, (blk_cell BK265.out 7).trans rfl, (blk_cell BK265.out 8).trans rfl, (blk_cell BK265.out 9).trans rfl, (blk_cell BK265.out 10).trans rfl, (blk_cell BK265.out 11).trans rfl, (blk_cell BK265.out 12).trans rfl, (blk_cell BK265.out 13).trans rfl, (blk_cell BK265.out 14).trans rfl, (blk_cell BK265.out 15).trans rfl⟩ (fun hHeld => ?_)
      clear hK K
      refine norm_ (a' := ?_) ?_ ?_
      rotate_left
      · show Act.put _ (some 67) _ = _
        simp only [Act.put, List.setIfInBounds_toArray, List.set_cons_zero, List.set_cons_succ, i64_w, i32_w]
        rfl
      refine one_ (i := 6) (N := some 70) #[true, true, true, true, true, true, true, false] rfl rfl (one_of HT_.out (by kernel_rfl)) (by decide) (fun K hK => ?_)
      refine goes_ Try.func132 (by kernel_rfl) rfl #[.slice Ao55 t305.length co55, .int .i64 a0_15] (by rfl) rfl rfl (by (try simp only [List.map_toArray, List.map_cons, List.map_nil]); first | done | rfl | (simp only [List.length_drop, List.length_take]; rfl)) ?_
      with_reducible refine (tidelineref05_Int.calls k (fun k_ => some k_ = (.slice Ao55 t305.length co55 : Value).ownBlock) (.slice Ao55 t305.length co55) t305 a0_15 t308 w _ ?side1 ?side2 A15.out).mono ?_
      (case side1 => repeat (first | (with_reducible first | exact HB.out | apply below_alloc | apply pw_below_drewN | apply below_drew1 | refine below_set ?_ GE265.out) | exact HB.out))
      (case side2 => exact Kd.R_tight rfl HO307.out)
      rintro e w56 ⟨v309, rfl, ho0, hb, hkp⟩
      refine ⟨_, rfl, ?_⟩
      have n0_ := Aside0.mk (blk_kept (by (with_reducible repeat (first | refine blk_drewN ?_ _ | refine blk_drew ?_ | refine blk_alloc ?_ _)); exact BK265.out) hkp (fun hs_ => (fun e_ => (Kd.R_ne HO307.out BK265.out (by decide)) e_) hs_))
      have n1_ := Aside0.mk (Kd.R_mono (ok' := fun k_ => True) ho0 (fun k_ hk_ => trivial))
      have n2_ := Aside0.mk (hb)
      clear BK265
      clear HB
      clear HO307
      have BK265 := n0_
      have HO310 := n1_
      have HB := n2_
      clear n0_ n1_ n2_
      (try clear hb)
      (try clear hkp)
      (try clear ho0)
      refine hK.out _ _ ⟨(blk_cell BK265.out 0).trans rfl, (blk_cell BK265.out 1).trans rfl, (blk_cell BK265.out 2).trans rfl, (blk_cell BK265.out 3).trans rfl, (blk_cell BK265.out 4).trans rfl, (blk_cell BK265.out 5).trans rfl, (blk_cell BK265.out 6).trans rfl, (blk_cell BK265.out 7).trans rfl, (blk_cell BK265.out 8).trans rfl, (blk_cell BK265.out 9).trans rfl, (blk_cell BK265.out 10).trans rfl, (blk_cell BK265.out 11).trans rfl, (blk_cell BK265.out 12).trans rfl, (blk_cell BK265.out 13).trans rfl, (blk_cell BK265.out 14).trans rfl, (blk_cell BK265.out 15).trans rfl⟩ (fun hHeld => ?_)
      clear hK K
      refine norm_ (a' := ?_) ?_ ?_
      rotate_left
      · show Act.put _ (some 70) _ = _
        simp only [Act.put, List.setIfInBounds_toArray, List.set_cons_zero, List.set_cons_succ, i64_w, i32_w]
        rfl
      refine pure_ (i := 7) (N := some 3) (v := ?_) (a' := ?_) #[true, true, true, true, true, true, true, true] rfl rfl (any_of HT_.out (by kernel_rfl)) (fun _ _ _ h => h) (Or.inl ⟨by rfl, ?_⟩) ?_ ?_
      rotate_left
      · intro w'
        go_simp
        with_reducible rfl
      rotate_left
      · simp only [Act.put, List.setIfInBounds_toArray, List.set_cons_zero, List.set_cons_succ, i64_w, i32_w]
        rfl
      refine done_ (done_of HT_.out (by kernel_rfl)) ?_
      obtain ⟨Ao57, co57, eo57⟩ := Kd.R_slice HO310.out
      subst eo57
      try go_wp2_with (first | ((with_reducible refine gate_callee (f := 51) rfl ?_); refine goesL_ (some 72) rfl rfl Try.func51 (by kernel_rfl) rfl #[.slice Ao57 t308.length co57] rfl (by (try simp only [List.map_toArray, List.map_cons, List.map_nil]); first | done | rfl | (simp only [List.length_drop, List.length_take]; rfl)) ?_; (with_reducible refine (tidelineref02_Wrap.calls k _ _ t308 t311 _ ?side1 ?side2 A16.out).mono ?_); (case side1 => repeat (first | exact (Kd.R_reads' HO310.out).2.2 | (with_reducible refine Kd.C_alloc ?_ _) | (with_reducible refine Kd.C_drewN ?_ _) | (with_reducible refine Kd.C_drew ?_))); (case side2 => exact (Kd.R_reads' HO310.out).2.1); rintro e w58 ⟨v312, rfl, ho0, hb⟩; refine ⟨_, rfl, ?_⟩; have n0_ := Aside0.mk (Kd.R_elder' (by (with_reducible repeat (first | apply Kd.R_alloc | apply Kd.R_drewN | apply Kd.R_drew)); exact HO310.out) (Kd.R_base ho0) hb); have n1_ := Aside0.mk (Kd.R_lower (Kd.R_new' ho0 (Kd.R_lt (by (with_reducible repeat (first | apply Kd.R_alloc | apply Kd.R_drewN | apply Kd.R_drew)); exact HO310.out))) (below_size (by repeat (first | (with_reducible first | exact HB.out | apply below_alloc | apply pw_below_drewN | apply below_drew1 | refine below_set ?_ GE265.out) | exact HB.out)))); have n2_ := Aside0.mk (blk_below (g := gb265) (o := .cells #[.int .i64 a0_0, .int .i64 a0_1, .int .i64 a0_2, .bool a0_3, .int .i64 a0_4, .int .i64 a0_5, .int .i64 a0_6, .int .i64 a0_7, .slice A0_8 l0_8.length c0_8, .int .i64 a0_9, .int .i64 a0_10, .slice A0_11 l0_11.length c0_11, .int .i64 a0_12, .int .i64 a0_13, .int .i64 a0_14, .int .i64 a0_15] 29 (0, 0)) (by (with_reducible repeat (first | refine blk_drewN ?_ _ | refine blk_drew ?_ | refine blk_alloc ?_ _)); exact BK265.out) hb); have n3_ := Aside0.mk (below_step (by repeat (first | (with_reducible first | exact HB.out | apply below_alloc | apply pw_below_drewN | apply below_drew1 | refine below_set ?_ GE265.out) | exact HB.out)) hb); clear HO310; clear BK265; clear HB; have HO310 := n0_; have HO313 := n1_; have BK265 := n2_; have HB := n3_; clear n0_ n1_ n2_ n3_; (try clear hb); (try clear hb2); (try clear hk); (try clear hi); (try clear ho0)))
      go_ret
      exact ⟨_, by first | rfl | (simp [errW_none, errW_some] <;> rfl) | (simp [*, errW_none, errW_some] <;> rfl), by (with_reducible repeat (first | apply Kd.R_alloc | apply Kd.R_drewN | apply Kd.R_drew)); exact Kd.R_mono HO313.out (fun _ hk => trivial), by repeat (first | (with_reducible first | exact HB.out | apply below_alloc | apply pw_below_drewN | apply below_drew1 | refine below_set ?_ GE265.out) | exact HB.out)⟩
    · rw [if_neg c7] at H
      exact absurd H (by simp)
  · rw [if_neg c4] at H
    exact absurd H (by simp)

-- NOT PRINTED: function 15 (tidelinelaw12_RpcCodes)


end Go.Proofs.Ytmdnokfmlbjbhaa.RefMs
