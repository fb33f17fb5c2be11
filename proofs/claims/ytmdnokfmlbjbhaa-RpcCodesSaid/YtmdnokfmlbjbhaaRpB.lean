/- Messages that are equal. -/
import Derived.Test.YtmdnokfmlbjbhaaM1
import Derived.Handy
namespace Go.Proofs.Ytmdnokfmlbjbhaa
open Go.RowKit Go.Proofs.YtmdnokfmlbjbhaaW.PrintWords
set_option linter.unusedVariables false
set_option linter.unusedSimpArgs false


theorem same_eq {w0 : World} (A0 : Option Addr) (c0 : Nat) (x : List Int) (A1 : Option Addr) (c1 : Nat) (w : World) (hw : Below w0.heap.size w0 w) (hx : RB w A0 x) (hy : RB w A1 x) :
    Calls Try.prog 49 #[.slice A0 x.length c0, .slice A1 x.length c1] w fun e w' => e = .returned (.bool true) ∧ Aside0 (Below w0.heap.size w0 w') :=
  (same_calls A0 c0 x A1 c1 x w hx hy).mono fun _ _ ⟨he, hd⟩ => ⟨by rw [he, decide_eq_true rfl], ⟨hw.trans (hd.below.mono hw.size)⟩⟩

theorem same_yes (A0 : Option Addr) (c0 : Nat) (x : List Int) (A1 : Option Addr) (c1 : Nat) (w : World) (hx : RB w A0 x) (hy : RB w A1 x) :
    Calls Try.prog 49 #[.slice A0 x.length c0, .slice A1 x.length c1] w fun e w' => e = .returned (.bool true) ∧ Drawn0 w w' :=
  (same_calls A0 c0 x A1 c1 x w hx hy).mono fun _ _ ⟨he, hd⟩ => ⟨by rw [he, decide_eq_true rfl], hd⟩

theorem two_boxes {w W : World} {o p : Obj} (h : Below ((w.alloc o).alloc p).heap.size ((w.alloc o).alloc p) W) : W.heap[w.heap.size]? = some o ∧ W.heap[w.heap.size + 1]? = some p := by
  have h1 := h.block w.heap.size (by go_size)
  have h2 := h.block (w.heap.size + 1) (by go_size)
  have e2 := heap_alloc_new (w.alloc o) p
  rw [World.size_alloc] at e2
  exact ⟨h1.trans ((Below.heap_alloc _ _ _ (by go_size)).trans (heap_alloc_new w o)), h2.trans e2⟩

theorem box_cells {w : World} {g : Nat} {v0 v1 v2 v3 v4 v5 v6 v7 v8 v9 v10 v11 v12 v13 v14 v15 : Value} {t : TypeId} (h : w.heap[g]? = some (.cells #[v0, v1, v2, v3, v4, v5, v6, v7, v8, v9, v10, v11, v12, v13, v14, v15] t (0, 0))) :
    w.cell? ⟨g, 9, none⟩ = some v9 ∧ w.cell? ⟨g, 10, none⟩ = some v10 ∧ w.cell? ⟨g, 11, none⟩ = some v11 ∧ w.cell? ⟨g, 12, none⟩ = some v12 ∧ w.cell? ⟨g, 13, none⟩ = some v13 ∧ w.cell? ⟨g, 14, none⟩ = some v14 ∧ w.cell? ⟨g, 15, none⟩ = some v15 :=
  ⟨cell_of_row w g 9 _ t _ h, cell_of_row w g 10 _ t _ h, cell_of_row w g 11 _ t _ h, cell_of_row w g 12 _ t _ h, cell_of_row w g 13 _ t _ h, cell_of_row w g 14 _ t _ h, cell_of_row w g 15 _ t _ h⟩

set_option maxHeartbeats 400000 in
set_option maxRecDepth 100000 in
/-- two cells that are one -/
theorem samecell_calls (k : Int) (A0 : Option Addr) (c0 : Nat) (x : List Int) (A1 : Option Addr) (c1 : Nat) (w : World) (hx : RB w A0 x) (hy : RB w A1 x) :
    Calls Try.prog 88 #[.agg #[.int .i64 k, .slice A0 x.length c0], .agg #[.int .i64 k, .slice A1 x.length c1]] w fun ex w' => ex = .returned (.bool true) ∧ Below w.heap.size w w' := by
  have hs := Aside0.mk (fun W (h : Aside0 (Below w.heap.size w W)) => same_eq A0 c0 x A1 c1 W h.out (RB.keep hx h.out) (RB.keep hy h.out))
  clear hx hy
  have n0 : (k == k) = true := by simp
  go_enter Try.func88, Try.ntmps88
  go_wp2_with (go_at_call 49; ((with_reducible refine (hs.out _ ⟨by go_grown⟩).mono ?_); rintro e w7 ⟨rfl, E7⟩))
  go_returns
  exact ⟨by simp, E7.out⟩

set_option maxHeartbeats 1000000 in
set_option maxRecDepth 100000 in
/-- two messages that are one -/
theorem samemsg_calls (mf mt mn mk me ma mw mo mh mx ml ms mb : Int) (mr : Bool) (A0 : Option Addr) (c0 : Nat) (B0 : Option Addr) (d0 : Nat) (A1 : Option Addr) (c1 : Nat) (B1 : Option Addr) (d1 : Nat) (x y : List Int) (w : World) (hx : RB w A0 x) (hx1 : RB w A1 x) (hy : RB w B0 y) (hy1 : RB w B1 y) :
    Calls Try.prog 22 #[.agg #[.int .i64 mf, .int .i64 mt, .int .i64 mn, .bool mr, .int .i64 mk, .int .i64 me, .int .i64 ma, .int .i64 mw, .slice A0 x.length c0, .int .i64 mo, .int .i64 mh, .slice B0 y.length d0, .int .i64 mx, .int .i64 ml, .int .i64 ms, .int .i64 mb], .agg #[.int .i64 mf, .int .i64 mt, .int .i64 mn, .bool mr, .int .i64 mk, .int .i64 me, .int .i64 ma, .int .i64 mw, .slice A1 x.length c1, .int .i64 mo, .int .i64 mh, .slice B1 y.length d1, .int .i64 mx, .int .i64 ml, .int .i64 ms, .int .i64 mb]] w fun ex w' => ex = .returned (.bool true) ∧ Below w.heap.size w w' := by
  have hs := Aside0.mk (fun W (h : Aside0 (Below w.heap.size w W)) => same_yes B0 d0 y B1 d1 W (RB.keep hy h.out) (RB.keep hy1 h.out))
  have hc := Aside0.mk (fun W (h : Below w.heap.size w W) => samecell_calls mw A0 c0 x A1 c1 W (RB.keep hx h) (RB.keep hx1 h))
  obtain ⟨W1, HW⟩ : ∃ W1, Aside0 (W1 = (w.alloc (.cells #[.int .i64 mf, .int .i64 mt, .int .i64 mn, .bool mr, .int .i64 mk, .int .i64 me, .int .i64 ma, .int .i64 mw, .slice A0 x.length c0, .int .i64 mo, .int .i64 mh, .slice B0 y.length d0, .int .i64 mx, .int .i64 ml, .int .i64 ms, .int .i64 mb] 29)).alloc (.cells #[.int .i64 mf, .int .i64 mt, .int .i64 mn, .bool mr, .int .i64 mk, .int .i64 me, .int .i64 ma, .int .i64 mw, .slice A1 x.length c1, .int .i64 mo, .int .i64 mh, .slice B1 y.length d1, .int .i64 mx, .int .i64 ml, .int .i64 ms, .int .i64 mb] 29)) := ⟨_, ⟨rfl⟩⟩
  clear hx hy hx1 hy1
  go_enter Try.func22, Try.ntmps22
  go_wp2_with (first
    | (go_at_call 88; with_reducible refine (hc.out _ ?sq1).mono ?_; (case sq1 => go_grown); rintro e w6 ⟨rfl, E6⟩; have D6 : Aside0 (Below w.heap.size w w6) := ⟨Below.trans (by go_grown) (E6.mono (by go_size))⟩; obtain ⟨G0, G1⟩ := two_boxes E6; replace G0 := box_cells G0; replace G1 := box_cells G1; have S0 := Aside0.mk G0; have S1 := Aside0.mk G1; obtain ⟨f9, f10, f11, f12, f13, f14, f15⟩ := G0; obtain ⟨g9, g10, g11, g12, g13, g14, g15⟩ := G1; clear E6)
    | (go_at_call 49; ((with_reducible refine (hs.out _ D6).mono ?_); rintro e w7 ⟨rfl, ⟨m7, rfl⟩⟩)))
  go_returns
  exact ⟨by simp, pw_below_drewN D6.out _⟩

end Go.Proofs.Ytmdnokfmlbjbhaa
