/- RpcReplies: whole messages loaded; the example. -/
import Derived.Test.YtmdnokfmlbjbhaaRpA
import Derived.Test.YtmdnokfmlbjbhaaRpB
import Derived.Deep.DrawnRows
namespace Go.Proofs.Ytmdnokfmlbjbhaa
open Go.RowKit Go.Proofs.YtmdnokfmlbjbhaaW.PrintWords
set_option linter.unusedVariables false
set_option linter.unusedSimpArgs false


/-- a block's cells as one value -/
def boxOf (w : World) (g : Nat) : Value := match w.heap[g]? with | some (.cells cs _ _) => .agg cs | _ => undef
/-- a block that holds a message -/
def Boxed (w : World) (g : Nat) : Prop := ∃ v0 v1 v2 v3 v4 v5 v6 v7 v8 v9 v10 v11 v12 v13 v14 v15 t fr, w.heap[g]? = some (.cells #[v0, v1, v2, v3, v4, v5, v6, v7, v8, v9, v10, v11, v12, v13, v14, v15] t fr)
/-- a load of a whole message -/
def boxLoad (a : Value) : Sem Value := Instr.loadAt 29 a
theorem to_boxLoad (a : Value) : Instr.loadAt 29 a = boxLoad a := rfl
theorem load_box {w : World} {g : Nat} (h : Boxed w g) : Sem.run Try.prog (boxLoad (.pointer (some ⟨g, 0, none⟩))) w = .ok (boxOf w g) w := by
  unfold boxLoad
  obtain ⟨v0, v1, v2, v3, v4, v5, v6, v7, v8, v9, v10, v11, v12, v13, v14, v15, t, fr, h⟩ := h
  have e : boxOf w g = .agg #[v0, v1, v2, v3, v4, v5, v6, v7, v8, v9, v10, v11, v12, v13, v14, v15] := by unfold boxOf; rw [h]
  rw [e]
  have c := fun i => cell_of_row w g i _ t _ h
  have c0 := c 0
  have c1 := c 1; have c2 := c 2; have c3 := c 3; have c4 := c 4; have c5 := c 5; have c6 := c 6; have c7 := c 7; have c8 := c 8; have c9 := c 9; have c10 := c 10; have c11 := c 11; have c12 := c 12; have c13 := c 13; have c14 := c 14; have c15 := c 15
  clear c e h
  simp only [List.getElem?_toArray, List.getElem?_cons_zero, List.getElem?_cons_succ] at c0 c1 c2 c3 c4 c5 c6 c7 c8 c9 c10 c11 c12 c13 c14 c15
  go_simp
attribute [local go_sem ↓] to_boxLoad
attribute [local go_sem] load_box
theorem boxed_new {w W : World} {n : Nat} {t : TypeId} {v0 v1 v2 v3 v4 v5 v6 v7 v8 v9 v10 v11 v12 v13 v14 v15 : Value} (h : Below n (w.alloc (.cells #[v0, v1, v2, v3, v4, v5, v6, v7, v8, v9, v10, v11, v12, v13, v14, v15] t)) W) (hn : w.heap.size < n) : Boxed W w.heap.size ∧ boxOf W w.heap.size = .agg #[v0, v1, v2, v3, v4, v5, v6, v7, v8, v9, v10, v11, v12, v13, v14, v15] := by
  have := (h.block w.heap.size hn).trans (heap_alloc_new w _)
  exact ⟨⟨_, _, _, _, _, _, _, _, _, _, _, _, _, _, _, _, _, _, this⟩, by unfold boxOf; rw [this]⟩
theorem drewA {w0 W : World} {n : Nat} (h : Aside0 (Below n w0 W)) : Aside0 (Below n w0 W.drew) := ⟨h.out.drew⟩
theorem laterOn {w0 : World} {n : Nat} {f : FuncId} {args : Array Value} {v : Value} {W : World} (hn : n ≤ w0.heap.size) (hw : Below n w0 W) (h : Calls Try.prog f args W fun e w' => e = .returned v ∧ Below W.heap.size W w') :
    Calls Try.prog f args W fun e w' => e = .returned v ∧ Aside0 (Below n w0 w') :=
  h.mono fun _ _ ⟨he, hB⟩ => ⟨he, ⟨hw.trans (hB.mono (Nat.le_trans hn hw.size))⟩⟩
theorem field29_1 (v0 v1 v2 v3 v4 v5 v6 v7 v8 v9 v10 v11 v12 v13 v14 v15 : Value) (w : World) : Sem.run Try.prog (Instr.field 29 (.agg #[v0, v1, v2, v3, v4, v5, v6, v7, v8, v9, v10, v11, v12, v13, v14, v15]) 1) w = .ok v1 w := by simp [Instr.field, Try.underlying29, go_sem, part, asAgg]

set_option maxHeartbeats 1000000 in
set_option maxRecDepth 100000 in
theorem speaks12_calls (w : World) :
    Calls Try.prog 20 #[] w fun ex w' => ex = .returned (.bool true) ∧ Below w.heap.size w w' := by
  obtain ⟨w0, hw0⟩ : ∃ w0, w0 = w.alloc (.cells #[.int .i64 1, .int .i64 2, .int .i64 3, .bool false, .int .i64 2, .int .i64 0, .int .i64 0, .int .i64 0, (.slice none 0 0), .int .i64 0, .int .i64 0, (.slice none 0 0), .int .i64 0, .int .i64 0, .int .i64 0, .int .i64 0] 29) := ⟨_, rfl⟩
  have hz : w0.heap.size = w.heap.size + 1 := by rw [hw0]; go_size
  obtain ⟨m, hm⟩ : ∃ m, m = Value.agg #[.int .i64 1, .int .i64 2, .int .i64 3, .bool false, .int .i64 2, .int .i64 0, .int .i64 0, .int .i64 0, (.slice none 0 0), .int .i64 0, .int .i64 0, (.slice none 0 0), .int .i64 0, .int .i64 0, .int .i64 0, .int .i64 0] := ⟨_, rfl⟩
  obtain ⟨r0, hr0⟩ : ∃ m, m = Value.agg #[.int .i64 2, .int .i64 1, .int .i64 3, .bool true, .int .i64 2, .int .i64 0, .int .i64 0, .int .i64 0, (.slice none 0 0), .int .i64 0, .int .i64 0, (.slice none 0 0), .int .i64 0, .int .i64 0, .int .i64 0, .int .i64 0] := ⟨_, rfl⟩
  obtain ⟨r5, hr5⟩ : ∃ m, m = Value.agg #[.int .i64 2, .int .i64 1, .int .i64 3, .bool true, .int .i64 2, .int .i64 0, .int .i64 0, .int .i64 0, (.slice none 0 0), .int .i64 0, .int .i64 0, (.slice none 0 0), .int .i64 5, .int .i64 0, .int .i64 0, .int .i64 0] := ⟨_, rfl⟩
  have HS : Aside0 (∀ W, Aside0 (Below (w.heap.size + 1) w0 W) → Boxed W w.heap.size ∧ boxOf W w.heap.size = m ∧ Aside0 (Below (w.heap.size + 1) w0 W)) := ⟨fun W h => by
    have := boxed_new (by have := h.out; rw [hw0] at this; exact this) (by omega)
    exact ⟨this.1, this.2.trans hm.symm, h⟩⟩
  have h0 := Aside0.mk (fun W (h : Aside0 (Below (w.heap.size + 1) w0 W)) => laterOn (by omega) h.out (reply_calls 1 2 3 2 0 0 0 0 0 0 0 0 0 false (.slice none 0 0) (.slice none 0 0) 0 W))
  have h5 := Aside0.mk (fun W (h : Aside0 (Below (w.heap.size + 1) w0 W)) => laterOn (by omega) h.out (reply_calls 1 2 3 2 0 0 0 0 0 0 0 0 0 false (.slice none 0 0) (.slice none 0 0) 5 W))
  have ha := Aside0.mk (fun W (h : Aside0 (Below (w.heap.size + 1) w0 W)) => laterOn (by omega) h.out (answers_calls 2 1 3 2 0 0 0 0 0 0 0 0 0 true (.slice none 0 0) (.slice none 0 0) 1 2 3 2 0 0 0 0 0 0 0 0 0 false (.slice none 0 0) (.slice none 0 0) W))
  have hb := Aside0.mk (fun W (h : Aside0 (Below (w.heap.size + 1) w0 W)) => laterOn (by omega) h.out (answers_calls 1 2 3 2 0 0 0 0 0 0 0 0 0 false (.slice none 0 0) (.slice none 0 0) 1 2 3 2 0 0 0 0 0 0 0 0 0 false (.slice none 0 0) (.slice none 0 0) W))
  have hf : ∀ W, Sem.run Try.prog (Instr.field 29 r5 1) W = .ok (.int .i64 1) W := fun W => by rw [hr5]; exact field29_1 _ _ _ _ _ _ _ _ _ _ _ _ _ _ _ _ W
  rw [← hm] at h0 h5 ha hb
  rw [← hr0] at h0 ha
  rw [← hr5] at h5
  have E0 := Aside0.mk (Below.refl (w.heap.size + 1) w0)
  have HW := Aside0.mk hw0
  clear hz hm hr0 hr5
  go_enter Try.func20, Try.ntmps20
  go_wp2_with (fail)
  rw [← hw0]
  clear hw0
  go_region_held3 (fun W => Boxed W w.heap.size ∧ boxOf W w.heap.size = m ∧ Aside0 (Below (w.heap.size + 1) w0 W)) (exact HS.out _ (by first | assumption | exact drewA (by assumption))) (first
    | (go_at_call 21; ((with_reducible refine (h0.out _ (by first | assumption | exact drewA (by assumption))).mono ?_); rintro e w1 ⟨rfl, E1⟩))
    | (go_at_call 21; ((with_reducible refine (h5.out _ (by first | assumption | exact drewA (by assumption))).mono ?_); rintro e w1 ⟨rfl, E1⟩))
    | (go_at_call 23; ((with_reducible refine (ha.out _ (by first | assumption | exact drewA (by assumption))).mono ?_); rintro e w1 ⟨rfl, E1⟩))
    | (go_at_call 23; ((with_reducible refine (hb.out _ (by first | assumption | exact drewA (by assumption))).mono ?_); rintro e w1 ⟨rfl, E1⟩)))
  go_wp2
  go_returns
  refine ⟨rfl, ?_⟩
  have h := E1.out
  rw [HW.out] at h
  exact Below.trans ((Below.refl _ w).alloc (Nat.le_refl _) _) (h.mono (by omega))

end Go.Proofs.Ytmdnokfmlbjbhaa
