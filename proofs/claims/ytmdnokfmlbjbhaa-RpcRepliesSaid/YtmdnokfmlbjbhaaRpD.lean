/- RpcReplies: the walk. -/
import Derived.Test.YtmdnokfmlbjbhaaRpC
import Derived.Deep.DeepCutAuto
namespace Go.Proofs.Ytmdnokfmlbjbhaa
open Go.RowKit Go.Proofs.YtmdnokfmlbjbhaaW.PrintWords
set_option linter.unusedVariables false
set_option linter.unusedSimpArgs false
attribute [local go_sem ↓] to_boxLoad
attribute [local go_sem] load_box


theorem box_seven {w : World} {g : Nat} {v0 v1 v2 v3 v4 v5 v6 v7 v8 v9 v10 v11 v12 v13 v14 v15 : Value} {t : TypeId} {fr : Nat × Nat} (h : w.heap[g]? = some (.cells #[v0, v1, v2, v3, v4, v5, v6, v7, v8, v9, v10, v11, v12, v13, v14, v15] t fr)) :
    w.cell? ⟨g, 0, none⟩ = some v0 ∧ w.cell? ⟨g, 1, none⟩ = some v1 ∧ w.cell? ⟨g, 2, none⟩ = some v2 ∧ w.cell? ⟨g, 3, none⟩ = some v3 ∧ w.cell? ⟨g, 4, none⟩ = some v4 ∧ w.cell? ⟨g, 5, none⟩ = some v5 ∧ w.cell? ⟨g, 6, none⟩ = some v6 :=
  ⟨cell_of_row w g 0 _ t _ h, cell_of_row w g 1 _ t _ h, cell_of_row w g 2 _ t _ h, cell_of_row w g 3 _ t _ h, cell_of_row w g 4 _ t _ h, cell_of_row w g 5 _ t _ h, cell_of_row w g 6 _ t _ h⟩
theorem boxed_of {w : World} {g : Nat} {v0 v1 v2 v3 v4 v5 v6 v7 v8 v9 v10 v11 v12 v13 v14 v15 : Value} {t : TypeId} {fr : Nat × Nat} (h : w.heap[g]? = some (.cells #[v0, v1, v2, v3, v4, v5, v6, v7, v8, v9, v10, v11, v12, v13, v14, v15] t fr)) : Boxed w g ∧ boxOf w g = .agg #[v0, v1, v2, v3, v4, v5, v6, v7, v8, v9, v10, v11, v12, v13, v14, v15] :=
  ⟨⟨_, _, _, _, _, _, _, _, _, _, _, _, _, _, _, _, _, _, h⟩, by unfold boxOf; rw [h]⟩
theorem self_answers {a b c d e f r : Bool} (h : a = true) (h1 : b = true) (h2 : c = true) (h3 : d = true) (h4 : e = true) (h5 : f = true) : (true && (!r && (a && (b && (c && (d && (e && f))))))) = !r := by
  subst h h1 h2 h3 h4 h5; simp

set_option maxHeartbeats 2000000 in
set_option maxRecDepth 100000 in
theorem replies_walk (mf mt mn mk me ma mw mo mh mx ml ms mb : Int) (mr : Bool) (mD mV : Value) (pf pt pn pk pe pa pw po ph px pl ps pb : Int) (pr : Bool) (pD pV : Value) (er : Int) (w : World) :
    Calls Try.prog 3 #[.agg #[.int .i64 mf, .int .i64 mt, .int .i64 mn, .bool mr, .int .i64 mk, .int .i64 me, .int .i64 ma, .int .i64 mw, mD, .int .i64 mo, .int .i64 mh, mV, .int .i64 mx, .int .i64 ml, .int .i64 ms, .int .i64 mb], .agg #[.int .i64 pf, .int .i64 pt, .int .i64 pn, .bool pr, .int .i64 pk, .int .i64 pe, .int .i64 pa, .int .i64 pw, pD, .int .i64 po, .int .i64 ph, pV, .int .i64 px, .int .i64 pl, .int .i64 ps, .int .i64 pb], .int .i64 er] w fun ex w' => ex = .returned (.bool true) ∧ Below w.heap.size w w' := by
  obtain ⟨is, his⟩ : ∃ is, is = (pr && (!mr && (pt == mf && (pf == mt && (pn == mn && (pk == mk && (pe == me && pa == ma))))))) := ⟨_, rfl⟩
  have HIS := Aside0.mk his
  clear his
  go_enter Try.func3, Try.ntmps3
  go_upto_region 5 with (first
    | (go_at_call 20; (refine (speaks12_calls _).mono ?_); rintro e w1 ⟨rfl, B1⟩; have G := two_boxes (B1.mono (Nat.le_refl _)); have D1 : Aside0 (Below w.heap.size w w1) := ⟨Below.trans (by go_grown) (B1.mono (by go_size))⟩; have K0 := Aside0.mk G; have N1 : Aside0 (w.heap.size + 1 < w1.heap.size) := ⟨by have := B1.size; simp only [World.size_alloc] at this; omega⟩; have L0 := boxed_of G.1; obtain ⟨L1, L2⟩ := L0; obtain ⟨f0, f1, f2, f3, f4, f5, f6⟩ := box_seven G.1; clear G B1))
  (refine (reply_calls _ _ _ _ _ _ _ _ _ _ _ _ _ _ _ _ _ _).mono ?_)
  rintro e w2 ⟨rfl, B2⟩
  have D2 : Aside0 (Below w.heap.size w w2) := ⟨D1.out.trans (B2.mono D1.out.size)⟩
  have G0 := (B2.block _ (Nat.lt_of_succ_lt N1.out)).trans K0.out.1
  have G1 := (B2.block _ N1.out).trans K0.out.2
  have n2 : w.heap.size + 1 < w2.heap.size := Nat.lt_of_lt_of_le N1.out B2.size
  have n1 : w.heap.size < w2.heap.size := by omega
  have n3 : w.heap.size ≠ w2.heap.size := by omega
  have n4 : w.heap.size + 1 ≠ w2.heap.size := by omega
  have n5 : w.heap.size ≠ w2.heap.size + 1 := by omega
  have n6 : w.heap.size + 1 ≠ w2.heap.size + 1 := by omega
  clear f0 f1 f2 f3 f4 f5 f6 L1 L2 K0 B2
  have K2 := Aside0.mk (And.intro G0 G1)
  obtain ⟨f0, f1, f2, f3, f4, f5, f6⟩ := box_seven G0
  obtain ⟨g0, g1, g2, g3, g4, g5, g6⟩ := box_seven G1
  clear G0 G1
  go_upto_region 5 with (fail)
  obtain ⟨w6, hwc⟩ : ∃ w6, Aside0 (w6 = (w2.alloc (.cells #[.int .i64 mt, .int .i64 mf, .int .i64 mn, .bool true, .int .i64 mk, .int .i64 me, .int .i64 ma, .int .i64 0, (.slice none 0 0), .int .i64 0, .int .i64 0, (.slice none 0 0), .int .i64 er, .int .i64 0, .int .i64 0, .int .i64 0] 29)).alloc (.cells #[.int .i64 mt, .int .i64 mf, .int .i64 mn, .bool true, .int .i64 mk, .int .i64 me, .int .i64 ma, .int .i64 0, (.slice none 0 0), .int .i64 0, .int .i64 0, (.slice none 0 0), .int .i64 er, .int .i64 0, .int .i64 0, .int .i64 0] 29)) := ⟨_, ⟨rfl⟩⟩
  go_cut [9] (fun v9 W => v9 = .bool is ∧ Aside0 (W = w6))
  case first =>
    obtain ⟨b1, h1⟩ : ∃ b, (pt == mf) = b := ⟨_, rfl⟩
    obtain ⟨b2, h2⟩ : ∃ b, (pf == mt) = b := ⟨_, rfl⟩
    obtain ⟨b3, h3⟩ : ∃ b, (pn == mn) = b := ⟨_, rfl⟩
    obtain ⟨b4, h4⟩ : ∃ b, (pk == mk) = b := ⟨_, rfl⟩
    obtain ⟨b5, h5⟩ : ∃ b, (pe == me) = b := ⟨_, rfl⟩
    obtain ⟨b6, h6⟩ : ∃ b, (pa == ma) = b := ⟨_, rfl⟩
    rw [h1, h2, h3, h4, h5, h6] at HIS
    cases pr
    case' true =>
      cases mr
      case' false =>
        cases b1
        case' true =>
          cases b2
          case' true =>
            cases b3
            case' true =>
              cases b4
              case' true =>
                cases b5
                case' true =>
                  cases b6
    all_goals go_wp2
    all_goals go_meet
    all_goals
      case rel => exact ⟨by rw [HIS.out]; rfl, ⟨hwc.out.symm⟩⟩
  case rest =>
    obtain ⟨rfl, HC⟩ := hcut
    obtain rfl := HC.out
    obtain ⟨m, hm⟩ : ∃ m : Value, m = .agg #[.int .i64 mf, .int .i64 mt, .int .i64 mn, .bool mr, .int .i64 mk, .int .i64 me, .int .i64 ma, .int .i64 mw, mD, .int .i64 mo, .int .i64 mh, mV, .int .i64 mx, .int .i64 ml, .int .i64 ms, .int .i64 mb] := ⟨_, rfl⟩
    obtain ⟨p, hp⟩ : ∃ m : Value, m = .agg #[.int .i64 pf, .int .i64 pt, .int .i64 pn, .bool pr, .int .i64 pk, .int .i64 pe, .int .i64 pa, .int .i64 pw, pD, .int .i64 po, .int .i64 ph, pV, .int .i64 px, .int .i64 pl, .int .i64 ps, .int .i64 pb] := ⟨_, rfl⟩
    obtain ⟨r, hr⟩ : ∃ m : Value, m = .agg #[.int .i64 mt, .int .i64 mf, .int .i64 mn, .bool true, .int .i64 mk, .int .i64 me, .int .i64 ma, .int .i64 0, (.slice none 0 0), .int .i64 0, .int .i64 0, (.slice none 0 0), .int .i64 er, .int .i64 0, .int .i64 0, .int .i64 0] := ⟨_, rfl⟩
    have hz : w2.heap.size + 2 ≤ wc.heap.size := by rw [hwc.out]; simp only [World.size_alloc]; omega
    have HS : Aside0 (∀ W, Aside0 (Below (w2.heap.size + 2) wc W) → Boxed W w.heap.size ∧ boxOf W w.heap.size = m ∧ Boxed W (w.heap.size + 1) ∧ boxOf W (w.heap.size + 1) = p ∧ Boxed W w2.heap.size ∧ boxOf W w2.heap.size = r ∧ Boxed W (w2.heap.size + 1) ∧ boxOf W (w2.heap.size + 1) = r ∧ W.cell? ⟨w.heap.size, 3, none⟩ = some (.bool mr) ∧ Aside0 (Below (w2.heap.size + 2) wc W)) := ⟨fun W h => by
      have hB := h.out
      rw [hwc.out] at hB
      have e0 := (hB.block w.heap.size (by omega)).trans ((Below.heap_alloc _ _ _ (by simp only [World.size_alloc]; omega)).trans ((Below.heap_alloc _ _ _ (by omega)).trans K2.out.1))
      have e1 := (hB.block (w.heap.size + 1) (by omega)).trans ((Below.heap_alloc _ _ _ (by simp only [World.size_alloc]; omega)).trans ((Below.heap_alloc _ _ _ (by omega)).trans K2.out.2))
      have e2 := (hB.block w2.heap.size (by omega)).trans ((Below.heap_alloc _ _ _ (by simp only [World.size_alloc]; omega)).trans (heap_alloc_new w2 _))
      have q3 := heap_alloc_new (w2.alloc (.cells #[.int .i64 mt, .int .i64 mf, .int .i64 mn, .bool true, .int .i64 mk, .int .i64 me, .int .i64 ma, .int .i64 0, (.slice none 0 0), .int .i64 0, .int .i64 0, (.slice none 0 0), .int .i64 er, .int .i64 0, .int .i64 0, .int .i64 0] 29)) (.cells #[.int .i64 mt, .int .i64 mf, .int .i64 mn, .bool true, .int .i64 mk, .int .i64 me, .int .i64 ma, .int .i64 0, (.slice none 0 0), .int .i64 0, .int .i64 0, (.slice none 0 0), .int .i64 er, .int .i64 0, .int .i64 0, .int .i64 0] 29)
      rw [World.size_alloc] at q3
      have e3 := (hB.block (w2.heap.size + 1) (by omega)).trans q3
      have k0 := boxed_of e0; have k1 := boxed_of e1; have k2 := boxed_of e2; have k3 := boxed_of e3
      exact ⟨k0.1, k0.2.trans hm.symm, k1.1, k1.2.trans hp.symm, k2.1, k2.2.trans hr.symm, k3.1, k3.2.trans hr.symm, (box_seven e0).2.2.2.1, h⟩⟩
    have hsm := Aside0.mk (fun W (h : Aside0 (Below (w2.heap.size + 2) wc W)) => laterOn hz h.out (samemsg_calls mt mf mn mk me ma 0 0 0 er 0 0 0 true none 0 none 0 none 0 none 0 [] [] W (Kd.C_nil _ _) (Kd.C_nil _ _) (Kd.C_nil _ _) (Kd.C_nil _ _)))
    have han := Aside0.mk (fun W (h : Aside0 (Below (w2.heap.size + 2) wc W)) => laterOn hz h.out (answers_calls pf pt pn pk pe pa pw po ph px pl ps pb pr pD pV mf mt mn mk me ma mw mo mh mx ml ms mb mr mD mV W))
    have hse := Aside0.mk (fun W (h : Aside0 (Below (w2.heap.size + 2) wc W)) => laterOn hz h.out (answers_calls mt mf mn mk me ma 0 0 0 er 0 0 0 true (.slice none 0 0) (.slice none 0 0) mf mt mn mk me ma mw mo mh mx ml ms mb mr mD mV W))
    rw [← HIS.out] at han
    simp only [BEq.rfl, Bool.true_and, Bool.and_true] at hse
    rw [← hm] at han hse
    rw [← hp] at han
    rw [← hr] at hse
    have hsm' : Aside0 (∀ W, Aside0 (Below (w2.heap.size + 2) wc W) → Calls Try.prog 22 #[r, r] W fun e w' => e = .returned (.bool true) ∧ Aside0 (Below (w2.heap.size + 2) wc w')) := ⟨by rw [hr]; exact hsm.out⟩
    have E0 := Aside0.mk (Below.refl (w2.heap.size + 2) wc)
    clear hm hp hr hz hsm
    go_wp2
    go_region_held3 (fun W => Boxed W w.heap.size ∧ boxOf W w.heap.size = m ∧ Boxed W (w.heap.size + 1) ∧ boxOf W (w.heap.size + 1) = p ∧ Boxed W w2.heap.size ∧ boxOf W w2.heap.size = r ∧ Boxed W (w2.heap.size + 1) ∧ boxOf W (w2.heap.size + 1) = r ∧ W.cell? ⟨w.heap.size, 3, none⟩ = some (.bool mr) ∧ Aside0 (Below (w2.heap.size + 2) wc W)) (exact HS.out _ (by first | assumption | exact drewA (by assumption))) (first
      | (go_at_call 22; ((with_reducible refine (hsm'.out _ (by first | assumption | exact drewA (by assumption))).mono ?_); rintro e w7 ⟨rfl, E7⟩))
      | (go_at_call 23; ((with_reducible refine (han.out _ (by first | assumption | exact drewA (by assumption))).mono ?_); rintro e w7 ⟨rfl, E7⟩))
      | (go_at_call 23; ((with_reducible refine (hse.out _ (by first | assumption | exact drewA (by assumption))).mono ?_); rintro e w7 ⟨rfl, E7⟩)))
    go_wp2
    go_returns
    refine ⟨by simp, ?_⟩
    have h7 := E7.out
    have hB : Below w.heap.size w wc := by rw [hwc.out]; exact (D2.out.alloc (by omega) _).alloc (by simp only [World.size_alloc]; omega) _
    exact hB.trans (h7.mono (by omega))

end Go.Proofs.Ytmdnokfmlbjbhaa
