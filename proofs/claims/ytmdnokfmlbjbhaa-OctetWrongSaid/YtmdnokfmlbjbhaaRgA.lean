/- A list that is taken of a reader that has gone wrong: no round. -/
import Derived.RangeFuncNested
import Derived.RangeFuncBound
import Derived.RangeFuncCalls
import Derived.RangeFuncLeaves
import Derived.RangeFuncFrom
import Derived.Shelf.Abstract
import Derived.Shelf.RegionOpen
import Derived.WalkKit
import Derived.OwnWalkIn
import Derived.TacticsInMore
import Derived.LoopNIn
import Derived.LoopIn
import Derived.Handy
import Derived.Test.YtmdnokfmlbjbhaaOctE
namespace Go.Proofs.Ytmdnokfmlbjbhaa
open Go.RowKit Go.Shelf Go.Proofs.YtmdnokfmlbjbhaaW.PrintWords
set_option linter.unusedVariables false
set_option linter.unusedSimpArgs false
attribute [local go_sem] Oper.semAt_some

set_option maxHeartbeats 400000 in
set_option maxRecDepth 100000 in
theorem each_calls (g : Nat) (n : Int) (fn : FuncId) (w : World) :
    Calls Try.prog 94 #[.pointer (some ⟨g, 0, none⟩), .int .i64 n, .func (.func fn) #[] #[]] w fun e w' => e = .returned (.func (.func 136) #[] #[.pointer (some ⟨w.heap.size + 1, 0, none⟩), .pointer (some ⟨w.heap.size, 0, none⟩), .pointer (some ⟨w.heap.size + 1 + 1, 0, none⟩)]) ∧
      w' = ((w.alloc (.cells #[.pointer (some ⟨g, 0, none⟩)] 40)).alloc (.cells #[.int .i64 n] 3)).alloc (.cells #[.func (.func fn) #[] #[]] 48) := by
  go_enter Try.func94, Try.ntmps94
  go_wp2
  go_returns
  simp

set_option maxHeartbeats 400000 in
set_option maxRecDepth 100000 in
theorem each0_stops (n : Nat) (g bn br bf : Nat) (w : World) (hn : w.cell? ⟨bn, 0, none⟩ = some (.int .i64 0)) (hbn : bn < w.heap.size) :
    SeqStopsK (α := Unit) Fence.wide n Try.prog 136 #[.pointer (some ⟨bn, 0, none⟩), .pointer (some ⟨br, 0, none⟩), .pointer (some ⟨bf, 0, none⟩)] (fun _ => #[.int .u8 0]) (fun _ _ => True) (fun xs => xs = []) (fun _ => False) 0 w := by
  intro l J Jx W hB hJ hJx hY h0
  have hn' : W.cell? ⟨bn, 0, none⟩ = some (.int .i64 0) := (hB.cell (p := ⟨bn, 0, none⟩) hbn).trans hn
  have H0 := Aside0.mk h0
  have HJ := Aside0.mk hJ
  clear hY hJ hJx hB h0 hn
  refine callsIn_wide.2 ?_
  go_enter Try.func136, Try.ntmps136
  go_wp2
  go_rounds 1
  refine bodyPost_end (results_none rfl _ _ _) rfl ?_
  exact ⟨⟨_, rfl⟩, .inl ⟨[], rfl, H0.out⟩⟩

theorem rCount_wrong (most : Int) : rCount most ([], true) = (0, ([], true)) := by
  unfold rCount
  split
  · rfl
  · simp [rN, tk, num]

set_option maxHeartbeats 1000000 in
set_option maxRecDepth 100000 in
theorem list0_calls (g D : Nat) (N : Int) (w : World) (h : RD w g D ([], true)) :
    Calls Try.prog 31 #[.pointer (some ⟨g, 0, none⟩), .int .i64 N, .func (.func 32) #[] #[]] w fun e w' => e = .returned (.slice none 0 0) ∧ RD w' g D ([], true) ∧ Upd (fun k => k = g) w w' := by
  have H := Aside0.mk h
  clear h
  refine (callsIn_wide (n := 3)).1 ?_
  refine callsIn_of_wp_marks Try.func31 rfl trivial ?_ rfl
  simp only [Try.ntmps31, List.size_toArray, List.length_cons, List.length_nil, Nat.reduceAdd, Nat.reduceSub, Array.replicate_succ, Array.replicate_zero, List.push_toArray, List.append_toArray, List.nil_append, List.cons_append]
  gi_wp2_with (first
    | (refine ⟨trivial, ?_⟩; gi_at_call 93; refine (callsIn_wide.2 (rcount_calls g D ([], true) N _ ?sq1)).mono ?_; (case sq1 => exact H.out.below ((Below.refl _ w).alloc (Nat.le_refl _) _)); rintro e w1 ⟨rfl, R1, U1⟩; rw [rCount_wrong]; rw [rCount_wrong] at R1; have HR := Aside0.mk R1; have HU := Aside0.mk U1; clear R1 U1)
    | (refine ⟨trivial, ?_⟩; gi_at_call 94; refine (callsIn_wide.2 (each_calls g 0 32 w1)).mono ?_; rintro e w2 ⟨rfl, h2⟩; have H2 := Aside0.mk h2; clear h2))
  have hg := H.out.lt
  have ob1 : w1.heap[w.heap.size]? = some (.cells #[.slice none 0 0] 22 (0, 0)) := HU.out.at_ (heap_alloc_new w _) (by omega)
  have hs1 : w.heap.size < w1.heap.size := blk_lt ob1
  have hB2 : Below w1.heap.size w1 w2 := by rw [H2.out]; exact (((Below.refl _ w1).alloc (Nat.le_refl _) _).alloc (by simp only [World.size_alloc]; omega) _).alloc (by simp only [World.size_alloc]; omega) _
  have hsz2 : w2.heap.size = w1.heap.size + 3 := by rw [H2.out]; simp only [World.size_alloc]
  have hn2 : w2.cell? ⟨w1.heap.size + 1, 0, none⟩ = some (.int .i64 0) := by
    have e := heap_alloc_new (w1.alloc (.cells #[.pointer (some ⟨g, 0, none⟩)] 40)) (.cells #[.int .i64 0] 3)
    rw [World.size_alloc] at e
    exact cell_of_row w2 (w1.heap.size + 1) 0 _ 3 (0, 0) (by rw [H2.out]; exact (Below.heap_alloc _ _ _ (by simp only [World.size_alloc]; omega)).trans e)
  refine wpIn_rangeFunc_ownF (α := Unit) rfl (by omega) (gf := 136) (lb := #[.pointer (some ⟨w1.heap.size + 1, 0, none⟩), .pointer (some ⟨w1.heap.size, 0, none⟩), .pointer (some ⟨w1.heap.size + 1 + 1, 0, none⟩)]) rfl trivial (enters_of Try.func136 (by kernel_rfl) rfl)
    (each0_stops 2 g _ _ _ w2 hn2 (by omega)) (fun _ _ => trivial) (fun _ _ _ _ _ _ _ _ => trivial) (Below.refl _ _) (fun _ => rfl)
    (fun _ W => Below w2.heap.size w2 W) (fun _ _ _ => False) (ownFrom_below (Nat.le_refl _) (Nat.le_refl _)) (fun _ _ _ _ _ hs _ _ => hs) (Below.refl _ _)
    (fun _ => { tmps := #[.pointer (some ⟨g, 0, none⟩), .int .i64 N, .func (.func 32) #[] #[], undef, undef, undef, .pointer (some ⟨w.heap.size, 0, none⟩), .int .u8 0, .pointer (some ⟨g, 0, none⟩), .pointer (some ⟨g, 0, none⟩), .int .i64 N, .int .i64 0, .func (.func 32) #[] #[], .func (.func 136) #[] #[.pointer (some ⟨w1.heap.size + 1, 0, none⟩), .pointer (some ⟨w1.heap.size, 0, none⟩), .pointer (some ⟨w1.heap.size + 1 + 1, 0, none⟩)], .int .u8 0, undef, undef, undef, undef, undef, undef, undef, undef, undef], defers := [] }) ?assign ?body ?done ?stop
  case assign =>
    intro l x W K hK
    gi_wp2
    exact hK
  case body =>
    rintro l pre x W _ h
    exact absurd h (Nat.not_lt_zero _)
  case done =>
    rintro Dd ys W hD rfl hB hK
    obtain ⟨A, c, k1, _⟩ := (HR.out.below hB2).below hB
    have c1 : W.cell? ⟨g, 1, none⟩ = some (.bool true) := blk_cell k1 1
    have obW : W.heap[w.heap.size]? = some (.cells #[.slice none 0 0] 22 (0, 0)) := (hB.block _ (by omega)).trans ((hB2.block _ hs1).trans ob1)
    have c2 : W.cell? ⟨w.heap.size, 0, none⟩ = some (.slice none 0 0) := blk_cell obW 0
    have f2 : W.frozen? ⟨w.heap.size, 0, none⟩ = false := blk_frozen obW 0
    gi_wp2
    have hne : Dd ≠ w.heap.size := by omega
    have hK2 : (W.setCell ⟨w.heap.size, 0, none⟩ (.slice none 0 0)).heap[Dd]? = some (.deferred (some [])) := (KeepsOthers.setCell _ _ _).same Dd _ hK rfl
    refine ⟨by simp, .inl ⟨_, _, rfl, run_takeDeferred hK2, ?_⟩⟩
    have c3 : (W.setCell ⟨w.heap.size, 0, none⟩ (.slice none 0 0)).cell? ⟨w.heap.size, 0, none⟩ = some (.slice none 0 0) := World.cell?_setCell_same' _ _ _ (by rw [c2]; rfl)
    have c4 := cell_kept c3 (grownBy_putObj' _ Dd (.deferred none)) (fun r e => by cases e; exact ⟨_, hK2, rfl⟩)
    have hU : Upd (fun k => k = g) w W := (((Upd.refl _ w).alloc _).trans' HU.out (fun k e => .inl e)).trans' (S' := fun _ => False) (Upd.of_below (hB2.trans (hB.mono (by omega)))) (fun _ e => e.elim)
    have hD2 : w.heap.size ≤ Dd := by omega
    have hU2 : Upd (fun k => k = g) w ((W.setCell ⟨w.heap.size, 0, none⟩ (.slice none 0 0)).putObj Dd (.deferred none)) := (hU.setCell (p := ⟨w.heap.size, 0, none⟩) (.inr (Nat.le_refl _)) _).grown (grownBy_putObj' _ Dd (.deferred none)) (fun k e => by cases e; exact .inr hD2)
    have hR : RD W g D ([], true) := (HR.out.below hB2).below hB
    refine ⟨.slice none 0 0, by simp [results, Try.results31, go_sem, c4], rfl, ?_, hU2⟩
    obtain ⟨A', c', q1, q2, q3, q4, q5, q6⟩ := hR
    have hgD : Dd ≠ g := by omega
    have q1' : ((W.setCell ⟨w.heap.size, 0, none⟩ (.slice none 0 0)).putObj Dd (.deferred none)).heap[g]? = some (.cells #[.slice A' 0 c', .bool true] 141 (0, 0)) :=
      (World.putObj_heap_other (Ne.symm hgD)).trans ((Below.heap_setCell _ _ _ _ (by show g ≠ w.heap.size; omega)).trans q1)
    exact ⟨A', c', q1', C_int.2 ⟨rfl, by simp, fun h => absurd h (by simp)⟩, q3, q4, q5, q6⟩
  case stop =>
    rintro Dd c pre W _ _ h _
    exact h.elim
end Go.Proofs.Ytmdnokfmlbjbhaa
