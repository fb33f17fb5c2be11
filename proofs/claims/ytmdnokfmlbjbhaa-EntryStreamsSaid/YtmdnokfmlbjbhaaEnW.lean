/- entry.Walk: which entries are gone through. -/
import Derived.RangeFuncNested
import Derived.RangeFuncBound
import Derived.RangeFuncCalls
import Derived.RangeFuncLeaves
import Derived.RangeFuncFrom
import Derived.Shelf.Abstract
import Derived.Shelf.RegionOpen
import Derived.WalkKit
import Derived.OwnWalkIn
import Derived.TacticsInMore
import Derived.LoopNIn
import Derived.LoopIn
import Derived.Handy
import Derived.Test.YtmdnokfmlbjbhaaEnD
namespace Go.Proofs.Ytmdnokfmlbjbhaa
open Go.RowKit Go.Shelf Go.Proofs.YtmdnokfmlbjbhaaW.PrintWords
set_option linter.unusedVariables false
set_option linter.unusedSimpArgs false
attribute [local go_sem] Oper.semAt_some

/-- an entry without a payload, at an address -/
structure Ev0 where
  at_ : Int
  kind : Int
  stream : Int
  back : Int
def ev0Cells (x : Ev0) : Array Value := #[.int .i64 x.kind, .int .i64 0, .int .i64 0, .int .i64 0, .int .i64 x.stream, .int .i64 x.back, .slice none 0 0]
/-- from a on, back, till nowhere -/
def Chain : Int → List Ev0 → Prop
  | a, [] => a < 0
  | a, x :: r => x.at_ = a ∧ 0 ≤ a ∧ x.back < a ∧ Chain x.back r
/-- what the body of a round keeps: all cells but those of S -/
def Kq (S : Nat → Prop) (W W' : World) : Prop := W.heap.size ≤ W'.heap.size ∧ ∀ (k : Nat) cs t fr, ¬ S k → W.heap[k]? = some (.cells cs t fr) → W'.heap[k]? = some (.cells cs t fr)
theorem Kq.refl (S : Nat → Prop) (W : World) : Kq S W W := ⟨Nat.le_refl _, fun _ _ _ _ _ h => h⟩
theorem Kq.trans {S : Nat → Prop} {A B C : World} (h : Kq S A B) (k : Kq S B C) : Kq S A C := ⟨Nat.le_trans h.1 k.1, fun i cs t fr hs hh => k.2 i cs t fr hs (h.2 i cs t fr hs hh)⟩
theorem Kq.put {S : Nat → Prop} {w : World} (W : World) (l : Nat) (o o' : Obj) (hl : w.heap.size ≤ l) (h : W.heap[l]? = some o) (hc : o.isCells = false) (hw : o.isWalk = false) : Kq S W (W.putObj l o') := by
  refine ⟨by simp [World.putObj], fun k cs t fr _ hh => ?_⟩
  have hne : k ≠ l := by
    rintro rfl
    rw [h] at hh; injection hh with hh; subst hh; cases hc
  exact (World.putObj_heap_other hne).trans hh
theorem Kq.below {S : Nat → Prop} {W W' : World} (h : Below W.heap.size W W') : Kq S W W' := ⟨h.size, fun k cs t fr _ hh => (h.block k (Array.getElem?_eq_some_iff.1 hh).1).trans hh⟩

theorem walkmake_calls (a : Int) (fr : FuncId) (caps : Array Value) (w : World) :
    Calls Try.prog 68 #[.int .i64 a, .func (.func fr) #[] caps] w fun e w' => e = .returned (.func (.func 120) #[] #[.pointer (some ⟨w.heap.size, 0, none⟩), .pointer (some ⟨w.heap.size + 1, 0, none⟩)]) ∧
      w' = (w.alloc (.cells #[.int .i64 a] 3)).alloc (.cells #[.func (.func fr) #[] caps] 99) := by
  go_enter Try.func68, Try.ntmps68
  go_wp2
  go_returns
  simp

set_option maxHeartbeats 4000000 in
set_option maxRecDepth 100000 in
theorem walk_in (n : Nat) (hn : 1 ≤ n) (l : Nat) (ba bf : Nat) (fr : FuncId) (caps : Array Value) (at0 : Int) (L : List Ev0) (S : Nat → Prop) (J Jx : List Ev0 → World → Prop) (w W : World)
    (heg : ∀ args w, (callFunc fr args).run Try.prog w = .ok (.enter fr args) w) (hJ : AbidesFrom W.heap.size J) (hK0 : Kq S w W) (hL : Chain at0 L) (hSb : ∀ k, S k → k < w.heap.size ∧ k ≠ ba ∧ k ≠ bf)
    (hba : w.heap[ba]? = some (.cells #[.int .i64 at0] 3 (0, 0))) (hbf : w.heap[bf]? = some (.cells #[.func (.func fr) #[] caps] 99 (0, 0)))
    (hread : ∀ x ∈ L, ∀ W, Kq S w W → Calls Try.prog fr (#[.int .i64 x.at_] ++ caps) W fun e w' => e = .returned (.tuple #[.agg (ev0Cells x), .bool true]) ∧ Below W.heap.size W w')
    (hY : ∀ pre x W1, J pre W1 → pre.length < L.length → YieldAt Fence.wide (n - 1) Try.prog l #[.int .i64 x.at_, .agg (ev0Cells x)] W1 fun e W' =>
      (e = .returned (.bool true) ∧ J (pre ++ [x]) W' ∧ Kq S W1 W') ∨ (e = .returned (.bool false) ∧ Jx (pre ++ [x]) W'))
    (h0 : J [] W) :
    CallsIn Fence.wide n Try.prog 120 #[.func (.yield l) #[] #[], .pointer (some ⟨ba, 0, none⟩), .pointer (some ⟨bf, 0, none⟩)] W fun e W' => (∃ v, e = .returned v) ∧ ((∃ xs, xs = L ∧ J xs W') ∨ (∃ pre, pre <+: L ∧ Jx pre W')) := by
  have HJ := Aside0.mk hJ
  have HL := Aside0.mk hL
  have HS := Aside0.mk hSb
  have HR := Aside0.mk hread
  have HY := Aside0.mk hY
  have HBF := Aside0.mk hbf
  have HBA := Aside0.mk hba
  have HK0 := Aside0.mk hK0
  have H0 := Aside0.mk h0
  have ca : W.cell? ⟨ba, 0, none⟩ = some (.int .i64 at0) := blk_cell (hK0.2 _ _ _ _ (fun h => (hSb _ h).2.1 rfl) hba) 0
  clear hJ hL hSb hread hY hba hbf hK0 h0
  refine callsIn_of_wp Try.func120 rfl trivial ?_ rfl
  simp only [Try.ntmps120, List.size_toArray, List.length_cons, List.length_nil, Nat.reduceAdd, Nat.reduceSub, Array.replicate_succ, Array.replicate_zero, List.push_toArray, List.append_toArray, List.nil_append, List.cons_append]
  gi_wp2
  gi_loopw [4] (fun p wr => ∃ (pre rest : List Ev0) (a : Int), p = .int .i64 a ∧ Aside0 (L = pre ++ rest) ∧ Aside0 (Chain a rest) ∧ Aside0 (J pre wr) ∧ Aside0 (Kq S w wr)) (fun p wr => (intOf p + 1).toNat)
  case atStart => exact ⟨[], L, at0, rfl, ⟨rfl⟩, HL, H0, HK0⟩
  case round =>
    clear ca H0
    obtain ⟨pre, rest, a, rfl, HX, HC, HJs, HK⟩ := hrel
    have cf : wr.cell? ⟨bf, 0, none⟩ = some (.func (.func fr) #[] caps) := blk_cell (HK.out.2 _ _ _ _ (fun h => (HS.out _ h).2.2 rfl) HBF.out) 0
    cases rest with
    | nil =>
      have ha : a < 0 := HC.out
      gi_wp2
      go_end0
      exact ⟨⟨_, rfl⟩, .inl ⟨pre, by simp [HX.out], HJs.out⟩⟩
    | cons x rest =>
      obtain ⟨rfl, ha0, hback, hch⟩ := HC.out
      have HCH := Aside0.mk hch
      have HRD := Aside0.mk (HR.out x (by rw [HX.out]; simp) wr HK.out)
      clear hch
      gi_wp2_with (fail)
      refine ⟨trivial, ?_⟩
      gi_wp2_with (fail)
      refine (callsIn_wide.2 HRD.out).mono ?_
      rintro e w1 ⟨rfl, b1⟩
      unfold ev0Cells
      have b2 : Below wr.heap.size wr (w1.alloc (.cells (ev0Cells x) 89)) := b1.alloc b1.size _
      have HK2 := Aside0.mk (HK.out.trans (Kq.below b2))
      have HJ2 : Aside0 (J pre (w1.alloc (.cells (ev0Cells x) 89))) := ⟨HJ.out pre wr _ none HJs.out ⟨b2.os, b2.tape, b2.output, b2.size, fun i hi _ => b2.block i hi⟩ (fun r e => by cases e)⟩
      obtain ⟨fn, tmps, assign, body, hy, hR⟩ := HY.out pre x _ HJ2.out (by rw [HX.out]; simp)
      have hxb := Aside0.mk (heap_alloc_new w1 (.cells (ev0Cells x) 89))
      have hw1 : Aside0 (w.heap.size ≤ w1.heap.size) := ⟨Nat.le_trans HK.out.1 b1.size⟩
      unfold ev0Cells at hy hR
      have HR2 := Aside0.mk hR
      clear hR HRD b1 b2 HJ2 cf
      gi_wp2_with (fail)
      refine HR2.out.mono ?_
      rintro e W3 (⟨rfl, hJ3, hk3⟩ | ⟨rfl, hJx3⟩)
      · have hx3 : W3.heap[w1.heap.size]? = some (.cells (ev0Cells x) 89 (0, 0)) := hk3.2 _ _ _ _ (fun h => by have := (HS.out _ h).1; have := hw1.out; omega) hxb.out
        have z3 : W3.cell? ⟨w1.heap.size, 5, none⟩ = some (.int .i64 x.back) := blk_cell hx3 5
        have J3 := Aside0.mk hJ3
        have K3 : Aside0 (Kq S w W3) := ⟨HK2.out.trans hk3⟩
        clear hx3 hJ3 hk3 HR2 hxb hy
        gi_wp2
        go_roundw
        case rel => exact ⟨pre ++ [x], rest, x.back, rfl, ⟨by rw [HX.out, List.append_assoc]; rfl⟩, HCH, J3, K3⟩
        case measure => simp [intOf]; omega
      · gi_wp2
        refine bodyPost_ret (results_none rfl _ _ _) rfl ?_
        exact ⟨⟨_, rfl⟩, .inr ⟨pre ++ [x], ⟨rest, by rw [HX.out, List.append_assoc]; rfl⟩, hJx3⟩⟩
end Go.Proofs.Ytmdnokfmlbjbhaa
