/- A range over a function whose iterator may write, and whose loop variable may lie in memory: a law. -/
import Derived.RangeFuncNested
import Derived.RangeFuncBound
import Derived.RangeFuncCalls
import Derived.RangeFuncLeaves
import Derived.RangeFuncFrom
import Derived.Shelf.Abstract
import Derived.Shelf.RegionOpen
import Derived.WalkKit
import Derived.TacticsInMore
import Derived.LoopNIn
import Derived.LoopIn
import Derived.Handy
namespace Go.Proofs.Ytmdnokfmlbjbhaa
open Go.RowKit Go.Shelf
set_option linter.unusedVariables false
set_option linter.unusedSimpArgs false

/-- a block that is neither cells nor a walk stays -/
def KeepRec (W W' : World) : Prop := ∀ (k : Nat) (o : Obj), W.heap[k]? = some o → o.isCells = false → o.isWalk = false → W'.heap[k]? = some o

/-- The iterator's effect between two rounds is Ab; the assignment to the loop's variables leads from W to (a₁ x W, w₁ x W). -/
theorem rangeFunc_gen {α : Type} {F : Fence} {n : Nat} {P : Program} {g : Operand} {ps : Array Tmp} {assign body : Code} {Q : Exit → Act → World → Prop} {a : Act} {w : World}
    (hro : F.round = none) (h1 : 1 ≤ n) {gf : Nat} {lb : Array Value} (hg : a.eval g = .func (.func gf) #[] lb) (hFg : F.fn gf) (eg : ∀ args w, (callFunc gf args).run P w = .ok (.enter gf args) w)
    {encs : α → Array Value} (hps : ∀ x, (encs x).size = ps.size) (Ab Kp : World → World → Prop) (S Sp : List α → Prop) (N : Nat)
    (hseq : ∀ (l : Nat) (J Jx : List α → World → Prop) (W : World), Below w.heap.size w W → (∀ s A B, J s A → Ab A B → J s B) → (∀ s A B, Jx s A → Ab A B → Jx s B) →
      (∀ pre x W1, J pre W1 → pre.length < N → YieldAt F (n - 1 - 1) P l (encs x) W1 fun e W' => (e = .returned (.bool true) ∧ J (pre ++ [x]) W' ∧ Kp W1 W') ∨ (e = .returned (.bool false) ∧ Jx (pre ++ [x]) W')) →
      J [] W → CallsIn F (n - 1) P gf (#[.func (.yield l) #[] #[]] ++ lb) W fun e W' => (∃ v, e = .returned v) ∧ ((∃ xs, S xs ∧ J xs W') ∨ (∃ pre, Sp pre ∧ Jx pre W')))
    (hAb : ∀ A B, Ab A B → KeepRec A B) (hKt : ∀ {A B C : World}, Kp A B → Kp B C → Kp A C) (hKb : ∀ (W : World) (l : Nat) (o o' : Obj), w.heap.size ≤ l → W.heap[l]? = some o → o.isCells = false → o.isWalk = false → Kp W (W.putObj l o'))
    (I : List α → World → Prop) (Ix : Code → List α → World → Prop) (hIA : ∀ s A B, I s A → Ab A B → I s B) (hIxA : ∀ c s A B, Ix c s A → Ab A B → Ix c s B)
    (hIp : ∀ s (W : World) (l : Nat) (o o' : Obj), I s W → w.heap.size ≤ l → W.heap[l]? = some o → o.isCells = false → o.isWalk = false → I s (W.putObj l o'))
    (hIxp : ∀ c s (W : World) (l : Nat) (o o' : Obj), Ix c s W → w.heap.size ≤ l → W.heap[l]? = some o → o.isCells = false → o.isWalk = false → Ix c s (W.putObj l o'))
    (h0 : ∀ o o', I [] ((w.alloc o).alloc o'))
    (a₁ : α → World → Act) (w₁ : α → World → World)
    (hassign : ∀ (l : Nat) (x : α) (W : World) (K : Act → World → Prop), K (a₁ x W) (w₁ x W) →
      assign.wpIn (F.inRound l) (n - 1 - 1) P (Exit.then K (fun _ _ _ => False)) { tmps := (ps.zip (encs x)).foldl (fun t (p, v) => t.setIfInBounds p v) a.tmps, defers := [] } W)
    (hw₁ : ∀ x W, KeepRec W (w₁ x W)) (hKw : ∀ x W, Kp W (w₁ x W))
    (hbody : ∀ (l : Nat) (pre : List α) (x : α) (W : World) (o o' : Obj), I pre W → pre.length < N → w.heap.size + 2 ≤ W.heap.size → w.heap.size ≤ l → (w₁ x W).heap[l]? = some o → o.isCells = false → o.isWalk = false →
      body.wpIn (F.inRound l) (n - 1 - 1) P (ownPostK Kp I Ix (pre ++ [x]) ((w₁ x W).putObj l o')) (a₁ x W) ((w₁ x W).putObj l o'))
    (hdone : ∀ (D : Nat) (xs : List α) (W : World), w.heap.size ≤ D → S xs → I xs W → W.heap[D]? = some (.deferred (some [])) → Q .normal { a with defers := { target := .collected D, args := #[] } :: a.defers } W)
    (hstop : ∀ (D : Nat) (c : Code) (pre : List α) (W : World), w.heap.size ≤ D → Sp pre → Ix c pre W → W.heap[D]? = some (.deferred (some [])) → c.wpIn F n P Q { a with defers := { target := .collected D, args := #[] } :: a.defers } W) :
    (Code.rangeFunc g ps assign body).wpIn F n P Q a w := by
  refine wpIn_rangeFunc (fun fn hfn => ?_)
  rw [hro]
  -- the record of the loop, by its state
  obtain ⟨R, hR⟩ : ∃ R : LoopState → Option Code → Loop, ∀ s p, R s p = { state := s, pending := p, fn, tmps := a.tmps, params := ps, assign, body, defers := w.heap.size } := ⟨_, fun _ _ => rfl⟩
  obtain ⟨V, hV⟩ : ∃ V, V = (w.alloc (.deferred (some []))).alloc (.loop (R .ready none)) := ⟨_, rfl⟩
  have hz : V.heap.size = w.heap.size + 2 := by rw [hV]; simp only [World.size_alloc]
  have hVl : V.heap[w.heap.size + 1]? = some (.loop (R .ready none)) := by
    have q := World.alloc_heap_new (w.alloc (.deferred (some []))) (.loop (R .ready none))
    rw [World.size_alloc] at q; rw [hV]; exact q
  have hVd : V.heap[w.heap.size]? = some (.deferred (some [])) := by
    rw [hV]; exact (Below.heap_alloc _ _ _ (by simp only [World.size_alloc]; omega)).trans (World.alloc_heap_new w _)
  have hVb : Below w.heap.size w V := by rw [hV]; exact ((Below.refl _ w).alloc (Nat.le_refl _) _).alloc (by simp only [World.size_alloc]; omega) _
  refine ⟨w.heap.size + 1, [{ target := .collected w.heap.size, args := #[] }], V, { target := .fn (.func gf) lb, args := #[.func (.yield (w.heap.size + 1)) #[] #[]] }, V, gf, #[.func (.yield (w.heap.size + 1)) #[] #[]] ++ lb, V, ?_, ?_, ?_, ?_, fun _ => h1, ?_⟩
  · rw [hV, hR]; exact run_enterLoop_outer _ _ _ _ _
  · simp only [resolve, hg]
    simp [go_sem]
  · intro f' hf'
    simp [Target.leads] at hf'
    exact hf' ▸ hFg
  · simp [invoke, go_sem, eg]
  refine (hseq (w.heap.size + 1) (fun pre W => I pre W ∧ W.heap[w.heap.size + 1]? = some (.loop (R .ready none)) ∧ W.heap[w.heap.size]? = some (.deferred (some [])))
    (fun pre W => ∃ c, Ix c pre W ∧ W.heap[w.heap.size + 1]? = some (.loop (R .done (some c))) ∧ W.heap[w.heap.size]? = some (.deferred (some []))) V hVb
    (fun s A B hs hab => ⟨hIA s A B hs.1 hab, hAb A B hab _ _ hs.2.1 rfl rfl, hAb A B hab _ _ hs.2.2 rfl rfl⟩)
    (fun s A B hs hab => by
      obtain ⟨c, h1, h2, h3⟩ := hs
      exact ⟨c, hIxA c s A B h1 hab, hAb A B hab _ _ h2 rfl rfl, hAb A B hab _ _ h3 rfl rfl⟩) ?_ ⟨by rw [hV]; exact h0 _ _, hVl, hVd⟩).mono ?_
  · -- a round
    rintro pre x W ⟨hi, hl, hd⟩ hlen
    have hWz : w.heap.size + 2 ≤ W.heap.size := (Array.getElem?_eq_some_iff.1 hl).1
    have hy := run_yield (P := P) (args := encs x) hl (by rw [hR]; exact hps x)
    rw [hR] at hy
    have hl1 := hw₁ x W _ _ hl rfl rfl
    have hd1 := hw₁ x W _ _ hd rfl rfl
    refine ⟨fn, _, assign, body, hy, roundIn_of_wpIn hfn (hassign _ x W _ ⟨_, run_beginRound hl1 (by rw [hR]), ?_⟩)⟩
    obtain ⟨busy, hbz⟩ : ∃ b : Loop, b = { R .ready none with state := .busy } := ⟨_, rfl⟩
    rw [← hbz]
    obtain ⟨U, hU⟩ : ∃ U, U = (w₁ x W).putObj (w.heap.size + 1) (.loop busy) := ⟨_, rfl⟩
    have hUl : U.heap[w.heap.size + 1]? = some (.loop busy) := by rw [hU]; exact World.putObj_heap_same (Array.getElem?_eq_some_iff.1 hl1).1
    have hUd : U.heap[w.heap.size]? = some (.deferred (some [])) := by rw [hU]; exact (World.putObj_heap_other (by omega)).trans hd1
    have hUk : Kp W U := by rw [hU]; exact hKt (hKw x W) (hKb _ _ _ _ (by omega) hl1 rfl rfl)
    have hb := hbody (w.heap.size + 1) pre x W _ (.loop busy) hi hlen hWz (by omega) hl1 rfl rfl
    rw [← hU] at hb ⊢
    refine wpIn_mono hb ?_
    -- how the record ends
    have close : ∀ (jump : Option Code) (Z : World), KeepsOthers U Z → Z.heap[w.heap.size + 1]? = some (.loop busy) ∧ (Instr.endRound (w.heap.size + 1) jump).run P Z = .ok (.bool jump.isNone) (Z.putObj (w.heap.size + 1) (.loop (R (if jump.isNone then .ready else .done) jump))) ∧
        (Z.putObj (w.heap.size + 1) (.loop (R (if jump.isNone then .ready else .done) jump))).heap[w.heap.size + 1]? = some (.loop (R (if jump.isNone then .ready else .done) jump)) ∧
        (Z.putObj (w.heap.size + 1) (.loop (R (if jump.isNone then .ready else .done) jump))).heap[w.heap.size]? = some (.deferred (some [])) := by
      intro jump Z hk
      have hZ := hk.same _ _ hUl rfl
      have hend := run_endRound (P := P) jump hZ
      have he : ({ busy with state := if jump.isNone then .ready else .done, pending := jump } : Loop) = R (if jump.isNone then .ready else .done) jump := by rw [hbz, hR, hR]
      rw [he] at hend
      exact ⟨hZ, hend, World.putObj_heap_same (Array.getElem?_eq_some_iff.1 hZ).1, (World.putObj_heap_other (by omega)).trans (hk.same _ _ hUd rfl)⟩
    rintro e a3 Z hp
    cases e with
    | normal =>
      obtain ⟨hk, hkp, hi3⟩ := hp
      obtain ⟨hZ, hr, hl4, hd4⟩ := close none Z hk
      exact ⟨_, _, hr, .inl ⟨rfl, ⟨hIp _ _ _ _ _ hi3 (by omega) hZ rfl rfl, hl4, hd4⟩, hKt (hKt hUk hkp) (hKb _ _ _ _ (by omega) hZ rfl rfl)⟩⟩
    | ret =>
      obtain ⟨hk, hi3⟩ := hp
      obtain ⟨hZ, hr, hl4, hd4⟩ := close (some .ret) Z hk
      exact ⟨_, _, hr, .inr ⟨rfl, .ret, hIxp _ _ _ _ _ _ hi3 (by omega) hZ rfl rfl, hl4, hd4⟩⟩
    | exit id =>
      obtain ⟨hk, hi3⟩ := hp
      obtain ⟨hZ, hr, hl4, hd4⟩ := close (some (.exit id)) Z hk
      exact ⟨_, _, hr, .inr ⟨rfl, .exit id, hIxp _ _ _ _ _ _ hi3 (by omega) hZ rfl rfl, hl4, hd4⟩⟩
    | goto t =>
      obtain ⟨hk, hi3⟩ := hp
      obtain ⟨hZ, hr, hl4, hd4⟩ := close (some (.goto t)) Z hk
      exact ⟨_, _, hr, .inr ⟨rfl, .goto t, hIxp _ _ _ _ _ _ hi3 (by omega) hZ rfl rfl, hl4, hd4⟩⟩
    | panic ch => exact hp.elim
    | outgrown => exact hp.elim
  · -- behind the iterator
    rintro e Z ⟨⟨v, rfl⟩, h⟩
    rcases h with ⟨xs, hS, hi, hl, hd⟩ | ⟨pre, hSp, c, hi, hl, hd⟩
    · have hend := run_endLoop (P := P) hl (by rw [hR]; simp)
      rw [show (R .ready none).pending = none from by rw [hR]] at hend
      exact ⟨none, _, hend, hdone _ xs _ (Nat.le_refl _) hS (hIp _ _ _ _ _ hi (by omega) hl rfl rfl) ((World.putObj_heap_other (by omega)).trans hd)⟩
    · have hend := run_endLoop (P := P) hl (by rw [hR]; simp)
      rw [show (R .done (some c)).pending = some c from by rw [hR]] at hend
      exact ⟨some c, _, hend, hstop _ c pre _ (Nat.le_refl _) hSp (hIxp _ _ _ _ _ _ hi (by omega) hl rfl rfl) ((World.putObj_heap_other (by omega)).trans hd)⟩
end Go.Proofs.Ytmdnokfmlbjbhaa
