/- What a Reader beside a box keeps; small words. -/
import Derived.Test.YtmdnokfmlbjbhaaWrA
namespace Go.Proofs.Ytmdnokfmlbjbhaa
open Go.RowKit Go.Proofs.YtmdnokfmlbjbhaaW.PrintWords Go.Proofs.YtmdnokfmlbjbhaaW.PrintMore
set_option linter.unusedVariables false
set_option linter.unusedSimpArgs false

/-- a Reader beside a box of the call's own -/
structure Dst (t : TypeId) (w0 : World) (rx g D : Nat) (cs : Array Value) (s : Rst) (W : World) : Prop where
  box : W.heap[rx]? = some (.cells cs t (0, 0))
  rd : RD W g D s
  bel : Below w0.heap.size w0 W
  ne : w0.heap.size ≤ rx ∧ w0.heap.size ≤ g ∧ rx ≠ g ∧ rx ≠ D
theorem Dst.upd {t : TypeId} {w0 W W' : World} {rx g D : Nat} {cs : Array Value} {s s' : Rst} (h : Dst t w0 rx g D cs s W) (k : RD W' g D s') (u : Upd (fun k => k = g) W W') : Dst t w0 rx g D cs s' W' :=
  ⟨u.at_ h.box h.ne.2.2.1, k, h.bel.trans (u.below h.bel.size (fun j e => by have := h.ne.2.1; omega)), h.ne⟩
theorem Dst.set {t : TypeId} {w0 W : World} {rx g D : Nat} {cs : Array Value} {s : Rst} (h : Dst t w0 rx g D cs s W) (i : Nat) (v : Value) : Dst t w0 rx g D (cs.setIfInBounds i v) s (W.setCell ⟨rx, i, none⟩ v) :=
  ⟨blk_set h.box i v, h.rd.keep (S := fun k => k = rx) ((Upd.refl (fun k => k = rx) W).setCell (p := ⟨rx, i, none⟩) (.inl rfl) v) (fun e => h.ne.2.2.1 e.symm) (fun e => h.ne.2.2.2 e.symm), h.bel.setCell (p := ⟨rx, i, none⟩) h.ne.1 v, h.ne⟩
theorem Dst.later {t : TypeId} {w0 W W' : World} {rx g D : Nat} {cs : Array Value} {s : Rst} (h : Dst t w0 rx g D cs s W) (hB : Below W.heap.size W W') : Dst t w0 rx g D cs s W' :=
  ⟨(hB.block _ (blk_lt h.box)).trans h.box, h.rd.below hB, h.bel.trans (hB.mono h.bel.size), h.ne⟩

theorem be_inj {a b : Int} {n : Nat} (a0 : 0 ≤ a) (a1 : a < 256 ^ n) (b0 : 0 ≤ b) (b1 : b < 256 ^ n) (h : be a n = be b n) : a = b := by
  rw [← num_be a n a0 a1, ← num_be b n b0 b1, h]
theorem wrapped_inj {a b : List Int} (h : wrapped a = wrapped b) : a = b := by
  rw [← unw_wrapped a, ← unw_wrapped b, h]
theorem edrewB {w0 W : World} {n : Nat} (h : Aside0 (Below n w0 W)) : Aside0 (Below n w0 W.drew) := ⟨h.out.drew⟩
theorem C_nil0 (w : World) : RB w none [] := C_int.2 ⟨rfl, by simp, fun h => absurd h (by simp)⟩

end Go.Proofs.Ytmdnokfmlbjbhaa
