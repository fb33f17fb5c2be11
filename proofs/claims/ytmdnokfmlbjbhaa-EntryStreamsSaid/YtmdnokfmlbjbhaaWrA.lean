/- A Writer beside a box and rows that lay ahead of it: the state that a chain of its methods carries. -/
import Derived.Test.YtmdnokfmlbjbhaaM2
namespace Go.Proofs.Ytmdnokfmlbjbhaa
open Go.RowKit Go.Proofs.YtmdnokfmlbjbhaaW.PrintWords Go.Proofs.YtmdnokfmlbjbhaaW.PrintMore
set_option linter.unusedVariables false
set_option linter.unusedSimpArgs false

/-- the Writer at block g, whose row v of xs lies from base on; the block b is as it was; all that lay ahead (in w0) is as it was -/
structure Wst (w0 : World) (base g b : Nat) (o : Obj) (W : World) (v : Value) (xs : List Int) : Prop where
  cell : W.heap[g]? = some (.cells #[v] 76 (0, 0))
  own : OB W base v xs
  size : base ≤ W.heap.size
  box : W.heap[b]? = some o
  bel : Below w0.heap.size w0 W
  gb : w0.heap.size ≤ g ∧ w0.heap.size ≤ base ∧ b ≠ g ∧ b < base
theorem Wst.step {w0 W W' : World} {base g b : Nat} {o : Obj} {v v' : Value} {xs ys : List Int} (h : Wst w0 base g b o W v xs) (k : Wrote base g W v W' v' ys) : Wst w0 base g b o W' v' ys := by
  obtain ⟨h1, h2, h3, h4⟩ := h.gb
  refine ⟨k.cell, k.own, Nat.le_trans h.size k.upd.size, k.upd.at_ h.box (fun e => e.elim h3 (fun e => by have := own_base h.own _ e; omega)), ?_, h.gb⟩
  exact h.bel.trans (k.upd.below h.bel.size (fun j hj => hj.elim (fun e => by omega) (fun e => Nat.le_trans h2 (own_base h.own j e))))
theorem Wst.alloc {w0 W : World} {base g b : Nat} {o : Obj} {v : Value} {xs : List Int} (h : Wst w0 base g b o W v xs) (o' : Obj) : Wst w0 base g b o (W.alloc o') v xs :=
  ⟨(Below.heap_alloc _ _ _ (blk_lt h.cell)).trans h.cell, h.own.alloc _, by have := h.size; simp only [World.size_alloc]; omega, (Below.heap_alloc _ _ _ (blk_lt h.box)).trans h.box, h.bel.alloc h.bel.size _, h.gb⟩

/-- Bytes, of a row that lay ahead -/
theorem wbytes_ahead (w0 : World) (base g b : Nat) (o : Obj) (v : Value) (xs ys : List Int) (A : Option Addr) (c : Nat) (w : World) (h : Wst w0 base g b o w v xs) (hy : RB w0 A ys) (hl : xs.length + 4 + ys.length + 8 ≤ 140737488355328) :
    Calls Try.prog 90 #[.pointer (some ⟨g, 0, none⟩), .slice A ys.length c] w fun e w' => e = .returned (.tuple #[]) ∧ ∃ v', Wrote base g w v w' v' (xs ++ (be ys.length 4 ++ ys)) := by
  rcases Nat.eq_zero_or_pos ys.length with hz | hp
  · obtain rfl : ys = [] := List.eq_nil_of_length_eq_zero hz
    have H := Aside0.mk (wnumber_calls base g v xs ((([] : List Int).length : Nat) : Int) 4 4 (by decide) (by decide) w (by simp) (by simp) h.cell h.own h.size (by simp at hl; omega))
    have H0 := Aside0.mk h
    clear h hy
    go_enter Try.func90, Try.ntmps90
    go_wp2_with fail
    refine H.out.mono ?_
    rintro e w1 ⟨rfl, v1, hw1⟩
    have hcell : w1.cell? ⟨g, 0, none⟩ = some v1 := blk_cell hw1.cell 0
    have HBY : Aside0 (RB w1 A []) := ⟨C_int.2 ⟨rfl, by simp, fun h => absurd h (by simp)⟩⟩
    obtain ⟨A1, n1, c1, rfl, _⟩ := OB.shape hw1.own
    have HW1 := Aside0.mk hw1
    have hb1 := Aside0.mk (Nat.le_trans H0.out.size hw1.upd.size)
    clear hw1
    go_wp2_with (at_builtin; refine wpList_appB 15 rfl rfl (.tmp 13) (.tmp 14) rfl (v := .slice A1 n1 c1) (xs := xs ++ be (([] : List Int).length : Nat) 4) (ys := []) rfl rfl HW1.out.own HBY.out hb1.out ?q2 ?_; (case q2 => rw [List.length_append, be_len]; simp at hl ⊢; omega); intro v2 W1 o2 g2 s2; obtain ⟨k1, k2, k3⟩ := wrote_append HW1.out.cell HW1.out.own (Below.refl _ _) o2 g2 s2; have K3 := Aside0.mk (HW1.out.trans k3); obtain ⟨A2, n2, c2, rfl, _⟩ := OB.shape o2; clear o2 g2 s2 k3)
    go_end0
    exact ⟨rfl, _, by have := K3.out; rw [List.append_assoc] at this; exact this⟩
  · obtain ⟨ad, e, hlt⟩ := C_lt hy hp
    subst e
    obtain ⟨h1, h2, h3, h4⟩ := h.gb
    refine (wbytes_calls base g v xs ys _ c w h.cell h.own h.size (RB.keep hy h.bel) (fun ad' e' => ?_) hl).mono fun e w' ⟨h1, v', h2⟩ => ⟨h1, v', by rw [List.append_assoc] at h2; exact h2⟩
    injection e' with e'
    subst e'
    exact ⟨by omega, fun e => by have := own_base h.own _ e; omega⟩
end Go.Proofs.Ytmdnokfmlbjbhaa
