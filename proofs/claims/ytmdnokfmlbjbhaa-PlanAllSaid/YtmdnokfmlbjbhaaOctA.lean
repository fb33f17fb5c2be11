/- What a call may turn ('Upd'); slices.Clone of bytes; the Writer of package octet. -/
import Derived.Test.YtmdnokfmlbjbhaaBase
import Derived.WalkSpells
import Derived.Test.YtmdnokfmlbjbhaaWMore
namespace Go.Proofs.Ytmdnokfmlbjbhaa
open Go.RowKit Go.Proofs.YtmdnokfmlbjbhaaW.PrintWords
set_option linter.unusedVariables false
set_option linter.unusedSimpArgs false

/-- of the blocks that were there only those of S may have turned -/
structure Upd (S : Nat → Prop) (w w' : World) : Prop where
  os : w'.os = w.os
  tape : w'.tape = w.tape
  output : w'.output = w.output
  size : w.heap.size ≤ w'.heap.size
  block : ∀ k, k < w.heap.size → ¬ S k → w'.heap[k]? = w.heap[k]?
namespace Upd
variable {S S' : Nat → Prop} {w w1 w2 : World}
theorem refl (S : Nat → Prop) (w : World) : Upd S w w := ⟨rfl, rfl, rfl, Nat.le_refl _, fun _ _ _ => rfl⟩
theorem trans' (h : Upd S w w1) (k : Upd S' w1 w2) (hs : ∀ k, S' k → S k ∨ w.heap.size ≤ k) : Upd S w w2 :=
  ⟨k.os.trans h.os, k.tape.trans h.tape, k.output.trans h.output, Nat.le_trans h.size k.size, fun i hi hn => (k.block i (Nat.lt_of_lt_of_le hi h.size) (fun e => (hs i e).elim hn (by omega))).trans (h.block i hi hn)⟩
theorem mono (h : Upd S w w1) (hs : ∀ k, S k → S' k) : Upd S' w w1 := ⟨h.os, h.tape, h.output, h.size, fun i hi hn => h.block i hi (fun e => hn (hs i e))⟩
theorem of_below (h : Below w.heap.size w w1) : Upd S w w1 := ⟨h.os, h.tape, h.output, h.size, fun i hi _ => h.block i hi⟩
theorem below (h : Upd S w w1) {B : Nat} (hB : B ≤ w.heap.size) (hs : ∀ k, S k → B ≤ k) : Below B w w1 := ⟨h.os, h.tape, h.output, h.size, fun i hi => h.block i (by omega) (fun e => by have := hs i e; omega)⟩
theorem drew (h : Upd S w w1) : Upd S w w1.drew := ⟨h.os, h.tape, h.output, h.size, h.block⟩
theorem alloc (h : Upd S w w1) (o : Obj) : Upd S w (w1.alloc o) := h.trans' (S' := fun _ => False) (of_below ((Below.refl _ _).alloc (Nat.le_refl _) o)) (fun _ hk => hk.elim)
theorem setCell (h : Upd S w w1) {p : Addr} (hp : S p.block ∨ w.heap.size ≤ p.block) (u : Value) : Upd S w (w1.setCell p u) :=
  h.trans' (S' := fun k => k = p.block) ⟨rfl, rfl, rfl, by simp [World.setCell], fun k _ hk => Below.heap_setCell _ _ _ _ hk⟩ (fun k hk => by rw [hk]; exact hp)
theorem grown (h : Upd S w w1) {row : Option Nat} (hg : w1.grownBy w2 row) (hr : ∀ k, row = some k → S k ∨ w.heap.size ≤ k) : Upd S w w2 :=
  h.trans' (S' := fun k => row = some k) ⟨hg.os, hg.tape, hg.output, hg.size, fun k hk hn => hg.block k hk (fun e => hn e.symm)⟩ hr
/-- a block that was there and is not of S is as it was -/
theorem at_ (h : Upd S w w1) {k : Nat} {o : Obj} (hk : w.heap[k]? = some o) (hn : ¬ S k) : w1.heap[k]? = some o := (h.block k (Array.getElem?_eq_some_iff.1 hk).1 hn).trans hk
theorem own (h : Upd S w w1) {base : Nat} {e : TypeId} {size n : Nat} {v : Value} {xs : List Value} (ho : w.ownsRow base e size v n xs) (hn : ∀ k, v.ownBlock = some k → ¬ S k) : w1.ownsRow base e size v n xs :=
  own_move ho (fun k hk => h.block k (own_lt ho k hk) (hn k hk))
end Upd

/-- a row that is read, where its block hasn't turned -/
theorem C_move {k : IntKind} {w w1 : World} {A : Option Addr} {n : Nat} {xs : List Int} (h : Kd.C (Kd.int k) w A n xs) (hm : ∀ ad, A = some ad → w1.heap[ad.block]? = w.heap[ad.block]?) : Kd.C (Kd.int k) w1 A n xs := by
  obtain ⟨h1, h2, h3⟩ := C_int.1 h
  refine C_int.2 ⟨h1, h2, fun hn => ?_⟩
  obtain ⟨ad, e, hc⟩ := h3 hn
  refine ⟨ad, e, fun j hj => ?_⟩
  have hb : (ad.add j).block = ad.block := by unfold Addr.add; split <;> rfl
  rw [World.cell?_of_block (w := w) (by rw [hb]; exact hm ad e)]
  exact hc j hj
theorem C_lt {k : IntKind} {w : World} {A : Option Addr} {n : Nat} {xs : List Int} (h : Kd.C (Kd.int k) w A n xs) (hn : 0 < n) : ∃ ad, A = some ad ∧ ad.block < w.heap.size := by
  obtain ⟨h1, h2, h3⟩ := C_int.1 h
  obtain ⟨ad, e, hc⟩ := h3 hn
  have hb : (ad.add 0).block = ad.block := by unfold Addr.add; split <;> rfl
  exact ⟨ad, e, by rw [← hb]; exact World.block_lt_of_cell? w _ (hc 0 hn)⟩

theorem RB.of {w : World} {A : Option Addr} {n : Nat} {xs : List Int} (h : Kd.C (Kd.int .u8) w A n xs) : RB w A xs := by
  have := h.1; subst this; exact h

/-- the shape of a row of the call's own, its length a letter -/
theorem OB.shape {w : World} {base : Nat} {v : Value} {xs : List Int} (h : OB w base v xs) : ∃ A n c, v = .slice A n c ∧ Aside0 (n = xs.length) := by
  obtain ⟨A, c, e, _⟩ := OB.slice h
  exact ⟨A, _, c, e, ⟨rfl⟩⟩

set_option maxRecDepth 100000 in
theorem clone_calls (A : Option Addr) (c : Nat) (xs : List Int) (w : World) (hr : RB w A xs) (hl : xs.length ≤ 140737488355328) :
    Calls Try.prog 91 #[.slice A xs.length c] w fun e w' => ∃ v, e = .returned v ∧ OB w' w.heap.size v xs ∧ Below w.heap.size w w' := by
  have heq := fun (w : World) (a : Option Addr) (l c : Nat) => Lib.run_eql_slice_nil (P := Try.prog) w 22 5 a l c 0 0 Try.underlying22
  have HR := Aside0.mk hr
  clear hr
  rcases A with _ | ad
  · have h0 : xs = [] := by
      rcases Nat.eq_zero_or_pos xs.length with h | h
      · exact List.eq_nil_of_length_eq_zero h
      · obtain ⟨ad, e, _⟩ := C_lt HR.out h; cases e
    subst h0
    go_enter Try.func91, Try.ntmps91
    go_wp2
    go_ret
    exact ⟨_, rfl, OB.nil _ _, Below.refl _ _⟩
  · have H0 := Aside0.mk (OB.empty w w.heap.size (Nat.le_refl _))
    have B0 := Aside0.mk ((Below.refl w.heap.size w).alloc (Nat.le_refl _) (.cells #[] 5))
    go_enter Try.func91, Try.ntmps91
    go_wp2_with (at_builtin; refine wpList_appW 7 rfl rfl (.tmp 5) (.tmp 6) rfl w (.slice (some ⟨w.heap.size, 0, none⟩) 0 0) [] xs rfl rfl H0.out (RB.keep HR.out B0.out) B0.out (by simpa using hl) ?_; intro v1 W1 o1 b1; rw [List.nil_append] at o1; have O1 := Aside0.mk o1; have D1 := Aside0.mk b1; clear o1 b1)
    go_ret
    exact ⟨_, rfl, O1.out, D1.out⟩

end Go.Proofs.Ytmdnokfmlbjbhaa
