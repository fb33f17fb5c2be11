/- check.Wrap: bytes with their sum behind. -/
import Derived.Test.YtmdnokfmlbjbhaaChkC
namespace Go.Proofs.Ytmdnokfmlbjbhaa
open Go.RowKit Go.Proofs.YtmdnokfmlbjbhaaW.PrintWords
set_option linter.unusedVariables false
set_option linter.unusedSimpArgs false

def wrapped (xs : List Int) : List Int := xs ++ be (Crc.U (Crc.sum xs)) 4
theorem wrapped_len (xs : List Int) : (wrapped xs).length = xs.length + 4 := by unfold wrapped; rw [List.length_append, be_len]
theorem wrapped_bytes {xs : List Int} (h : Bytes xs) : Bytes (wrapped xs) := h.append (be_bytes _ _)

set_option maxRecDepth 100000 in
theorem wrap_calls (A : Option Addr) (c : Nat) (xs : List Int) (w : World) (hr : RB w A xs) (hb : Bytes xs) (hl : xs.length ≤ 140737488350000) :
    Calls Try.prog 50 #[.slice A xs.length c] w fun e w' => ∃ v, e = .returned v ∧ OB w' w.heap.size v (wrapped xs) ∧ Below w.heap.size w w' := by
  have HR := Aside0.mk hr
  have hw1 : Below w.heap.size w (w.alloc (.cells #[.slice none 0 0] 76)) := (Below.refl _ _).alloc (Nat.le_refl _) _
  have HW1 := Aside0.mk hw1
  have HS := Aside0.mk (sum_calls A c xs _ (RB.keep hr hw1) hb)
  have C1 := Aside0.mk (heap_alloc_new w (.cells #[.slice none 0 0] 76))
  have u0 := Crc.U_nonneg (Crc.sum xs)
  have u1 := Crc.U_lt (Crc.sum xs)
  have u2 : Crc.U (Crc.sum xs) < 18446744073709551616 := by omega
  have HU := Aside0.mk u2
  have HE : Aside0 (wrapped xs = xs ++ be (Crc.U (Crc.sum xs)) 4) := ⟨rfl⟩
  generalize wrapped xs = ws at *
  generalize Crc.U (Crc.sum xs) = s at *
  clear hr hb hw1 u2
  go_enter Try.func50, Try.ntmps50
  go_wp2_with fail
  refine HS.out.mono ?_
  rintro e w2 ⟨rfl, b2⟩
  have c2 : w2.heap[w.heap.size]? = some (.cells #[.slice none 0 0] 76 (0, 0)) := (b2.block _ (by simp)).trans C1.out
  have B2 : Aside0 (Below w.heap.size w w2) := ⟨HW1.out.trans (b2.mono HW1.out.size)⟩
  have hsz := Aside0.mk (show w.heap.size + 1 ≤ w2.heap.size by have := b2.size; simpa using this)
  have HN := Aside0.mk (wnumber_calls (w.heap.size + 1) w.heap.size (.slice none 0 0) [] s 4 4 (by decide) (by decide) w2 u0 HU.out c2 (OB.nil _ _) hsz.out (by simp))
  clear c2 b2
  go_wp2_with fail
  refine HN.out.mono ?_
  rintro e w3 ⟨rfl, v3, hw3⟩
  have HO := Aside0.mk (wout_calls (w.heap.size + 1) w.heap.size v3 _ w3 hw3.cell hw3.own (by simp [be_len]))
  have B3 : Aside0 (Below w.heap.size w w3) := ⟨B2.out.trans (hw3.upd.below (B2.out.size) (fun k hk => hk.elim (fun e => by omega) (fun e => by simp [Value.ownBlock] at e)))⟩
  clear hw3
  go_wp2_with fail
  refine HO.out.mono ?_
  rintro e w4 ⟨u, rfl, ou, b4⟩
  rw [List.nil_append] at ou
  obtain ⟨A4, c4, rfl, r4, _⟩ := OB.slice ou
  have B4 : Aside0 (Below w.heap.size w w4) := ⟨B3.out.trans (b4.mono B3.out.size)⟩
  have R4 : Kd.C (Kd.int .u8) w4 A4 4 (be s 4) := by rwa [RB, be_len] at r4
  have hw5 : Below w4.heap.size w4 (w4.alloc (.cells #[.slice A xs.length c, .slice A4 4 c4] 22)) := (Below.refl _ _).alloc (Nat.le_refl _) _
  have HC := Aside0.mk (concat2_calls w4.heap.size xs.length c 4 c4 A A4 (0, 0) xs (be s 4) _ (heap_alloc_new w4 _) (RB.keep (RB.keep HR.out B4.out) hw5) (RB.keep R4 hw5) (by omega))
  have B5 : Aside0 (Below w.heap.size w (w4.alloc (.cells #[.slice A xs.length c, .slice A4 4 c4] 22))) := ⟨B4.out.trans (hw5.mono B4.out.size)⟩
  clear ou b4 r4 R4 hw5
  rw [be_len]
  go_wp2_with fail
  refine HC.out.mono ?_
  rintro e w6 ⟨v6, rfl, o6, b6⟩
  have O6 := Aside0.mk (own_weaken o6 B5.out.size)
  have B6 : Aside0 (Below w.heap.size w w6) := ⟨B5.out.trans (b6.mono B5.out.size)⟩
  clear o6 b6
  go_wp2
  go_ret
  exact ⟨_, rfl, HE.out ▸ O6.out, B6.out⟩
end Go.Proofs.Ytmdnokfmlbjbhaa
