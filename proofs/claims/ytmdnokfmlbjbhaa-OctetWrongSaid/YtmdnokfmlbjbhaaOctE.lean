/- The Reader of package octet: count, Bytes, Flag, Left, End, Read. -/
import Derived.Test.YtmdnokfmlbjbhaaOctD
namespace Go.Proofs.Ytmdnokfmlbjbhaa
open Go.RowKit Go.Proofs.YtmdnokfmlbjbhaaW.PrintWords Go.Proofs.YtmdnokfmlbjbhaaW.PrintMore
set_option linter.unusedVariables false
set_option linter.unusedSimpArgs false

theorem RD.fails {w : World} {g D : Nat} {s : Rst} (h : RD w g D s) :
    Calls Try.prog 96 #[.pointer (some ⟨g, 0, none⟩)] w fun e w' => e = .returned (.tuple #[]) ∧ RD w' g D ([], true) ∧ Upd (fun k => k = g) w w' := by
  obtain ⟨A, c, h1, _⟩ := h
  exact rfail_calls g D ([], true) w _ _ h1
theorem upd2 {g : Nat} {w w1 w2 : World} (h : Upd (fun k => k = g) w w1) (k : Upd (fun k => k = g) w1 w2) : Upd (fun k => k = g) w w2 := h.trans' k (fun _ e => .inl e)

theorem tk_bytes2 (n : Nat) (s : Rst) (h : Bytes s.1) : Bytes (tk n s).2.1 := by
  unfold tk; split
  · exact Bytes.nil
  · exact h.drop n

set_option maxRecDepth 100000 in
theorem rcount_calls (g D : Nat) (s : Rst) (most : Int) (w : World) (h : RD w g D s) :
    Calls Try.prog 93 #[.pointer (some ⟨g, 0, none⟩), .int .i64 most] w fun e w' => e = .returned (.int .i64 (rCount most s).1) ∧ RD w' g D (rCount most s).2 ∧ Upd (fun k => k = g) w w' := by
  have H := Aside0.mk (rnumber_calls g D s 4 w h)
  have hb := rN_bound4 s h.bytes
  have e1 : sized 4 = 4 := by decide
  rw [e1] at H
  unfold rCount
  generalize (rN 4 s) = t at *
  obtain ⟨x, s1⟩ := t
  obtain ⟨hb0, hb1⟩ := hb
  dsimp only at hb0 hb1 H ⊢
  clear h e1
  by_cases hm : most < x
  · rw [if_pos hm]
    go_enter Try.func93, Try.ntmps93
    go_wp2_with (first | (go_at_call 34; refine H.out.mono ?_; rintro e w1 ⟨rfl, hrd, hu⟩; have HF := Aside0.mk hrd.fails; have HU := Aside0.mk hu; clear hrd hu) | (go_at_call 96; refine HF.out.mono ?_; rintro e w2 ⟨rfl, hrd, hu⟩; have HR := Aside0.mk hrd; have HU2 := Aside0.mk (upd2 HU.out hu); clear hrd hu))
    go_ret
    exact ⟨rfl, HR.out, HU2.out⟩
  · rw [if_neg hm]
    go_enter Try.func93, Try.ntmps93
    go_wp2_with (go_at_call 34; refine H.out.mono ?_; rintro e w1 ⟨rfl, hrd, hu⟩; have HR := Aside0.mk hrd; have HU := Aside0.mk hu; clear hrd hu)
    go_ret
    exact ⟨rfl, HR.out, HU.out⟩

theorem rCount_bound (most : Int) (s : Rst) (h : Bytes s.1) : 0 ≤ (rCount most s).1 ∧ (rCount most s).1 < 4294967296 := by
  unfold rCount; split
  · exact ⟨by decide, by decide⟩
  · exact rN_bound4 s h

set_option maxRecDepth 100000 in
theorem rbytes_calls (g D : Nat) (s : Rst) (most : Int) (w : World) (h : RD w g D s) :
    Calls Try.prog 30 #[.pointer (some ⟨g, 0, none⟩), .int .i64 most] w fun e w' => ∃ v, e = .returned v ∧ OB w' w.heap.size v (rBytes most s).1 ∧ RD w' g D (rBytes most s).2 ∧ Upd (fun k => k = g) w w' := by
  have HC := Aside0.mk (rcount_calls g D s most w h)
  have hb := rCount_bound most s h.bytes
  unfold rBytes
  generalize (rCount most s) = t at *
  obtain ⟨x, s1⟩ := t
  obtain ⟨hb0, hb1⟩ := hb
  dsimp only at hb0 hb1 HC ⊢
  obtain ⟨n, rfl⟩ := Int.eq_ofNat_of_zero_le hb0
  rw [Int.toNat_natCast]
  have HT := fun w1 (h1 : RD w1 g D s1) => take_calls g D n s1 w1 h1 (by omega)
  generalize htk : tk n s1 = t at *
  have Htk := Aside0.mk htk
  obtain ⟨b, s2⟩ := t
  have HTT := Aside0.mk HT
  clear HT htk
  dsimp only at HTT ⊢
  clear h hb0
  have HL : Aside0 (b.length ≤ n) := ⟨by have := tk_len n s1; rw [Htk.out] at this; exact this⟩
  go_enter Try.func30, Try.ntmps30
  go_wp2_with (first | (go_at_call 93; refine HC.out.mono ?_; rintro e w1 ⟨rfl, hrd, hu⟩; have HX := Aside0.mk (HTT.out w1 hrd); have HU := Aside0.mk hu; clear hrd hu) | (go_at_call 92; refine HX.out.mono ?_; rintro e w2 ⟨A, c, ok, rfl, hr, hrd, hu, hA⟩; have HCL := Aside0.mk (clone_calls A c b w2 hr (by have := HL.out; omega)); have HRD := Aside0.mk hrd; have HU2 := Aside0.mk (upd2 HU.out hu); clear hrd hu hr hA) | (go_at_call 91; refine HCL.out.mono ?_; rintro e w3 ⟨v, rfl, ho, hbl⟩; have HO := Aside0.mk (own_weaken ho HU2.out.size); have HRD3 := Aside0.mk (HRD.out.below hbl); have HU3 := Aside0.mk (HU2.out.trans' (S' := fun _ => False) (Upd.of_below hbl) (fun _ e => e.elim)); clear ho hbl))
  go_ret
  exact ⟨_, rfl, HO.out, HRD3.out, HU3.out⟩

set_option maxRecDepth 100000 in
theorem rflag_calls (g D : Nat) (s : Rst) (w : World) (h : RD w g D s) :
    Calls Try.prog 36 #[.pointer (some ⟨g, 0, none⟩)] w fun e w' => e = .returned (.bool (rFlag s).1) ∧ RD w' g D (rFlag s).2 ∧ Upd (fun k => k = g) w w' := by
  have H := Aside0.mk (rbyte_calls g D s w h)
  have hb := rN_bound1 s h.bytes
  unfold rFlag
  generalize (rN 1 s) = t at *
  obtain ⟨x, s1⟩ := t
  obtain ⟨hb0, hb1⟩ := hb
  dsimp only at hb0 hb1 H ⊢
  clear h
  by_cases hm : 1 < x
  · rw [if_pos hm]
    have hx1 : (x == 1) = false := beq_eq_false_iff_ne.2 (by omega)
    go_enter Try.func36, Try.ntmps36
    go_wp2_with (first | (go_at_call 33; refine H.out.mono ?_; rintro e w1 ⟨rfl, hrd, hu⟩; have HF := Aside0.mk hrd.fails; have HU := Aside0.mk hu; clear hrd hu) | (go_at_call 96; refine HF.out.mono ?_; rintro e w2 ⟨rfl, hrd, hu⟩; have HR := Aside0.mk hrd; have HU2 := Aside0.mk (upd2 HU.out hu); clear hrd hu))
    go_ret
    exact ⟨rfl, HR.out, HU2.out⟩
  · rw [if_neg hm]
    go_enter Try.func36, Try.ntmps36
    go_wp2_with (go_at_call 33; refine H.out.mono ?_; rintro e w1 ⟨rfl, hrd, hu⟩; have HR := Aside0.mk hrd; have HU := Aside0.mk hu; clear hrd hu)
    go_ret
    exact ⟨rfl, HR.out, HU.out⟩

set_option maxRecDepth 100000 in
theorem rleft_calls (g D : Nat) (s : Rst) (w : World) (h : RD w g D s) :
    Calls Try.prog 37 #[.pointer (some ⟨g, 0, none⟩)] w fun e w' => e = .returned (.int .i64 (s.1.length : Int)) ∧ w = w' := by
  obtain ⟨A, c, h1, h2, h3, h4, h6, h7⟩ := h
  have hc0 : w.cell? ⟨g, 0, none⟩ = some (.slice A s.1.length c) := blk_cell h1 0
  clear h1 h2 h3 h4 h6 h7
  go_enter Try.func37, Try.ntmps37
  go_wp2
  go_ret
  exact ⟨rfl, rfl⟩

set_option maxRecDepth 100000 in
theorem rend_calls (g D : Nat) (s : Rst) (w : World) (h : RD w g D s) :
    Calls Try.prog 38 #[.pointer (some ⟨g, 0, none⟩)] w fun e w' => e = .returned (.int .i64 (rEnd s)) ∧ w = w' := by
  obtain ⟨A, c, h1, h2, h3, h4, h6, h7⟩ := h
  obtain ⟨ys, wr⟩ := s
  dsimp only at h1 h7
  have hc0 : w.cell? ⟨g, 0, none⟩ = some (.slice A ys.length c) := blk_cell h1 0
  have hc1 : w.cell? ⟨g, 1, none⟩ = some (.bool wr) := blk_cell h1 1
  clear h1 h2 h3 h4 h6
  unfold rEnd
  cases wr with
  | true =>
    rw [if_pos (.inl rfl)]
    clear h7
    go_enter Try.func38, Try.ntmps38
    go_wp2
    go_ret
    exact ⟨rfl, rfl⟩
  | false =>
    clear h7
    by_cases hp : 0 < ys.length
    · rw [if_pos (.inr hp)]
      have hp' : (0 : Int) < (ys.length : Int) := by omega
      go_enter Try.func38, Try.ntmps38
      go_wp2
      go_ret
      exact ⟨rfl, rfl⟩
    · rw [if_neg (by simpa using hp)]
      have hp' : ¬ (0 : Int) < (ys.length : Int) := by omega
      have hz : ys.length = 0 := by omega
      go_enter Try.func38, Try.ntmps38
      go_wp2
      go_ret
      exact ⟨rfl, rfl⟩

set_option maxRecDepth 100000 in
theorem read_calls (A : Option Addr) (c : Nat) (xs : List Int) (w : World) (hr : RB w A xs) (hb : Bytes xs) (hl : xs.length ≤ 140737488355328) :
    Calls Try.prog 29 #[.slice A xs.length c] w fun e w' => ∃ g D, e = .returned (.pointer (some ⟨g, 0, none⟩)) ∧ w.heap.size ≤ g ∧ w.heap.size ≤ D ∧ RD w' g D (xs, false) ∧ Below w.heap.size w w' := by
  have H := Aside0.mk (clone_calls A c xs w hr hl)
  have HB := Aside0.mk hb
  clear hr hb
  go_enter Try.func29, Try.ntmps29
  go_wp2_with fail
  refine H.out.mono ?_
  rintro e w1 ⟨v, rfl, ho, hbl⟩
  obtain ⟨A1, c1, rfl, hr1, hc1⟩ := OB.slice ho
  have HO := Aside0.mk ho
  have HR1 := Aside0.mk hr1
  have HBL := Aside0.mk hbl
  clear ho hr1 hbl
  go_wp2
  go_ret
  refine ⟨w1.heap.size, (match A1 with | some ad => ad.block | none => w.heap.size), rfl, HBL.out.size, ?_, ?_, HBL.out.alloc HBL.out.size _⟩
  · cases A1 with
    | none => exact Nat.le_refl _
    | some ad => exact own_base HO.out _ rfl
  · refine ⟨A1, c1, by simpa using heap_alloc_new w1 _, RB.keep HR1.out ((Below.refl _ _).alloc (Nat.le_refl _) _), hc1, ?_, HB.out, fun h => by cases h⟩
    rintro ad rfl
    exact ⟨rfl, by have := own_lt HO.out ad.block rfl; dsimp only; omega⟩
end Go.Proofs.Ytmdnokfmlbjbhaa
