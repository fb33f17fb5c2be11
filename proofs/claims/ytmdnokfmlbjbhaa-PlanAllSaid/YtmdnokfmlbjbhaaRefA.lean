/- The references of layer 1: are two rows of bytes one. -/
import Derived.Test.YtmdnokfmlbjbhaaOctA
namespace Go.Proofs.Ytmdnokfmlbjbhaa
open Go.RowKit Go.Proofs.YtmdnokfmlbjbhaaW.PrintWords
set_option linter.unusedVariables false
set_option linter.unusedSimpArgs false

theorem take_ne {x y : List Int} {k : Nat} (hx : k < x.length) (hy : k < y.length) (h : rd x k ≠ rd y k) : x ≠ y := fun e => h (by rw [e])
theorem take_eq_succ {x y : List Int} {k : Nat} (hx : k < x.length) (hy : k < y.length) (h : x.take k = y.take k) (e : rd x k = rd y k) : x.take (k + 1) = y.take (k + 1) := by
  rw [take_succ_rd x k hx, take_succ_rd y k hy, h, e]

set_option maxHeartbeats 400000 in
set_option maxRecDepth 100000 in
/-- a comparison of two rows of numbers of a kind, cell by cell: functions 49 -/
theorem same_calls (A0 : Option Addr) (c0 : Nat) (x : List Int) (A1 : Option Addr) (c1 : Nat) (y : List Int) (w : World) (hx : RB w A0 x) (hy : RB w A1 y) :
    Calls Try.prog 49 #[.slice A0 x.length c0, .slice A1 y.length c1] w fun e w' => e = .returned (.bool (decide (x = y))) ∧ Drawn0 w w' := by
  have HX := Aside0.mk hx
  have HY := Aside0.mk hy
  have m0 := Kd.C_max hx
  clear hx hy
  by_cases hl : x.length = y.length
  · have b0 : ((x.length : Int) == (y.length : Int)) = true := beq_iff_eq.mpr (by omega)
    have b1 : ((x.length : Int) != (y.length : Int)) = false := bne_eq_false_iff_eq.mpr (by omega)
    have b2 : (x.length == y.length) = true := by simpa using hl
    have HL := Aside0.mk hl
    clear hl
    go_enter Try.func49, Try.ntmps49
    go_wp2
    go_loopw [5] (fun v wr => ∃ k : Nat, k ≤ x.length ∧ v = .int .i64 k ∧ Aside0 (x.take k = y.take k) ∧ Drawn0 w wr) (fun v _ => x.length - (intOf v).toNat)
    case atStart => exact ⟨0, by omega, rfl, ⟨rfl⟩, Drawn0.refl _⟩
    case round =>
      clear b0 b1 b2
      obtain ⟨k, hk, rfl, HE, ⟨m1, rfl⟩⟩ := hrel
      by_cases hlt : k < x.length
      · obtain ⟨ad0, e0, hc0⟩ := RB.cell HX.out k hlt
        obtain ⟨ad1, e1, hc1⟩ := RB.cell HY.out k (by have := HL.out; omega)
        subst e0 e1
        have q0 : (0 : Int) ≤ (k : Int) := by omega
        have q1 : (k : Int) < (x.length : Int) := by omega
        have q2 : (k : Int) < (y.length : Int) := by have := HL.out; omega
        by_cases he : rd x k = rd y k
        · have n0 : (rd x k != rd y k) = false := by simp [he]
          have HT := Aside0.mk (take_eq_succ hlt (by have := HL.out; omega) HE.out he)
          clear he
          go_wp2
          go_quiet (fail)
          go_wp2
          go_roundw
          case rel => exact ⟨k + 1, by omega, by go_num, HT, by repeat (first | exact Drawn0.refl _ | apply Drawn0.step)⟩
          case measure => simp [intOf]; omega
        · have n0 : (rd x k != rd y k) = true := by simp [he]
          have HT : Aside0 (decide (x = y) = false) := ⟨decide_eq_false (take_ne hlt (by have := HL.out; omega) he)⟩
          clear he
          go_wp2
          go_quiet (fail)
          go_wp2
          go_ret
          exact ⟨by rw [HT.out]; rfl, by repeat (first | exact Drawn0.refl _ | apply Drawn0.step)⟩
      · have HT : Aside0 (decide (x = y) = true) := ⟨decide_eq_true (by
          have h := HE.out
          rw [List.take_of_length_le (by omega), List.take_of_length_le (by have := HL.out; omega)] at h
          exact h)⟩
        go_wp2
        go_ret
        exact ⟨by rw [HT.out]; rfl, by repeat (first | exact Drawn0.refl _ | apply Drawn0.step)⟩
  · have b0 : ((x.length : Int) == (y.length : Int)) = false := beq_eq_false_iff_ne.mpr (by omega)
    have b1 : ((x.length : Int) != (y.length : Int)) = true := bne_iff_ne.mpr (by omega)
    have b2 : (x.length == y.length) = false := by simpa using hl
    have HT : Aside0 (decide (x = y) = false) := ⟨decide_eq_false (fun e => hl (by rw [e]))⟩
    clear hl
    go_enter Try.func49, Try.ntmps49
    go_wp2
    go_ret
    exact ⟨by rw [HT.out]; rfl, Drawn0.refl _⟩
end Go.Proofs.Ytmdnokfmlbjbhaa
