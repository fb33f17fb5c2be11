/- The references of layers 1 and 2: Put, the sum, Wrap, Unwrap. -/
import Derived.Test.YtmdnokfmlbjbhaaCrc3
import Derived.Test.YtmdnokfmlbjbhaaRefA
namespace Go.Proofs.Ytmdnokfmlbjbhaa
open Go.RowKit Go.Proofs.YtmdnokfmlbjbhaaW.PrintWords
set_option linter.unusedVariables false
set_option linter.unusedSimpArgs false

/-- a row of the call's own, that was v, is v' now -/
structure Puts (base : Nat) (w : World) (v : Value) (w' : World) (v' : Value) (xs : List Int) : Prop where
  own : OB w' base v' xs
  upd : Upd (fun k => v.ownBlock = some k) w w'
  same : v'.ownBlock = v.ownBlock ∨ ∃ b, v'.ownBlock = some b ∧ w.heap.size ≤ b
theorem Puts.refl {base : Nat} {w : World} {v : Value} {xs : List Int} (ho : OB w base v xs) : Puts base w v w v xs := ⟨ho, Upd.refl _ _, .inl rfl⟩
theorem Puts.trans {base : Nat} {w w1 w2 : World} {v v1 v2 : Value} {xs ys : List Int} (h : Puts base w v w1 v1 xs) (k : Puts base w1 v1 w2 v2 ys) : Puts base w v w2 v2 ys := by
  refine ⟨k.own, h.upd.trans' k.upd (fun i hi => ?_), ?_⟩
  · rcases h.same with e | ⟨b, e, hb⟩
    · exact .inl (by rw [← e]; exact hi)
    · rw [e] at hi; injection hi with hi; exact .inr (by omega)
  · rcases k.same with e | ⟨b, e, hb⟩
    · rw [e]; exact h.same
    · exact .inr ⟨b, e, Nat.le_trans h.upd.size hb⟩
theorem Puts.step {base : Nat} {w w1 W1 : World} {v v1 : Value} {xs : List Int} (hw : Below w.heap.size w w1) (o1 : OB W1 base v1 xs) (g1 : w1.grownBy W1 v.ownBlock) (s1 : v1.ownBlock = v.ownBlock ∨ ∃ b, v1.ownBlock = some b ∧ w1.heap.size ≤ b) : Puts base w v W1 v1 xs :=
  ⟨o1, (Upd.of_below hw).grown g1 (fun k hk => .inl hk), s1.imp id fun ⟨b, e, hb⟩ => ⟨b, e, Nat.le_trans hw.size hb⟩⟩
theorem Puts.below {base : Nat} {w w' : World} {v v' : Value} {xs : List Int} (h : Puts base w v w' v' xs) {B : Nat} (hB : B ≤ w.heap.size) (hv : ∀ k, v.ownBlock = some k → B ≤ k) : Below B w w' := h.upd.below hB hv

set_option maxHeartbeats 1000000 in
set_option maxRecDepth 100000 in
/-- tidelineref01.Put, at a size from 0 to 8 -/
theorem put_calls (base : Nat) (v : Value) (xs : List Int) (x : Int) (n : Nat) (hn : n ≤ 8) (w : World) (hx0 : 0 ≤ x) (hx1 : x < 18446744073709551616) (ho : OB w base v xs) (hb : base ≤ w.heap.size) (hl : xs.length + 8 ≤ 140737488355328) :
    Calls Try.prog 103 #[v, .int .u64 x, .int .i64 (n : Int)] w fun e w' => ∃ v', e = .returned v' ∧ Puts base w v w' v' (xs ++ be x n) := by
  have HP := Aside0.mk (Puts.refl ho)
  have HX := Aside0.mk hx1
  have hn8 : (n : Int) ≤ 8 := by omega
  have hn8' : ¬ (8 : Int) < (n : Int) := by omega
  have HL := Aside0.mk hl
  have HBS := Aside0.mk hb
  clear ho hx1 hl hb
  go_enter Try.func103, Try.ntmps103
  go_wp2
  go_loopw [0, 7] (fun v0 v7 wr => ∃ k : Nat, k ≤ n ∧ v7 = .int .i64 ((n : Int) - 1 - k) ∧ Aside0 (Puts base w v wr v0 (xs ++ beUpto x n k))) (fun _ v7 _ => (intOf v7 + 1).toNat)
  case atStart => exact ⟨0, by omega, by simp, ⟨by simpa [beUpto] using HP.out⟩⟩
  case round =>
    obtain ⟨k, hk, rfl, HW⟩ := hrel
    by_cases hlt : k < n
    · obtain ⟨j, hj⟩ : ∃ j : Nat, n - 1 - k = j := ⟨_, rfl⟩
      rw [show ((n : Int) - 1 - (k : Int)) = (j : Int) from by omega]
      have hj7 : (j : Int) ≤ 7 := by omega
      have hj0 : (0 : Int) ≤ (j : Int) := by omega
      have HJ := Aside0.mk hj
      have Hk' : Aside0 (k + 1 ≤ n) := ⟨hlt⟩
      clear hj hlt hk
      obtain ⟨wo, rfl⟩ : ∃ wo : World, wo = wr := ⟨_, rfl⟩
      go_wp2
      go_loop [8, 9] (fun v8 v9 => ∃ (q : Nat) (y : Int), q ≤ j ∧ v9 = .int .i64 q ∧ v8 = .int .u64 y ∧ Aside0 (y = x / 256 ^ q)) (fun _ v9 => j - (intOf v9).toNat)
      case atStart => exact ⟨0, x, by omega, rfl, rfl, ⟨by rw [Int.pow_zero, Int.ediv_one]⟩⟩
      case round =>
        obtain ⟨q, y, hq, rfl, rfl, HY⟩ := hrel
        have hy0 : 0 ≤ y := by rw [HY.out]; exact Int.ediv_nonneg hx0 (Int.le_of_lt (Int.pow_pos (by decide)))
        have HY1 : Aside0 (y < 18446744073709551616) := ⟨by
          rw [HY.out]
          have := Int.ediv_le_self (256 ^ q) hx0
          have := HX.out
          omega⟩
        by_cases hqj : q < j
        · have hqj' : (q : Int) < (j : Int) := by omega
          have hy1 := HY1.out
          go_wp2
          go_round
          case rel => exact ⟨q + 1, y / 256, by omega, by go_num, rfl, ⟨by rw [HY.out, Int.pow_succ, Int.ediv_ediv_of_nonneg (Int.le_of_lt (Int.pow_pos (by decide)))]⟩⟩
          case measure => simp [intOf]; omega
        · have hqj' : ¬ (q : Int) < (j : Int) := by omega
          have Hq : Aside0 (q = j) := ⟨by omega⟩
          have HR := Aside0.mk (C_one wo .u8 5 (y % 256))
          have B0 := Aside0.mk ((Below.refl wo.heap.size wo).alloc (Nat.le_refl _) (.cells #[.int .u8 (y % 256)] 5))
          have HO := Aside0.mk (HW.out.own.alloc (.cells #[.int .u8 (y % 256)] 5))
          have HS := Aside0.mk (Nat.le_trans HBS.out HW.out.upd.size)
          go_wp2_with (at_builtin; refine wpList_appB 31 rfl rfl (.tmp 26) (.tmp 30) rfl (v := u0) (xs := xs ++ beUpto x n k) (ys := [y % 256]) rfl rfl HO.out HR.out ?q1 ?q2 ?_; (case q1 => have := HS.out; simp; omega); (case q2 => have := HL.out; have := Hk'.out; rw [List.length_append, beUpto_len]; simp; omega); intro v1 W1 o1 g1 s1; have K1 := Aside0.mk (HW.out.trans (Puts.step B0.out o1 g1 s1)); clear o1 g1 s1)
          go_roundw
          case rel => exact ⟨k + 1, Hk'.out, by rw [Value.int.injEq]; exact ⟨rfl, by have := HJ.out; have := Hk'.out; omega⟩, ⟨by have := K1.out; rw [beUpto_succ, HJ.out, pow_bytes, ← List.append_assoc, ← Hq.out, ← HY.out]; exact this⟩⟩
          case measure => simp [intOf]
    · obtain rfl : n = k := by omega
      have h0 : ((n : Int) - 1 - (n : Int)) < 0 := by omega
      have h1 : ¬ (0 : Int) ≤ ((n : Int) - 1 - (n : Int)) := by omega
      go_wp2
      go_ret
      exact ⟨_, rfl, HW.out⟩
end Go.Proofs.Ytmdnokfmlbjbhaa
