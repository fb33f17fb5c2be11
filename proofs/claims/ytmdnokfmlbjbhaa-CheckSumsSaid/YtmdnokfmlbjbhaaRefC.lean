/- The references of layer 2: the sum, Wrap, Unwrap. -/
import Derived.Test.YtmdnokfmlbjbhaaRefB
namespace Go.Proofs.Ytmdnokfmlbjbhaa
open Go.RowKit Go.Proofs.YtmdnokfmlbjbhaaW.PrintWords
set_option linter.unusedVariables false
set_option linter.unusedSimpArgs false

theorem U_mod2 (x : BitVec 32) : Crc.U x % 2 = if x.getLsbD 0 then 1 else 0 := by
  have h : x.getLsbD 0 = decide (x.toNat % 2 = 1) := by rw [BitVec.getLsbD, Nat.testBit_zero]
  unfold Crc.U
  rw [h]
  by_cases h1 : x.toNat % 2 = 1
  · rw [if_pos (by simpa using h1)]; omega
  · rw [if_neg (by simpa using h1)]; omega
theorem ref_step (x : BitVec 32) : (if (Crc.U x % 2 == 1) = true then bits BinOp.xor .u32 (Crc.U x / 2) 3988292384 else Crc.U x / 2) = Crc.U (Crc.bstep x) := by
  have h2 : Crc.U x / (2 : Int) = Crc.U (x >>> 1) := Crc.shr_U x 1
  rw [U_mod2, h2]
  unfold Crc.bstep
  cases x.getLsbD 0
  · simp
  · have := Crc.xor_U (x >>> 1) 0xedb88320#32
    rw [show Crc.U 0xedb88320#32 = 3988292384 from by decide] at this
    simpa using this
theorem U_not (x : BitVec 32) : 4294967295 - Crc.U x = Crc.U (~~~ x) := by
  unfold Crc.U; rw [BitVec.toNat_not]; have := x.isLt; omega

theorem U_ones : Crc.U (~~~ 0#32) = 4294967295 := by decide
attribute [local irreducible] Crc.U

set_option maxHeartbeats 1000000 in
set_option maxRecDepth 100000 in
theorem refsum_calls (A : Option Addr) (c : Nat) (xs : List Int) (w : World) (hr : RB w A xs) (hb : Bytes xs) :
    Calls Try.prog 48 #[.slice A xs.length c] w fun e w' => e = .returned (.int .u32 (Crc.U (Crc.sum xs))) ∧ w = w' := by
  have HR := Aside0.mk hr
  have HB := Aside0.mk hb
  have hmax := Kd.C_max hr
  have HM : Aside0 (Crc.U (Crc.sum xs) = Crc.U (~~~ Crc.fold (~~~ 0#32) xs)) := ⟨rfl⟩
  generalize Crc.U (Crc.sum xs) = res at *
  clear hr hb
  go_enter Try.func48, Try.ntmps48
  go_wp2
  go_loopw [3, 4] (fun v3 v4 wr => ∃ (k : Nat) (y : BitVec 32), k ≤ xs.length ∧ v4 = .int .i64 k ∧ v3 = .int .u32 (Crc.U y) ∧ Aside0 (y = Crc.fold (~~~ 0#32) (xs.take k)) ∧ Aside0 (w = wr)) (fun _ v _ => xs.length - (intOf v).toNat)
  case atStart => exact ⟨0, ~~~ 0#32, by omega, rfl, by rw [U_ones], ⟨rfl⟩, ⟨rfl⟩⟩
  case round =>
    obtain ⟨k, y, hk, rfl, rfl, HY, ⟨rfl⟩⟩ := hrel
    by_cases hlt : k < xs.length
    · have hbx := HB.out.at_ (k : Int)
      obtain ⟨y1, y2, e1, e2, e3⟩ := byte_step y (rd xs k) hbx.1 hbx.2
      have HE3 : Aside0 (Crc.bsteps 8 y1 = Crc.fold (~~~ 0#32) (xs.take (k + 1))) := ⟨by
        rw [fold_take _ xs k hlt, ← HY.out, ← e3, e2, ← Crc.bsteps_add]⟩
      clear e2 e3
      obtain ⟨ad, hA, hcx⟩ := RB.cell HR.out k hlt
      subst hA
      have b0 := Crc.U_lt y; have b0' := Crc.U_nonneg y
      obtain ⟨hb1, hb2⟩ := hbx
      go_wp2
      clear e1 hcx b0 b0' hb1 hb2
      go_loopw [3, 5] (fun v3 v5 wr => ∃ (j : Nat) (z : BitVec 32), j ≤ 8 ∧ v5 = .int .i64 j ∧ v3 = .int .u32 (Crc.U z) ∧ Aside0 (z = Crc.bsteps j y1) ∧ Aside0 (w = wr)) (fun _ v _ => 8 - (intOf v).toNat)
      case atStart => exact ⟨0, y1, by omega, rfl, rfl, ⟨rfl⟩, ⟨rfl⟩⟩
      case round =>
        obtain ⟨j, z, hj, rfl, rfl, HZ, ⟨rfl⟩⟩ := hrel
        by_cases hj8 : j < 8
        · have hs := ref_step z
          have Hz : Aside0 (Crc.bstep z = Crc.bsteps (j + 1) y1) := ⟨by rw [HZ.out]; rfl⟩
          have z0 := Crc.U_nonneg z; have z1 := Crc.U_lt z
          obtain ⟨hh, e2⟩ : ∃ hh, Crc.U z / 2 = hh := ⟨_, rfl⟩
          obtain ⟨mm, e3⟩ : ∃ mm, Crc.U z % 2 = mm := ⟨_, rfl⟩
          rw [e2, e3] at hs
          by_cases h1 : (mm == 1) = true
          · rw [if_pos h1] at hs
            have HS := Aside0.mk hs
            clear hs
            go_wp2
            go_roundw
            case rel => exact ⟨j + 1, Crc.bstep z, by omega, by go_num, by rw [← HS.out], Hz, ⟨by trivial⟩⟩
            case measure => simp [intOf]; omega
          · have h1' : (mm == 1) = false := by simpa using h1
            rw [if_neg h1] at hs
            have HS := Aside0.mk hs
            clear h1 hs
            go_wp2
            go_roundw
            case rel => exact ⟨j + 1, Crc.bstep z, by omega, by go_num, by rw [← HS.out, ← e2], Hz, ⟨by trivial⟩⟩
            case measure => simp [intOf]; omega
        · have Hj : Aside0 (j = 8) := ⟨by omega⟩
          go_wp2
          go_roundw
          case rel => exact ⟨k + 1, z, by omega, by go_num, rfl, ⟨by rw [HZ.out, Hj.out, HE3.out]⟩, ⟨by trivial⟩⟩
          case measure => simp [intOf]; omega
    · have Hk : Aside0 (k = xs.length) := ⟨by omega⟩
      have hn := U_not y
      have b0 := Crc.U_lt y; have b0' := Crc.U_nonneg y
      go_wp2
      go_ret
      refine ⟨?_, rfl⟩
      rw [HM.out, HY.out, Hk.out, List.take_length]; rfl

set_option maxRecDepth 100000 in
theorem refwrap_calls (A : Option Addr) (c : Nat) (xs : List Int) (w : World) (hr : RB w A xs) (hb : Bytes xs) (hl : xs.length ≤ 140737488350000) :
    Calls Try.prog 51 #[.slice A xs.length c] w fun e w' => ∃ v, e = .returned v ∧ OB w' w.heap.size v (wrapped xs) ∧ Below w.heap.size w w' := by
  have HR := Aside0.mk hr
  have a0 := Aside0.mk (OB.empty w _ (Nat.le_refl _))
  have b0 := Aside0.mk ((Below.refl w.heap.size w).alloc (Nat.le_refl _) (.cells #[] 5))
  have HS := Aside0.mk (fun W (h : Below w.heap.size w W) => refsum_calls A c xs W (RB.keep hr h) hb)
  have u0 := Crc.U_nonneg (Crc.sum xs)
  have HU1 := Aside0.mk (Crc.U_lt (Crc.sum xs))
  have HE : Aside0 (wrapped xs = xs ++ be (Crc.U (Crc.sum xs)) 4) := ⟨rfl⟩
  generalize wrapped xs = ws at *
  generalize Crc.U (Crc.sum xs) = s at *
  have hs1 : s < 4294967296 := HU1.out
  clear hr hb
  go_enter Try.func51, Try.ntmps51
  go_wp2_with (first
    | (at_builtin; refine wpList_appW 6 rfl rfl (.tmp 4) (.tmp 5) rfl w (.slice (some ⟨w.heap.size, 0, none⟩) 0 0) [] xs rfl rfl a0.out (RB.keep HR.out b0.out) b0.out (by simp; omega) ?_; intro v2 w2 o2 b2; rw [List.nil_append] at o2; have O2 := Aside0.mk o2; have D2 := Aside0.mk b2; have HP := Aside0.mk (put_calls w.heap.size v2 xs s 4 (by decide) w2 u0 (by have := HU1.out; omega) o2 b2.size (by omega)); clear o2 b2)
    | (go_at_call 48; refine (HS.out _ D2.out).mono ?_; rintro e w3 ⟨rfl, rfl⟩)
    | (go_at_call 103; refine HP.out.mono ?_; rintro e w4 ⟨v4, rfl, hp⟩; have B4 := Aside0.mk (D2.out.trans (hp.below D2.out.size (own_base O2.out))); have O4 := Aside0.mk hp.own; clear hp))
  go_ret
  exact ⟨_, rfl, HE.out ▸ O4.out, B4.out⟩

theorem cut_to_nat (A : Option Addr) (n c m : Nat) (hm : m ≤ n) (hc : n ≤ c) : ∀ W : World, (Instr.slice 22 (.slice A n c) none (some (.int .i64 (m : Int))) none).run Try.prog W = .ok (.slice A m c) W := by
  have h := cut_to (P := Try.prog) 22 5 .i64 Try.underlying22 (Option.map_eq_some_iff.1 info5').choose_spec.1 A n c (m : Int) (by omega) (by omega) hc
  rwa [Int.toNat_natCast] at h

set_option maxHeartbeats 1000000 in
set_option maxRecDepth 100000 in
theorem refunwrap_calls (A : Option Addr) (c : Nat) (xs : List Int) (w : World) (hr : RB w A xs) (hb : Bytes xs) (hc : xs.length ≤ c) (hl : xs.length ≤ 140737488350000) :
    Calls Try.prog 47 #[.slice A xs.length c] w fun e w' => ∃ v, e = .returned (.tuple #[v, .int .i64 (unwCode xs)]) ∧ OB w' w.heap.size v (unw xs) ∧ Below w.heap.size w w' := by
  by_cases h4 : 4 ≤ xs.length
  · obtain ⟨n, hn⟩ : ∃ n, xs.length = n + 4 := ⟨xs.length - 4, by omega⟩
    have e4 : xs.length - 4 = n := by omega
    have hrn := RB.take hr n (by omega)
    have htl : (xs.take n).length = n := by rw [List.length_take]; omega
    have hcut := cut_to_nat A xs.length c n (by omega) hc
    have hw := refwrap_calls A c (xs.take n) w (RB.of hrn) (hb.take n) (by omega)
    rw [htl] at hw
    have HW := Aside0.mk hw
    have HRN := Aside0.mk hrn
    have HTL := Aside0.mk htl
    have HOK : Aside0 (decide (wrapped (xs.take n) = xs) = true ↔ sumOk xs) := ⟨by
      rw [decide_eq_true_iff]
      constructor
      · intro h; rw [← h]; exact wrapped_ok _
      · intro h
        have h2 := sumOk_wrapped xs hb h
        have h3 : unw xs = xs.take n := by unfold unw; rw [if_pos h, e4]
        rw [h3] at h2; exact h2.symm⟩
    have HUN : Aside0 (unw xs = if sumOk xs then xs.take n else []) := ⟨by unfold unw; rw [e4]⟩
    have HR := Aside0.mk hr
    have hwl : (wrapped (xs.take n)).length = n + 4 := by rw [wrapped_len, htl]
    have HWL := Aside0.mk hwl
    rw [hn] at hcut ⊢
    have HN := Aside0.mk hn
    have q0 : (0 : Int) ≤ (n : Int) := by omega
    have q2 : (n : Int) ≤ 140737488350000 := by omega
    have a1 : Aside0 (∀ W : World, w.heap.size ≤ W.heap.size → OB (W.alloc (.cells #[] 5)) w.heap.size (.slice (some ⟨W.heap.size, 0, none⟩) 0 0) []) := ⟨fun W h => OB.empty W _ h⟩
    clear hr hb hrn htl hw h4 hc hl hn e4 hwl
    by_cases hok : sumOk xs
    · have e1 : unwCode xs = 0 := by unfold unwCode; rw [if_pos hok]
      have e2 : unw xs = xs.take n := by rw [HUN.out, if_pos hok]
      have HD := Aside0.mk (HOK.out.2 hok)
      rw [e1, e2]
      clear e1 e2 hok
      go_enter Try.func47, Try.ntmps47
      go_wp2_with (first
        | (go_at_call 51; refine HW.out.mono ?_; rintro e w2 ⟨v, rfl, ho, hB2⟩; obtain ⟨A2, c2, rfl, r2, _⟩ := OB.slice ho; have hs := same_calls A2 c2 (wrapped (xs.take n)) A c xs w2 r2 (RB.keep HR.out hB2); rw [HD.out, HWL.out, HN.out] at hs; have HS := Aside0.mk hs; have B2 := Aside0.mk hB2; rw [HWL.out]; clear ho hB2 hs r2)
        | (go_at_call 49; refine HS.out.mono ?_; rintro e w3 ⟨rfl, hd⟩; have B3 := Aside0.mk (B2.out.trans (hd.below.mono B2.out.size)); have a3 := Aside0.mk (a1.out w3 B3.out.size); have b3 := Aside0.mk (B3.out.alloc B3.out.size (.cells #[] 5)); have r3 := Aside0.mk (RB.keep HRN.out b3.out); clear hd)
        | (at_builtin; refine wpList_appW 23 rfl rfl (.tmp 19) (.tmp 22) rfl w (.slice (some ⟨w3.heap.size, 0, none⟩) 0 0) [] (xs.take n) (A := A) (c := c) rfl ?sq1 a3.out (RB.of r3.out) b3.out ?sq2 ?_; (case sq1 => rw [HTL.out]; rfl); (case sq2 => rw [HTL.out]; simp; omega); intro v4 w4 o4 b4; rw [List.nil_append] at o4; have O4 := Aside0.mk o4; have D4 := Aside0.mk b4; clear o4 b4))
      go_ret2
      exact ⟨_, rfl, O4.out, D4.out⟩
    · have e1 : unwCode xs = 3 := by unfold unwCode; rw [if_neg hok]
      have e2 : unw xs = [] := by rw [HUN.out, if_neg hok]
      have HD : Aside0 (decide (wrapped (xs.take n) = xs) = false) := ⟨by rw [← Bool.not_eq_true]; exact fun h => hok (HOK.out.1 h)⟩
      rw [e1, e2]
      clear e1 e2 hok
      go_enter Try.func47, Try.ntmps47
      go_wp2_with (first
        | (go_at_call 51; refine HW.out.mono ?_; rintro e w2 ⟨v, rfl, ho, hB2⟩; obtain ⟨A2, c2, rfl, r2, _⟩ := OB.slice ho; have hs := same_calls A2 c2 (wrapped (xs.take n)) A c xs w2 r2 (RB.keep HR.out hB2); rw [HD.out, HWL.out, HN.out] at hs; have HS := Aside0.mk hs; have B2 := Aside0.mk hB2; rw [HWL.out]; clear ho hB2 hs r2)
        | (go_at_call 49; refine HS.out.mono ?_; rintro e w3 ⟨rfl, hd⟩; have B3 := Aside0.mk (B2.out.trans (hd.below.mono B2.out.size)); clear hd))
      go_ret2
      exact ⟨_, rfl, OB.nil _ _, B3.out⟩
  · have hn4 : ¬ sumOk xs := fun h => h4 h.1
    have e1 : unwCode xs = 3 := by unfold unwCode; rw [if_neg hn4]
    have e2 : unw xs = [] := by unfold unw; rw [if_neg hn4]
    rw [e1, e2]
    have g1 : (xs.length : Int) - 4 < 0 := by omega
    have g2 : (0 : Int) ≤ (xs.length : Int) := by omega
    have g3 : (xs.length : Int) ≤ 4 := by omega
    clear hr hb e1 e2 hn4 h4
    go_enter Try.func47, Try.ntmps47
    go_wp2
    go_ret2
    exact ⟨_, rfl, OB.nil _ _, Below.refl _ _⟩
end Go.Proofs.Ytmdnokfmlbjbhaa
