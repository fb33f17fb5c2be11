/- check.Unwrap: what is ahead of a sum that is right. -/
import Derived.Test.YtmdnokfmlbjbhaaChkD
import Derived.Test.YtmdnokfmlbjbhaaOctE
import Derived.Deep.DrawnRows
namespace Go.Proofs.Ytmdnokfmlbjbhaa
open Go.RowKit Go.Proofs.YtmdnokfmlbjbhaaW.PrintWords
set_option linter.unusedVariables false
set_option linter.unusedSimpArgs false

attribute [local go_sem ↓] Go.wp_at_zero Go.wp_at_succ

/-- is there a sum behind, and is it right? -/
def sumOk (xs : List Int) : Prop := 4 ≤ xs.length ∧ Crc.U (Crc.sum (xs.take (xs.length - 4))) = num (xs.drop (xs.length - 4))
instance (xs : List Int) : Decidable (sumOk xs) := by unfold sumOk; infer_instance
def unw (xs : List Int) : List Int := if sumOk xs then xs.take (xs.length - 4) else []
def unwCode (xs : List Int) : Int := if sumOk xs then 0 else 3

theorem rN4_of (ys : List Int) (h : ys.length = 4) : (rN 4 (ys, false)).1 = num ys := by
  unfold rN tk
  rw [if_neg (by simp [h])]
  simp [← h]

set_option maxHeartbeats 1000000 in
set_option maxRecDepth 100000 in
theorem unwrap_calls (A : Option Addr) (c : Nat) (xs : List Int) (w : World) (hr : RB w A xs) (hb : Bytes xs) (hc : xs.length ≤ c) (hl : xs.length ≤ 140737488350000) :
    Calls Try.prog 46 #[.slice A xs.length c] w fun e w' => ∃ v, e = .returned (.tuple #[v, .int .i64 (unwCode xs)]) ∧ OB w' w.heap.size v (unw xs) ∧ Below w.heap.size w w' := by
  by_cases h4 : 4 ≤ xs.length
  · obtain ⟨n, hn⟩ : ∃ n, xs.length = n + 4 := ⟨xs.length - 4, by omega⟩
    have e4 : xs.length - 4 = n := by omega
    have hrn := RB.take hr n (by omega)
    obtain ⟨A', hcl, hdr, _⟩ := cut_l A xs.length c n (by omega)
    have hrd := hdr w xs hc hr
    rw [hn, show n + 4 - n = 4 from by omega] at hrd
    have hdl : (xs.drop n).length = 4 := by rw [List.length_drop]; omega
    have htl : (xs.take n).length = n := by rw [List.length_take]; omega
    have hS : Aside0 (∀ W, Aside0 (Below w.heap.size w W) → Calls Try.prog 26 #[.slice A n c] W fun e w' => e = .returned (.int .u32 (Crc.U (Crc.sum (xs.take n)))) ∧ Aside0 (Below w.heap.size w w')) := ⟨fun W h => by
      have := sum_calls A c (xs.take n) W (RB.of (RB.keep hrn h.out)) (hb.take n)
      rw [htl] at this
      exact this.mono fun _ _ ⟨he, hB⟩ => ⟨he, ⟨h.out.trans (hB.mono h.out.size)⟩⟩⟩
    have hR : Aside0 (∀ W, Aside0 (Below w.heap.size w W) → Calls Try.prog 29 #[.slice A' 4 (c - n)] W fun e w' => ∃ g D, e = .returned (.pointer (some ⟨g, 0, none⟩)) ∧ Aside0 (RD w' g D (xs.drop n, false) ∧ w.heap.size ≤ g) ∧ Aside0 (Below w.heap.size w w')) := ⟨fun W h => by
      have := read_calls A' (c - n) (xs.drop n) W (RB.of (RB.keep hrd h.out)) (hb.drop n) (by omega)
      rw [hdl] at this
      exact this.mono fun _ _ ⟨g, D, he, h1, h2, h3, hB⟩ => ⟨g, D, he, ⟨h3, Nat.le_trans h.out.size h1⟩, ⟨h.out.trans (hB.mono h.out.size)⟩⟩⟩
    have hN : Aside0 (∀ W g D, Aside0 (RD W g D (xs.drop n, false) ∧ w.heap.size ≤ g) → Aside0 (Below w.heap.size w W) → Calls Try.prog 34 #[.pointer (some ⟨g, 0, none⟩), .int .i64 4] W fun e w' => e = .returned (.int .u64 (num (xs.drop n))) ∧ Aside0 (Below w.heap.size w w')) := ⟨fun W g D h1 h => by
      have := rnumber_calls g D (xs.drop n, false) 4 W h1.out.1
      rw [show sized 4 = 4 from rfl, rN4_of _ hdl] at this
      exact this.mono fun _ _ ⟨he, _, hu⟩ => ⟨he, ⟨h.out.trans (hu.below h.out.size (fun k e => by rw [e]; exact h1.out.2))⟩⟩⟩
    have hnb := rN_bound4 (xs.drop n, false) (hb.drop n)
    rw [rN4_of _ hdl] at hnb
    have hcn := Aside0.mk (clone_calls A c (xs.take n))
    have HRN := Aside0.mk hrn
    have HTL := Aside0.mk htl
    have EW := Aside0.mk (Below.refl w.heap.size w)
    have EW' := Aside0.mk ((Below.refl w.heap.size w).drew)
    have hcut := cut_to (P := Try.prog) 22 5 .i64 Try.underlying22 (Option.map_eq_some_iff.1 info5').choose_spec.1 A xs.length c (n : Int) (by omega) (by omega) hc
    rw [Int.toNat_natCast] at hcut
    have HOK : Aside0 (sumOk xs ↔ Crc.U (Crc.sum (xs.take n)) = num (xs.drop n)) := ⟨by unfold sumOk; rw [e4]; exact ⟨fun h => h.2, fun h => ⟨h4, h⟩⟩⟩
    have HUN : Aside0 (unw xs = if sumOk xs then xs.take n else []) := ⟨by unfold unw; rw [e4]⟩
    have u0 := Crc.U_nonneg (Crc.sum (xs.take n))
    have u1 := Crc.U_lt (Crc.sum (xs.take n))
    generalize Crc.U (Crc.sum (xs.take n)) = s at *
    generalize num (xs.drop n) = t at *
    obtain ⟨t0, t1⟩ := hnb
    have HL := Aside0.mk hl
    rw [hn, show n + 4 - n = 4 from by omega] at hcl
    rw [hn] at hcut ⊢
    have q0 : (0 : Int) ≤ (n : Int) := by omega
    have q1 : (n : Int) ≤ (c : Int) := by omega
    have q2 : (n : Int) ≤ 140737488350000 := by omega
    have hwt : IntKind.u32.wrap t = t := by rw [IntKind.wrap_u32']; omega
    clear hr hb hrn hdr hrd hdl htl hn e4 h4 hc hl
    by_cases hst : s = t
    · have hne : (s != t) = false := by simp [hst]
      have HST := Aside0.mk hst
      clear hst
      have e1 : unwCode xs = 0 := by unfold unwCode; rw [if_pos (HOK.out.2 HST.out)]
      have e2 : unw xs = xs.take n := by rw [HUN.out, if_pos (HOK.out.2 HST.out)]
      rw [e1, e2]
      clear e1 e2
      go_enter Try.func46, Try.ntmps46
      go_wp2
      go_region_held3 (fun _ => True) (trivial) (first
        | (go_at_call 26; ((with_reducible refine (hS.out _ (by assumption)).mono ?_); rintro e w1 ⟨rfl, E1⟩))
        | (go_at_call 29; ((with_reducible refine (hR.out _ (by assumption)).mono ?_); rintro e w2 ⟨g, D, rfl, RD2, E2⟩))
        | (go_at_call 34; ((with_reducible refine (hN.out _ _ _ (by assumption) (by assumption)).mono ?_); rintro e w3 ⟨rfl, E3⟩)))
      have hfin := Aside0.mk (hcn.out _ (RB.of (RB.keep HRN.out E3.out)) (by have := HL.out; have := HTL.out; omega))
      rw [HTL.out] at hfin
      go_wp2_with (go_at_call 91; refine hfin.out.mono ?_; rintro e w4 ⟨v, rfl, ho, hbl⟩; have HO := Aside0.mk (own_weaken ho E3.out.size); have HBL := Aside0.mk (E3.out.trans (hbl.mono E3.out.size)); clear ho hbl)
      go_ret2
      exact ⟨_, rfl, HO.out, HBL.out⟩
    · have hne : (s != t) = true := by simp [hst]
      have HST := Aside0.mk hst
      clear hst
      have e1 : unwCode xs = 3 := by unfold unwCode; rw [if_neg (fun h => HST.out (HOK.out.1 h))]
      have e2 : unw xs = [] := by rw [HUN.out, if_neg (fun h => HST.out (HOK.out.1 h))]
      rw [e1, e2]
      clear e1 e2
      go_enter Try.func46, Try.ntmps46
      go_wp2
      go_region_held3 (fun _ => True) (trivial) (first
        | (go_at_call 26; ((with_reducible refine (hS.out _ (by assumption)).mono ?_); rintro e w1 ⟨rfl, E1⟩))
        | (go_at_call 29; ((with_reducible refine (hR.out _ (by assumption)).mono ?_); rintro e w2 ⟨g, D, rfl, RD2, E2⟩))
        | (go_at_call 34; ((with_reducible refine (hN.out _ _ _ (by assumption) (by assumption)).mono ?_); rintro e w3 ⟨rfl, E3⟩)))
      go_wp2
      go_ret2
      exact ⟨_, rfl, OB.nil _ _, E3.out⟩
  · have hn4 : ¬ sumOk xs := fun h => h4 h.1
    have e1 : unwCode xs = 3 := by unfold unwCode; rw [if_neg hn4]
    have e2 : unw xs = [] := by unfold unw; rw [if_neg hn4]
    rw [e1, e2]
    have g1 : (xs.length : Int) - 4 < 0 := by omega
    have g2 : (0 : Int) ≤ (xs.length : Int) := by omega
    have g3 : (xs.length : Int) ≤ 4 := by omega
    clear hr hb e1 e2 hn4 h4
    go_enter Try.func46, Try.ntmps46
    go_wp2
    go_quiet (fail)
    go_wp2
    go_ret2
    exact ⟨_, rfl, OB.nil _ _, by first | exact pw_below_drewN (Below.refl _ _) _ | exact (Below.refl _ _).drew⟩
end Go.Proofs.Ytmdnokfmlbjbhaa
