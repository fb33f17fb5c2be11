/- The Writer of package octet: Int, Bytes, Flag, Out. -/
import Derived.Test.YtmdnokfmlbjbhaaOctB
namespace Go.Proofs.Ytmdnokfmlbjbhaa
open Go.RowKit Go.Proofs.YtmdnokfmlbjbhaaW.PrintWords Go.Proofs.YtmdnokfmlbjbhaaW.PrintMore
set_option linter.unusedVariables false
set_option linter.unusedSimpArgs false

set_option maxRecDepth 100000 in
theorem wint_calls (base g : Nat) (v : Value) (xs : List Int) (x : Int) (w : World) (hc : w.heap[g]? = some (.cells #[v] 76 (0, 0))) (ho : OB w base v xs) (hb : base ≤ w.heap.size) (hl : xs.length + 8 ≤ 140737488355328) :
    Calls Try.prog 105 #[.pointer (some ⟨g, 0, none⟩), .int .i64 x] w fun e w' => e = .returned (.tuple #[]) ∧ ∃ v', Wrote base g w v w' v' (xs ++ be (x % 18446744073709551616) 8) := by
  have H := Aside0.mk (wnumber_calls base g v xs (x % 18446744073709551616) 8 8 (by decide) (by decide) w (by omega) (by omega) hc ho hb hl)
  clear hc ho
  go_enter Try.func105, Try.ntmps105
  go_wp2_with (go_at_call 101; refine H.out.mono ?_; rintro e w1 ⟨rfl, v1, hw1⟩; have HW1 := Aside0.mk hw1; clear hw1)
  go_end0
  exact ⟨rfl, v1, HW1.out⟩

set_option maxRecDepth 100000 in
theorem wbytes_calls (base g : Nat) (v : Value) (xs ys : List Int) (A : Option Addr) (c : Nat) (w : World) (hc : w.heap[g]? = some (.cells #[v] 76 (0, 0))) (ho : OB w base v xs) (hb : base ≤ w.heap.size)
    (hy : RB w A ys) (hyg : ∀ ad, A = some ad → ad.block ≠ g ∧ v.ownBlock ≠ some ad.block) (hl : xs.length + 4 + ys.length + 8 ≤ 140737488355328) :
    Calls Try.prog 90 #[.pointer (some ⟨g, 0, none⟩), .slice A ys.length c] w fun e w' => e = .returned (.tuple #[]) ∧ ∃ v', Wrote base g w v w' v' (xs ++ be ys.length 4 ++ ys) := by
  have H := Aside0.mk (wnumber_calls base g v xs (ys.length : Int) 4 4 (by decide) (by decide) w (by omega) (by omega) hc ho hb (by omega))
  have HY := Aside0.mk hy
  have HG := Aside0.mk hyg
  have h0 : (0 : Int) ≤ (ys.length : Int) := by omega
  have h1 : (ys.length : Int) ≤ 140737488355328 := by omega
  clear hc ho hy hyg
  go_enter Try.func90, Try.ntmps90
  go_wp2_with fail
  refine H.out.mono ?_
  rintro e w1 ⟨rfl, v1, hw1⟩
  have hcell : w1.cell? ⟨g, 0, none⟩ = some v1 := blk_cell hw1.cell 0
  have hby : RB w1 A ys := by
    rcases Nat.eq_zero_or_pos ys.length with hz | hp
    · rw [List.eq_nil_of_length_eq_zero hz]; exact C_int.2 ⟨rfl, by simp, fun h => absurd h (by simp)⟩
    · obtain ⟨ad, e, hlt⟩ := C_lt HY.out hp
      exact C_move HY.out (fun ad' e' => hw1.upd.block _ (by rw [e] at e'; injection e' with e'; rw [← e']; exact hlt) (fun k => k.elim (HG.out ad' e').1 (HG.out ad' e').2))
  have HBY := Aside0.mk hby
  obtain ⟨A1, n1, c1, rfl, _⟩ := OB.shape hw1.own
  have HW1 := Aside0.mk hw1
  have hb1 := Aside0.mk (Nat.le_trans hb hw1.upd.size)
  clear hby hw1
  go_wp2_with (at_builtin; refine wpList_appB 15 rfl rfl (.tmp 13) (.tmp 14) rfl (v := .slice A1 n1 c1) (xs := xs ++ be ys.length 4) (ys := ys) rfl rfl HW1.out.own HBY.out hb1.out ?q2 ?_; (case q2 => rw [List.length_append, be_len]; omega); intro v2 W1 o2 g2 s2; obtain ⟨k1, k2, k3⟩ := wrote_append HW1.out.cell HW1.out.own (Below.refl _ _) o2 g2 s2; have K3 := Aside0.mk (HW1.out.trans k3); obtain ⟨A2, n2, c2, rfl, _⟩ := OB.shape o2; clear o2 g2 s2 k3)
  go_end0
  exact ⟨rfl, _, K3.out⟩

set_option maxRecDepth 100000 in
theorem wflag_calls (base g : Nat) (v : Value) (xs : List Int) (b : Bool) (w : World) (hc : w.heap[g]? = some (.cells #[v] 76 (0, 0))) (ho : OB w base v xs) (hb : base ≤ w.heap.size) (hl : xs.length + 1 ≤ 140737488355328) :
    Calls Try.prog 107 #[.pointer (some ⟨g, 0, none⟩), .bool b] w fun e w' => e = .returned (.tuple #[]) ∧ ∃ v', Wrote base g w v w' v' (xs ++ [if b then 1 else 0]) := by
  have H1 := Aside0.mk (wbyte_calls base g v xs 1 w hc ho hb hl)
  have H0 := Aside0.mk (wbyte_calls base g v xs 0 w hc ho hb hl)
  clear hc ho
  cases b with
  | true =>
    go_enter Try.func107, Try.ntmps107
    go_wp2_with (go_at_call 104; refine H1.out.mono ?_; rintro e w1 ⟨rfl, v1, hw1⟩; have HW1 := Aside0.mk hw1; clear hw1)
    exact bodyPost_ret (results_none rfl _ _ _) rfl ⟨rfl, v1, HW1.out⟩
  | false =>
    go_enter Try.func107, Try.ntmps107
    go_wp2_with (go_at_call 104; refine H0.out.mono ?_; rintro e w1 ⟨rfl, v1, hw1⟩; have HW1 := Aside0.mk hw1; clear hw1)
    go_end0
    exact ⟨rfl, v1, HW1.out⟩

set_option maxRecDepth 100000 in
theorem wout_calls (base g : Nat) (v : Value) (xs : List Int) (w : World) (hc : w.heap[g]? = some (.cells #[v] 76 (0, 0))) (ho : OB w base v xs) (hl : xs.length ≤ 140737488355328) :
    Calls Try.prog 53 #[.pointer (some ⟨g, 0, none⟩)] w fun e w' => ∃ u, e = .returned u ∧ OB w' w.heap.size u xs ∧ Below w.heap.size w w' := by
  have hcell : w.cell? ⟨g, 0, none⟩ = some v := blk_cell hc 0
  obtain ⟨A, c, rfl, hr, _⟩ := OB.slice ho
  have H := Aside0.mk (clone_calls A c xs w hr hl)
  clear hc ho hr
  go_enter Try.func53, Try.ntmps53
  go_wp2_with (go_at_call 91; refine H.out.mono ?_; rintro e w1 ⟨u, rfl, ou, bu⟩; have OU := Aside0.mk ou; have BU := Aside0.mk bu; clear ou bu)
  go_ret
  exact ⟨_, rfl, OU.out, BU.out⟩
end Go.Proofs.Ytmdnokfmlbjbhaa
