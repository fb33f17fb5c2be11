/- CheckSums: the walk. -/
import Derived.Test.YtmdnokfmlbjbhaaRefC
namespace Go.Proofs.Ytmdnokfmlbjbhaa
open Go.RowKit Go.Proofs.YtmdnokfmlbjbhaaW.PrintWords
set_option linter.unusedVariables false
set_option linter.unusedSimpArgs false
attribute [local irreducible] Crc.U

/-- a contract that leaves all of w0 as it was, at any later world -/
theorem later {w0 : World} {f : FuncId} {args : Array Value} {v : Value} {W : World} (hw : Below w0.heap.size w0 W) (h : Calls Try.prog f args W fun e w' => e = .returned v ∧ Below W.heap.size W w') :
    Calls Try.prog f args W fun e w' => e = .returned v ∧ Aside0 (Below w0.heap.size w0 w') :=
  h.mono fun _ _ ⟨he, hB⟩ => ⟨he, ⟨hw.trans (hB.mono hw.size)⟩⟩

theorem same_self {w0 : World} (A0 : Option Addr) (c0 : Nat) (x : List Int) (A1 : Option Addr) (c1 : Nat) (w : World) (hw : Below w0.heap.size w0 w) (hx : RB w A0 x) (hy : RB w A1 x) :
    Calls Try.prog 49 #[.slice A0 x.length c0, .slice A1 x.length c1] w fun e w' => e = .returned (.bool true) ∧ Aside0 (Below w0.heap.size w0 w') :=
  (same_calls A0 c0 x A1 c1 x w hx hy).mono fun _ _ ⟨he, hd⟩ => ⟨by rw [he, decide_eq_true rfl], ⟨hw.trans (hd.below.mono hw.size)⟩⟩

set_option maxHeartbeats 1000000 in
set_option maxRecDepth 100000 in
theorem checkSums_walk (A : Option Addr) (c : Nat) (x : List Int) (A' : Option Addr) (c' : Nat) (y : List Int) (w : World) (hr : RB w A x) (hb : Bytes x) (hc : x.length ≤ c) (hr' : RB w A' y) (hb' : Bytes y) (hl : x.length ≤ 2000) (hl' : y.length ≤ 2000) :
    Calls Try.prog 8 #[.slice A x.length c, .slice A' y.length c'] w fun e w' => e = .returned (.bool true) ∧ Below w.heap.size w w' := by
  have R0 := Aside0.mk hr; have R1 := Aside0.mk hr'
  have B0 := Aside0.mk hb; have B1 := Aside0.mk hb'
  have HC := Aside0.mk hc
  have q0 : ¬ (2000 : Int) < (x.length : Int) := by omega
  have q1 : ¬ (2000 : Int) < (y.length : Int) := by omega
  have HL := Aside0.mk hl; have HL' := Aside0.mk hl'
  obtain ⟨xy, hxy⟩ : ∃ xy, xy = x ++ y := ⟨_, rfl⟩
  have HX := Aside0.mk hxy
  clear hr hr' hb hb' hl hl' hc hxy
  go_enter Try.func8, Try.ntmps8
  go_wp2_with (first
    | (go_at_call 24; refine (speaks02_calls _).mono ?_; rintro e w1 ⟨rfl, hB1⟩; have H0 := Aside0.mk (RB.keep R0.out hB1); have H1 := Aside0.mk (RB.keep R1.out hB1); have a0 := Aside0.mk (OB.empty w1 _ (Nat.le_refl _)); have b0 := Aside0.mk ((Below.refl w1.heap.size w1).alloc (Nat.le_refl _) (.cells #[] 5)))
    | (at_builtin; refine wpList_appW 22 rfl rfl (.tmp 20) (.tmp 21) rfl w1 (.slice (some ⟨w1.heap.size, 0, none⟩) 0 0) [] x rfl rfl a0.out (RB.keep H0.out b0.out) b0.out (by have := HL.out; simp; omega) ?_; intro v2 w2 o2 b2; rw [List.nil_append] at o2; have O2 := Aside0.mk o2; have D2 := Aside0.mk b2; clear o2 b2)
    | (at_builtin; refine wpList_appW 24 rfl rfl (.tmp 22) (.tmp 23) rfl w1 v2 x y rfl rfl O2.out (RB.keep H1.out D2.out) D2.out (by have := HL.out; have := HL'.out; omega) ?_; intro v3 w3 o3 b3; rw [← HX.out] at o3; obtain ⟨A3, c3, rfl, r3, _⟩ := OB.slice o3; have R3 := Aside0.mk r3; have D3 := Aside0.mk b3; have a3 := Aside0.mk (OB.empty w3 _ (Nat.le_refl _)); have b3 := Aside0.mk ((Below.refl w3.heap.size w3).alloc (Nat.le_refl _) (.cells #[] 5)); have H3 := Aside0.mk (RB.keep H0.out D3.out); clear o3 r3)
    | (at_builtin; refine wpList_appW 28 rfl rfl (.tmp 26) (.tmp 27) rfl w3 (.slice (some ⟨w3.heap.size, 0, none⟩) 0 0) [] x rfl rfl a3.out (RB.keep H3.out b3.out) b3.out (by have := HL.out; simp; omega) ?_; intro v4 w4 o4 b4; rw [List.nil_append] at o4; obtain ⟨A4, c4, rfl, r4, k4⟩ := OB.slice o4; have HU := Aside0.mk (unwrap_calls A4 c4 x w4 r4 B0.out k4 (by have := HL.out; omega)); have D4 := Aside0.mk b4; clear o4 r4 b4 k4))
  refine HU.out.mono ?_
  rintro e w5 ⟨v5, rfl, o5, b5⟩
  have D5 := Aside0.mk (D4.out.trans (b5.mono D4.out.size))
  have HRU := Aside0.mk (refunwrap_calls A c x w5 (RB.keep H3.out D5.out) B0.out HC.out (by have := HL.out; omega))
  have O5 := Aside0.mk o5
  clear o5 b5
  go_wp2_with fail
  refine HRU.out.mono ?_
  rintro e w6 ⟨v6, rfl, o6, b6⟩
  have D6 := Aside0.mk (D5.out.trans (b6.mono D5.out.size))
  obtain ⟨A5, c5, rfl, r5, _⟩ := OB.slice O5.out
  obtain ⟨A6, c6, rfl, r6, _⟩ := OB.slice o6
  have x6 := RB.keep H3.out D6.out
  have y6 := RB.keep (RB.keep H1.out D3.out) D6.out
  have z6 := RB.keep R3.out D6.out
  have u6 := RB.keep r5 b6
  have hs := Aside0.mk (fun W (h : Aside0 (Below w6.heap.size w6 W)) => later h.out (sum_calls A c x W (RB.keep x6 h.out) B0.out))
  have hrs := Aside0.mk (fun W (h : Aside0 (Below w6.heap.size w6 W)) => (refsum_calls A c x W (RB.keep x6 h.out) B0.out))
  have hrb := Aside0.mk (fun W (h : Aside0 (Below w6.heap.size w6 W)) => (refsum_calls A3 c3 xy W (RB.keep z6 h.out) (HX.out ▸ B0.out.append B1.out)))
  have hm := Aside0.mk (fun W (h : Aside0 (Below w6.heap.size w6 W)) => later h.out (more_calls (Crc.sum x) A' c' y W (RB.keep y6 h.out) B1.out))
  have hw := Aside0.mk (fun W (h : Aside0 (Below w6.heap.size w6 W)) => (wrap_calls A c x W (RB.keep x6 h.out) B0.out (by have := HL.out; omega)))
  have hrw := Aside0.mk (fun W (h : Aside0 (Below w6.heap.size w6 W)) => (refwrap_calls A c x W (RB.keep x6 h.out) B0.out (by have := HL.out; omega)))
  have hsu := Aside0.mk (fun W (h : Aside0 (Below w6.heap.size w6 W)) => (same_self A5 c5 (unw x) A6 c6 W h.out (RB.keep u6 h.out) (RB.keep r6 h.out)))
  have heq : Crc.U (Crc.sum xy) = Crc.U (Crc.more (Crc.sum x) y) := by rw [HX.out]; unfold Crc.sum; rw [Crc.more_append]
  have E6 := Aside0.mk (Below.refl w6.heap.size w6)
  have DD := Aside0.mk (hB1.trans ((D3.out.trans (D6.out.mono D3.out.size)).mono hB1.size))
  clear r5 o6 r6 x6 y6 z6 u6 b6
  go_wp2_with (first
    | (go_at_call 26; ((with_reducible refine (hs.out _ (by assumption)).mono ?_); rintro e w7 ⟨rfl, E7⟩))
    | (go_at_call 48; ((with_reducible refine (hrs.out _ (by assumption)).mono ?_); rintro e w7 ⟨rfl, rfl⟩))
    | (go_at_call 48; ((with_reducible refine (hrb.out _ (by assumption)).mono ?_); rintro e w7 ⟨rfl, rfl⟩))
    | (go_at_call 25; ((with_reducible refine (hm.out _ (by assumption)).mono ?_); rintro e w7 ⟨rfl, E8⟩)))
  have G8 := E8
  refine (hw.out _ G8).mono ?_
  rintro e w8 ⟨v8, rfl, o8, b8⟩
  obtain ⟨A8, c8, rfl, r8, _⟩ := OB.slice o8
  have D8 := Aside0.mk (G8.out.trans (b8.mono G8.out.size))
  clear o8 b8
  go_wp2_with fail
  refine (hrw.out _ D8).mono ?_
  rintro e w9 ⟨v9, rfl, o9, b9⟩
  obtain ⟨A9, c9, rfl, r9, _⟩ := OB.slice o9
  have D9 := Aside0.mk (D8.out.trans (b9.mono D8.out.size))
  have hsm := Aside0.mk (same_self A8 c8 (wrapped x) A9 c9 w9 D9.out (RB.keep r8 b9) r9)
  clear o9 b9 r8 r9 E7 E8 G8 E6
  go_wp2_with (first
    | (go_at_call 49; ((with_reducible refine hsm.out.mono ?_); rintro e w10 ⟨rfl, E10⟩))
    | (go_at_call 49; ((with_reducible refine (hsu.out _ E10).mono ?_); rintro e w11 ⟨rfl, E11⟩)))
  go_ret
  exact ⟨rfl, DD.out.trans (E11.out.mono DD.out.size)⟩

set_option maxRecDepth 100000 in
theorem checkSums_all (A : Option Addr) (c : Nat) (x : List Int) (A' : Option Addr) (c' : Nat) (y : List Int) (w : World) (hr : RB w A x) (hb : Bytes x) (hc : x.length ≤ c) (hr' : RB w A' y) (hb' : Bytes y) :
    Calls Try.prog 8 #[.slice A x.length c, .slice A' y.length c'] w fun e w' => e = .returned (.bool true) ∧ Below w.heap.size w w' := by
  by_cases h0 : x.length ≤ 2000
  · by_cases h1 : y.length ≤ 2000
    · exact checkSums_walk A c x A' c' y w hr hb hc hr' hb' h0 h1
    · clear hr hb hr' hb'
      have g0 : ¬ (2000 : Int) < (x.length : Int) := by omega
      have g1 : (2000 : Int) < (y.length : Int) := by omega
      go_enter Try.func8, Try.ntmps8
      go_wp2_with (go_at_call 24; refine (speaks02_calls _).mono ?_; rintro e w1 ⟨rfl, hB1⟩)
      go_ret
      exact ⟨rfl, hB1⟩
  · clear hr hb hr' hb'
    have g0 : (2000 : Int) < (x.length : Int) := by omega
    go_enter Try.func8, Try.ntmps8
    go_wp2_with (go_at_call 24; refine (speaks02_calls _).mono ?_; rintro e w1 ⟨rfl, hB1⟩)
    go_ret
    exact ⟨rfl, hB1⟩
end Go.Proofs.Ytmdnokfmlbjbhaa
