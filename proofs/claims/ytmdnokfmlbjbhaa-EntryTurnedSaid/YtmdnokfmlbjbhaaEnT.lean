/- EntryTurned: the walk. -/
import Derived.Test.YtmdnokfmlbjbhaaEnS
import Derived.Deep.DeepCutAuto
namespace Go.Proofs.Ytmdnokfmlbjbhaa
open Go.RowKit Go.Shelf Go.Proofs.YtmdnokfmlbjbhaaW.PrintWords
set_option linter.unusedVariables false
set_option linter.unusedSimpArgs false
attribute [local go_sem] Oper.semAt_some

theorem be_inj {a b : Int} {n : Nat} (a0 : 0 ≤ a) (a1 : a < 256 ^ n) (b0 : 0 ≤ b) (b1 : b < 256 ^ n) (h : be a n = be b n) : a = b := by
  rw [← num_be a n a0 a1, ← num_be b n b0 b1, h]
theorem be_inj_mod {a b : Int} {n : Nat} (hn : n = 4) (a0 : 0 ≤ a) (a1 : a < 4294967296) (b0 : 0 ≤ b) (b1 : b < 4294967296) (h : be (a % 18446744073709551616) n = be (b % 18446744073709551616) n) : a = b := by
  subst hn
  have := be_inj (n := 4) (by omega) (by rw [show (256:Int)^4 = 4294967296 from by decide]; omega) (by omega) (by rw [show (256:Int)^4 = 4294967296 from by decide]; omega) h
  omega
theorem ebytes_inj {x y : Ent} (hx : EOk x) (hy : EOk y) (h : ebytes x = ebytes y) : x = y := by
  obtain ⟨⟨⟨c0, c1⟩, ⟨d0, d1⟩, n0, n1⟩, hk, ⟨s0, s1⟩, ⟨k0, k1⟩, p1⟩ := hx
  obtain ⟨⟨⟨c0', c1'⟩, ⟨d0', d1'⟩, n0', n1'⟩, hk', ⟨s0', s1'⟩, ⟨k0', k1'⟩, p1'⟩ := hy
  unfold ebytes at h
  simp only [List.append_assoc, List.cons_append, List.nil_append] at h
  injection h with h1 h
  obtain ⟨h2, h⟩ := List.append_inj h (by simp [be_len])
  obtain ⟨h3, h⟩ := List.append_inj h (by simp [be_len])
  obtain ⟨h4, h⟩ := List.append_inj h (by simp [be_len])
  injection h with h5 h
  obtain ⟨h6, h⟩ := List.append_inj h (by simp [be_len])
  obtain ⟨_, h7⟩ := List.append_inj h (by simp [be_len])
  have e2 := be_inj_mod rfl c0 (by omega) c0' (by omega) h2
  have e3 := be_inj_mod rfl d0 (by omega) d0' (by omega) h3
  have e4 := be_inj_mod rfl n0 (by omega) n0' (by omega) h4
  have e6 := be_inj (n := 8) (by omega) (by rw [show (256:Int)^8 = 18446744073709551616 from by decide]; omega) (by omega) (by rw [show (256:Int)^8 = 18446744073709551616 from by decide]; omega) h6
  obtain ⟨xk, xc, xb, xn, xs, xa, xp⟩ := x
  obtain ⟨yk, yc, yb, yn, ys, ya, yp⟩ := y
  simp only at *
  obtain rfl : xk = yk := by omega
  obtain rfl : xs = ys := by omega
  obtain rfl : xa = ya := by omega
  subst e2 e3 e4 h7
  rfl
theorem wrapped_inj {a b : List Int} (h : wrapped a = wrapped b) : a = b := by
  rw [← unw_wrapped a, ← unw_wrapped b, h]
theorem ewr_iff {x y : Ent} (hx : EOk x) (hy : EOk y) : decide (wrapped (ebytes x) = wrapped (ebytes y)) = decide (x = y) :=
  decide_eq_decide.2 ⟨fun h => ebytes_inj hx hy (wrapped_inj h), fun h => by rw [h]⟩
theorem edec_bad {b : List Int} (h : ¬ sumOk b) : edec b = (ent0, 3) := by
  unfold edec unwCode
  rw [if_neg h]
  exact if_pos (by decide)
theorem edrewB {w0 W : World} {n : Nat} (h : Aside0 (Below n w0 W)) : Aside0 (Below n w0 W.drew) := ⟨h.out.drew⟩
theorem C_nil0 (w : World) : RB w none [] := C_int.2 ⟨rfl, by simp, fun h => absurd h (by simp)⟩

set_option maxHeartbeats 1000000 in
set_option maxRecDepth 100000 in
theorem eturned_walk (x y : Ent) (A : Option Addr) (c : Nat) (B : Option Addr) (d : Nat) (at_ turn : Int) (w : World) (hx : RB w A x.pay) (hc : x.pay.length ≤ c) (hy : RB w B y.pay) (hd : y.pay.length ≤ d)
    (bx : Bytes x.pay) (by_ : Bytes y.pay) (t0 : 0 ≤ turn) (t1 : turn < 256) :
    Calls Try.prog 12 #[.agg (entCells x A c), .agg (entCells y B d), .int .i64 at_, .int .u8 turn] w fun e w' => e = .returned (.bool true) ∧ Below w.heap.size w w' := by
  have RX := Aside0.mk hx
  have RY := Aside0.mk hy
  have CX := Aside0.mk hc
  have CY := Aside0.mk hd
  have BX := Aside0.mk bx
  have BY := Aside0.mk by_
  have T0 := Aside0.mk t0
  have T1 := Aside0.mk t1
  obtain ⟨w0, hw0⟩ : ∃ w0, Aside0 (w0 = (w.alloc (.cells (entCells x A c) 89)).alloc (.cells (entCells y B d) 89)) := ⟨_, ⟨rfl⟩⟩
  have hX0 : w0.heap[w.heap.size]? = some (.cells (entCells x A c) 89 (0, 0)) := by
    rw [hw0.out]; exact (Below.heap_alloc _ _ _ (by simp only [World.size_alloc]; omega)).trans (heap_alloc_new w _)
  have hY0 : w0.heap[w.heap.size + 1]? = some (.cells (entCells y B d) 89 (0, 0)) := by
    have q := heap_alloc_new (w.alloc (.cells (entCells x A c) 89)) (.cells (entCells y B d) 89)
    rw [World.size_alloc] at q
    rw [hw0.out]; exact q
  have b0 : Below w.heap.size w w0 := by rw [hw0.out]; exact ((Below.refl _ w).alloc (Nat.le_refl _) _).alloc (by simp only [World.size_alloc]; omega) _
  have HX0 := Aside0.mk hX0
  have HY0 := Aside0.mk hY0
  have B0 := Aside0.mk b0
  have hw0' := hw0.out
  unfold entCells at hw0' ⊢
  have HW0 := Aside0.mk hw0'
  obtain ⟨m, hm, hm1⟩ := and_ffff at_
  have HM := Aside0.mk hm
  have HM1 := Aside0.mk hm1
  clear hx hy hc hd bx by_ t0 t1 hX0 hY0 b0 hw0 hw0' hm hm1
  go_enter Try.func12, Try.ntmps12
  go_wp2_with (fail)
  rw [← HW0.out]
  refine (speaks07_calls _).mono ?_
  rintro e w1 ⟨rfl, b1⟩
  have HX1 := Aside0.mk ((b1.block _ (blk_lt HX0.out)).trans HX0.out)
  have HY1 := Aside0.mk ((b1.block _ (blk_lt HY0.out)).trans HY0.out)
  have B1 : Aside0 (Below w.heap.size w w1) := ⟨B0.out.trans (b1.mono B0.out.size)⟩
  clear b1 HW0
  obtain ⟨x0, x1, x2, x3, x4, x5, x6⟩ := ent_at HX1.out
  obtain ⟨y0, y1, y2, y3, y4, y5, y6⟩ := ent_at HY1.out
  by_cases hx3 : (3000 : Int) < (x.pay.length : Int)
  · clear HM HM1
    go_wp2
    go_ret
    exact ⟨rfl, B1.out⟩
  by_cases hy3 : (3000 : Int) < (y.pay.length : Int)
  · clear HM HM1
    go_wp2
    go_ret
    exact ⟨rfl, B1.out⟩
  have LX : Aside0 (x.pay.length ≤ 3000) := ⟨by omega⟩
  have LY : Aside0 (y.pay.length ≤ 3000) := ⟨by omega⟩
  go_wp2_with (fail)
  refine (erefright_calls x A c w1 (RB.keep RX.out B1.out) CX.out BX.out (by have := LX.out; omega)).mono ?_
  rintro e w2 ⟨rfl, b2⟩
  have HX2 := Aside0.mk ((b2.block _ (blk_lt HX1.out)).trans HX1.out)
  have HY2 := Aside0.mk ((b2.block _ (blk_lt HY1.out)).trans HY1.out)
  have B2 : Aside0 (Below w.heap.size w w2) := ⟨B1.out.trans (b2.mono B1.out.size)⟩
  clear b2 x0 x1 x2 x3 x4 x5 x6 y0 y1 y2 y3 y4 y5 y6
  obtain ⟨x0, x1, x2, x3, x4, x5, x6⟩ := ent_at HX2.out
  obtain ⟨y0, y1, y2, y3, y4, y5, y6⟩ := ent_at HY2.out
  by_cases ex : EOk x
  case neg =>
    rw [decide_eq_false ex]
    clear ex
    go_wp2
    go_ret
    exact ⟨rfl, B2.out⟩
  rw [decide_eq_true ex]
  have EX := Aside0.mk ex
  clear ex
  go_wp2_with (fail)
  refine (erefright_calls y B d w2 (RB.keep RY.out B2.out) CY.out BY.out (by have := LY.out; omega)).mono ?_
  rintro e w3 ⟨rfl, b3⟩
  have HX3 := Aside0.mk ((b3.block _ (blk_lt HX2.out)).trans HX2.out)
  have HY3 := Aside0.mk ((b3.block _ (blk_lt HY2.out)).trans HY2.out)
  have B3 : Aside0 (Below w.heap.size w w3) := ⟨B2.out.trans (b3.mono B2.out.size)⟩
  clear b3 x0 x1 x2 x3 x4 x5 x6 y0 y1 y2 y3 y4 y5 y6
  obtain ⟨x0, x1, x2, x3, x4, x5, x6⟩ := ent_at HX3.out
  by_cases ey : EOk y
  case neg =>
    rw [decide_eq_false ey]
    clear ey
    go_wp2
    go_ret
    exact ⟨rfl, B3.out⟩
  rw [decide_eq_true ey]
  have EY := Aside0.mk ey
  clear ey
  go_wp2_with (fail)
  refine (eenc_calls x A c w3 (RB.keep RX.out B3.out) CX.out BX.out EX.out).mono ?_
  rintro e w4 ⟨v4, rfl, o4, b4⟩
  have HX4 := Aside0.mk ((b4.block _ (blk_lt HX3.out)).trans HX3.out)
  have HY4 := Aside0.mk ((b4.block _ (blk_lt HY3.out)).trans HY3.out)
  have B4 : Aside0 (Below w.heap.size w w4) := ⟨B3.out.trans (b4.mono B3.out.size)⟩
  obtain ⟨g, cw, rfl, hg1, hg2, hcw⟩ := OB.some o4 (by rw [wrapped_len, ebytes_len]; omega)
  have HG := Aside0.mk (Nat.le_trans B3.out.size hg1)
  have CW := Aside0.mk hcw
  have O4 := Aside0.mk o4
  clear b4 x0 x1 x2 x3 x4 x5 x6 hg1 hg2 hcw o4
  obtain ⟨y0, y1, y2, y3, y4, y5, y6⟩ := ent_at HY4.out
  go_wp2_with (fail)
  refine (eenc_calls y B d w4 (RB.keep RY.out B4.out) CY.out BY.out EY.out).mono ?_
  rintro e w5 ⟨v5, rfl, o5, b5⟩
  have HX5 := Aside0.mk ((b5.block _ (blk_lt HX4.out)).trans HX4.out)
  have HY5 := Aside0.mk ((b5.block _ (blk_lt HY4.out)).trans HY4.out)
  have B5 : Aside0 (Below w.heap.size w w5) := ⟨B4.out.trans (b5.mono B4.out.size)⟩
  obtain ⟨A5, c5, rfl, r5, l5⟩ := OB.slice o5
  have O5 := Aside0.mk (own_move O4.out (fun k hk => b5.block k (own_lt O4.out k hk)))
  have E5 := Aside0.mk (Below.refl w5.heap.size w5)
  have WB := Aside0.mk (wrapped_bytes (ebytes_bytes BX.out))
  obtain ⟨q, hq⟩ : ∃ q, decide (x = y) = q := ⟨_, rfl⟩
  have HQ := Aside0.mk hq
  have hw := ewr_iff EX.out EY.out
  rw [hq] at hw
  have hr4 := OB.slice_some O5.out
  have c49 : Aside0 (∀ W, Aside0 (Below w5.heap.size w5 W) → Calls Try.prog 49 #[.slice (some ⟨g, 0, none⟩) (wrapped (ebytes x)).length cw, .slice A5 (wrapped (ebytes y)).length c5] W fun e w' => e = .returned (.bool q) ∧ Aside0 (Below w5.heap.size w5 w')) := ⟨fun W hW =>
    (same_calls _ cw _ A5 c5 _ W (RB.keep hr4 hW.out) (RB.keep r5 hW.out)).mono fun _ _ ⟨he, hd⟩ => ⟨by rw [he, hw], ⟨hW.out.trans (hd.below.mono hW.out.size)⟩⟩⟩
  have c65 : Aside0 (∀ W, Aside0 (Below w5.heap.size w5 W) → Calls Try.prog 65 #[.agg (entCells x A c), .agg (entCells y B d)] W fun e w' => e = .returned (.bool q) ∧ Aside0 (Below w5.heap.size w5 w')) := ⟨fun W hW =>
    (esame_calls x y A c B d W (RB.keep RX.out (B5.out.trans (hW.out.mono B5.out.size))) CX.out (RB.keep RY.out (B5.out.trans (hW.out.mono B5.out.size))) CY.out).mono fun _ _ ⟨he, hd⟩ => ⟨by rw [he, hq], ⟨hW.out.trans (hd.mono hW.out.size)⟩⟩⟩
  unfold entCells at c65
  have HS : Aside0 (∀ W, Aside0 (Below w5.heap.size w5 W) → W.cell? ⟨w.heap.size, 0, none⟩ = some (.int .i64 x.kind) ∧ W.cell? ⟨w.heap.size, 1, none⟩ = some (.int .i64 x.client) ∧ W.cell? ⟨w.heap.size, 2, none⟩ = some (.int .i64 x.birth) ∧ W.cell? ⟨w.heap.size, 3, none⟩ = some (.int .i64 x.number) ∧ W.cell? ⟨w.heap.size, 4, none⟩ = some (.int .i64 x.stream) ∧ W.cell? ⟨w.heap.size, 5, none⟩ = some (.int .i64 x.back) ∧ W.cell? ⟨w.heap.size, 6, none⟩ = some (.slice A x.pay.length c) ∧
      W.cell? ⟨w.heap.size + 1, 0, none⟩ = some (.int .i64 y.kind) ∧ W.cell? ⟨w.heap.size + 1, 1, none⟩ = some (.int .i64 y.client) ∧ W.cell? ⟨w.heap.size + 1, 2, none⟩ = some (.int .i64 y.birth) ∧ W.cell? ⟨w.heap.size + 1, 3, none⟩ = some (.int .i64 y.number) ∧ W.cell? ⟨w.heap.size + 1, 4, none⟩ = some (.int .i64 y.stream) ∧ W.cell? ⟨w.heap.size + 1, 5, none⟩ = some (.int .i64 y.back) ∧ W.cell? ⟨w.heap.size + 1, 6, none⟩ = some (.slice B y.pay.length d) ∧ Aside0 (Below w5.heap.size w5 W)) := ⟨fun W hW => by
    obtain ⟨a0, a1, a2, a3, a4, a5, a6⟩ := ent_at (HX5.out)
    obtain ⟨z0, z1, z2, z3, z4, z5, z6⟩ := ent_at (HY5.out)
    exact ⟨cell_later hW.out a0, cell_later hW.out a1, cell_later hW.out a2, cell_later hW.out a3, cell_later hW.out a4, cell_later hW.out a5, cell_later hW.out a6, cell_later hW.out z0, cell_later hW.out z1, cell_later hW.out z2, cell_later hW.out z3, cell_later hW.out z4, cell_later hW.out z5, cell_later hW.out z6, hW⟩⟩
  clear b5 y0 y1 y2 y3 y4 y5 y6 o5 r5 l5 hq hw hr4
  go_wp2_with (fail)
  go_cut [61] (fun v61 W => v61 = .bool false ∧ Aside0 (Below w5.heap.size w5 W))
  case first =>
    go_region_held3 (fun W => (W.cell? ⟨w.heap.size, 0, none⟩ = some (.int .i64 x.kind) ∧ W.cell? ⟨w.heap.size, 1, none⟩ = some (.int .i64 x.client) ∧ W.cell? ⟨w.heap.size, 2, none⟩ = some (.int .i64 x.birth) ∧ W.cell? ⟨w.heap.size, 3, none⟩ = some (.int .i64 x.number) ∧ W.cell? ⟨w.heap.size, 4, none⟩ = some (.int .i64 x.stream) ∧ W.cell? ⟨w.heap.size, 5, none⟩ = some (.int .i64 x.back) ∧ W.cell? ⟨w.heap.size, 6, none⟩ = some (.slice A x.pay.length c) ∧ W.cell? ⟨w.heap.size + 1, 0, none⟩ = some (.int .i64 y.kind) ∧ W.cell? ⟨w.heap.size + 1, 1, none⟩ = some (.int .i64 y.client) ∧ W.cell? ⟨w.heap.size + 1, 2, none⟩ = some (.int .i64 y.birth) ∧ W.cell? ⟨w.heap.size + 1, 3, none⟩ = some (.int .i64 y.number) ∧ W.cell? ⟨w.heap.size + 1, 4, none⟩ = some (.int .i64 y.stream) ∧ W.cell? ⟨w.heap.size + 1, 5, none⟩ = some (.int .i64 y.back) ∧ W.cell? ⟨w.heap.size + 1, 6, none⟩ = some (.slice B y.pay.length d) ∧ Aside0 (Below w5.heap.size w5 W))) (exact HS.out _ (by first | assumption | exact edrewB (by assumption))) (first
      | (go_at_call 49; ((with_reducible refine (c49.out _ (by first | assumption | exact edrewB (by assumption))).mono ?_); rintro ex w6 ⟨rfl, E6⟩))
      | (go_at_call 65; ((with_reducible refine (c65.out _ (by first | assumption | exact edrewB (by assumption))).mono ?_); rintro ex w7 ⟨rfl, E7⟩)))
    all_goals go_wp2
    all_goals go_meet
    all_goals exact ⟨rfl, E7⟩
  case rest =>
    obtain ⟨rfl, EC⟩ := hcut
    clear c49 c65 HS E5 HQ HX5 HY5 HX4 HY4
    obtain ⟨xs, hxs⟩ : ∃ xs, wrapped (ebytes x) = xs := ⟨_, rfl⟩
    have hlen : xs.length = x.pay.length + 30 := by rw [← hxs, wrapped_len, ebytes_len]
    have LEN := Aside0.mk hlen
    have hturn := turned_ok (ebytes x) (ebytes_bytes BX.out)
    rw [hxs] at O5 O4 CW WB hturn
    have HT := Aside0.mk hturn
    rw [hxs]
    clear hturn hxs
    obtain ⟨i, hi⟩ : ∃ i, m % xs.length = i := ⟨_, rfl⟩
    have hilt : i < xs.length := by rw [← hi]; exact Nat.mod_lt _ (by omega)
    have hmi : (m : Int) % (xs.length : Int) = (i : Int) := by rw [← hi, Int.natCast_emod]
    have hm1' : (m : Int) ≤ 65535 := by have := HM1.out; omega
    have hlx : (xs.length : Int) ≤ 3030 := by have := LX.out; omega
    have hlp : (0 : Int) < (xs.length : Int) := by omega
    have q0 : (0 : Int) ≤ (i : Int) := by omega
    have q1 : (i : Int) < (xs.length : Int) := by omega
    have hm := HM.out
    have hown := pw_own_below O5.out EC.out
    have BC : Aside0 (Below w.heap.size w wc) := ⟨B5.out.trans (EC.out.mono B5.out.size)⟩
    have OC := Aside0.mk hown
    have hcell := (own_at' OC.out i hilt).1
    have hfro := (own_at' OC.out i hilt).2
    have HI := Aside0.mk hilt
    clear hown hi hilt O5 O4 hlen
    go_wp2_with (fail)
    have hy := xor_u8_range _ turn (WB.out.at_ i).1 (WB.out.at_ i).2 T0.out T1.out
    have hs5 := own_store' OC.out i (bits BinOp.xor IntKind.u8 (rd xs ↑i) turn)
    have B6 := Aside0.mk (BC.out.setCell (p := ⟨g, i, none⟩) HG.out (.int .u8 (bits BinOp.xor IntKind.u8 (rd xs ↑i) turn)))
    generalize hw5 : wc.setCell { block := g, off := i } (Value.int IntKind.u8 (bits BinOp.xor IntKind.u8 (rd xs ↑i) turn)) = w6 at *
    have hu := edec_calls _ cw (xs.set i (bits BinOp.xor IntKind.u8 (rd xs ↑i) turn)) w6 (OB.slice_some hs5) (bytes_set WB.out _ _ hy.1 hy.2) (by rw [List.length_set]; exact CW.out) (by rw [List.length_set]; omega)
    rw [List.length_set] at hu
    have hok := HT.out i HI.out _ hy.1 hy.2
    by_cases ht : turn = 0
    · have HU := Aside0.mk hu
      clear hu hok hw5 hs5 hy hcell hfro
      generalize xs.set i (bits BinOp.xor IntKind.u8 (rd xs ↑i) turn) = xs2 at HU
      subst ht
      refine HU.out.mono ?_
      rintro e w7 ⟨v7, d7, rfl, r7, l7, b7⟩
      have B7 : Aside0 (Below w.heap.size w w7) := ⟨B6.out.trans (b7.mono B6.out.size)⟩
      clear r7 l7 b7
      generalize edec xs2 = z
      have hs7 := B7.out.size
      go_wp2
      go_ret
      refine ⟨?_, B7.out.alloc hs7 _⟩
      simp
    · have hbad := edec_bad (fun hs => ht (xor_u8_same _ _ (WB.out.at_ i).1 (WB.out.at_ i).2 T0.out T1.out (hok.1 hs)))
      rw [hbad] at hu
      simp only [ent0, List.length_nil] at hu
      have HU := Aside0.mk hu
      have ht0 : (turn == 0) = false := beq_eq_false_iff_ne.2 ht
      clear hu hok hw5 hs5 hy hcell hfro hbad
      refine HU.out.mono ?_
      rintro e w7 ⟨v7, d7, rfl, r7, l7, b7⟩
      have B7 : Aside0 (Below w.heap.size w w7) := ⟨B6.out.trans (b7.mono B6.out.size)⟩
      have hs7 := B7.out.size
      have hb8 : Below w7.heap.size w7 (w7.alloc (.cells #[.int .i64 0, .int .i64 0, .int .i64 0, .int .i64 0, .int .i64 0, .int .i64 0, .slice v7 0 d7] 89)) := (Below.refl _ w7).alloc (Nat.le_refl _) _
      have h8 := heap_alloc_new w7 (.cells #[.int .i64 0, .int .i64 0, .int .i64 0, .int .i64 0, .int .i64 0, .int .i64 0, .slice v7 0 d7] 89)
      have hes := Aside0.mk (esame_calls ent0 ent0 v7 d7 none 0 _ (RB.keep r7 hb8) (Nat.zero_le _) (C_nil0 _) (Nat.zero_le _))
      rw [decide_eq_true rfl] at hes
      simp only [ent0, List.length_nil] at hes
      obtain ⟨y0, y1, y2, y3, y4, y5, y6⟩ := cells7 h8
      have BB8 : Aside0 (Below w.heap.size w (w7.alloc (.cells #[.int .i64 0, .int .i64 0, .int .i64 0, .int .i64 0, .int .i64 0, .int .i64 0, .slice v7 0 d7] 89))) := ⟨B7.out.alloc hs7 _⟩
      clear h8 hb8 r7 l7 b7
      go_wp2_with (fail)
      refine hes.out.mono ?_
      rintro e w9 ⟨rfl, b9⟩
      have B9 : Aside0 (Below w.heap.size w w9) := ⟨BB8.out.trans (b9.mono BB8.out.size)⟩
      clear hes b9 BB8 y0 y1 y2 y3 y4 y5 y6
      go_wp2
      go_ret
      refine ⟨?_, B9.out⟩
      simp
end Go.Proofs.Ytmdnokfmlbjbhaa
