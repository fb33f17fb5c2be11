/- RpcTurned: the walk. -/
import Derived.Test.YtmdnokfmlbjbhaaMsD
import Derived.Deep.RegionHeld3
namespace Go.Proofs.Ytmdnokfmlbjbhaa
open Go.RowKit Go.Proofs.YtmdnokfmlbjbhaaW.PrintWords
set_option linter.unusedVariables false
set_option linter.unusedSimpArgs false
attribute [local go_sem ↓] to_boxLoad
attribute [local go_sem] load_box

theorem mdec_nosum {b : List Int} (h : ¬ sumOk b) : mdec b = (msg0, 3) := by
  unfold mdec unwCode
  rw [if_neg h]
  exact if_pos (by decide)
theorem boxM {W : World} {b : Nat} {m : Msg} {A : Option Addr} {c : Nat} {B : Option Addr} {d : Nat} {v : Value} (h : W.heap[b]? = some (.cells (mCells m A c B d) 29 (0, 0))) (hv : Aside0 (v = .agg (mCells m A c B d))) : Boxed W b ∧ boxOf W b = v := by
  rw [hv.out]; exact boxed16 h

set_option maxHeartbeats 1000000 in
set_option maxRecDepth 100000 in
theorem mturned_walk (x y : Msg) (A : Option Addr) (c : Nat) (B : Option Addr) (d : Nat) (A' : Option Addr) (c' : Nat) (B' : Option Addr) (d' : Nat) (at_ turn : Int) (w : World)
    (hx : RB w A x.cell.data) (lx : x.cell.data.length ≤ c) (hv : RB w B x.value) (lv : x.value.length ≤ d) (hy : RB w A' y.cell.data) (ly : y.cell.data.length ≤ c') (hu : RB w B' y.value) (lu : y.value.length ≤ d')
    (bx : Bytes x.cell.data) (bv : Bytes x.value) (by_ : Bytes y.cell.data) (bu : Bytes y.value) (wx : x.Ok) (wy : y.Ok) (t0 : 0 ≤ turn) (t1 : turn < 256) :
    Calls Try.prog 16 #[.agg (mCells x A c B d), .agg (mCells y A' c' B' d'), .int .i64 at_, .int .u8 turn] w fun e w' => e = .returned (.bool true) ∧ Below w.heap.size w w' := by
  have RX := Aside0.mk hx
  have RV := Aside0.mk hv
  have RY := Aside0.mk hy
  have RU := Aside0.mk hu
  have LX := Aside0.mk lx
  have LV := Aside0.mk lv
  have LY := Aside0.mk ly
  have LU := Aside0.mk lu
  have BX := Aside0.mk bx
  have BV := Aside0.mk bv
  have BY := Aside0.mk by_
  have BU := Aside0.mk bu
  have WX := Aside0.mk wx
  have WY := Aside0.mk wy
  have T0 := Aside0.mk t0
  have T1 := Aside0.mk t1
  obtain ⟨w0, hw0⟩ : ∃ w0, Aside0 (w0 = (w.alloc (.cells (mCells x A c B d) 29)).alloc (.cells (mCells y A' c' B' d') 29)) := ⟨_, ⟨rfl⟩⟩
  have hX0 : w0.heap[w.heap.size]? = some (.cells (mCells x A c B d) 29 (0, 0)) := by
    rw [hw0.out]; exact (Below.heap_alloc _ _ _ (by simp only [World.size_alloc]; omega)).trans (heap_alloc_new w _)
  have hY0 : w0.heap[w.heap.size + 1]? = some (.cells (mCells y A' c' B' d') 29 (0, 0)) := by
    have q := heap_alloc_new (w.alloc (.cells (mCells x A c B d) 29)) (.cells (mCells y A' c' B' d') 29)
    rw [World.size_alloc] at q
    rw [hw0.out]; exact q
  have b0 : Below w.heap.size w w0 := by rw [hw0.out]; exact ((Below.refl _ w).alloc (Nat.le_refl _) _).alloc (by simp only [World.size_alloc]; omega) _
  have HX0 := Aside0.mk hX0
  have HY0 := Aside0.mk hY0
  have B0 := Aside0.mk b0
  have hw0' := hw0.out
  obtain ⟨mx, hmx⟩ : ∃ v, Aside0 (v = Value.agg (mCells x A c B d)) := ⟨_, ⟨rfl⟩⟩
  obtain ⟨my, hmy⟩ : ∃ v, Aside0 (v = Value.agg (mCells y A' c' B' d')) := ⟨_, ⟨rfl⟩⟩
  -- the contracts at the two messages, wherever all lies as it lay
  have c74x := Aside0.mk (fun (W : World) (h : Below w.heap.size w W) => mrefright_calls x A c B d W (RB.keep hx h) lx (RB.keep hv h) lv)
  have c74y := Aside0.mk (fun (W : World) (h : Below w.heap.size w W) => mrefright_calls y A' c' B' d' W (RB.keep hy h) ly (RB.keep hu h) lu)
  have c71x := Aside0.mk (fun (W : World) (h : Below w.heap.size w W) (k : MOk x) => menc_calls x A c B d W (RB.keep hx h) lx (RB.keep hv h) lv bx bv k)
  have c71y := Aside0.mk (fun (W : World) (h : Below w.heap.size w W) (k : MOk y) => menc_calls y A' c' B' d' W (RB.keep hy h) ly (RB.keep hu h) lu by_ bu k)
  have c22 := Aside0.mk (fun (W : World) (h : Below w.heap.size w W) => msame_calls x y A c B d A' c' B' d' W (RB.keep hx h) lx (RB.keep hv h) lv (RB.keep hy h) ly (RB.keep hu h) lu)
  have hmx' := hmx.out
  have hmy' := hmy.out
  unfold mCells at hw0' hmx' hmy' ⊢
  rw [← hmx'] at c74x c71x c22
  rw [← hmy'] at c74y c71y c22
  have HW0 := Aside0.mk hw0'
  obtain ⟨m, hm, hm1⟩ := and_ffff at_
  have HM := Aside0.mk hm
  have HM1 := Aside0.mk hm1
  clear hx hv hy hu lx lv ly lu bx bv by_ bu wx wy t0 t1 hX0 hY0 b0 hw0 hw0' hm hm1 hmx' hmy'
  go_enter Try.func16, Try.ntmps16
  go_wp2_with (fail)
  rw [← HW0.out]
  refine (speaks12_calls _).mono ?_
  rintro e w1 ⟨rfl, b1⟩
  have HX1 := Aside0.mk ((b1.block _ (blk_lt HX0.out)).trans HX0.out)
  have HY1 := Aside0.mk ((b1.block _ (blk_lt HY0.out)).trans HY0.out)
  have B1 : Aside0 (Below w.heap.size w w1) := ⟨B0.out.trans (b1.mono B0.out.size)⟩
  clear b1 HW0 HX0 HY0 B0
  have x8 : w1.cell? ⟨w.heap.size, 8, none⟩ = some (.slice A x.cell.data.length c) := blk_cell HX1.out 8
  have y8 : w1.cell? ⟨w.heap.size + 1, 8, none⟩ = some (.slice A' y.cell.data.length c') := blk_cell HY1.out 8
  obtain ⟨xb, xm⟩ := boxM HX1.out hmx
  by_cases hx3 : (2000 : Int) < (x.cell.data.length : Int)
  · clear HM HM1
    go_wp2
    go_ret
    exact ⟨rfl, B1.out⟩
  by_cases hy3 : (2000 : Int) < (y.cell.data.length : Int)
  · clear HM HM1
    go_wp2
    go_ret
    exact ⟨rfl, B1.out⟩
  have SX : Aside0 (x.cell.data.length ≤ 2000) := ⟨by omega⟩
  have SY : Aside0 (y.cell.data.length ≤ 2000) := ⟨by omega⟩
  go_wp2_with (fail)
  refine (c74x.out w1 B1.out).mono ?_
  rintro e w2 ⟨rfl, b2⟩
  have HX2 := Aside0.mk ((b2.block _ (blk_lt HX1.out)).trans HX1.out)
  have HY2 := Aside0.mk ((b2.block _ (blk_lt HY1.out)).trans HY1.out)
  have B2 : Aside0 (Below w.heap.size w w2) := ⟨B1.out.trans (b2.mono B1.out.size)⟩
  clear b2 x8 y8 xb xm HX1 HY1 B1 c74x
  obtain ⟨yb, ym⟩ := boxM HY2.out hmy
  by_cases ex : MOk x
  case neg =>
    rw [decide_eq_false ex]
    clear ex
    go_wp2
    go_ret
    exact ⟨rfl, B2.out⟩
  rw [decide_eq_true ex]
  have EX := Aside0.mk ex
  clear ex
  go_wp2_with (fail)
  refine (c74y.out w2 B2.out).mono ?_
  rintro e w3 ⟨rfl, b3⟩
  have HX3 := Aside0.mk ((b3.block _ (blk_lt HX2.out)).trans HX2.out)
  have HY3 := Aside0.mk ((b3.block _ (blk_lt HY2.out)).trans HY2.out)
  have B3 : Aside0 (Below w.heap.size w w3) := ⟨B2.out.trans (b3.mono B2.out.size)⟩
  clear b3 yb ym HX2 HY2 B2 c74y
  obtain ⟨xb, xm⟩ := boxM HX3.out hmx
  by_cases ey : MOk y
  case neg =>
    rw [decide_eq_false ey]
    clear ey
    go_wp2
    go_ret
    exact ⟨rfl, B3.out⟩
  rw [decide_eq_true ey]
  have EY := Aside0.mk ey
  clear ey
  go_wp2_with (fail)
  refine (c71x.out w3 B3.out EX.out).mono ?_
  rintro e w4 ⟨v4, rfl, o4, b4⟩
  have HX4 := Aside0.mk ((b4.block _ (blk_lt HX3.out)).trans HX3.out)
  have HY4 := Aside0.mk ((b4.block _ (blk_lt HY3.out)).trans HY3.out)
  have B4 : Aside0 (Below w.heap.size w w4) := ⟨B3.out.trans (b4.mono B3.out.size)⟩
  obtain ⟨g, cw, rfl, hg1, hg2, hcw⟩ := OB.some o4 (by rw [wrapped_len, mbytes_len]; omega)
  have HG := Aside0.mk (Nat.le_trans B3.out.size hg1)
  have CW := Aside0.mk hcw
  have O4 := Aside0.mk o4
  clear b4 xb xm hg1 hg2 hcw o4 HX3 HY3 B3 c71x
  obtain ⟨yb, ym⟩ := boxM HY4.out hmy
  go_wp2_with (fail)
  refine (c71y.out w4 B4.out EY.out).mono ?_
  rintro e w5 ⟨v5, rfl, o5, b5⟩
  have HX5 := Aside0.mk ((b5.block _ (blk_lt HX4.out)).trans HX4.out)
  have HY5 := Aside0.mk ((b5.block _ (blk_lt HY4.out)).trans HY4.out)
  have B5 : Aside0 (Below w.heap.size w w5) := ⟨B4.out.trans (b5.mono B4.out.size)⟩
  obtain ⟨A5, c5, rfl, r5, l5⟩ := OB.slice o5
  have O5 := Aside0.mk (own_move O4.out (fun k hk => b5.block k (own_lt O4.out k hk)))
  have E5 := Aside0.mk (Below.refl w5.heap.size w5)
  have WB := Aside0.mk (wrapped_bytes (mbytes_bytes BX.out BV.out))
  obtain ⟨q, hq⟩ : ∃ q, decide (x = y) = q := ⟨_, rfl⟩
  have HQ := Aside0.mk hq
  have hw := mwr_iff EX.out EY.out WX.out WY.out
  rw [hq] at hw
  have hr4 := OB.slice_some O5.out
  have d49 : Aside0 (∀ W, Aside0 (Below w5.heap.size w5 W) → Calls Try.prog 49 #[.slice (some ⟨g, 0, none⟩) (wrapped (mbytes x)).length cw, .slice A5 (wrapped (mbytes y)).length c5] W fun e w' => e = .returned (.bool q) ∧ Aside0 (Below w5.heap.size w5 w')) := ⟨fun W hW =>
    (same_calls _ cw _ A5 c5 _ W (RB.keep hr4 hW.out) (RB.keep r5 hW.out)).mono fun _ _ ⟨he, hd⟩ => ⟨by rw [he, hw], ⟨hW.out.trans (hd.below.mono hW.out.size)⟩⟩⟩
  have d22 : Aside0 (∀ W, Aside0 (Below w5.heap.size w5 W) → Calls Try.prog 22 #[mx, my] W fun e w' => e = .returned (.bool q) ∧ Aside0 (Below w5.heap.size w5 w')) := ⟨fun W hW =>
    (c22.out W (B5.out.trans (hW.out.mono B5.out.size))).mono fun _ _ ⟨he, hd⟩ => ⟨by rw [he, hq], ⟨hW.out.trans (hd.mono hW.out.size)⟩⟩⟩
  have HS : Aside0 (∀ W, Aside0 (Below w5.heap.size w5 W) → (Boxed W w.heap.size ∧ boxOf W w.heap.size = mx) ∧ (Boxed W (w.heap.size + 1) ∧ boxOf W (w.heap.size + 1) = my) ∧ Aside0 (Below w5.heap.size w5 W)) := ⟨fun W hW =>
    ⟨boxM ((hW.out.block _ (blk_lt HX5.out)).trans HX5.out) hmx, boxM ((hW.out.block _ (blk_lt HY5.out)).trans HY5.out) hmy, hW⟩⟩
  clear b5 yb ym o5 r5 l5 hq hw hr4 HX4 HY4 B4 c71y c22
  go_wp2_with (fail)
  go_cut [63] (fun v63 W => v63 = .bool false ∧ Aside0 (Below w5.heap.size w5 W))
  case first =>
    go_region_held3 (fun W => ((Boxed W w.heap.size ∧ boxOf W w.heap.size = mx) ∧ (Boxed W (w.heap.size + 1) ∧ boxOf W (w.heap.size + 1) = my) ∧ Aside0 (Below w5.heap.size w5 W))) (exact HS.out _ (by first | assumption | exact edrewB (by assumption))) (first
      | (go_at_call 49; ((with_reducible refine (d49.out _ (by first | assumption | exact edrewB (by assumption))).mono ?_); rintro ex w6 ⟨rfl, E6⟩))
      | (go_at_call 22; ((with_reducible refine (d22.out _ (by first | assumption | exact edrewB (by assumption))).mono ?_); rintro ex w7 ⟨rfl, E7⟩)))
    all_goals go_wp2
    all_goals go_meet
    all_goals exact ⟨rfl, E7⟩
  case rest =>
    obtain ⟨rfl, EC⟩ := hcut
    clear d49 d22 HS E5 HQ HX5 HY5 hmx hmy
    obtain ⟨xs, hxs⟩ : ∃ xs, wrapped (mbytes x) = xs := ⟨_, rfl⟩
    have hlen : xs.length = x.cell.data.length + x.value.length + 89 := by rw [← hxs, wrapped_len, mbytes_len]
    have LEN := Aside0.mk hlen
    have hturn := turned_ok (mbytes x) (mbytes_bytes BX.out BV.out)
    rw [hxs] at O5 O4 CW WB hturn
    have HT := Aside0.mk hturn
    rw [hxs]
    clear hturn hxs
    obtain ⟨i, hi⟩ : ∃ i, m % xs.length = i := ⟨_, rfl⟩
    have hilt : i < xs.length := by rw [← hi]; exact Nat.mod_lt _ (by omega)
    have hmi : (m : Int) % (xs.length : Int) = (i : Int) := by rw [← hi, Int.natCast_emod]
    have hm1' : (m : Int) ≤ 65535 := by have := HM1.out; omega
    have hlx : (xs.length : Int) ≤ 3089 := by have := SX.out; have := EX.out.2.2.2.2; omega
    have hlp : (0 : Int) < (xs.length : Int) := by omega
    have q0 : (0 : Int) ≤ (i : Int) := by omega
    have q1 : (i : Int) < (xs.length : Int) := by omega
    have hm := HM.out
    have hown := pw_own_below O5.out EC.out
    have BC : Aside0 (Below w.heap.size w wc) := ⟨B5.out.trans (EC.out.mono B5.out.size)⟩
    have OC := Aside0.mk hown
    have hcell := (own_at' OC.out i hilt).1
    have hfro := (own_at' OC.out i hilt).2
    have HI := Aside0.mk hilt
    clear hown hi hilt O5 O4 hlen
    go_wp2_with (fail)
    have hy := xor_u8_range _ turn (WB.out.at_ i).1 (WB.out.at_ i).2 T0.out T1.out
    have hs5 := own_store' OC.out i (bits BinOp.xor IntKind.u8 (rd xs ↑i) turn)
    have B6 := Aside0.mk (BC.out.setCell (p := ⟨g, i, none⟩) HG.out (.int .u8 (bits BinOp.xor IntKind.u8 (rd xs ↑i) turn)))
    generalize hw5 : wc.setCell { block := g, off := i } (Value.int IntKind.u8 (bits BinOp.xor IntKind.u8 (rd xs ↑i) turn)) = w6 at *
    have hu := mdec_calls _ cw (xs.set i (bits BinOp.xor IntKind.u8 (rd xs ↑i) turn)) w6 (OB.slice_some hs5) (bytes_set WB.out _ _ hy.1 hy.2) (by rw [List.length_set]; exact CW.out) (by rw [List.length_set]; omega)
    rw [List.length_set] at hu
    have hok := HT.out i HI.out _ hy.1 hy.2
    by_cases ht : turn = 0
    · have HU := Aside0.mk hu
      clear hu hok hw5 hs5 hy hcell hfro
      generalize xs.set i (bits BinOp.xor IntKind.u8 (rd xs ↑i) turn) = xs2 at HU
      subst ht
      refine HU.out.mono ?_
      unfold MPost
      rintro e w7 ⟨A7, c7, B7', d7, rfl, r7, l7, r7', l7', b7⟩
      have B7 : Aside0 (Below w.heap.size w w7) := ⟨B6.out.trans (b7.mono B6.out.size)⟩
      clear r7 l7 r7' l7' b7
      generalize mdec xs2 = z
      have hs7 := B7.out.size
      go_wp2
      go_ret
      refine ⟨?_, B7.out.alloc hs7 _⟩
      simp
    · have hbad := mdec_nosum (fun hs => ht (xor_u8_same _ _ (WB.out.at_ i).1 (WB.out.at_ i).2 T0.out T1.out (hok.1 hs)))
      unfold MPost at hu
      rw [hbad] at hu
      simp only [msg0, List.length_nil] at hu
      have HU := Aside0.mk hu
      have ht0 : (turn == 0) = false := beq_eq_false_iff_ne.2 ht
      clear hu hok hw5 hs5 hy hcell hfro hbad
      refine HU.out.mono ?_
      rintro e w7 ⟨A7, c7, B7, d7, rfl, r7, l7, r7', l7', b7⟩
      have BB7 : Aside0 (Below w.heap.size w w7) := ⟨B6.out.trans (b7.mono B6.out.size)⟩
      have hs7 := BB7.out.size
      have hb8 : Below w7.heap.size w7 (w7.alloc (.cells #[.int .i64 0, .int .i64 0, .int .i64 0, .bool false, .int .i64 0, .int .i64 0, .int .i64 0, .int .i64 0, .slice A7 0 c7, .int .i64 0, .int .i64 0, .slice B7 0 d7, .int .i64 0, .int .i64 0, .int .i64 0, .int .i64 0] 29)) := (Below.refl _ w7).alloc (Nat.le_refl _) _
      have h8 := heap_alloc_new w7 (.cells #[.int .i64 0, .int .i64 0, .int .i64 0, .bool false, .int .i64 0, .int .i64 0, .int .i64 0, .int .i64 0, .slice A7 0 c7, .int .i64 0, .int .i64 0, .slice B7 0 d7, .int .i64 0, .int .i64 0, .int .i64 0, .int .i64 0] 29)
      have hes := Aside0.mk (msame_calls msg0 msg0 A7 c7 B7 d7 none 0 none 0 _ (RB.keep r7 hb8) (Nat.zero_le _) (RB.keep r7' hb8) (Nat.zero_le _) (C_nil0 _) (Nat.zero_le _) (C_nil0 _) (Nat.zero_le _))
      rw [decide_eq_true rfl] at hes
      simp only [msg0, List.length_nil] at hes
      obtain ⟨yb, ym⟩ := boxed16 h8
      have BB8 : Aside0 (Below w.heap.size w (w7.alloc (.cells #[.int .i64 0, .int .i64 0, .int .i64 0, .bool false, .int .i64 0, .int .i64 0, .int .i64 0, .int .i64 0, .slice A7 0 c7, .int .i64 0, .int .i64 0, .slice B7 0 d7, .int .i64 0, .int .i64 0, .int .i64 0, .int .i64 0] 29))) := ⟨BB7.out.alloc hs7 _⟩
      clear h8 hb8 r7 l7 r7' l7' b7
      go_wp2_with (fail)
      refine hes.out.mono ?_
      rintro e w9 ⟨rfl, b9⟩
      have B9 : Aside0 (Below w.heap.size w w9) := ⟨BB8.out.trans (b9.mono BB8.out.size)⟩
      clear hes b9 BB8 yb ym
      go_wp2
      go_ret
      refine ⟨?_, B9.out⟩
      simp
end Go.Proofs.Ytmdnokfmlbjbhaa
