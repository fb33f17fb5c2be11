/- RpcCodes: the walk. -/
import Derived.Test.YtmdnokfmlbjbhaaMsX
import Derived.Test.YtmdnokfmlbjbhaaMsP
namespace Go.Proofs.Ytmdnokfmlbjbhaa
open Go.RowKit Go.Proofs.YtmdnokfmlbjbhaaW.PrintWords
set_option linter.unusedVariables false
set_option linter.unusedSimpArgs false
attribute [local go_sem ↓] to_boxLoad
attribute [local go_sem] load_box

/-- what Encode gives -/
def mencB (m : Msg) : List Int := if MOk m then wrapped (mbytes m) else []
def mencE (m : Msg) : Int := if MOk m then 0 else 1
theorem menc_any (m : Msg) (A : Option Addr) (c : Nat) (B : Option Addr) (d : Nat) (w : World) (h : RB w A m.cell.data) (hc : m.cell.data.length ≤ c) (h' : RB w B m.value) (hd : m.value.length ≤ d) (hb : Bytes m.cell.data) (hb' : Bytes m.value) :
    Calls Try.prog 71 #[.agg #[.int .i64 m.from_, .int .i64 m.to_, .int .i64 m.number, .bool m.reply, .int .i64 m.kind, .int .i64 m.epoch, .int .i64 m.at_, .int .i64 m.cell.what, .slice A m.cell.data.length c, .int .i64 m.ballot.round, .int .i64 m.ballot.who, .slice B m.value.length d, .int .i64 m.err, .int .i64 m.tail, .int .i64 m.low, .int .i64 m.back]] w fun e w' => ∃ A' c', e = .returned (.tuple #[.slice A' (mencB m).length c', .int .i64 (mencE m)]) ∧ RB w' A' (mencB m) ∧ (mencB m).length ≤ c' ∧ Below w.heap.size w w' := by
  unfold mencB mencE
  by_cases hok : MOk m
  · rw [if_pos hok, if_pos hok]
    refine (menc_calls m A c B d w h hc h' hd hb hb' hok).mono ?_
    rintro e w' ⟨v, rfl, ho, hB⟩
    obtain ⟨A', c', rfl, h1, h2⟩ := OB.slice ho
    exact ⟨A', c', rfl, h1, h2, hB⟩
  · rw [if_neg hok, if_neg hok]
    refine (menc_no m A c B d w h hc h' hd hok).mono ?_
    rintro e w' ⟨rfl, hB⟩
    exact ⟨none, 0, rfl, C_nil0 _, Nat.le_refl _, hB⟩
theorem boxM' {W : World} {b : Nat} {m : Msg} {A : Option Addr} {c : Nat} {B : Option Addr} {d : Nat} {v : Value} (h : W.heap[b]? = some (.cells (mCells m A c B d) 29 (0, 0))) (hv : Aside0 (v = .agg (mCells m A c B d))) : Boxed W b ∧ boxOf W b = v := by
  rw [hv.out]; exact boxed16 h

set_option maxHeartbeats 1000000 in
set_option maxRecDepth 100000 in
theorem mcodes_walk (m : Msg) (b : List Int) (A : Option Addr) (c : Nat) (B : Option Addr) (d : Nat) (A1 : Option Addr) (c1 : Nat) (w : World)
    (hx : RB w A m.cell.data) (lx : m.cell.data.length ≤ c) (hv : RB w B m.value) (lv : m.value.length ≤ d) (hr : RB w A1 b) (lb : b.length ≤ c1)
    (bx : Bytes m.cell.data) (bv : Bytes m.value) (bb : Bytes b) (wx : m.Ok) :
    Calls Try.prog 15 #[.agg (mCells m A c B d), .slice A1 b.length c1] w fun e w' => e = .returned (.bool true) ∧ Below w.heap.size w w' := by
  have RBB := Aside0.mk hr
  have LB := Aside0.mk lb
  have BB := Aside0.mk bb
  have WX := Aside0.mk wx
  obtain ⟨w0, hw0⟩ : ∃ w0, Aside0 (w0 = w.alloc (.cells (mCells m A c B d) 29)) := ⟨_, ⟨rfl⟩⟩
  have hX0 : w0.heap[w.heap.size]? = some (.cells (mCells m A c B d) 29 (0, 0)) := by rw [hw0.out]; exact heap_alloc_new w _
  have b0 : Below w.heap.size w w0 := by rw [hw0.out]; exact (Below.refl _ w).alloc (Nat.le_refl _) _
  have HX0 := Aside0.mk hX0
  have B0 := Aside0.mk b0
  have hw0' := hw0.out
  obtain ⟨mx, hmx⟩ : ∃ v, Aside0 (v = Value.agg (mCells m A c B d)) := ⟨_, ⟨rfl⟩⟩
  have c71 := Aside0.mk (fun (W : World) (h : Below w.heap.size w W) => menc_any m A c B d W (RB.keep hx h) lx (RB.keep hv h) lv bx bv)
  have c74 := Aside0.mk (fun (W : World) (h : Below w.heap.size w W) => mrefright_calls m A c B d W (RB.keep hx h) lx (RB.keep hv h) lv)
  have c75 := Aside0.mk (fun (W : World) (h : Below w.heap.size w W) (k : MOk m) => mencref_calls m A c B d W (RB.keep hx h) lx (RB.keep hv h) lv bx bv k.2.2.2.1 k.2.2.2.2)
  have c22 := Aside0.mk (fun (W : World) (h : Below w.heap.size w W) (A9 : Option Addr) (c9 : Nat) (B9 : Option Addr) (d9 : Nat) (r9 : RB W A9 m.cell.data) (l9 : m.cell.data.length ≤ c9) (r9' : RB W B9 m.value) (l9' : m.value.length ≤ d9) => msame_calls m m A9 c9 B9 d9 A c B d W r9 l9 r9' l9' (RB.keep hx h) lx (RB.keep hv h) lv)
  have hmx' := hmx.out
  unfold mCells at hw0' hmx' ⊢
  rw [← hmx'] at c71 c74 c75 c22
  have HW0 := Aside0.mk hw0'
  clear hx hv hr lx lv lb bx bv bb wx hX0 b0 hw0 hw0' hmx'
  go_enter Try.func15, Try.ntmps15
  go_wp2_with (fail)
  rw [← HW0.out]
  refine (speaks12_calls _).mono ?_
  rintro e w1 ⟨rfl, b1⟩
  have HX1 := Aside0.mk ((b1.block _ (blk_lt HX0.out)).trans HX0.out)
  have B1 : Aside0 (Below w.heap.size w w1) := ⟨B0.out.trans (b1.mono B0.out.size)⟩
  clear b1 HW0 HX0 B0
  have x8 : w1.cell? ⟨w.heap.size, 8, none⟩ = some (.slice A m.cell.data.length c) := blk_cell HX1.out 8
  have x11 : w1.cell? ⟨w.heap.size, 11, none⟩ = some (.slice B m.value.length d) := blk_cell HX1.out 11
  obtain ⟨xb, xm⟩ := boxM' HX1.out hmx
  by_cases h1 : (3000 : Int) < (m.cell.data.length : Int)
  · go_wp2
    go_ret
    exact ⟨rfl, B1.out⟩
  by_cases h2 : (3000 : Int) < (m.value.length : Int)
  · go_wp2
    go_ret
    exact ⟨rfl, B1.out⟩
  by_cases h3 : (5000 : Int) < (b.length : Int)
  · go_wp2
    go_ret
    exact ⟨rfl, B1.out⟩
  have SB : Aside0 (b.length ≤ 5000) := ⟨by omega⟩
  have SD : Aside0 (m.cell.data.length ≤ 3000) := ⟨by omega⟩
  have SV : Aside0 (m.value.length ≤ 3000) := ⟨by omega⟩
  go_wp2_with (fail)
  refine (c71.out w1 B1.out).mono ?_
  rintro e w3 ⟨A3, c3, rfl, r3, l3, b3⟩
  have HX3 := Aside0.mk ((b3.block _ (blk_lt HX1.out)).trans HX1.out)
  have B3 : Aside0 (Below w.heap.size w w3) := ⟨B1.out.trans (b3.mono B1.out.size)⟩
  have R3 := Aside0.mk r3
  have L3 := Aside0.mk l3
  obtain ⟨xe, hxe⟩ : ∃ q, q = mencE m := ⟨_, rfl⟩
  obtain ⟨xs, hxs⟩ : ∃ q, q = mencB m := ⟨_, rfl⟩
  rw [← hxs] at R3 L3
  rw [← hxe, ← hxs]
  have HXE := Aside0.mk hxe
  have HXS := Aside0.mk hxs
  clear b3 x8 x11 xb xm HX1 B1 c71 r3 l3 h1 h2 h3 hxe hxs
  have a3 := Aside0.mk (OB.empty w3 _ (Nat.le_refl _))
  have b3 := Aside0.mk ((Below.refl w3.heap.size w3).alloc (Nat.le_refl _) (.cells #[] 5))
  have H3 := Aside0.mk (RB.keep RBB.out B3.out)
  go_wp2_with (at_builtin; refine wpList_appW 39 rfl rfl (.tmp 37) (.tmp 38) rfl w3 (.slice (some ⟨w3.heap.size, 0, none⟩) 0 0) [] b rfl rfl a3.out (RB.keep H3.out b3.out) b3.out (by have := SB.out; simp; omega) ?_; intro v4 w4 o4 b4; rw [List.nil_append] at o4; obtain ⟨A4, c4, rfl, r4, k4⟩ := OB.slice o4; have HDE := Aside0.mk (mdec_calls A4 c4 b w4 r4 BB.out k4 (by have := SB.out; omega)); have D4 := Aside0.mk b4; clear o4 r4 b4 k4)
  obtain ⟨y, hy⟩ : ∃ y, y = (mdec b).1 := ⟨_, rfl⟩
  obtain ⟨f, hf⟩ : ∃ f, f = (mdec b).2 := ⟨_, rfl⟩
  have hde := HDE.out
  unfold MPost at hde
  rw [← hy, ← hf] at hde
  refine hde.mono ?_
  rintro e w5 ⟨A5, c5, B5, d5, rfl, r5, l5, r5', l5', b5⟩
  have B5w : Aside0 (Below w.heap.size w w5) := ⟨(B3.out.trans (D4.out.mono B3.out.size)).trans (b5.mono (Nat.le_trans B3.out.size D4.out.size))⟩
  have HB35 : Aside0 (Below w3.heap.size w3 w5) := ⟨D4.out.trans (b5.mono D4.out.size)⟩
  obtain ⟨w6, hw6⟩ : ∃ w6, w6 = w5.alloc (.cells #[.int .i64 y.from_, .int .i64 y.to_, .int .i64 y.number, .bool y.reply, .int .i64 y.kind, .int .i64 y.epoch, .int .i64 y.at_, .int .i64 y.cell.what, .slice A5 y.cell.data.length c5, .int .i64 y.ballot.round, .int .i64 y.ballot.who, .slice B5 y.value.length d5, .int .i64 y.err, .int .i64 y.tail, .int .i64 y.low, .int .i64 y.back] 29) := ⟨_, rfl⟩
  have b56 : Below w5.heap.size w5 w6 := by rw [hw6]; exact (Below.refl _ _).alloc (Nat.le_refl _) _
  have HY6 : Aside0 (w6.heap[w5.heap.size]? = some (.cells (mCells y A5 c5 B5 d5) 29 (0, 0))) := ⟨by rw [hw6]; exact heap_alloc_new w5 _⟩
  have R5 := Aside0.mk (RB.keep r5 b56)
  have R5' := Aside0.mk (RB.keep r5' b56)
  have LL5 := Aside0.mk l5
  have LL5' := Aside0.mk l5'
  have B6 : Aside0 (Below w.heap.size w w6) := ⟨B5w.out.trans (b56.mono B5w.out.size)⟩
  have HB36 : Aside0 (Below w3.heap.size w3 w6) := ⟨HB35.out.trans (b56.mono HB35.out.size)⟩
  have hrd := mrefdec_calls A1 c1 b w6 (RB.keep RBB.out B6.out) BB.out LB.out (by have := SB.out; omega)
  unfold MPost at hrd
  rw [← hy, ← hf] at hrd
  have HRD := Aside0.mk hrd
  have HW6 := Aside0.mk hw6
  clear hde HDE r5 l5 r5' l5' b5 b56 hy hf hrd hw6 a3 b3 H3 D4
  go_wp2_with (fail)
  rw [← HW6.out]
  refine HRD.out.mono ?_
  rintro e w7 ⟨A6, c6, B6', d6, rfl, r6, l6, r6', l6', b7⟩
  have B7 : Aside0 (Below w.heap.size w w7) := ⟨B6.out.trans (b7.mono B6.out.size)⟩
  obtain ⟨w8, hw8⟩ : ∃ w8, w8 = w7.alloc (.cells #[.int .i64 y.from_, .int .i64 y.to_, .int .i64 y.number, .bool y.reply, .int .i64 y.kind, .int .i64 y.epoch, .int .i64 y.at_, .int .i64 y.cell.what, .slice A6 y.cell.data.length c6, .int .i64 y.ballot.round, .int .i64 y.ballot.who, .slice B6' y.value.length d6, .int .i64 y.err, .int .i64 y.tail, .int .i64 y.low, .int .i64 y.back] 29) := ⟨_, rfl⟩
  have b78 : Below w7.heap.size w7 w8 := by rw [hw8]; exact (Below.refl _ _).alloc (Nat.le_refl _) _
  have b68 : Below w6.heap.size w6 w8 := b7.trans (b78.mono b7.size)
  have HY8 := Aside0.mk ((b68.block _ (blk_lt HY6.out)).trans HY6.out)
  have HZ8 : Aside0 (w8.heap[w7.heap.size]? = some (.cells (mCells y A6 c6 B6' d6) 29 (0, 0))) := ⟨by rw [hw8]; exact heap_alloc_new w7 _⟩
  have B8 : Aside0 (Below w.heap.size w w8) := ⟨B7.out.trans (b78.mono B7.out.size)⟩
  have HB38 : Aside0 (Below w3.heap.size w3 w8) := ⟨HB36.out.trans (b68.mono HB36.out.size)⟩
  obtain ⟨y1, hy1⟩ : ∃ v, Aside0 (v = Value.agg (mCells y A5 c5 B5 d5)) := ⟨_, ⟨rfl⟩⟩
  obtain ⟨y2, hy2⟩ : ∃ v, Aside0 (v = Value.agg (mCells y A6 c6 B6' d6)) := ⟨_, ⟨rfl⟩⟩
  have hsm := msame_calls y y A5 c5 B5 d5 A6 c6 B6' d6 w8 (RB.keep R5.out b68) LL5.out (RB.keep R5'.out b68) LL5'.out (RB.keep r6 b78) l6 (RB.keep r6' b78) l6'
  rw [decide_eq_true rfl] at hsm
  have hy1' := hy1.out
  have hy2' := hy2.out
  unfold mCells at hy1' hy2'
  rw [← hy1', ← hy2'] at hsm
  have HSM := Aside0.mk hsm
  have HW8 := Aside0.mk hw8
  obtain ⟨yb, ym⟩ := boxM' HY8.out hy1
  obtain ⟨zb, zm⟩ := boxM' HZ8.out hy2
  rw [hw8] at yb ym zb zm
  clear r6 l6 r6' l6' b7 b78 b68 hsm hy1' hy2' hw8 HRD HW6
  go_wp2_with (fail)
  rw [← HW8.out]
  refine HSM.out.mono ?_
  rintro e w9 ⟨rfl, b9⟩
  have B9 : Aside0 (Below w.heap.size w w9) := ⟨B8.out.trans (b9.mono B8.out.size)⟩
  have HB39 : Aside0 (Below w3.heap.size w3 w9) := ⟨HB38.out.trans (b9.mono HB38.out.size)⟩
  have HX9 := Aside0.mk ((HB39.out.block _ (blk_lt HX3.out)).trans HX3.out)
  obtain ⟨xb, xm⟩ := boxM' HX9.out hmx
  clear b9 yb ym zb zm HSM HW8 HY6 HY8 HZ8 R5 R5' LL5 LL5' hy1 hy2 B5w HB35 B6 HB36 B7 B8 HB38
  go_wp2_with (fail)
  refine (c74.out w9 B9.out).mono ?_
  rintro e w10 ⟨rfl, b10⟩
  have B10 : Aside0 (Below w.heap.size w w10) := ⟨B9.out.trans (b10.mono B9.out.size)⟩
  have HB3a : Aside0 (Below w3.heap.size w3 w10) := ⟨HB39.out.trans (b10.mono HB39.out.size)⟩
  have HXa := Aside0.mk ((HB3a.out.block _ (blk_lt HX3.out)).trans HX3.out)
  clear b10 xb xm c74 HX9 B9 HB39
  by_cases hok : MOk m
  case neg =>
    have he : xe = 1 := by rw [HXE.out]; unfold mencE; rw [if_neg hok]
    have hs : xs = [] := by rw [HXS.out]; unfold mencB; rw [if_neg hok]
    subst he hs
    rw [decide_eq_false hok]
    clear hok
    go_wp2
    go_ret
    exact ⟨rfl, B10.out⟩
  have he : xe = 0 := by rw [HXE.out]; unfold mencE; rw [if_pos hok]
  have hs : xs = wrapped (mbytes m) := by rw [HXS.out]; unfold mencB; rw [if_pos hok]
  have hby : Bytes xs := by
    rw [hs]
    exact wrapped_bytes (mbytes_bytes (by have := WX.out; exact this.2.2.2.2.2.2.2.1.2) (by have := WX.out; exact this.2.2.2.2.2.2.2.2.2.1))
  have hxl : xs.length ≤ 140737488350000 := by rw [hs, wrapped_len, mbytes_len]; have := SD.out; have := SV.out; omega
  have hd2 := mdec_calls A3 c3 xs w10 (RB.keep R3.out HB3a.out) hby L3.out hxl
  have hmd : mdec xs = (m, 0) := by rw [hs]; exact mdec_wrapped m hok WX.out
  unfold MPost at hd2
  rw [hmd] at hd2
  dsimp only at hd2
  have HD2 := Aside0.mk hd2
  have OK := Aside0.mk hok
  have HS := Aside0.mk hs
  subst he
  rw [decide_eq_true hok]
  clear hok hs hby hxl hd2 hmd HXS HXE
  go_wp2_with (fail)
  refine HD2.out.mono ?_
  rintro e w11 ⟨A9, c9, B9, d9, rfl, r9, l9, r9', l9', b11⟩
  have B11 : Aside0 (Below w.heap.size w w11) := ⟨B10.out.trans (b11.mono B10.out.size)⟩
  have HB3b : Aside0 (Below w3.heap.size w3 w11) := ⟨HB3a.out.trans (b11.mono HB3a.out.size)⟩
  obtain ⟨w12, hw12⟩ : ∃ w12, w12 = w11.alloc (.cells #[.int .i64 m.from_, .int .i64 m.to_, .int .i64 m.number, .bool m.reply, .int .i64 m.kind, .int .i64 m.epoch, .int .i64 m.at_, .int .i64 m.cell.what, .slice A9 m.cell.data.length c9, .int .i64 m.ballot.round, .int .i64 m.ballot.who, .slice B9 m.value.length d9, .int .i64 m.err, .int .i64 m.tail, .int .i64 m.low, .int .i64 m.back] 29) := ⟨_, rfl⟩
  have b1112 : Below w11.heap.size w11 w12 := by rw [hw12]; exact (Below.refl _ _).alloc (Nat.le_refl _) _
  have HM12 : Aside0 (w12.heap[w11.heap.size]? = some (.cells (mCells m A9 c9 B9 d9) 29 (0, 0))) := ⟨by rw [hw12]; exact heap_alloc_new w11 _⟩
  have B12 : Aside0 (Below w.heap.size w w12) := ⟨B11.out.trans (b1112.mono B11.out.size)⟩
  have HB3c : Aside0 (Below w3.heap.size w3 w12) := ⟨HB3b.out.trans (b1112.mono HB3b.out.size)⟩
  have R9 := Aside0.mk (RB.keep r9 b1112)
  have R9' := Aside0.mk (RB.keep r9' b1112)
  have L9 := Aside0.mk l9
  have L9' := Aside0.mk l9'
  have HXc := Aside0.mk ((HB3c.out.block _ (blk_lt HX3.out)).trans HX3.out)
  obtain ⟨xb, xm⟩ := boxM' HXc.out hmx
  rw [hw12] at xb xm
  have HW12 := Aside0.mk hw12
  clear r9 l9 r9' l9' b11 b1112 hw12 HD2 HB3b B11 HXa
  go_wp2_with (fail)
  rw [← HW12.out]
  refine (c75.out w12 B12.out OK.out).mono ?_
  rintro e w13 ⟨A10, c10, rfl, r10, l10, b13⟩
  have B13 : Aside0 (Below w.heap.size w w13) := ⟨B12.out.trans (b13.mono B12.out.size)⟩
  have HB3d : Aside0 (Below w3.heap.size w3 w13) := ⟨HB3c.out.trans (b13.mono HB3c.out.size)⟩
  rw [← HS.out] at r10 l10 ⊢
  have hsa := same_calls A3 c3 xs A10 c10 xs w13 (RB.keep R3.out HB3d.out) r10
  rw [decide_eq_true rfl] at hsa
  have HSA := Aside0.mk hsa
  have HMd := Aside0.mk ((b13.block _ (blk_lt HM12.out)).trans HM12.out)
  have R9d := Aside0.mk (RB.keep R9.out b13)
  have R9d' := Aside0.mk (RB.keep R9'.out b13)
  clear r10 l10 b13 hsa xb xm HW12 HM12 R9 R9' HXc
  go_wp2_with (fail)
  refine HSA.out.mono ?_
  rintro e w14 ⟨rfl, hdr⟩
  have b14 := hdr.below
  have B14 : Aside0 (Below w.heap.size w w14) := ⟨B13.out.trans (b14.mono B13.out.size)⟩
  have HB3e : Aside0 (Below w3.heap.size w3 w14) := ⟨HB3d.out.trans (b14.mono HB3d.out.size)⟩
  obtain ⟨m3, hm3⟩ : ∃ v, Aside0 (v = Value.agg (mCells m A9 c9 B9 d9)) := ⟨_, ⟨rfl⟩⟩
  have hlast := c22.out w14 B14.out A9 c9 B9 d9 (RB.keep R9d.out b14) L9.out (RB.keep R9d'.out b14) L9'.out
  simp only [decide_true] at hlast
  have hm3' := hm3.out
  unfold mCells at hm3'
  rw [← hm3'] at hlast
  have HLAST := Aside0.mk hlast
  have HMe := (b14.block _ (blk_lt HMd.out)).trans HMd.out
  have HXe := (HB3e.out.block _ (blk_lt HX3.out)).trans HX3.out
  obtain ⟨mb, mm⟩ := boxM' HMe hm3
  obtain ⟨xb, xm⟩ := boxM' HXe hmx
  clear HMe HXe hlast hm3' hdr b14 HSA R9d R9d' L9 L9'
  go_wp2_with (fail)
  refine HLAST.out.mono ?_
  rintro e w15 ⟨rfl, b15⟩
  have B15 : Aside0 (Below w.heap.size w w15) := ⟨B14.out.trans (b15.mono B14.out.size)⟩
  clear b15 mb mm xb xm HLAST
  go_wp2
  go_ret
  exact ⟨rfl, B15.out⟩
end Go.Proofs.Ytmdnokfmlbjbhaa
