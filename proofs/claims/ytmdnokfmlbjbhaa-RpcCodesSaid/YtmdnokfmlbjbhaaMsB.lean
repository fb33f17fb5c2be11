/- rpc.Encode. -/
import Derived.Test.YtmdnokfmlbjbhaaMsA
import Derived.LoopN
namespace Go.Proofs.Ytmdnokfmlbjbhaa
open Go.RowKit Go.Proofs.YtmdnokfmlbjbhaaW.PrintWords Go.Proofs.YtmdnokfmlbjbhaaW.PrintMore
set_option linter.unusedVariables false
set_option linter.unusedSimpArgs false

set_option maxHeartbeats 4000000 in
set_option maxRecDepth 100000 in
theorem menc_calls (m : Msg) (A : Option Addr) (c : Nat) (B : Option Addr) (d : Nat) (w : World) (h : RB w A m.cell.data) (hc : m.cell.data.length ≤ c) (h' : RB w B m.value) (hd : m.value.length ≤ d) (hb : Bytes m.cell.data) (hb' : Bytes m.value) (hok : MOk m) :
    Calls Try.prog 71 #[.agg #[.int .i64 m.from_, .int .i64 m.to_, .int .i64 m.number, .bool m.reply, .int .i64 m.kind, .int .i64 m.epoch, .int .i64 m.at_, .int .i64 m.cell.what, .slice A m.cell.data.length c, .int .i64 m.ballot.round, .int .i64 m.ballot.who, .slice B m.value.length d, .int .i64 m.err, .int .i64 m.tail, .int .i64 m.low, .int .i64 m.back]] w fun e w' => ∃ v, e = .returned (.tuple #[v, .int .i64 0]) ∧ OB w' w.heap.size v (wrapped (mbytes m)) ∧ Below w.heap.size w w' := by
  have H := Aside0.mk h
  have H' := Aside0.mk h'
  have HBY := Aside0.mk (mbytes_bytes hb hb')
  have hlen : m.cell.data.length ≤ 65536 ∧ m.value.length ≤ 1000 := ⟨hok.2.2.2.1, hok.2.2.2.2⟩
  have HL := Aside0.mk hlen
  have HR := Aside0.mk (fun W (hB : Below w.heap.size w W) => mright_calls m A c B d W (RB.keep h hB) hc (RB.keep h' hB) hd)
  rw [decide_eq_true hok] at HR
  obtain ⟨w0, hw0⟩ : ∃ w0, Aside0 (w0 = w.alloc (.cells (mCells m A c B d) 29)) := ⟨_, ⟨rfl⟩⟩
  have b0 : Below w.heap.size w w0 := by rw [hw0.out]; exact (Below.refl _ w).alloc (Nat.le_refl _) _
  have hX := heap_alloc_new w (.cells (mCells m A c B d) 29)
  rw [← hw0.out] at hX
  have HX := Aside0.mk hX
  have B0 := Aside0.mk b0
  have hz0 : w0.heap.size = w.heap.size + 1 := by rw [hw0.out]; simp only [World.size_alloc]
  have hw0' := hw0.out
  unfold mCells at hw0'
  have HW0 := Aside0.mk hw0'
  clear h h' hb hb' hok hX b0 hw0 hlen hw0'
  obtain ⟨eb, heb⟩ : ∃ eb, eb = mbytes m := ⟨_, rfl⟩
  rw [← heb] at HBY ⊢
  have HEL : Aside0 (eb.length = m.cell.data.length + m.value.length + 85) := ⟨by rw [heb]; exact mbytes_len m⟩
  have HEB := Aside0.mk heb
  clear heb
  go_enter Try.func71, Try.ntmps71
  go_wp2_with (fail)
  rw [← HW0.out]
  refine (HR.out _ B0.out).mono ?_
  rintro e w1 ⟨rfl, b1⟩
  have HX1 := Aside0.mk ((b1.block _ (blk_lt HX.out)).trans HX.out)
  have B1 : Aside0 (Below w.heap.size w w1) := ⟨B0.out.trans (b1.mono B0.out.size)⟩
  have hs1 := b1.size
  rw [hz0] at hs1
  have HW1 : Aside0 (Wst w (w1.heap.size + 1) w1.heap.size w.heap.size (.cells (mCells m A c B d) 29 (0, 0)) (w1.alloc (.cells #[.slice none 0 0] 76)) (.slice none 0 0) []) :=
    ⟨⟨by simpa using heap_alloc_new w1 _, OB.nil _ _, by simp only [World.size_alloc]; omega, (Below.heap_alloc _ _ _ (blk_lt HX1.out)).trans HX1.out, B1.out.alloc B1.out.size _, ⟨B1.out.size, by have := B1.out.size; omega, by omega, by omega⟩⟩⟩
  clear HR b1 HX HX1 HW0 hz0
  obtain ⟨bs, hbs⟩ : ∃ bs, bs = w1.heap.size + 1 := ⟨_, rfl⟩
  rw [← hbs] at HW1
  obtain ⟨X1, hX1⟩ : ∃ X : List Int, X = [] := ⟨_, rfl⟩
  rw [← hX1] at HW1
  have HX1 := Aside0.mk hX1
  have HL1 : Aside0 (X1.length ≤ 0) := ⟨by rw [hX1]; exact Nat.le_refl _⟩
  clear hbs hX1
  obtain ⟨z0, z1, z2, z3, z4, z5, z6, z7, z8, z9, z10, z11, z12, z13, z14, z15⟩ := m_at HW1.out.box
  have HQ := Aside0.mk (wbyte_calls _ _ _ _ (m.from_ % 256) _ HW1.out.cell HW1.out.own HW1.out.size (by have := HL1.out; omega))
  go_wp2_with (fail)
  refine HQ.out.mono ?_
  rintro e y2 ⟨rfl, v2, hw⟩
  have HWs := HW1.out.step hw
  obtain ⟨X2, hX⟩ : ∃ X, X = X1 ++ [m.from_ % 256] := ⟨_, rfl⟩
  rw [← hX] at HWs
  have HW2 := Aside0.mk HWs
  have HX2 := Aside0.mk hX
  have HL2 : Aside0 (X2.length ≤ 1) := ⟨by rw [hX, List.length_append]; have := HL1.out; have := HL.out; simp only [be_len, List.length_cons, List.length_nil, List.length_append]; omega⟩
  clear hw HQ HWs hX HW1 HL1 z0 z1 z2 z3 z4 z5 z6 z7 z8 z9 z10 z11 z12 z13 z14 z15
  obtain ⟨z0, z1, z2, z3, z4, z5, z6, z7, z8, z9, z10, z11, z12, z13, z14, z15⟩ := m_at HW2.out.box
  have HQ := Aside0.mk (wbyte_calls _ _ _ _ (m.to_ % 256) _ HW2.out.cell HW2.out.own HW2.out.size (by have := HL2.out; omega))
  go_wp2_with (fail)
  refine HQ.out.mono ?_
  rintro e y3 ⟨rfl, v3, hw⟩
  have HWs := HW2.out.step hw
  obtain ⟨X3, hX⟩ : ∃ X, X = X2 ++ [m.to_ % 256] := ⟨_, rfl⟩
  rw [← hX] at HWs
  have HW3 := Aside0.mk HWs
  have HX3 := Aside0.mk hX
  have HL3 : Aside0 (X3.length ≤ 2) := ⟨by rw [hX, List.length_append]; have := HL2.out; have := HL.out; simp only [be_len, List.length_cons, List.length_nil, List.length_append]; omega⟩
  clear hw HQ HWs hX HW2 HL2 z0 z1 z2 z3 z4 z5 z6 z7 z8 z9 z10 z11 z12 z13 z14 z15
  obtain ⟨z0, z1, z2, z3, z4, z5, z6, z7, z8, z9, z10, z11, z12, z13, z14, z15⟩ := m_at HW3.out.box
  have HQ := Aside0.mk (wint_calls _ _ _ _ m.number _ HW3.out.cell HW3.out.own HW3.out.size (by have := HL3.out; omega))
  go_wp2_with (fail)
  refine HQ.out.mono ?_
  rintro e y4 ⟨rfl, v4, hw⟩
  have HWs := HW3.out.step hw
  obtain ⟨X4, hX⟩ : ∃ X, X = X3 ++ be (m.number % 18446744073709551616) 8 := ⟨_, rfl⟩
  rw [← hX] at HWs
  have HW4 := Aside0.mk HWs
  have HX4 := Aside0.mk hX
  have HL4 : Aside0 (X4.length ≤ 10) := ⟨by rw [hX, List.length_append]; have := HL3.out; have := HL.out; simp only [be_len, List.length_cons, List.length_nil, List.length_append]; omega⟩
  clear hw HQ HWs hX HW3 HL3 z0 z1 z2 z3 z4 z5 z6 z7 z8 z9 z10 z11 z12 z13 z14 z15
  obtain ⟨z0, z1, z2, z3, z4, z5, z6, z7, z8, z9, z10, z11, z12, z13, z14, z15⟩ := m_at HW4.out.box
  have HQ := Aside0.mk (wflag_calls _ _ _ _ m.reply _ HW4.out.cell HW4.out.own HW4.out.size (by have := HL4.out; omega))
  go_wp2_with (fail)
  refine HQ.out.mono ?_
  rintro e y5 ⟨rfl, v5, hw⟩
  have HWs := HW4.out.step hw
  obtain ⟨X5, hX⟩ : ∃ X, X = X4 ++ [if m.reply then 1 else 0] := ⟨_, rfl⟩
  rw [← hX] at HWs
  have HW5 := Aside0.mk HWs
  have HX5 := Aside0.mk hX
  have HL5 : Aside0 (X5.length ≤ 11) := ⟨by rw [hX, List.length_append]; have := HL4.out; have := HL.out; simp only [be_len, List.length_cons, List.length_nil, List.length_append]; omega⟩
  clear hw HQ HWs hX HW4 HL4 z0 z1 z2 z3 z4 z5 z6 z7 z8 z9 z10 z11 z12 z13 z14 z15
  obtain ⟨z0, z1, z2, z3, z4, z5, z6, z7, z8, z9, z10, z11, z12, z13, z14, z15⟩ := m_at HW5.out.box
  have HQ := Aside0.mk (wbyte_calls _ _ _ _ (m.kind % 256) _ HW5.out.cell HW5.out.own HW5.out.size (by have := HL5.out; omega))
  go_wp2_with (fail)
  refine HQ.out.mono ?_
  rintro e y6 ⟨rfl, v6, hw⟩
  have HWs := HW5.out.step hw
  obtain ⟨X6, hX⟩ : ∃ X, X = X5 ++ [m.kind % 256] := ⟨_, rfl⟩
  rw [← hX] at HWs
  have HW6 := Aside0.mk HWs
  have HX6 := Aside0.mk hX
  have HL6 : Aside0 (X6.length ≤ 12) := ⟨by rw [hX, List.length_append]; have := HL5.out; have := HL.out; simp only [be_len, List.length_cons, List.length_nil, List.length_append]; omega⟩
  clear hw HQ HWs hX HW5 HL5 z0 z1 z2 z3 z4 z5 z6 z7 z8 z9 z10 z11 z12 z13 z14 z15
  obtain ⟨z0, z1, z2, z3, z4, z5, z6, z7, z8, z9, z10, z11, z12, z13, z14, z15⟩ := m_at HW6.out.box
  have HQ := Aside0.mk (wint_calls _ _ _ _ m.epoch _ HW6.out.cell HW6.out.own HW6.out.size (by have := HL6.out; omega))
  go_wp2_with (fail)
  refine HQ.out.mono ?_
  rintro e y7 ⟨rfl, v7, hw⟩
  have HWs := HW6.out.step hw
  obtain ⟨X7, hX⟩ : ∃ X, X = X6 ++ be (m.epoch % 18446744073709551616) 8 := ⟨_, rfl⟩
  rw [← hX] at HWs
  have HW7 := Aside0.mk HWs
  have HX7 := Aside0.mk hX
  have HL7 : Aside0 (X7.length ≤ 20) := ⟨by rw [hX, List.length_append]; have := HL6.out; have := HL.out; simp only [be_len, List.length_cons, List.length_nil, List.length_append]; omega⟩
  clear hw HQ HWs hX HW6 HL6 z0 z1 z2 z3 z4 z5 z6 z7 z8 z9 z10 z11 z12 z13 z14 z15
  obtain ⟨z0, z1, z2, z3, z4, z5, z6, z7, z8, z9, z10, z11, z12, z13, z14, z15⟩ := m_at HW7.out.box
  have HQ := Aside0.mk (wint_calls _ _ _ _ m.at_ _ HW7.out.cell HW7.out.own HW7.out.size (by have := HL7.out; omega))
  go_wp2_with (fail)
  refine HQ.out.mono ?_
  rintro e y8 ⟨rfl, v8, hw⟩
  have HWs := HW7.out.step hw
  obtain ⟨X8, hX⟩ : ∃ X, X = X7 ++ be (m.at_ % 18446744073709551616) 8 := ⟨_, rfl⟩
  rw [← hX] at HWs
  have HW8 := Aside0.mk HWs
  have HX8 := Aside0.mk hX
  have HL8 : Aside0 (X8.length ≤ 28) := ⟨by rw [hX, List.length_append]; have := HL7.out; have := HL.out; simp only [be_len, List.length_cons, List.length_nil, List.length_append]; omega⟩
  clear hw HQ HWs hX HW7 HL7 z0 z1 z2 z3 z4 z5 z6 z7 z8 z9 z10 z11 z12 z13 z14 z15
  obtain ⟨z0, z1, z2, z3, z4, z5, z6, z7, z8, z9, z10, z11, z12, z13, z14, z15⟩ := m_at HW8.out.box
  have HQ := Aside0.mk (wbyte_calls _ _ _ _ (m.cell.what % 256) _ HW8.out.cell HW8.out.own HW8.out.size (by have := HL8.out; omega))
  go_wp2_with (fail)
  refine HQ.out.mono ?_
  rintro e y9 ⟨rfl, v9, hw⟩
  have HWs := HW8.out.step hw
  obtain ⟨X9, hX⟩ : ∃ X, X = X8 ++ [m.cell.what % 256] := ⟨_, rfl⟩
  rw [← hX] at HWs
  have HW9 := Aside0.mk HWs
  have HX9 := Aside0.mk hX
  have HL9 : Aside0 (X9.length ≤ 29) := ⟨by rw [hX, List.length_append]; have := HL8.out; have := HL.out; simp only [be_len, List.length_cons, List.length_nil, List.length_append]; omega⟩
  clear hw HQ HWs hX HW8 HL8 z0 z1 z2 z3 z4 z5 z6 z7 z8 z9 z10 z11 z12 z13 z14 z15
  obtain ⟨z0, z1, z2, z3, z4, z5, z6, z7, z8, z9, z10, z11, z12, z13, z14, z15⟩ := m_at HW9.out.box
  have HQ := Aside0.mk (wbytes_ahead w _ _ _ _ _ _ m.cell.data A c _ HW9.out H.out (by have := HL9.out; have := HL.out; omega))
  go_wp2_with (fail)
  refine HQ.out.mono ?_
  rintro e y10 ⟨rfl, v10, hw⟩
  have HWs := HW9.out.step hw
  obtain ⟨X10, hX⟩ : ∃ X, X = X9 ++ (be m.cell.data.length 4 ++ m.cell.data) := ⟨_, rfl⟩
  rw [← hX] at HWs
  have HW10 := Aside0.mk HWs
  have HX10 := Aside0.mk hX
  have HL10 : Aside0 (X10.length ≤ 65569) := ⟨by rw [hX, List.length_append]; have := HL9.out; have := HL.out; simp only [be_len, List.length_cons, List.length_nil, List.length_append]; omega⟩
  clear hw HQ HWs hX HW9 HL9 z0 z1 z2 z3 z4 z5 z6 z7 z8 z9 z10 z11 z12 z13 z14 z15
  obtain ⟨z0, z1, z2, z3, z4, z5, z6, z7, z8, z9, z10, z11, z12, z13, z14, z15⟩ := m_at HW10.out.box
  have HQ := Aside0.mk (wint_calls _ _ _ _ m.ballot.round _ HW10.out.cell HW10.out.own HW10.out.size (by have := HL10.out; omega))
  go_wp2_with (fail)
  refine HQ.out.mono ?_
  rintro e y11 ⟨rfl, v11, hw⟩
  have HWs := HW10.out.step hw
  obtain ⟨X11, hX⟩ : ∃ X, X = X10 ++ be (m.ballot.round % 18446744073709551616) 8 := ⟨_, rfl⟩
  rw [← hX] at HWs
  have HW11 := Aside0.mk HWs
  have HX11 := Aside0.mk hX
  have HL11 : Aside0 (X11.length ≤ 65577) := ⟨by rw [hX, List.length_append]; have := HL10.out; have := HL.out; simp only [be_len, List.length_cons, List.length_nil, List.length_append]; omega⟩
  clear hw HQ HWs hX HW10 HL10 z0 z1 z2 z3 z4 z5 z6 z7 z8 z9 z10 z11 z12 z13 z14 z15
  obtain ⟨z0, z1, z2, z3, z4, z5, z6, z7, z8, z9, z10, z11, z12, z13, z14, z15⟩ := m_at HW11.out.box
  have HQ := Aside0.mk (wint_calls _ _ _ _ m.ballot.who _ HW11.out.cell HW11.out.own HW11.out.size (by have := HL11.out; omega))
  go_wp2_with (fail)
  refine HQ.out.mono ?_
  rintro e y12 ⟨rfl, v12, hw⟩
  have HWs := HW11.out.step hw
  obtain ⟨X12, hX⟩ : ∃ X, X = X11 ++ be (m.ballot.who % 18446744073709551616) 8 := ⟨_, rfl⟩
  rw [← hX] at HWs
  have HW12 := Aside0.mk HWs
  have HX12 := Aside0.mk hX
  have HL12 : Aside0 (X12.length ≤ 65585) := ⟨by rw [hX, List.length_append]; have := HL11.out; have := HL.out; simp only [be_len, List.length_cons, List.length_nil, List.length_append]; omega⟩
  clear hw HQ HWs hX HW11 HL11 z0 z1 z2 z3 z4 z5 z6 z7 z8 z9 z10 z11 z12 z13 z14 z15
  obtain ⟨z0, z1, z2, z3, z4, z5, z6, z7, z8, z9, z10, z11, z12, z13, z14, z15⟩ := m_at HW12.out.box
  have HQ := Aside0.mk (wbytes_ahead w _ _ _ _ _ _ m.value B d _ HW12.out H'.out (by have := HL12.out; have := HL.out; omega))
  go_wp2_with (fail)
  refine HQ.out.mono ?_
  rintro e y13 ⟨rfl, v13, hw⟩
  have HWs := HW12.out.step hw
  obtain ⟨X13, hX⟩ : ∃ X, X = X12 ++ (be m.value.length 4 ++ m.value) := ⟨_, rfl⟩
  rw [← hX] at HWs
  have HW13 := Aside0.mk HWs
  have HX13 := Aside0.mk hX
  have HL13 : Aside0 (X13.length ≤ 66589) := ⟨by rw [hX, List.length_append]; have := HL12.out; have := HL.out; simp only [be_len, List.length_cons, List.length_nil, List.length_append]; omega⟩
  clear hw HQ HWs hX HW12 HL12 z0 z1 z2 z3 z4 z5 z6 z7 z8 z9 z10 z11 z12 z13 z14 z15
  obtain ⟨z0, z1, z2, z3, z4, z5, z6, z7, z8, z9, z10, z11, z12, z13, z14, z15⟩ := m_at HW13.out.box
  go_wp2
  have HWr := Aside0.mk (HW13.out.alloc (.cells #[.int .i64 m.err, .int .i64 m.tail, .int .i64 m.low, .int .i64 m.back] 3))
  obtain ⟨R, hR⟩ : ∃ R, R = y13.heap.size := ⟨_, rfl⟩
  have HI : Aside0 ((y13.alloc (.cells #[.int .i64 m.err, .int .i64 m.tail, .int .i64 m.low, .int .i64 m.back] 3)).heap[R]? = some (.cells #[.int .i64 m.err, .int .i64 m.tail, .int .i64 m.low, .int .i64 m.back] 3 (0, 0))) := ⟨by rw [hR]; exact heap_alloc_new y13 _⟩
  have HN : Aside0 (v13.ownBlock ≠ some R) := ⟨fun e => by have := own_lt HW13.out.own _ e; omega⟩
  have HGB : Aside0 (w1.heap.size ≠ R) := ⟨by have := blk_lt HW13.out.cell; omega⟩
  have HRB := Aside0.mk hR
  rw [← hR]
  obtain ⟨yr, hyr⟩ : ∃ yr, Aside0 (yr = y13.alloc (.cells #[.int .i64 m.err, .int .i64 m.tail, .int .i64 m.low, .int .i64 m.back] 3)) := ⟨_, ⟨rfl⟩⟩
  rw [← hyr.out] at HWr HI ⊢
  clear hR hyr HW13 z0 z1 z2 z3 z4 z5 z6 z7 z8 z9 z10 z11 z12 z13 z14 z15
  have HW13 := HWr
  clear HWr
  refine wp_loop_rounds 5 ?_
  rw [rounds_succ]
  have p0 : yr.cell? ⟨R, 0, none⟩ = some (.int .i64 m.err) := blk_cell HI.out 0
  have HQ := Aside0.mk (wint_calls _ _ _ _ m.err _ HW13.out.cell HW13.out.own HW13.out.size (by have := HL13.out; omega))
  go_wp2_with (fail)
  refine HQ.out.mono ?_
  rintro e y14 ⟨rfl, v14, hw⟩
  have HWs := HW13.out.step hw
  obtain ⟨X14, hX⟩ : ∃ X, X = X13 ++ be (m.err % 18446744073709551616) 8 := ⟨_, rfl⟩
  rw [← hX] at HWs
  have HW14 := Aside0.mk HWs
  have HX14 := Aside0.mk hX
  have HL14 : Aside0 (X14.length ≤ 66597) := ⟨by rw [hX, List.length_append]; have := HL13.out; have := HL.out; simp only [be_len, List.length_cons, List.length_nil, List.length_append]; omega⟩
  obtain ⟨i5, n5⟩ := hw.keeps HI.out (fun e => HGB.out e.symm) HN.out
  clear HI HN
  have HI := Aside0.mk i5
  have HN := Aside0.mk n5
  clear hw HQ HWs hX HW13 HL13 p0 i5 n5
  go_wp2_with (fail)
  rw [rounds_succ]
  have p0 : y14.cell? ⟨R, 1, none⟩ = some (.int .i64 m.tail) := blk_cell HI.out 1
  have HQ := Aside0.mk (wint_calls _ _ _ _ m.tail _ HW14.out.cell HW14.out.own HW14.out.size (by have := HL14.out; omega))
  go_wp2_with (fail)
  refine HQ.out.mono ?_
  rintro e y15 ⟨rfl, v15, hw⟩
  have HWs := HW14.out.step hw
  obtain ⟨X15, hX⟩ : ∃ X, X = X14 ++ be (m.tail % 18446744073709551616) 8 := ⟨_, rfl⟩
  rw [← hX] at HWs
  have HW15 := Aside0.mk HWs
  have HX15 := Aside0.mk hX
  have HL15 : Aside0 (X15.length ≤ 66605) := ⟨by rw [hX, List.length_append]; have := HL14.out; have := HL.out; simp only [be_len, List.length_cons, List.length_nil, List.length_append]; omega⟩
  obtain ⟨i5, n5⟩ := hw.keeps HI.out (fun e => HGB.out e.symm) HN.out
  clear HI HN
  have HI := Aside0.mk i5
  have HN := Aside0.mk n5
  clear hw HQ HWs hX HW14 HL14 p0 i5 n5
  go_wp2_with (fail)
  rw [rounds_succ]
  have p0 : y15.cell? ⟨R, 2, none⟩ = some (.int .i64 m.low) := blk_cell HI.out 2
  have HQ := Aside0.mk (wint_calls _ _ _ _ m.low _ HW15.out.cell HW15.out.own HW15.out.size (by have := HL15.out; omega))
  go_wp2_with (fail)
  refine HQ.out.mono ?_
  rintro e y16 ⟨rfl, v16, hw⟩
  have HWs := HW15.out.step hw
  obtain ⟨X16, hX⟩ : ∃ X, X = X15 ++ be (m.low % 18446744073709551616) 8 := ⟨_, rfl⟩
  rw [← hX] at HWs
  have HW16 := Aside0.mk HWs
  have HX16 := Aside0.mk hX
  have HL16 : Aside0 (X16.length ≤ 66613) := ⟨by rw [hX, List.length_append]; have := HL15.out; have := HL.out; simp only [be_len, List.length_cons, List.length_nil, List.length_append]; omega⟩
  obtain ⟨i5, n5⟩ := hw.keeps HI.out (fun e => HGB.out e.symm) HN.out
  clear HI HN
  have HI := Aside0.mk i5
  have HN := Aside0.mk n5
  clear hw HQ HWs hX HW15 HL15 p0 i5 n5
  go_wp2_with (fail)
  rw [rounds_succ]
  have p0 : y16.cell? ⟨R, 3, none⟩ = some (.int .i64 m.back) := blk_cell HI.out 3
  have HQ := Aside0.mk (wint_calls _ _ _ _ m.back _ HW16.out.cell HW16.out.own HW16.out.size (by have := HL16.out; omega))
  go_wp2_with (fail)
  refine HQ.out.mono ?_
  rintro e y17 ⟨rfl, v17, hw⟩
  have HWs := HW16.out.step hw
  obtain ⟨X17, hX⟩ : ∃ X, X = X16 ++ be (m.back % 18446744073709551616) 8 := ⟨_, rfl⟩
  rw [← hX] at HWs
  have HW17 := Aside0.mk HWs
  have HX17 := Aside0.mk hX
  have HL17 : Aside0 (X17.length ≤ 66621) := ⟨by rw [hX, List.length_append]; have := HL16.out; have := HL.out; simp only [be_len, List.length_cons, List.length_nil, List.length_append]; omega⟩
  obtain ⟨i5, n5⟩ := hw.keeps HI.out (fun e => HGB.out e.symm) HN.out
  clear HI HN
  have HI := Aside0.mk i5
  have HN := Aside0.mk n5
  clear hw HQ HWs hX HW16 HL16 p0 i5 n5
  go_wp2_with (fail)
  rw [rounds_succ]
  clear HI HN HGB HRB
  have HF : Aside0 (OB y17 bs v17 eb) := ⟨by
    have := HW17.out.own
    rw [HX17.out, HX16.out, HX15.out, HX14.out, HX13.out, HX12.out, HX11.out, HX10.out, HX9.out, HX8.out, HX7.out, HX6.out, HX5.out, HX4.out, HX3.out, HX2.out, HX1.out, List.nil_append] at this
    rw [HEB.out]
    exact this⟩
  have HC := Aside0.mk HW17.out.cell
  have HBL := Aside0.mk HW17.out.bel
  have hle : eb.length ≤ 70000 := by have := HEL.out; have := HL.out; omega
  have HLE := Aside0.mk hle
  have HO := Aside0.mk (wout_calls _ _ v17 eb y17 HC.out HF.out (by omega))
  clear HW17 hle HF HX1 HX2 HX3 HX4 HX5 HX6 HX7 HX8 HX9 HX10 HX11 HX12 HX13 HX14 HX15 HX16 HX17
  go_wp2_with (fail)
  refine HO.out.mono ?_
  rintro e q4 ⟨u4, rfl, o4, b4⟩
  obtain ⟨A4, c4, rfl, r4, _⟩ := OB.slice o4
  have B4 : Aside0 (Below w.heap.size w q4) := ⟨HBL.out.trans (b4.mono HBL.out.size)⟩
  have HWR := Aside0.mk (wrap_calls A4 c4 eb q4 r4 HBY.out (by have := HLE.out; omega))
  clear o4 r4 b4 HO
  go_wp2_with (fail)
  refine HWR.out.mono ?_
  rintro e q5 ⟨u5, rfl, o5, b5⟩
  have O5 := Aside0.mk (own_weaken o5 B4.out.size)
  have B5 : Aside0 (Below w.heap.size w q5) := ⟨B4.out.trans (b5.mono B4.out.size)⟩
  clear o5 b5 HWR
  go_wp2
  go_ret2
  exact ⟨_, rfl, O5.out, B5.out⟩
end Go.Proofs.Ytmdnokfmlbjbhaa
