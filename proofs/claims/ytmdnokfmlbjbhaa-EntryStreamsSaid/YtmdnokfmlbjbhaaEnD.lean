/- entry.Decode: the walk. -/
import Derived.Test.YtmdnokfmlbjbhaaEnC
import Derived.Test.YtmdnokfmlbjbhaaGnA
namespace Go.Proofs.Ytmdnokfmlbjbhaa
open Go.RowKit Go.Proofs.YtmdnokfmlbjbhaaW.PrintWords Go.Proofs.YtmdnokfmlbjbhaaW.PrintMore
set_option linter.unusedVariables false
set_option linter.unusedSimpArgs false

theorem cells7 {W : World} {b : Nat} {t : TypeId} {a0 a1 a2 a3 a4 a5 a6 : Value} (h : W.heap[b]? = some (.cells #[a0, a1, a2, a3, a4, a5, a6] t (0, 0))) :
    W.cell? ⟨b, 0, none⟩ = some a0 ∧ W.cell? ⟨b, 1, none⟩ = some a1 ∧ W.cell? ⟨b, 2, none⟩ = some a2 ∧ W.cell? ⟨b, 3, none⟩ = some a3 ∧ W.cell? ⟨b, 4, none⟩ = some a4 ∧ W.cell? ⟨b, 5, none⟩ = some a5 ∧ W.cell? ⟨b, 6, none⟩ = some a6 :=
  ⟨blk_cell h 0, blk_cell h 1, blk_cell h 2, blk_cell h 3, blk_cell h 4, blk_cell h 5, blk_cell h 6⟩
theorem frozen7 {W : World} {b : Nat} {t : TypeId} {cs : Array Value} (h : W.heap[b]? = some (.cells cs t (0, 0))) :
    W.frozen? ⟨b, 0, none⟩ = false ∧ W.frozen? ⟨b, 1, none⟩ = false ∧ W.frozen? ⟨b, 2, none⟩ = false ∧ W.frozen? ⟨b, 3, none⟩ = false ∧ W.frozen? ⟨b, 4, none⟩ = false ∧ W.frozen? ⟨b, 5, none⟩ = false ∧ W.frozen? ⟨b, 6, none⟩ = false :=
  ⟨blk_frozen h 0, blk_frozen h 1, blk_frozen h 2, blk_frozen h 3, blk_frozen h 4, blk_frozen h 5, blk_frozen h 6⟩

def sets7 (W : World) (b : Nat) (v0 v1 v2 v3 v4 v5 v6 : Value) : World := ((((((W.setCell ⟨b, 0, none⟩ v0).setCell ⟨b, 1, none⟩ v1).setCell ⟨b, 2, none⟩ v2).setCell ⟨b, 3, none⟩ v3).setCell ⟨b, 4, none⟩ v4).setCell ⟨b, 5, none⟩ v5).setCell ⟨b, 6, none⟩ v6
theorem set7 {W : World} {b : Nat} {t : TypeId} {a0 a1 a2 a3 a4 a5 a6 : Value} (h : W.heap[b]? = some (.cells #[a0, a1, a2, a3, a4, a5, a6] t (0, 0))) (v0 v1 v2 v3 v4 v5 v6 : Value) :
    (sets7 W b v0 v1 v2 v3 v4 v5 v6).heap[b]? = some (.cells #[v0, v1, v2, v3, v4, v5, v6] t (0, 0)) := by
  have := blk_set (blk_set (blk_set (blk_set (blk_set (blk_set (blk_set h 0 v0) 1 v1) 2 v2) 3 v3) 4 v4) 5 v5) 6 v6
  unfold sets7
  simpa using this
theorem below7 {w W : World} {n b : Nat} (h : Below n w W) (hb : n ≤ b) (v0 v1 v2 v3 v4 v5 v6 : Value) : Below n w (sets7 W b v0 v1 v2 v3 v4 v5 v6) :=
  ((((((h.setCell (p := ⟨b, 0, none⟩) hb _).setCell (p := ⟨b, 1, none⟩) hb _).setCell (p := ⟨b, 2, none⟩) hb _).setCell (p := ⟨b, 3, none⟩) hb _).setCell (p := ⟨b, 4, none⟩) hb _).setCell (p := ⟨b, 5, none⟩) hb _).setCell (p := ⟨b, 6, none⟩) hb _
theorem heap7 {W : World} {b k : Nat} (h : k ≠ b) (v0 v1 v2 v3 v4 v5 v6 : Value) : (sets7 W b v0 v1 v2 v3 v4 v5 v6).heap[k]? = W.heap[k]? := by
  unfold sets7
  exact (Below.heap_setCell _ ⟨b, 6, none⟩ _ _ h).trans ((Below.heap_setCell _ ⟨b, 5, none⟩ _ _ h).trans ((Below.heap_setCell _ ⟨b, 4, none⟩ _ _ h).trans ((Below.heap_setCell _ ⟨b, 3, none⟩ _ _ h).trans ((Below.heap_setCell _ ⟨b, 2, none⟩ _ _ h).trans ((Below.heap_setCell _ ⟨b, 1, none⟩ _ _ h).trans (Below.heap_setCell _ ⟨b, 0, none⟩ _ _ h))))))

set_option maxHeartbeats 4000000 in
set_option maxRecDepth 100000 in
theorem edec_calls (A : Option Addr) (c : Nat) (b : List Int) (w : World) (h : RB w A b) (hb : Bytes b) (hc : b.length ≤ c) (hl : b.length ≤ 140737488350000) :
    Calls Try.prog 66 #[.slice A b.length c] w fun e w' => ∃ B d, e = .returned (.tuple #[.agg #[.int .i64 (edec b).1.kind, .int .i64 (edec b).1.client, .int .i64 (edec b).1.birth, .int .i64 (edec b).1.number, .int .i64 (edec b).1.stream, .int .i64 (edec b).1.back, .slice B (edec b).1.pay.length d], .int .i64 (edec b).2]) ∧
      RB w' B (edec b).1.pay ∧ (edec b).1.pay.length ≤ d ∧ Below w.heap.size w w' := by
  have hw1 : Below w.heap.size w (w.alloc (.cells #[.int .i64 0, .int .i64 0, .int .i64 0, .int .i64 0, .int .i64 0, .int .i64 0, .slice none 0 0] 89)) := (Below.refl _ _).alloc (Nat.le_refl _) _
  have HU := Aside0.mk (unwrap_calls A c b _ (RB.keep h hw1) hb hc hl)
  have hX := heap_alloc_new w (.cells #[.int .i64 0, .int .i64 0, .int .i64 0, .int .i64 0, .int .i64 0, .int .i64 0, .slice none 0 0] 89)
  have HX := Aside0.mk hX
  have HW1 := Aside0.mk hw1
  have hub : Bytes (unw b) := by unfold unw; split; exact hb.take _; exact Bytes.nil
  have hul : (unw b).length ≤ b.length := by unfold unw; split; (rw [List.length_take]; omega); simp
  have HUB := Aside0.mk hub
  have HUL : Aside0 ((unw b).length ≤ 140737488350000) := ⟨by omega⟩
  clear h hb hX hw1 hc hub hul
  by_cases hu : unwCode b = 0
  · rw [hu] at HU
    go_enter Try.func66, Try.ntmps66
    go_wp2_with (fail)
    refine HU.out.mono ?_
    rintro e w2 ⟨v2, rfl, o2, b2⟩
    have HX2 := Aside0.mk ((b2.block _ (blk_lt HX.out)).trans HX.out)
    have B2 : Aside0 (Below w.heap.size w w2) := ⟨HW1.out.trans (b2.mono HW1.out.size)⟩
    obtain ⟨A2, c2, rfl, r2, _⟩ := OB.slice o2
    have HR := Aside0.mk (read_calls A2 c2 (unw b) w2 r2 HUB.out (by have := HUL.out; omega))
    clear o2 r2 b2 HX
    go_wp2_with (fail)
    refine HR.out.mono ?_
    rintro e w3 ⟨g, D, rfl, hg, hD, rd3, b3⟩
    have HD3 : Aside0 (Dst 89 w w.heap.size g D #[.int .i64 0, .int .i64 0, .int .i64 0, .int .i64 0, .int .i64 0, .int .i64 0, .slice none 0 0] (unw b, false) w3) := ⟨(b3.block _ (blk_lt HX2.out)).trans HX2.out, rd3, B2.out.trans (b3.mono B2.out.size), Nat.le_refl _, by have := B2.out.size; omega, by have := blk_lt HX2.out; omega, by have := blk_lt HX2.out; omega⟩
    clear rd3 b3 HX2 HR
    have hed : edec b = if rEnd (eS7 (unw b, false)) ≠ 0 ∨ ¬ EOk (rEnt (unw b, false)) then (ent0, 3) else (rEnt (unw b, false), 0) := by unfold edec; rw [if_neg (by simp [hu])]
    obtain ⟨s0, hs0⟩ : ∃ s0 : Rst, s0 = (unw b, false) := ⟨_, rfl⟩
    have HB0 : Aside0 (Bytes s0.1) := ⟨by rw [hs0]; exact HUB.out⟩
    have hb1 := tk_bytes2 1 s0 HB0.out
    have hb2 := tk_bytes2 4 (eS1 s0) hb1
    have hb3 := tk_bytes2 4 (eS2 s0) hb2
    have hb4 := tk_bytes2 4 (eS3 s0) hb3
    have hb5 := tk_bytes2 1 (eS4 s0) hb4
    have hb6 := tk_bytes2 8 (eS5 s0) hb5
    rw [← hs0] at hed HD3
    have hk := rN_bound1 s0 HB0.out
    have hc1 := rN_bound4 (eS1 s0) hb1
    have hc2 := rN_bound4 (eS2 s0) hb2
    have hc3 := rN_bound4 (eS3 s0) hb3
    have hst := rN_bound1 (eS4 s0) hb4
    have C0 : Aside0 (∀ W, RD W g D s0 → Calls Try.prog 33 #[.pointer (some ⟨g, 0, none⟩)] W fun e w' => e = .returned (.int .u8 (rN 1 s0).1) ∧ RD w' g D (eS1 s0) ∧ Upd (fun k => k = g) W w') := ⟨fun W h => rbyte_calls g D s0 W h⟩
    have C1 : Aside0 (∀ W, RD W g D (eS1 s0) → Calls Try.prog 34 #[.pointer (some ⟨g, 0, none⟩), .int .i64 4] W fun e w' => e = .returned (.int .u64 (rN 4 (eS1 s0)).1) ∧ RD w' g D (eS2 s0) ∧ Upd (fun k => k = g) W w') := ⟨fun W h => rnumber_calls g D _ 4 W h⟩
    have C2 : Aside0 (∀ W, RD W g D (eS2 s0) → Calls Try.prog 34 #[.pointer (some ⟨g, 0, none⟩), .int .i64 4] W fun e w' => e = .returned (.int .u64 (rN 4 (eS2 s0)).1) ∧ RD w' g D (eS3 s0) ∧ Upd (fun k => k = g) W w') := ⟨fun W h => rnumber_calls g D _ 4 W h⟩
    have C3 : Aside0 (∀ W, RD W g D (eS3 s0) → Calls Try.prog 34 #[.pointer (some ⟨g, 0, none⟩), .int .i64 4] W fun e w' => e = .returned (.int .u64 (rN 4 (eS3 s0)).1) ∧ RD w' g D (eS4 s0) ∧ Upd (fun k => k = g) W w') := ⟨fun W h => rnumber_calls g D _ 4 W h⟩
    have C4 : Aside0 (∀ W, RD W g D (eS4 s0) → Calls Try.prog 33 #[.pointer (some ⟨g, 0, none⟩)] W fun e w' => e = .returned (.int .u8 (rN 1 (eS4 s0)).1) ∧ RD w' g D (eS5 s0) ∧ Upd (fun k => k = g) W w') := ⟨fun W h => rbyte_calls g D _ W h⟩
    have C5 : Aside0 (∀ W, RD W g D (eS5 s0) → Calls Try.prog 35 #[.pointer (some ⟨g, 0, none⟩)] W fun e w' => e = .returned (.int .i64 (wrap64 (rN 8 (eS5 s0)).1)) ∧ RD w' g D (eS6 s0) ∧ Upd (fun k => k = g) W w') := ⟨fun W h => rint_calls g D _ W h⟩
    have C6 : Aside0 (∀ W, RD W g D (eS6 s0) → Calls Try.prog 30 #[.pointer (some ⟨g, 0, none⟩), .int .i64 65536] W fun e w' => ∃ v, e = .returned v ∧ OB w' W.heap.size v (rBytes 65536 (eS6 s0)).1 ∧ RD w' g D (eS7 s0) ∧ Upd (fun k => k = g) W w') := ⟨fun W h => rbytes_calls g D _ 65536 W h⟩
    obtain ⟨x, hx⟩ : ∃ x, x = rEnt s0 := ⟨_, rfl⟩
    have hxk : (rN 1 s0).1 = x.kind := by rw [hx]; rfl
    have hxc : (rN 4 (eS1 s0)).1 = x.client := by rw [hx]; rfl
    have hxb : (rN 4 (eS2 s0)).1 = x.birth := by rw [hx]; rfl
    have hxn : (rN 4 (eS3 s0)).1 = x.number := by rw [hx]; rfl
    have hxs : (rN 1 (eS4 s0)).1 = x.stream := by rw [hx]; rfl
    have hxg : wrap64 (rN 8 (eS5 s0)).1 = x.back := by rw [hx]; rfl
    have hxp : (rBytes 65536 (eS6 s0)).1 = x.pay := by rw [hx]; rfl
    rw [hxk] at C0 hk
    rw [hxc] at C1 hc1
    rw [hxb] at C2 hc2
    rw [hxn] at C3 hc3
    rw [hxs] at C4 hst
    rw [hxg] at C5
    rw [hxp] at C6
    have HXB : Aside0 (Bytes x.pay) := ⟨by rw [← hxp]; exact (rBytes_bytes 65536 _ hb6).1⟩
    rw [← hx] at hed
    have CE : Aside0 (∀ W, RD W g D (eS7 s0) → Calls Try.prog 38 #[.pointer (some ⟨g, 0, none⟩)] W fun e w' => e = .returned (.int .i64 (rEnd (eS7 s0))) ∧ W = w') := ⟨fun W h => rend_calls g D _ W h⟩
    generalize eS7 s0 = s7 at *
    generalize eS6 s0 = s6 at *
    generalize eS5 s0 = s5 at *
    generalize eS4 s0 = s4 at *
    generalize eS3 s0 = s3 at *
    generalize eS2 s0 = s2 at *
    generalize eS1 s0 = s1 at *
    have HED := Aside0.mk hed
    obtain ⟨hk0, hk1⟩ := hk
    obtain ⟨hc10, hc11⟩ := hc1
    obtain ⟨hc20, hc21⟩ := hc2
    obtain ⟨hc30, hc31⟩ := hc3
    obtain ⟨hst0, hst1⟩ := hst
    have L1 := Aside0.mk hc11; have L2 := Aside0.mk hc21; have L3 := Aside0.mk hc31
    have hw1 : IntKind.i64.wrap x.client = x.client := IntWalk.i64_in _ (by omega)
    have hw2 : IntKind.i64.wrap x.birth = x.birth := IntWalk.i64_in _ (by omega)
    have hw3 : IntKind.i64.wrap x.number = x.number := IntWalk.i64_in _ (by omega)
    have hv1 : wrap64 x.client = x.client := IntWalk.wrap64_in _ (by omega)
    have hv2 : wrap64 x.birth = x.birth := IntWalk.wrap64_in _ (by omega)
    have hv3 : wrap64 x.number = x.number := IntWalk.wrap64_in _ (by omega)
    clear hed hx hxk hxc hxb hxn hxs hxg hxp hb1 hb2 hb3 hb4 hb5 hb6 hs0 hc11 hc21 hc31 HB0 HUB HUL hu HU HW1
    obtain ⟨f0, f1, f2, f3, f4, f5, f6⟩ := frozen7 HD3.out.box
    go_wp2_with (fail)
    refine (C0.out _ HD3.out.rd).mono ?_
    rintro e w4 ⟨rfl, rd4, u4⟩
    have HD4 := Aside0.mk (HD3.out.upd rd4 u4)
    clear rd4 u4 HD3 f0 f1 f2 f3 f4 f5 f6 C0
    obtain ⟨f0, f1, f2, f3, f4, f5, f6⟩ := frozen7 HD4.out.box
    obtain ⟨z0, z1, z2, z3, z4, z5, z6⟩ := cells7 HD4.out.box
    go_wp2
    have hs4 : (w4.setCell ⟨w.heap.size, 0, none⟩ (.int .i64 x.kind)).heap.size = w4.heap.size := by simp [World.setCell]
    have HD5 : Aside0 (Dst 89 w w.heap.size g D #[.int .i64 x.kind, .int .i64 0, .int .i64 0, .int .i64 0, .int .i64 0, .int .i64 0, .slice none 0 0] s1 ((w4.setCell ⟨w.heap.size, 0, none⟩ (.int .i64 x.kind)).alloc (.cells #[.pointer (some ⟨w.heap.size, 1, none⟩), .pointer (some ⟨w.heap.size, 2, none⟩), .pointer (some ⟨w.heap.size, 3, none⟩)] 166))) := ⟨by
      have := (HD4.out.set 0 (.int .i64 x.kind)).later ((Below.refl _ _).alloc (Nat.le_refl _) (.cells #[.pointer (some ⟨w.heap.size, 1, none⟩), .pointer (some ⟨w.heap.size, 2, none⟩), .pointer (some ⟨w.heap.size, 3, none⟩)] 166))
      simpa using this⟩
    have HP5 : Aside0 (((w4.setCell ⟨w.heap.size, 0, none⟩ (.int .i64 x.kind)).alloc (.cells #[.pointer (some ⟨w.heap.size, 1, none⟩), .pointer (some ⟨w.heap.size, 2, none⟩), .pointer (some ⟨w.heap.size, 3, none⟩)] 166)).heap[w4.heap.size]? = some (.cells #[.pointer (some ⟨w.heap.size, 1, none⟩), .pointer (some ⟨w.heap.size, 2, none⟩), .pointer (some ⟨w.heap.size, 3, none⟩)] 166 (0, 0))) := ⟨by
      have := heap_alloc_new (w4.setCell ⟨w.heap.size, 0, none⟩ (.int .i64 x.kind)) (.cells #[.pointer (some ⟨w.heap.size, 1, none⟩), .pointer (some ⟨w.heap.size, 2, none⟩), .pointer (some ⟨w.heap.size, 3, none⟩)] 166)
      rwa [hs4] at this⟩
    have nB : w.heap.size < w4.heap.size := blk_lt HD4.out.box
    have nG : g < w4.heap.size := HD4.out.rd.lt
    have HPn : Aside0 (w4.heap.size ≠ g ∧ w4.heap.size ≠ w.heap.size) := ⟨by omega, by omega⟩
    obtain ⟨pb, hpb⟩ : ∃ pb, pb = w4.heap.size := ⟨_, rfl⟩
    have HPB := Aside0.mk hpb
    rw [← hpb] at HP5 HPn nB nG ⊢
    obtain ⟨w5, hw5⟩ : ∃ w5, Aside0 (w5 = (w4.setCell ⟨w.heap.size, 0, none⟩ (.int .i64 x.kind)).alloc (.cells #[.pointer (some ⟨w.heap.size, 1, none⟩), .pointer (some ⟨w.heap.size, 2, none⟩), .pointer (some ⟨w.heap.size, 3, none⟩)] 166)) := ⟨_, ⟨rfl⟩⟩
    rw [← hw5.out] at HD5 HP5 ⊢
    clear hs4 hpb z0 z1 z2 z3 z4 z5 z6 f0 f1 f2 f3 f4 f5 f6 HD4 hw5 HPB
    refine wp_loop_rounds 4 ?_
    rw [rounds_succ]
    have p0 := blk_cell HP5.out 0; have p1 := blk_cell HP5.out 1; have p2 := blk_cell HP5.out 2
    simp only [List.getElem?_toArray, List.getElem?_cons_zero, List.getElem?_cons_succ] at p0 p1 p2
    go_wp2_with (fail)
    refine (C1.out _ HD5.out.rd).mono ?_
    rintro e a1 ⟨rfl, rd1, u1⟩
    have HE1 := Aside0.mk (HD5.out.upd rd1 u1)
    have HQ1 := Aside0.mk (u1.at_ HP5.out (fun e => HPn.out.1 e))
    clear p0 p1 p2 rd1 u1 HD5 HP5 C1
    obtain ⟨f0, f1, f2, f3, f4, f5, f6⟩ := frozen7 HE1.out.box
    obtain ⟨z0, z1, z2, z3, z4, z5, z6⟩ := cells7 HE1.out.box
    go_wp2_with (fail)
    have HF1 : Aside0 (Dst 89 w w.heap.size g D #[.int .i64 x.kind, .int .i64 x.client, .int .i64 0, .int .i64 0, .int .i64 0, .int .i64 0, .slice none 0 0] s2 (a1.setCell ⟨w.heap.size, 1, none⟩ (.int .i64 x.client))) := ⟨by
      have := HE1.out.set 1 (.int .i64 x.client)
      simpa using this⟩
    have HG1 : Aside0 ((a1.setCell ⟨w.heap.size, 1, none⟩ (.int .i64 x.client)).heap[pb]? = some (.cells #[.pointer (some ⟨w.heap.size, 1, none⟩), .pointer (some ⟨w.heap.size, 2, none⟩), .pointer (some ⟨w.heap.size, 3, none⟩)] 166 (0, 0))) := ⟨(Below.heap_setCell _ ⟨w.heap.size, 1, none⟩ _ _ HPn.out.2).trans HQ1.out⟩
    obtain ⟨d1, hd1⟩ : ∃ d1, Aside0 (d1 = a1.setCell ⟨w.heap.size, 1, none⟩ (.int .i64 x.client)) := ⟨_, ⟨rfl⟩⟩
    rw [← hd1.out] at HF1 HG1 ⊢
    clear HE1 HQ1 hd1 f0 f1 f2 f3 f4 f5 f6 z0 z1 z2 z3 z4 z5 z6
    rw [rounds_succ]
    have p0 := blk_cell HG1.out 0; have p1 := blk_cell HG1.out 1; have p2 := blk_cell HG1.out 2
    simp only [List.getElem?_toArray, List.getElem?_cons_zero, List.getElem?_cons_succ] at p0 p1 p2
    go_wp2_with (fail)
    refine (C2.out _ HF1.out.rd).mono ?_
    rintro e a2 ⟨rfl, rd2, u2⟩
    have HE2 := Aside0.mk (HF1.out.upd rd2 u2)
    have HQ2 := Aside0.mk (u2.at_ HG1.out (fun e => HPn.out.1 e))
    clear p0 p1 p2 rd2 u2 HF1 HG1 C2
    obtain ⟨f0, f1, f2, f3, f4, f5, f6⟩ := frozen7 HE2.out.box
    obtain ⟨z0, z1, z2, z3, z4, z5, z6⟩ := cells7 HE2.out.box
    go_wp2_with (fail)
    have HF2 : Aside0 (Dst 89 w w.heap.size g D #[.int .i64 x.kind, .int .i64 x.client, .int .i64 x.birth, .int .i64 0, .int .i64 0, .int .i64 0, .slice none 0 0] s3 (a2.setCell ⟨w.heap.size, 2, none⟩ (.int .i64 x.birth))) := ⟨by
      have := HE2.out.set 2 (.int .i64 x.birth)
      simpa using this⟩
    have HG2 : Aside0 ((a2.setCell ⟨w.heap.size, 2, none⟩ (.int .i64 x.birth)).heap[pb]? = some (.cells #[.pointer (some ⟨w.heap.size, 1, none⟩), .pointer (some ⟨w.heap.size, 2, none⟩), .pointer (some ⟨w.heap.size, 3, none⟩)] 166 (0, 0))) := ⟨(Below.heap_setCell _ ⟨w.heap.size, 2, none⟩ _ _ HPn.out.2).trans HQ2.out⟩
    obtain ⟨d2, hd2⟩ : ∃ d2, Aside0 (d2 = a2.setCell ⟨w.heap.size, 2, none⟩ (.int .i64 x.birth)) := ⟨_, ⟨rfl⟩⟩
    rw [← hd2.out] at HF2 HG2 ⊢
    clear HE2 HQ2 hd2 f0 f1 f2 f3 f4 f5 f6 z0 z1 z2 z3 z4 z5 z6
    rw [rounds_succ]
    have p0 := blk_cell HG2.out 0; have p1 := blk_cell HG2.out 1; have p2 := blk_cell HG2.out 2
    simp only [List.getElem?_toArray, List.getElem?_cons_zero, List.getElem?_cons_succ] at p0 p1 p2
    go_wp2_with (fail)
    refine (C3.out _ HF2.out.rd).mono ?_
    rintro e a3 ⟨rfl, rd3, u3⟩
    have HE3 := Aside0.mk (HF2.out.upd rd3 u3)
    have HQ3 := Aside0.mk (u3.at_ HG2.out (fun e => HPn.out.1 e))
    clear p0 p1 p2 rd3 u3 HF2 HG2 C3
    obtain ⟨f0, f1, f2, f3, f4, f5, f6⟩ := frozen7 HE3.out.box
    obtain ⟨z0, z1, z2, z3, z4, z5, z6⟩ := cells7 HE3.out.box
    go_wp2_with (fail)
    have HF3 : Aside0 (Dst 89 w w.heap.size g D #[.int .i64 x.kind, .int .i64 x.client, .int .i64 x.birth, .int .i64 x.number, .int .i64 0, .int .i64 0, .slice none 0 0] s4 (a3.setCell ⟨w.heap.size, 3, none⟩ (.int .i64 x.number))) := ⟨by
      have := HE3.out.set 3 (.int .i64 x.number)
      simpa using this⟩
    have HG3 : Aside0 ((a3.setCell ⟨w.heap.size, 3, none⟩ (.int .i64 x.number)).heap[pb]? = some (.cells #[.pointer (some ⟨w.heap.size, 1, none⟩), .pointer (some ⟨w.heap.size, 2, none⟩), .pointer (some ⟨w.heap.size, 3, none⟩)] 166 (0, 0))) := ⟨(Below.heap_setCell _ ⟨w.heap.size, 3, none⟩ _ _ HPn.out.2).trans HQ3.out⟩
    obtain ⟨d3, hd3⟩ : ∃ d3, Aside0 (d3 = a3.setCell ⟨w.heap.size, 3, none⟩ (.int .i64 x.number)) := ⟨_, ⟨rfl⟩⟩
    rw [← hd3.out] at HF3 HG3 ⊢
    clear HE3 HQ3 hd3 f0 f1 f2 f3 f4 f5 f6 z0 z1 z2 z3 z4 z5 z6
    rw [rounds_succ]
    go_wp2_with (fail)
    refine (C4.out _ HF3.out.rd).mono ?_
    rintro e a4 ⟨rfl, rd4, u4⟩
    have HD6 := Aside0.mk (HF3.out.upd rd4 u4)
    clear rd4 u4 HF3 HG3 C4
    go_wp2_with (fail)
    refine (C5.out _ HD6.out.rd).mono ?_
    rintro e a5 ⟨rfl, rd5, u5⟩
    have HD7 := Aside0.mk (HD6.out.upd rd5 u5)
    clear rd5 u5 HD6 C5
    go_wp2_with (fail)
    refine (C6.out _ HD7.out.rd).mono ?_
    rintro e a6 ⟨v6, rfl, o6, rd6, u6⟩
    have HD8 := Aside0.mk (HD7.out.upd rd6 u6)
    obtain ⟨A6, c6, rfl, r6, l6⟩ := OB.slice o6
    have hob : ∀ ad, A6 = some ad → w.heap.size < ad.block := fun ad e => by
      have h1 := own_base o6 ad.block (by rw [e]; rfl)
      have := blk_lt HD7.out.box
      omega
    have HOB := Aside0.mk hob
    have R6 := Aside0.mk r6
    clear rd6 u6 HD7 C6 o6 r6 hob
    obtain ⟨f0, f1, f2, f3, f4, f5, f6⟩ := frozen7 HD8.out.box
    obtain ⟨z0, z1, z2, z3, z4, z5, z6⟩ := cells7 HD8.out.box
    go_wp2_with (fail)
    have HD9 : Aside0 (Dst 89 w w.heap.size g D #[.int .i64 x.kind, .int .i64 x.client, .int .i64 x.birth, .int .i64 x.number, .int .i64 x.stream, .int .i64 x.back, .slice A6 x.pay.length c6] s7 (((a6.setCell ⟨w.heap.size, 4, none⟩ (.int .i64 x.stream)).setCell ⟨w.heap.size, 5, none⟩ (.int .i64 x.back)).setCell ⟨w.heap.size, 6, none⟩ (.slice A6 x.pay.length c6))) := ⟨by
      have := ((HD8.out.set 4 (.int .i64 x.stream)).set 5 (.int .i64 x.back)).set 6 (.slice A6 x.pay.length c6)
      simpa using this⟩
    have R9 : Aside0 (RB (((a6.setCell ⟨w.heap.size, 4, none⟩ (.int .i64 x.stream)).setCell ⟨w.heap.size, 5, none⟩ (.int .i64 x.back)).setCell ⟨w.heap.size, 6, none⟩ (.slice A6 x.pay.length c6)) A6 x.pay) := ⟨C_move R6.out (fun ad e => by
      have hne : ad.block ≠ w.heap.size := by have := HOB.out ad e; omega
      exact (Below.heap_setCell _ ⟨w.heap.size, 6, none⟩ _ _ hne).trans ((Below.heap_setCell _ ⟨w.heap.size, 5, none⟩ _ _ hne).trans (Below.heap_setCell _ ⟨w.heap.size, 4, none⟩ _ _ hne)))⟩
    obtain ⟨w9, hw9⟩ : ∃ w9, Aside0 (w9 = ((a6.setCell ⟨w.heap.size, 4, none⟩ (.int .i64 x.stream)).setCell ⟨w.heap.size, 5, none⟩ (.int .i64 x.back)).setCell ⟨w.heap.size, 6, none⟩ (.slice A6 x.pay.length c6)) := ⟨_, ⟨rfl⟩⟩
    rw [← hw9.out] at HD9 R9 ⊢
    clear hw9 HD8 R6 f0 f1 f2 f3 f4 f5 f6 z0 z1 z2 z3 z4 z5 z6
    refine (CE.out _ HD9.out.rd).mono ?_
    rintro e w10 ⟨rfl, rfl⟩
    have HER := Aside0.mk (fun W (hB : Below w9.heap.size w9 W) => eright_calls x A6 c6 W (RB.keep R9.out hB) l6)
    obtain ⟨en, hen⟩ : ∃ en, en = rEnd s7 := ⟨_, rfl⟩
    rw [← hen] at HED ⊢
    clear hen CE
    obtain ⟨f0, f1, f2, f3, f4, f5, f6⟩ := frozen7 HD9.out.box
    obtain ⟨z0, z1, z2, z3, z4, z5, z6⟩ := cells7 HD9.out.box
    by_cases he : en = 0
    · have he1 : (en != 0) = false := by simp [he]
      have HE := Aside0.mk he
      clear he
      go_wp2_with (fail)
      refine (HER.out _ (Below.refl _ _)).mono ?_
      rintro e w11 ⟨rfl, b11⟩
      have HD11 := Aside0.mk (HD9.out.later b11)
      have R11 := Aside0.mk (RB.keep R9.out b11)
      clear b11 HER HD9 R9 f0 f1 f2 f3 f4 f5 f6 z0 z1 z2 z3 z4 z5 z6
      obtain ⟨f0, f1, f2, f3, f4, f5, f6⟩ := frozen7 HD11.out.box
      obtain ⟨z0, z1, z2, z3, z4, z5, z6⟩ := cells7 HD11.out.box
      by_cases hok : EOk x
      · have h1 : Aside0 (edec b = (x, 0)) := ⟨by rw [HED.out, if_neg (by rintro (h | h); exact h HE.out; exact h hok)]⟩
        rw [decide_eq_true hok]
        clear hok
        go_wp2
        have h7 := set7 HD11.out.box (.int .i64 x.kind) (.int .i64 x.client) (.int .i64 x.birth) (.int .i64 x.number) (.int .i64 x.stream) (.int .i64 x.back) (.slice A6 x.pay.length c6)
        obtain ⟨y0, y1, y2, y3, y4, y5, y6⟩ := cells7 h7
        unfold sets7 at y0 y1 y2 y3 y4 y5 y6
        refine bodyPost_ret (v := .tuple #[.agg #[.int .i64 x.kind, .int .i64 x.client, .int .i64 x.birth, .int .i64 x.number, .int .i64 x.stream, .int .i64 x.back, .slice A6 x.pay.length c6], .int .i64 0]) (by simp [results, Try.results66, go_sem, y0, y1, y2, y3, y4, y5, y6]) rfl ?_
        rw [h1.out]
        refine ⟨A6, c6, rfl, ?_, l6, below7 HD11.out.bel (Nat.le_refl _) _ _ _ _ _ _ _⟩
        exact C_move R11.out (fun ad e => heap7 (by have := HOB.out ad e; omega) _ _ _ _ _ _ _)
      · have h1 : Aside0 (edec b = (ent0, 3)) := ⟨by rw [HED.out, if_pos (.inr hok)]⟩
        rw [decide_eq_false hok]
        clear hok
        go_wp2
        have h7 := set7 HD11.out.box (.int .i64 0) (.int .i64 0) (.int .i64 0) (.int .i64 0) (.int .i64 0) (.int .i64 0) (.slice none 0 0)
        obtain ⟨y0, y1, y2, y3, y4, y5, y6⟩ := cells7 h7
        unfold sets7 at y0 y1 y2 y3 y4 y5 y6
        refine bodyPost_ret (v := .tuple #[.agg #[.int .i64 0, .int .i64 0, .int .i64 0, .int .i64 0, .int .i64 0, .int .i64 0, .slice none 0 0], .int .i64 3]) (by simp [results, Try.results66, go_sem, y0, y1, y2, y3, y4, y5, y6]) rfl ?_
        rw [h1.out]
        exact ⟨none, 0, rfl, C_int.2 ⟨rfl, by simp [ent0], fun h => absurd h (by simp [ent0])⟩, Nat.le_refl _, below7 HD11.out.bel (Nat.le_refl _) _ _ _ _ _ _ _⟩
    · have he1 : (en != 0) = true := by simp [he]
      have h1 : Aside0 (edec b = (ent0, 3)) := ⟨by rw [HED.out, if_pos (.inl he)]⟩
      clear he
      go_wp2
      have h7 := set7 HD9.out.box (.int .i64 0) (.int .i64 0) (.int .i64 0) (.int .i64 0) (.int .i64 0) (.int .i64 0) (.slice none 0 0)
      obtain ⟨y0, y1, y2, y3, y4, y5, y6⟩ := cells7 h7
      unfold sets7 at y0 y1 y2 y3 y4 y5 y6
      refine bodyPost_ret (v := .tuple #[.agg #[.int .i64 0, .int .i64 0, .int .i64 0, .int .i64 0, .int .i64 0, .int .i64 0, .slice none 0 0], .int .i64 3]) (by simp [results, Try.results66, go_sem, y0, y1, y2, y3, y4, y5, y6]) rfl ?_
      rw [h1.out]
      exact ⟨none, 0, rfl, C_int.2 ⟨rfl, by simp [ent0], fun h => absurd h (by simp [ent0])⟩, Nat.le_refl _, below7 HD9.out.bel (Nat.le_refl _) _ _ _ _ _ _ _⟩
  · have e1 : edec b = (ent0, 3) := by unfold edec; rw [if_pos hu]
    have e2 : unwCode b = 3 := by unfold unwCode at hu ⊢; split at hu <;> simp_all
    rw [e1]
    rw [e2] at HU
    clear e1 e2 hu
    go_enter Try.func66, Try.ntmps66
    go_wp2_with (fail)
    refine HU.out.mono ?_
    rintro e w2 ⟨v2, rfl, o2, b2⟩
    have HX2 := Aside0.mk ((b2.block _ (blk_lt HX.out)).trans HX.out)
    have B2 : Aside0 (Below w.heap.size w w2) := ⟨HW1.out.trans (b2.mono HW1.out.size)⟩
    obtain ⟨z0, z1, z2, z3, z4, z5, z6⟩ := cells7 HX2.out
    obtain ⟨f0, f1, f2, f3, f4, f5, f6⟩ := frozen7 HX2.out
    clear o2 b2 HX
    go_wp2
    have h7 := set7 HX2.out (.int .i64 0) (.int .i64 0) (.int .i64 0) (.int .i64 0) (.int .i64 0) (.int .i64 0) (.slice none 0 0)
    obtain ⟨y0, y1, y2, y3, y4, y5, y6⟩ := cells7 h7
    unfold sets7 at y0 y1 y2 y3 y4 y5 y6
    refine bodyPost_ret (v := .tuple #[.agg #[.int .i64 0, .int .i64 0, .int .i64 0, .int .i64 0, .int .i64 0, .int .i64 0, .slice none 0 0], .int .i64 3]) (by simp [results, Try.results66, go_sem, y0, y1, y2, y3, y4, y5, y6]) rfl ?_
    exact ⟨none, 0, rfl, C_int.2 ⟨rfl, by simp [ent0], fun h => absurd h (by simp [ent0])⟩, Nat.le_refl _, below7 B2.out (Nat.le_refl _) _ _ _ _ _ _ _⟩
end Go.Proofs.Ytmdnokfmlbjbhaa
