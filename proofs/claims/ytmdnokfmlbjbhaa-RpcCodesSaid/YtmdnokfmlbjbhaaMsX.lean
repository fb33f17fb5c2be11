/- The reference's Decode of a message. -/
import Derived.Test.YtmdnokfmlbjbhaaMsD
import Derived.Test.YtmdnokfmlbjbhaaMsW
namespace Go.Proofs.Ytmdnokfmlbjbhaa
open Go.RowKit Go.Proofs.YtmdnokfmlbjbhaaW.PrintWords Go.Proofs.YtmdnokfmlbjbhaaW.PrintMore
set_option linter.unusedVariables false
set_option linter.unusedSimpArgs false
attribute [local go_sem ↓] to_boxLoad to_boxStore
attribute [local go_sem] load_box

/-- a reference's Reader beside a box of 16 cells -/
structure Dsr (w0 : World) (rx g : Nat) (cs : Array Value) (s : Rst) (W : World) : Prop where
  box : W.heap[rx]? = some (.cells cs 29 (0, 0))
  rr : RR w0 W g s
  bel : Below w0.heap.size w0 W
  ne : w0.heap.size ≤ rx ∧ w0.heap.size ≤ g ∧ rx ≠ g
theorem Dsr.upd {w0 W W' : World} {rx g : Nat} {cs : Array Value} {s s' : Rst} (h : Dsr w0 rx g cs s W) (k : RR w0 W' g s') (b : Below w0.heap.size w0 W') (u : Upd (fun k => k = g) W W') : Dsr w0 rx g cs s' W' :=
  ⟨u.at_ h.box h.ne.2.2, k, b, h.ne⟩
theorem Dsr.set {w0 W : World} {rx g : Nat} {cs : Array Value} {s : Rst} (h : Dsr w0 rx g cs s W) (i : Nat) (v : Value) : Dsr w0 rx g (cs.setIfInBounds i v) s (W.setCell ⟨rx, i, none⟩ v) :=
  ⟨blk_set h.box i v, h.rr.upd (S := fun k => k = rx) ((Upd.refl (fun k => k = rx) W).setCell (p := ⟨rx, i, none⟩) (.inl rfl) v) (fun e => h.ne.2.2 e.symm), h.bel.setCell (p := ⟨rx, i, none⟩) h.ne.1 v, h.ne⟩
theorem Dsr.later {w0 W W' : World} {rx g : Nat} {cs : Array Value} {s : Rst} (h : Dsr w0 rx g cs s W) (hB : Below W.heap.size W W') : Dsr w0 rx g cs s W' :=
  ⟨(hB.block _ (blk_lt h.box)).trans h.box, h.rr.below hB, h.bel.trans (hB.mono h.bel.size), h.ne⟩
theorem i64_wr (n : Int) : IntKind.i64.wrap n = wrap64 n := by unfold Go.RowKit.wrap64; exact IntKind.wrap_i64 n
theorem node_f (n : Int) (h0 : 0 ≤ n) (h1 : n < 256) : RefRd.tidelineref12_node.f n = some (sb n) := by
  unfold RefRd.tidelineref12_node.f sb
  rw [IntWalk.wrap64_in n (by omega)]
  by_cases h : n < 128
  · rw [if_neg (by omega), if_pos h]
  · rw [if_pos (by omega), if_neg h, IntWalk.wrap64_in _ (by omega)]

set_option maxHeartbeats 4000000 in
set_option maxRecDepth 100000 in
theorem mrefdec_calls (A0 : Option Addr) (c0 : Nat) (b : List Int) (w : World) (h : RB w A0 b) (hb : Bytes b) (hc : b.length ≤ c0) (hl : b.length ≤ 140737488350000) :
    Calls Try.prog 73 #[.slice A0 b.length c0] w (MPost b w) := by
  have hw1 : Below w.heap.size w (w.alloc (.cells #[.int .i64 0, .int .i64 0, .int .i64 0, .bool false, .int .i64 0, .int .i64 0, .int .i64 0, .int .i64 0, .slice none 0 0, .int .i64 0, .int .i64 0, .slice none 0 0, .int .i64 0, .int .i64 0, .int .i64 0, .int .i64 0] 29)) := (Below.refl _ _).alloc (Nat.le_refl _) _
  have HU := Aside0.mk (refunwrap_calls A0 c0 b _ (RB.keep h hw1) hb hc hl)
  have hX := heap_alloc_new w (.cells #[.int .i64 0, .int .i64 0, .int .i64 0, .bool false, .int .i64 0, .int .i64 0, .int .i64 0, .int .i64 0, .slice none 0 0, .int .i64 0, .int .i64 0, .slice none 0 0, .int .i64 0, .int .i64 0, .int .i64 0, .int .i64 0] 29)
  have HX := Aside0.mk hX
  have HW1 := Aside0.mk hw1
  have hub : Bytes (unw b) := by unfold unw; split; exact hb.take _; exact Bytes.nil
  have hul : (unw b).length ≤ b.length := by unfold unw; split; (rw [List.length_take]; omega); simp
  have HUB := Aside0.mk hub
  have HUL : Aside0 ((unw b).length ≤ 140737488350000) := ⟨by omega⟩
  clear h hb hX hw1 hc hub hul
  by_cases hu : unwCode b = 0
  · rw [hu] at HU
    go_enter Try.func73, Try.ntmps73
    go_wp2_with (fail)
    refine HU.out.mono ?_
    rintro e w2 ⟨v2, rfl, o2, b2⟩
    have HX2 := Aside0.mk ((b2.block _ (blk_lt HX.out)).trans HX.out)
    have B2 : Aside0 (Below w.heap.size w w2) := ⟨HW1.out.trans (b2.mono HW1.out.size)⟩
    have LT2 := Aside0.mk (blk_lt HX2.out)
    obtain ⟨A2, c2, rfl, r2, l2⟩ := OB.slice o2
    have hI : RefRd.IsS176 w2 (w2.alloc (.cells #[.slice A2 (unw b).length c2, .int .i64 0, .bool false] 176)) w2.heap.size (unw b) 0 false := RefRd.IsS176.new w2 w2 A2 c2 (unw b) 0 false (Below.refl _ _) ⟨r2, l2⟩
    have HR0 : Aside0 (RR w2 (w2.alloc (.cells #[.slice A2 (unw b).length c2, .int .i64 0, .bool false] 176)) w2.heap.size (unw b, false)) := ⟨⟨unw b, 0, false, hI, HUB.out, Int.le_refl _, Int.natCast_nonneg _, HUL.out, rfl⟩⟩
    have HB0 : Aside0 (Below w2.heap.size w2 (w2.alloc (.cells #[.slice A2 (unw b).length c2, .int .i64 0, .bool false] 176))) := ⟨(Below.refl _ _).alloc (Nat.le_refl _) _⟩
    clear o2 r2 l2 b2 HX hI
    have hed : mdec b = if rEnd (mS16 (unw b, false)) ≠ 0 ∨ ¬ MOk (rMsg (unw b, false)) then (msg0, 3) else (rMsg (unw b, false), 0) := by unfold mdec; rw [if_neg (by simp [hu])]
    obtain ⟨s0, hs0⟩ : ∃ s0 : Rst, s0 = (unw b, false) := ⟨_, rfl⟩
    have HBY : Aside0 (Bytes s0.1) := ⟨by rw [hs0]; exact HUB.out⟩
    rw [← hs0] at hed HR0
    have hb0 := HBY.out
    have hb1 := tk_bytes2 1 s0 hb0
    have hb2 := tk_bytes2 1 (mS1 s0) hb1
    have hb3 := tk_bytes2 8 (mS2 s0) hb2
    have hb4 := rFlag_bytes (mS3 s0) hb3
    have hb5 := tk_bytes2 1 (mS4 s0) hb4
    have hb6 := tk_bytes2 8 (mS5 s0) hb5
    have hb7 := tk_bytes2 8 (mS6 s0) hb6
    obtain ⟨n0, hn0⟩ : ∃ n, n = (rN 1 s0).1 := ⟨_, rfl⟩
    obtain ⟨n1, hn1⟩ : ∃ n, n = (rN 1 (mS1 s0)).1 := ⟨_, rfl⟩
    obtain ⟨n2, hn2⟩ : ∃ n, n = (rN 8 (mS2 s0)).1 := ⟨_, rfl⟩
    obtain ⟨n4, hn4⟩ : ∃ n, n = (rN 1 (mS4 s0)).1 := ⟨_, rfl⟩
    obtain ⟨n5, hn5⟩ : ∃ n, n = (rN 8 (mS5 s0)).1 := ⟨_, rfl⟩
    obtain ⟨n6, hn6⟩ : ∃ n, n = (rN 8 (mS6 s0)).1 := ⟨_, rfl⟩
    obtain ⟨n7, hn7⟩ : ∃ n, n = (rN 1 (mS7 s0)).1 := ⟨_, rfl⟩
    obtain ⟨n9, hn9⟩ : ∃ n, n = (rN 8 (mS9 s0)).1 := ⟨_, rfl⟩
    obtain ⟨n10, hn10⟩ : ∃ n, n = (rN 8 (mS10 s0)).1 := ⟨_, rfl⟩
    obtain ⟨n12, hn12⟩ : ∃ n, n = (rN 8 (mS12 s0)).1 := ⟨_, rfl⟩
    obtain ⟨n13, hn13⟩ : ∃ n, n = (rN 8 (mS13 s0)).1 := ⟨_, rfl⟩
    obtain ⟨n14, hn14⟩ : ∃ n, n = (rN 8 (mS14 s0)).1 := ⟨_, rfl⟩
    obtain ⟨n15, hn15⟩ : ∃ n, n = (rN 8 (mS15 s0)).1 := ⟨_, rfl⟩
    have bd0 := rN_bound1 s0 hb0
    rw [← hn0] at bd0
    have bd1 := rN_bound1 (mS1 s0) hb1
    rw [← hn1] at bd1
    have bd4 := rN_bound1 (mS4 s0) hb4
    rw [← hn4] at bd4
    have bd7 := rN_bound1 (mS7 s0) hb7
    rw [← hn7] at bd7
    have C0 : Aside0 (∀ W, RR w2 W w2.heap.size s0 → Below w2.heap.size w2 W → Calls Try.prog 125 #[.pointer (some ⟨w2.heap.size, 0, none⟩), .int .i64 1] W fun e w' => e = .returned (.int .u64 n0) ∧ RR w2 w' w2.heap.size (mS1 s0) ∧ Below w2.heap.size w2 w' ∧ Upd (fun k => k = w2.heap.size) W w') := ⟨fun W h hB => by rw [hn0]; exact refn_calls w2 W w2.heap.size s0 1 (by decide) h hB⟩
    have C1 : Aside0 (∀ W, RR w2 W w2.heap.size (mS1 s0) → Below w2.heap.size w2 W → Calls Try.prog 125 #[.pointer (some ⟨w2.heap.size, 0, none⟩), .int .i64 1] W fun e w' => e = .returned (.int .u64 n1) ∧ RR w2 w' w2.heap.size (mS2 s0) ∧ Below w2.heap.size w2 w' ∧ Upd (fun k => k = w2.heap.size) W w') := ⟨fun W h hB => by rw [hn1]; exact refn_calls w2 W w2.heap.size (mS1 s0) 1 (by decide) h hB⟩
    have C2 : Aside0 (∀ W, RR w2 W w2.heap.size (mS2 s0) → Below w2.heap.size w2 W → Calls Try.prog 125 #[.pointer (some ⟨w2.heap.size, 0, none⟩), .int .i64 8] W fun e w' => e = .returned (.int .u64 n2) ∧ RR w2 w' w2.heap.size (mS3 s0) ∧ Below w2.heap.size w2 w' ∧ Upd (fun k => k = w2.heap.size) W w') := ⟨fun W h hB => by rw [hn2]; exact refn_calls w2 W w2.heap.size (mS2 s0) 8 (by decide) h hB⟩
    have C3 : Aside0 (∀ W, RR w2 W w2.heap.size (mS3 s0) → Below w2.heap.size w2 W → Calls Try.prog 130 #[.pointer (some ⟨w2.heap.size, 0, none⟩)] W fun e w' => e = .returned (.bool (rFlag (mS3 s0)).1) ∧ RR w2 w' w2.heap.size (mS4 s0) ∧ Below w2.heap.size w2 w' ∧ Upd (fun k => k = w2.heap.size) W w') := ⟨fun W h hB => refflag_calls w2 W w2.heap.size (mS3 s0) h hB⟩
    have C4 : Aside0 (∀ W, RR w2 W w2.heap.size (mS4 s0) → Below w2.heap.size w2 W → Calls Try.prog 125 #[.pointer (some ⟨w2.heap.size, 0, none⟩), .int .i64 1] W fun e w' => e = .returned (.int .u64 n4) ∧ RR w2 w' w2.heap.size (mS5 s0) ∧ Below w2.heap.size w2 w' ∧ Upd (fun k => k = w2.heap.size) W w') := ⟨fun W h hB => by rw [hn4]; exact refn_calls w2 W w2.heap.size (mS4 s0) 1 (by decide) h hB⟩
    have C5 : Aside0 (∀ W, RR w2 W w2.heap.size (mS5 s0) → Below w2.heap.size w2 W → Calls Try.prog 125 #[.pointer (some ⟨w2.heap.size, 0, none⟩), .int .i64 8] W fun e w' => e = .returned (.int .u64 n5) ∧ RR w2 w' w2.heap.size (mS6 s0) ∧ Below w2.heap.size w2 w' ∧ Upd (fun k => k = w2.heap.size) W w') := ⟨fun W h hB => by rw [hn5]; exact refn_calls w2 W w2.heap.size (mS5 s0) 8 (by decide) h hB⟩
    have C6 : Aside0 (∀ W, RR w2 W w2.heap.size (mS6 s0) → Below w2.heap.size w2 W → Calls Try.prog 125 #[.pointer (some ⟨w2.heap.size, 0, none⟩), .int .i64 8] W fun e w' => e = .returned (.int .u64 n6) ∧ RR w2 w' w2.heap.size (mS7 s0) ∧ Below w2.heap.size w2 w' ∧ Upd (fun k => k = w2.heap.size) W w') := ⟨fun W h hB => by rw [hn6]; exact refn_calls w2 W w2.heap.size (mS6 s0) 8 (by decide) h hB⟩
    have C7 : Aside0 (∀ W, RR w2 W w2.heap.size (mS7 s0) → Below w2.heap.size w2 W → Calls Try.prog 125 #[.pointer (some ⟨w2.heap.size, 0, none⟩), .int .i64 1] W fun e w' => e = .returned (.int .u64 n7) ∧ RR w2 w' w2.heap.size (mS8 s0) ∧ Below w2.heap.size w2 w' ∧ Upd (fun k => k = w2.heap.size) W w') := ⟨fun W h hB => by rw [hn7]; exact refn_calls w2 W w2.heap.size (mS7 s0) 1 (by decide) h hB⟩
    have C8 : Aside0 (∀ W, RR w2 W w2.heap.size (mS8 s0) → Below w2.heap.size w2 W → Calls Try.prog 131 #[.pointer (some ⟨w2.heap.size, 0, none⟩), .int .i64 65536] W fun e w' => ∃ v, e = .returned v ∧ OB w' W.heap.size v (rBytes 65536 (mS8 s0)).1 ∧ RR w2 w' w2.heap.size (mS9 s0) ∧ Below w2.heap.size w2 w' ∧ Upd (fun k => k = w2.heap.size) W w') := ⟨fun W h hB => refbytes_calls w2 W w2.heap.size (mS8 s0) 65536 (by decide) h hB⟩
    have C9 : Aside0 (∀ W, RR w2 W w2.heap.size (mS9 s0) → Below w2.heap.size w2 W → Calls Try.prog 125 #[.pointer (some ⟨w2.heap.size, 0, none⟩), .int .i64 8] W fun e w' => e = .returned (.int .u64 n9) ∧ RR w2 w' w2.heap.size (mS10 s0) ∧ Below w2.heap.size w2 w' ∧ Upd (fun k => k = w2.heap.size) W w') := ⟨fun W h hB => by rw [hn9]; exact refn_calls w2 W w2.heap.size (mS9 s0) 8 (by decide) h hB⟩
    have C10 : Aside0 (∀ W, RR w2 W w2.heap.size (mS10 s0) → Below w2.heap.size w2 W → Calls Try.prog 125 #[.pointer (some ⟨w2.heap.size, 0, none⟩), .int .i64 8] W fun e w' => e = .returned (.int .u64 n10) ∧ RR w2 w' w2.heap.size (mS11 s0) ∧ Below w2.heap.size w2 w' ∧ Upd (fun k => k = w2.heap.size) W w') := ⟨fun W h hB => by rw [hn10]; exact refn_calls w2 W w2.heap.size (mS10 s0) 8 (by decide) h hB⟩
    have C11 : Aside0 (∀ W, RR w2 W w2.heap.size (mS11 s0) → Below w2.heap.size w2 W → Calls Try.prog 131 #[.pointer (some ⟨w2.heap.size, 0, none⟩), .int .i64 1000] W fun e w' => ∃ v, e = .returned v ∧ OB w' W.heap.size v (rBytes 1000 (mS11 s0)).1 ∧ RR w2 w' w2.heap.size (mS12 s0) ∧ Below w2.heap.size w2 w' ∧ Upd (fun k => k = w2.heap.size) W w') := ⟨fun W h hB => refbytes_calls w2 W w2.heap.size (mS11 s0) 1000 (by decide) h hB⟩
    have C12 : Aside0 (∀ W, RR w2 W w2.heap.size (mS12 s0) → Below w2.heap.size w2 W → Calls Try.prog 125 #[.pointer (some ⟨w2.heap.size, 0, none⟩), .int .i64 8] W fun e w' => e = .returned (.int .u64 n12) ∧ RR w2 w' w2.heap.size (mS13 s0) ∧ Below w2.heap.size w2 w' ∧ Upd (fun k => k = w2.heap.size) W w') := ⟨fun W h hB => by rw [hn12]; exact refn_calls w2 W w2.heap.size (mS12 s0) 8 (by decide) h hB⟩
    have C13 : Aside0 (∀ W, RR w2 W w2.heap.size (mS13 s0) → Below w2.heap.size w2 W → Calls Try.prog 125 #[.pointer (some ⟨w2.heap.size, 0, none⟩), .int .i64 8] W fun e w' => e = .returned (.int .u64 n13) ∧ RR w2 w' w2.heap.size (mS14 s0) ∧ Below w2.heap.size w2 w' ∧ Upd (fun k => k = w2.heap.size) W w') := ⟨fun W h hB => by rw [hn13]; exact refn_calls w2 W w2.heap.size (mS13 s0) 8 (by decide) h hB⟩
    have C14 : Aside0 (∀ W, RR w2 W w2.heap.size (mS14 s0) → Below w2.heap.size w2 W → Calls Try.prog 125 #[.pointer (some ⟨w2.heap.size, 0, none⟩), .int .i64 8] W fun e w' => e = .returned (.int .u64 n14) ∧ RR w2 w' w2.heap.size (mS15 s0) ∧ Below w2.heap.size w2 w' ∧ Upd (fun k => k = w2.heap.size) W w') := ⟨fun W h hB => by rw [hn14]; exact refn_calls w2 W w2.heap.size (mS14 s0) 8 (by decide) h hB⟩
    have C15 : Aside0 (∀ W, RR w2 W w2.heap.size (mS15 s0) → Below w2.heap.size w2 W → Calls Try.prog 125 #[.pointer (some ⟨w2.heap.size, 0, none⟩), .int .i64 8] W fun e w' => e = .returned (.int .u64 n15) ∧ RR w2 w' w2.heap.size (mS16 s0) ∧ Below w2.heap.size w2 w' ∧ Upd (fun k => k = w2.heap.size) W w') := ⟨fun W h hB => by rw [hn15]; exact refn_calls w2 W w2.heap.size (mS15 s0) 8 (by decide) h hB⟩
    obtain ⟨x, hx⟩ : ∃ x, x = rMsg s0 := ⟨_, rfl⟩
    have CN0 : Aside0 (∀ W, Calls Try.prog 129 #[.int .u64 n0] W fun e w' => e = .returned (.int .i64 x.from_) ∧ Drawn0 W w') := ⟨fun W => RefRd.tidelineref12_node.calls n0 x.from_ W (by rw [node_f n0 bd0.1 bd0.2, hn0, hx]; rfl)⟩
    have CN1 : Aside0 (∀ W, Calls Try.prog 129 #[.int .u64 n1] W fun e w' => e = .returned (.int .i64 x.to_) ∧ Drawn0 W w') := ⟨fun W => RefRd.tidelineref12_node.calls n1 x.to_ W (by rw [node_f n1 bd1.1 bd1.2, hn1, hx]; rfl)⟩
    have hx2 : wrap64 n2 = x.number := by rw [hn2, hx]; rfl
    have hv2 : IntKind.i64.wrap n2 = x.number := (i64_wr n2).trans hx2
    have hk3 : (rFlag (mS3 s0)).1 = x.reply := by rw [hx]; rfl
    rw [hk3] at C3
    clear hk3
    have hk4 : n4 = x.kind := by rw [hn4, hx]; rfl
    have hx4 : wrap64 n4 = x.kind := by rw [IntWalk.wrap64_in _ (by omega)]; exact hk4
    have hv4 : IntKind.i64.wrap n4 = x.kind := (i64_wr n4).trans hx4
    clear hk4
    have hx5 : wrap64 n5 = x.epoch := by rw [hn5, hx]; rfl
    have hv5 : IntKind.i64.wrap n5 = x.epoch := (i64_wr n5).trans hx5
    have hx6 : wrap64 n6 = x.at_ := by rw [hn6, hx]; rfl
    have hv6 : IntKind.i64.wrap n6 = x.at_ := (i64_wr n6).trans hx6
    have hk7 : n7 = x.cell.what := by rw [hn7, hx]; rfl
    have hx7 : wrap64 n7 = x.cell.what := by rw [IntWalk.wrap64_in _ (by omega)]; exact hk7
    have hv7 : IntKind.i64.wrap n7 = x.cell.what := (i64_wr n7).trans hx7
    clear hk7
    have hk8 : (rBytes 65536 (mS8 s0)).1 = x.cell.data := by rw [hx]; rfl
    rw [hk8] at C8
    clear hk8
    have hx9 : wrap64 n9 = x.ballot.round := by rw [hn9, hx]; rfl
    have hv9 : IntKind.i64.wrap n9 = x.ballot.round := (i64_wr n9).trans hx9
    have hx10 : wrap64 n10 = x.ballot.who := by rw [hn10, hx]; rfl
    have hv10 : IntKind.i64.wrap n10 = x.ballot.who := (i64_wr n10).trans hx10
    have hk11 : (rBytes 1000 (mS11 s0)).1 = x.value := by rw [hx]; rfl
    rw [hk11] at C11
    clear hk11
    have hx12 : wrap64 n12 = x.err := by rw [hn12, hx]; rfl
    have hv12 : IntKind.i64.wrap n12 = x.err := (i64_wr n12).trans hx12
    have hx13 : wrap64 n13 = x.tail := by rw [hn13, hx]; rfl
    have hv13 : IntKind.i64.wrap n13 = x.tail := (i64_wr n13).trans hx13
    have hx14 : wrap64 n14 = x.low := by rw [hn14, hx]; rfl
    have hv14 : IntKind.i64.wrap n14 = x.low := (i64_wr n14).trans hx14
    have hx15 : wrap64 n15 = x.back := by rw [hn15, hx]; rfl
    have hv15 : IntKind.i64.wrap n15 = x.back := (i64_wr n15).trans hx15
    rw [← hx] at hed
    have CE : Aside0 (∀ W, RR w2 W w2.heap.size (mS16 s0) → Below w2.heap.size w2 W → Calls Try.prog 127 #[.pointer (some ⟨w2.heap.size, 0, none⟩)] W fun e w' => e = .returned (.int .i64 (rEnd (mS16 s0))) ∧ RR w2 w' w2.heap.size (mS16 s0) ∧ Below w2.heap.size w2 w' ∧ Upd (fun k => k = w2.heap.size) W w') := ⟨fun W h hB => refend_calls w2 W w2.heap.size (mS16 s0) h hB⟩
    clear hn0 hn1 hn2 hn4 hn5 hn6 hn7 hn9 hn10 hn12 hn13 hn14 hn15 hb0 hb1 hb2 hb3 hb4 hb5 hb6 hb7 hx hs0 HBY HUB HUL hu HU bd0 bd1 bd4 bd7
    generalize mS16 s0 = s16 at *
    generalize mS15 s0 = s15 at *
    generalize mS14 s0 = s14 at *
    generalize mS13 s0 = s13 at *
    generalize mS12 s0 = s12 at *
    generalize mS11 s0 = s11 at *
    generalize mS10 s0 = s10 at *
    generalize mS9 s0 = s9 at *
    generalize mS8 s0 = s8 at *
    generalize mS7 s0 = s7 at *
    generalize mS6 s0 = s6 at *
    generalize mS5 s0 = s5 at *
    generalize mS4 s0 = s4 at *
    generalize mS3 s0 = s3 at *
    generalize mS2 s0 = s2 at *
    generalize mS1 s0 = s1 at *
    have HED := Aside0.mk hed
    clear hed
    have HX_2 := Aside0.mk hx2
    have HV_2 := Aside0.mk hv2
    clear hx2 hv2
    have HX_4 := Aside0.mk hx4
    have HV_4 := Aside0.mk hv4
    clear hx4 hv4
    have HX_5 := Aside0.mk hx5
    have HV_5 := Aside0.mk hv5
    clear hx5 hv5
    have HX_6 := Aside0.mk hx6
    have HV_6 := Aside0.mk hv6
    clear hx6 hv6
    have HX_7 := Aside0.mk hx7
    have HV_7 := Aside0.mk hv7
    clear hx7 hv7
    have HX_9 := Aside0.mk hx9
    have HV_9 := Aside0.mk hv9
    clear hx9 hv9
    have HX_10 := Aside0.mk hx10
    have HV_10 := Aside0.mk hv10
    clear hx10 hv10
    have HX_12 := Aside0.mk hx12
    have HV_12 := Aside0.mk hv12
    clear hx12 hv12
    have HX_13 := Aside0.mk hx13
    have HV_13 := Aside0.mk hv13
    clear hx13 hv13
    have HX_14 := Aside0.mk hx14
    have HV_14 := Aside0.mk hv14
    clear hx14 hv14
    have HX_15 := Aside0.mk hx15
    have HV_15 := Aside0.mk hv15
    clear hx15 hv15
    go_wp2_with (fail)
    refine (C0.out _ HR0.out HB0.out).mono ?_
    rintro e a0 ⟨rfl, rr, bl, u⟩
    have HRa := Aside0.mk rr
    have HBa := Aside0.mk bl
    clear rr bl u C0 HR0 HB0
    go_wp2_with (fail)
    refine (CN0.out _).mono ?_
    rintro e zw ⟨rfl, dn⟩
    have hbz := dn.below
    have HRz := Aside0.mk (HRa.out.below hbz)
    have HBz : Aside0 (Below w2.heap.size w2 zw) := ⟨HBa.out.trans (hbz.mono HBa.out.size)⟩
    clear dn hbz HRa HBa CN0
    go_wp2_with (fail)
    rw [store_box (cells := #[.int .i64 x.from_, .int .i64 0, .int .i64 0, .bool false, .int .i64 0, .int .i64 0, .int .i64 0, .int .i64 0, .slice none 0 0, .int .i64 0, .int .i64 0, .slice none 0 0, .int .i64 0, .int .i64 0, .int .i64 0, .int .i64 0]) (heap_alloc_new zw (.cells #[.int .i64 0, .int .i64 0, .int .i64 0, .bool false, .int .i64 0, .int .i64 0, .int .i64 0, .int .i64 0, .slice none 0 0, .int .i64 0, .int .i64 0, .slice none 0 0, .int .i64 0, .int .i64 0, .int .i64 0, .int .i64 0] 29)) rfl rfl (one16 _ _ _ _ _ _ _ _ _ _ _ _ _ _ _ _ _ _ _ _)]
    have HD1 : Aside0 (Dsr w2 zw.heap.size w2.heap.size #[.int .i64 x.from_, .int .i64 0, .int .i64 0, .bool false, .int .i64 0, .int .i64 0, .int .i64 0, .int .i64 0, .slice none 0 0, .int .i64 0, .int .i64 0, .slice none 0 0, .int .i64 0, .int .i64 0, .int .i64 0, .int .i64 0] s1 ((zw.alloc (.cells #[.int .i64 0, .int .i64 0, .int .i64 0, .bool false, .int .i64 0, .int .i64 0, .int .i64 0, .int .i64 0, .slice none 0 0, .int .i64 0, .int .i64 0, .slice none 0 0, .int .i64 0, .int .i64 0, .int .i64 0, .int .i64 0] 29)).setRow zw.heap.size #[.int .i64 x.from_, .int .i64 0, .int .i64 0, .bool false, .int .i64 0, .int .i64 0, .int .i64 0, .int .i64 0, .slice none 0 0, .int .i64 0, .int .i64 0, .slice none 0 0, .int .i64 0, .int .i64 0, .int .i64 0, .int .i64 0])) := by
      have q1 := setRow_heap (zw.alloc (.cells #[.int .i64 0, .int .i64 0, .int .i64 0, .bool false, .int .i64 0, .int .i64 0, .int .i64 0, .int .i64 0, .slice none 0 0, .int .i64 0, .int .i64 0, .slice none 0 0, .int .i64 0, .int .i64 0, .int .i64 0, .int .i64 0] 29)) zw.heap.size #[.int .i64 0, .int .i64 0, .int .i64 0, .bool false, .int .i64 0, .int .i64 0, .int .i64 0, .int .i64 0, .slice none 0 0, .int .i64 0, .int .i64 0, .slice none 0 0, .int .i64 0, .int .i64 0, .int .i64 0, .int .i64 0] #[.int .i64 x.from_, .int .i64 0, .int .i64 0, .bool false, .int .i64 0, .int .i64 0, .int .i64 0, .int .i64 0, .slice none 0 0, .int .i64 0, .int .i64 0, .slice none 0 0, .int .i64 0, .int .i64 0, .int .i64 0, .int .i64 0] 29 (0, 0) (heap_alloc_new zw _)
      have q2 : Below zw.heap.size zw (zw.alloc (.cells #[.int .i64 0, .int .i64 0, .int .i64 0, .bool false, .int .i64 0, .int .i64 0, .int .i64 0, .int .i64 0, .slice none 0 0, .int .i64 0, .int .i64 0, .slice none 0 0, .int .i64 0, .int .i64 0, .int .i64 0, .int .i64 0] 29)) := (Below.refl _ _).alloc (Nat.le_refl _) _
      have q3 : Below zw.heap.size zw ((zw.alloc (.cells #[.int .i64 0, .int .i64 0, .int .i64 0, .bool false, .int .i64 0, .int .i64 0, .int .i64 0, .int .i64 0, .slice none 0 0, .int .i64 0, .int .i64 0, .slice none 0 0, .int .i64 0, .int .i64 0, .int .i64 0, .int .i64 0] 29)).setRow zw.heap.size #[.int .i64 x.from_, .int .i64 0, .int .i64 0, .bool false, .int .i64 0, .int .i64 0, .int .i64 0, .int .i64 0, .slice none 0 0, .int .i64 0, .int .i64 0, .slice none 0 0, .int .i64 0, .int .i64 0, .int .i64 0, .int .i64 0]) := q2.trans (below_setRow (Nat.le_refl _) _)
      have q4 := HRz.out.lt.1
      exact ⟨⟨q1, HRz.out.below q3, HBz.out.trans (q3.mono HBz.out.size), HBz.out.size, Nat.le_refl _, by omega⟩⟩
    obtain ⟨d1, hd⟩ : ∃ d_, Aside0 (d_ = (zw.alloc (.cells #[.int .i64 0, .int .i64 0, .int .i64 0, .bool false, .int .i64 0, .int .i64 0, .int .i64 0, .int .i64 0, .slice none 0 0, .int .i64 0, .int .i64 0, .slice none 0 0, .int .i64 0, .int .i64 0, .int .i64 0, .int .i64 0] 29)).setRow zw.heap.size #[.int .i64 x.from_, .int .i64 0, .int .i64 0, .bool false, .int .i64 0, .int .i64 0, .int .i64 0, .int .i64 0, .slice none 0 0, .int .i64 0, .int .i64 0, .slice none 0 0, .int .i64 0, .int .i64 0, .int .i64 0, .int .i64 0]) := ⟨_, ⟨rfl⟩⟩
    rw [← hd.out] at HD1 ⊢
    have HZ0 : Aside0 (Below w2.heap.size w2 zw) := HBz
    clear hd HRz HBz
    go_wp2_with (fail)
    refine (C1.out _ HD1.out.rr HD1.out.bel).mono ?_
    rintro e a1 ⟨rfl, rr, bl, u⟩
    have HD2 := Aside0.mk (HD1.out.upd rr bl u)
    clear rr bl u HD1 C1
    go_wp2_with (fail)
    refine (CN1.out _).mono ?_
    rintro e z1w ⟨rfl, dn⟩
    have HD3 := Aside0.mk (HD2.out.later dn.below)
    clear dn HD2 CN1
    obtain ⟨f0, f1, f2, f3, f4, f5, f6, f7, f8, f9, f10, f11, f12, f13, f14, f15⟩ := frozen16 HD3.out.box
    obtain ⟨z0, z1, z2, z3, z4, z5, z6, z7, z8, z9, z10, z11, z12, z13, z14, z15⟩ := cells16 HD3.out.box
    go_wp2_with (fail)
    have HD4 : Aside0 (Dsr w2 zw.heap.size w2.heap.size #[.int .i64 x.from_, .int .i64 x.to_, .int .i64 0, .bool false, .int .i64 0, .int .i64 0, .int .i64 0, .int .i64 0, .slice none 0 0, .int .i64 0, .int .i64 0, .slice none 0 0, .int .i64 0, .int .i64 0, .int .i64 0, .int .i64 0] s2 (z1w.setCell ⟨zw.heap.size, 1, none⟩ (.int .i64 x.to_))) := ⟨by
      have := (HD3.out.set 1 (.int .i64 x.to_))
      simpa using this⟩
    obtain ⟨d4, hd⟩ : ∃ d_, Aside0 (d_ = z1w.setCell ⟨zw.heap.size, 1, none⟩ (.int .i64 x.to_)) := ⟨_, ⟨rfl⟩⟩
    rw [← hd.out] at HD4  ⊢
    clear hd HD3 f0 f1 f2 f3 f4 f5 f6 f7 f8 f9 f10 f11 f12 f13 f14 f15 z0 z1 z2 z3 z4 z5 z6 z7 z8 z9 z10 z11 z12 z13 z14 z15
    refine (C2.out _ HD4.out.rr HD4.out.bel).mono ?_
    rintro e a2 ⟨rfl, rr, bl, u⟩
    have HD5 := Aside0.mk (HD4.out.upd rr bl u)
    clear rr bl u HD4 C2
    obtain ⟨f0, f1, f2, f3, f4, f5, f6, f7, f8, f9, f10, f11, f12, f13, f14, f15⟩ := frozen16 HD5.out.box
    obtain ⟨z0, z1, z2, z3, z4, z5, z6, z7, z8, z9, z10, z11, z12, z13, z14, z15⟩ := cells16 HD5.out.box
    have hx2 := HX_2.out
    have hv2 := HV_2.out
    go_wp2_with (fail)
    have HD6 : Aside0 (Dsr w2 zw.heap.size w2.heap.size #[.int .i64 x.from_, .int .i64 x.to_, .int .i64 x.number, .bool false, .int .i64 0, .int .i64 0, .int .i64 0, .int .i64 0, .slice none 0 0, .int .i64 0, .int .i64 0, .slice none 0 0, .int .i64 0, .int .i64 0, .int .i64 0, .int .i64 0] s3 (a2.setCell ⟨zw.heap.size, 2, none⟩ (.int .i64 x.number))) := ⟨by
      have := (HD5.out.set 2 (.int .i64 x.number))
      simpa using this⟩
    obtain ⟨d6, hd⟩ : ∃ d_, Aside0 (d_ = a2.setCell ⟨zw.heap.size, 2, none⟩ (.int .i64 x.number)) := ⟨_, ⟨rfl⟩⟩
    rw [← hd.out] at HD6  ⊢
    clear hd HD5 f0 f1 f2 f3 f4 f5 f6 f7 f8 f9 f10 f11 f12 f13 f14 f15 z0 z1 z2 z3 z4 z5 z6 z7 z8 z9 z10 z11 z12 z13 z14 z15 hx2 hv2 HX_2 HV_2
    refine (C3.out _ HD6.out.rr HD6.out.bel).mono ?_
    rintro e a3 ⟨rfl, rr, bl, u⟩
    have HD7 := Aside0.mk (HD6.out.upd rr bl u)
    clear rr bl u HD6 C3
    obtain ⟨f0, f1, f2, f3, f4, f5, f6, f7, f8, f9, f10, f11, f12, f13, f14, f15⟩ := frozen16 HD7.out.box
    obtain ⟨z0, z1, z2, z3, z4, z5, z6, z7, z8, z9, z10, z11, z12, z13, z14, z15⟩ := cells16 HD7.out.box
    go_wp2_with (fail)
    have HD8 : Aside0 (Dsr w2 zw.heap.size w2.heap.size #[.int .i64 x.from_, .int .i64 x.to_, .int .i64 x.number, .bool x.reply, .int .i64 0, .int .i64 0, .int .i64 0, .int .i64 0, .slice none 0 0, .int .i64 0, .int .i64 0, .slice none 0 0, .int .i64 0, .int .i64 0, .int .i64 0, .int .i64 0] s4 (a3.setCell ⟨zw.heap.size, 3, none⟩ (.bool x.reply))) := ⟨by
      have := (HD7.out.set 3 (.bool x.reply))
      simpa using this⟩
    obtain ⟨d8, hd⟩ : ∃ d_, Aside0 (d_ = a3.setCell ⟨zw.heap.size, 3, none⟩ (.bool x.reply)) := ⟨_, ⟨rfl⟩⟩
    rw [← hd.out] at HD8  ⊢
    clear hd HD7 f0 f1 f2 f3 f4 f5 f6 f7 f8 f9 f10 f11 f12 f13 f14 f15 z0 z1 z2 z3 z4 z5 z6 z7 z8 z9 z10 z11 z12 z13 z14 z15
    as_aux_lemma =>
      refine (C4.out _ HD8.out.rr HD8.out.bel).mono ?_
      rintro e a4 ⟨rfl, rr, bl, u⟩
      have HD9 := Aside0.mk (HD8.out.upd rr bl u)
      clear rr bl u HD8 C4
      obtain ⟨f0, f1, f2, f3, f4, f5, f6, f7, f8, f9, f10, f11, f12, f13, f14, f15⟩ := frozen16 HD9.out.box
      obtain ⟨z0, z1, z2, z3, z4, z5, z6, z7, z8, z9, z10, z11, z12, z13, z14, z15⟩ := cells16 HD9.out.box
      have hx4 := HX_4.out
      have hv4 := HV_4.out
      go_wp2_with (fail)
      have HD10 : Aside0 (Dsr w2 zw.heap.size w2.heap.size #[.int .i64 x.from_, .int .i64 x.to_, .int .i64 x.number, .bool x.reply, .int .i64 x.kind, .int .i64 0, .int .i64 0, .int .i64 0, .slice none 0 0, .int .i64 0, .int .i64 0, .slice none 0 0, .int .i64 0, .int .i64 0, .int .i64 0, .int .i64 0] s5 (a4.setCell ⟨zw.heap.size, 4, none⟩ (.int .i64 x.kind))) := ⟨by
        have := (HD9.out.set 4 (.int .i64 x.kind))
        simpa using this⟩
      obtain ⟨d10, hd⟩ : ∃ d_, Aside0 (d_ = a4.setCell ⟨zw.heap.size, 4, none⟩ (.int .i64 x.kind)) := ⟨_, ⟨rfl⟩⟩
      rw [← hd.out] at HD10  ⊢
      clear hd HD9 f0 f1 f2 f3 f4 f5 f6 f7 f8 f9 f10 f11 f12 f13 f14 f15 z0 z1 z2 z3 z4 z5 z6 z7 z8 z9 z10 z11 z12 z13 z14 z15 hx4 hv4 HX_4 HV_4
      refine (C5.out _ HD10.out.rr HD10.out.bel).mono ?_
      rintro e a5 ⟨rfl, rr, bl, u⟩
      have HD11 := Aside0.mk (HD10.out.upd rr bl u)
      clear rr bl u HD10 C5
      obtain ⟨f0, f1, f2, f3, f4, f5, f6, f7, f8, f9, f10, f11, f12, f13, f14, f15⟩ := frozen16 HD11.out.box
      obtain ⟨z0, z1, z2, z3, z4, z5, z6, z7, z8, z9, z10, z11, z12, z13, z14, z15⟩ := cells16 HD11.out.box
      have hx5 := HX_5.out
      have hv5 := HV_5.out
      go_wp2_with (fail)
      have HD12 : Aside0 (Dsr w2 zw.heap.size w2.heap.size #[.int .i64 x.from_, .int .i64 x.to_, .int .i64 x.number, .bool x.reply, .int .i64 x.kind, .int .i64 x.epoch, .int .i64 0, .int .i64 0, .slice none 0 0, .int .i64 0, .int .i64 0, .slice none 0 0, .int .i64 0, .int .i64 0, .int .i64 0, .int .i64 0] s6 (a5.setCell ⟨zw.heap.size, 5, none⟩ (.int .i64 x.epoch))) := ⟨by
        have := (HD11.out.set 5 (.int .i64 x.epoch))
        simpa using this⟩
      obtain ⟨d12, hd⟩ : ∃ d_, Aside0 (d_ = a5.setCell ⟨zw.heap.size, 5, none⟩ (.int .i64 x.epoch)) := ⟨_, ⟨rfl⟩⟩
      rw [← hd.out] at HD12  ⊢
      clear hd HD11 f0 f1 f2 f3 f4 f5 f6 f7 f8 f9 f10 f11 f12 f13 f14 f15 z0 z1 z2 z3 z4 z5 z6 z7 z8 z9 z10 z11 z12 z13 z14 z15 hx5 hv5 HX_5 HV_5
      refine (C6.out _ HD12.out.rr HD12.out.bel).mono ?_
      rintro e a6 ⟨rfl, rr, bl, u⟩
      have HD13 := Aside0.mk (HD12.out.upd rr bl u)
      clear rr bl u HD12 C6
      obtain ⟨f0, f1, f2, f3, f4, f5, f6, f7, f8, f9, f10, f11, f12, f13, f14, f15⟩ := frozen16 HD13.out.box
      obtain ⟨z0, z1, z2, z3, z4, z5, z6, z7, z8, z9, z10, z11, z12, z13, z14, z15⟩ := cells16 HD13.out.box
      have hx6 := HX_6.out
      have hv6 := HV_6.out
      go_wp2_with (fail)
      have HD14 : Aside0 (Dsr w2 zw.heap.size w2.heap.size #[.int .i64 x.from_, .int .i64 x.to_, .int .i64 x.number, .bool x.reply, .int .i64 x.kind, .int .i64 x.epoch, .int .i64 x.at_, .int .i64 0, .slice none 0 0, .int .i64 0, .int .i64 0, .slice none 0 0, .int .i64 0, .int .i64 0, .int .i64 0, .int .i64 0] s7 (a6.setCell ⟨zw.heap.size, 6, none⟩ (.int .i64 x.at_))) := ⟨by
        have := (HD13.out.set 6 (.int .i64 x.at_))
        simpa using this⟩
      obtain ⟨d14, hd⟩ : ∃ d_, Aside0 (d_ = a6.setCell ⟨zw.heap.size, 6, none⟩ (.int .i64 x.at_)) := ⟨_, ⟨rfl⟩⟩
      rw [← hd.out] at HD14  ⊢
      clear hd HD13 f0 f1 f2 f3 f4 f5 f6 f7 f8 f9 f10 f11 f12 f13 f14 f15 z0 z1 z2 z3 z4 z5 z6 z7 z8 z9 z10 z11 z12 z13 z14 z15 hx6 hv6 HX_6 HV_6
      as_aux_lemma =>
        refine (C7.out _ HD14.out.rr HD14.out.bel).mono ?_
        rintro e a7 ⟨rfl, rr, bl, u⟩
        have HD15 := Aside0.mk (HD14.out.upd rr bl u)
        clear rr bl u HD14 C7
        obtain ⟨f0, f1, f2, f3, f4, f5, f6, f7, f8, f9, f10, f11, f12, f13, f14, f15⟩ := frozen16 HD15.out.box
        obtain ⟨z0, z1, z2, z3, z4, z5, z6, z7, z8, z9, z10, z11, z12, z13, z14, z15⟩ := cells16 HD15.out.box
        have hx7 := HX_7.out
        have hv7 := HV_7.out
        go_wp2_with (fail)
        have HD16 : Aside0 (Dsr w2 zw.heap.size w2.heap.size #[.int .i64 x.from_, .int .i64 x.to_, .int .i64 x.number, .bool x.reply, .int .i64 x.kind, .int .i64 x.epoch, .int .i64 x.at_, .int .i64 x.cell.what, .slice none 0 0, .int .i64 0, .int .i64 0, .slice none 0 0, .int .i64 0, .int .i64 0, .int .i64 0, .int .i64 0] s8 (a7.setCell ⟨zw.heap.size, 7, none⟩ (.int .i64 x.cell.what))) := ⟨by
          have := (HD15.out.set 7 (.int .i64 x.cell.what))
          simpa using this⟩
        obtain ⟨d16, hd⟩ : ∃ d_, Aside0 (d_ = a7.setCell ⟨zw.heap.size, 7, none⟩ (.int .i64 x.cell.what)) := ⟨_, ⟨rfl⟩⟩
        rw [← hd.out] at HD16  ⊢
        clear hd HD15 f0 f1 f2 f3 f4 f5 f6 f7 f8 f9 f10 f11 f12 f13 f14 f15 z0 z1 z2 z3 z4 z5 z6 z7 z8 z9 z10 z11 z12 z13 z14 z15 hx7 hv7 HX_7 HV_7
        refine (C8.out _ HD16.out.rr HD16.out.bel).mono ?_
        rintro e a8 ⟨v, rfl, ov, rr, bl, u⟩
        obtain ⟨A8, c8, rfl, rv, l8⟩ := OB.slice ov
        have F8 := Aside0.mk (Far.of (rx := zw.heap.size) (g := w2.heap.size) rv ov (blk_lt HD16.out.box) HD16.out.rr.lt.1)
        have L8 := Aside0.mk l8
        have K8 : Aside0 (∀ ad, A8 = some ad → ad.block ≠ w.heap.size) := ⟨fun ad e => by have h1 := own_base ov ad.block (by rw [e]; rfl); have := HD16.out.bel.size; have := LT2.out; omega⟩
        clear ov rv l8
        have HD17 := Aside0.mk (HD16.out.upd rr bl u)
        clear rr bl u HD16 C8
        obtain ⟨f0, f1, f2, f3, f4, f5, f6, f7, f8, f9, f10, f11, f12, f13, f14, f15⟩ := frozen16 HD17.out.box
        obtain ⟨z0, z1, z2, z3, z4, z5, z6, z7, z8, z9, z10, z11, z12, z13, z14, z15⟩ := cells16 HD17.out.box
        go_wp2_with (fail)
        have HD18 : Aside0 (Dsr w2 zw.heap.size w2.heap.size #[.int .i64 x.from_, .int .i64 x.to_, .int .i64 x.number, .bool x.reply, .int .i64 x.kind, .int .i64 x.epoch, .int .i64 x.at_, .int .i64 x.cell.what, .slice A8 x.cell.data.length c8, .int .i64 0, .int .i64 0, .slice none 0 0, .int .i64 0, .int .i64 0, .int .i64 0, .int .i64 0] s9 (a8.setCell ⟨zw.heap.size, 8, none⟩ (.slice A8 x.cell.data.length c8))) := ⟨by
          have := (HD17.out.set 8 (.slice A8 x.cell.data.length c8))
          simpa using this⟩
        replace F8 := Aside0.mk (F8.out.set 8 (.slice A8 x.cell.data.length c8))
        obtain ⟨d18, hd⟩ : ∃ d_, Aside0 (d_ = a8.setCell ⟨zw.heap.size, 8, none⟩ (.slice A8 x.cell.data.length c8)) := ⟨_, ⟨rfl⟩⟩
        rw [← hd.out] at HD18 F8 ⊢
        clear hd HD17 f0 f1 f2 f3 f4 f5 f6 f7 f8 f9 f10 f11 f12 f13 f14 f15 z0 z1 z2 z3 z4 z5 z6 z7 z8 z9 z10 z11 z12 z13 z14 z15
        refine (C9.out _ HD18.out.rr HD18.out.bel).mono ?_
        rintro e a9 ⟨rfl, rr, bl, u⟩
        have HD19 := Aside0.mk (HD18.out.upd rr bl u)
        replace F8 := Aside0.mk (F8.out.upd u)
        clear rr bl u HD18 C9
        obtain ⟨f0, f1, f2, f3, f4, f5, f6, f7, f8, f9, f10, f11, f12, f13, f14, f15⟩ := frozen16 HD19.out.box
        obtain ⟨z0, z1, z2, z3, z4, z5, z6, z7, z8, z9, z10, z11, z12, z13, z14, z15⟩ := cells16 HD19.out.box
        have hx9 := HX_9.out
        have hv9 := HV_9.out
        go_wp2_with (fail)
        have HD20 : Aside0 (Dsr w2 zw.heap.size w2.heap.size #[.int .i64 x.from_, .int .i64 x.to_, .int .i64 x.number, .bool x.reply, .int .i64 x.kind, .int .i64 x.epoch, .int .i64 x.at_, .int .i64 x.cell.what, .slice A8 x.cell.data.length c8, .int .i64 x.ballot.round, .int .i64 0, .slice none 0 0, .int .i64 0, .int .i64 0, .int .i64 0, .int .i64 0] s10 (a9.setCell ⟨zw.heap.size, 9, none⟩ (.int .i64 x.ballot.round))) := ⟨by
          have := (HD19.out.set 9 (.int .i64 x.ballot.round))
          simpa using this⟩
        replace F8 := Aside0.mk (F8.out.set 9 (.int .i64 x.ballot.round))
        obtain ⟨d20, hd⟩ : ∃ d_, Aside0 (d_ = a9.setCell ⟨zw.heap.size, 9, none⟩ (.int .i64 x.ballot.round)) := ⟨_, ⟨rfl⟩⟩
        rw [← hd.out] at HD20 F8 ⊢
        clear hd HD19 f0 f1 f2 f3 f4 f5 f6 f7 f8 f9 f10 f11 f12 f13 f14 f15 z0 z1 z2 z3 z4 z5 z6 z7 z8 z9 z10 z11 z12 z13 z14 z15 hx9 hv9 HX_9 HV_9
        as_aux_lemma =>
          refine (C10.out _ HD20.out.rr HD20.out.bel).mono ?_
          rintro e a10 ⟨rfl, rr, bl, u⟩
          have HD21 := Aside0.mk (HD20.out.upd rr bl u)
          replace F8 := Aside0.mk (F8.out.upd u)
          clear rr bl u HD20 C10
          obtain ⟨f0, f1, f2, f3, f4, f5, f6, f7, f8, f9, f10, f11, f12, f13, f14, f15⟩ := frozen16 HD21.out.box
          obtain ⟨z0, z1, z2, z3, z4, z5, z6, z7, z8, z9, z10, z11, z12, z13, z14, z15⟩ := cells16 HD21.out.box
          have hx10 := HX_10.out
          have hv10 := HV_10.out
          go_wp2_with (fail)
          have HD22 : Aside0 (Dsr w2 zw.heap.size w2.heap.size #[.int .i64 x.from_, .int .i64 x.to_, .int .i64 x.number, .bool x.reply, .int .i64 x.kind, .int .i64 x.epoch, .int .i64 x.at_, .int .i64 x.cell.what, .slice A8 x.cell.data.length c8, .int .i64 x.ballot.round, .int .i64 x.ballot.who, .slice none 0 0, .int .i64 0, .int .i64 0, .int .i64 0, .int .i64 0] s11 (a10.setCell ⟨zw.heap.size, 10, none⟩ (.int .i64 x.ballot.who))) := ⟨by
            have := (HD21.out.set 10 (.int .i64 x.ballot.who))
            simpa using this⟩
          replace F8 := Aside0.mk (F8.out.set 10 (.int .i64 x.ballot.who))
          obtain ⟨d22, hd⟩ : ∃ d_, Aside0 (d_ = a10.setCell ⟨zw.heap.size, 10, none⟩ (.int .i64 x.ballot.who)) := ⟨_, ⟨rfl⟩⟩
          rw [← hd.out] at HD22 F8 ⊢
          clear hd HD21 f0 f1 f2 f3 f4 f5 f6 f7 f8 f9 f10 f11 f12 f13 f14 f15 z0 z1 z2 z3 z4 z5 z6 z7 z8 z9 z10 z11 z12 z13 z14 z15 hx10 hv10 HX_10 HV_10
          refine (C11.out _ HD22.out.rr HD22.out.bel).mono ?_
          rintro e a11 ⟨v, rfl, ov, rr, bl, u⟩
          obtain ⟨A11, c11, rfl, rv, l11⟩ := OB.slice ov
          have F11 := Aside0.mk (Far.of (rx := zw.heap.size) (g := w2.heap.size) rv ov (blk_lt HD22.out.box) HD22.out.rr.lt.1)
          have L11 := Aside0.mk l11
          have K11 : Aside0 (∀ ad, A11 = some ad → ad.block ≠ w.heap.size) := ⟨fun ad e => by have h1 := own_base ov ad.block (by rw [e]; rfl); have := HD22.out.bel.size; have := LT2.out; omega⟩
          clear ov rv l11
          have HD23 := Aside0.mk (HD22.out.upd rr bl u)
          replace F8 := Aside0.mk (F8.out.upd u)
          clear rr bl u HD22 C11
          obtain ⟨f0, f1, f2, f3, f4, f5, f6, f7, f8, f9, f10, f11, f12, f13, f14, f15⟩ := frozen16 HD23.out.box
          obtain ⟨z0, z1, z2, z3, z4, z5, z6, z7, z8, z9, z10, z11, z12, z13, z14, z15⟩ := cells16 HD23.out.box
          go_wp2_with (fail)
          have HD24 : Aside0 (Dsr w2 zw.heap.size w2.heap.size #[.int .i64 x.from_, .int .i64 x.to_, .int .i64 x.number, .bool x.reply, .int .i64 x.kind, .int .i64 x.epoch, .int .i64 x.at_, .int .i64 x.cell.what, .slice A8 x.cell.data.length c8, .int .i64 x.ballot.round, .int .i64 x.ballot.who, .slice A11 x.value.length c11, .int .i64 0, .int .i64 0, .int .i64 0, .int .i64 0] s12 (a11.setCell ⟨zw.heap.size, 11, none⟩ (.slice A11 x.value.length c11))) := ⟨by
            have := (HD23.out.set 11 (.slice A11 x.value.length c11))
            simpa using this⟩
          replace F8 := Aside0.mk (F8.out.set 11 (.slice A11 x.value.length c11))
          replace F11 := Aside0.mk (F11.out.set 11 (.slice A11 x.value.length c11))
          obtain ⟨d24, hd⟩ : ∃ d_, Aside0 (d_ = a11.setCell ⟨zw.heap.size, 11, none⟩ (.slice A11 x.value.length c11)) := ⟨_, ⟨rfl⟩⟩
          rw [← hd.out] at HD24 F8 F11 ⊢
          clear hd HD23 f0 f1 f2 f3 f4 f5 f6 f7 f8 f9 f10 f11 f12 f13 f14 f15 z0 z1 z2 z3 z4 z5 z6 z7 z8 z9 z10 z11 z12 z13 z14 z15
          refine (C12.out _ HD24.out.rr HD24.out.bel).mono ?_
          rintro e a12 ⟨rfl, rr, bl, u⟩
          have HD25 := Aside0.mk (HD24.out.upd rr bl u)
          replace F8 := Aside0.mk (F8.out.upd u)
          replace F11 := Aside0.mk (F11.out.upd u)
          clear rr bl u HD24 C12
          obtain ⟨f0, f1, f2, f3, f4, f5, f6, f7, f8, f9, f10, f11, f12, f13, f14, f15⟩ := frozen16 HD25.out.box
          obtain ⟨z0, z1, z2, z3, z4, z5, z6, z7, z8, z9, z10, z11, z12, z13, z14, z15⟩ := cells16 HD25.out.box
          have hx12 := HX_12.out
          have hv12 := HV_12.out
          go_wp2_with (fail)
          have HD26 : Aside0 (Dsr w2 zw.heap.size w2.heap.size #[.int .i64 x.from_, .int .i64 x.to_, .int .i64 x.number, .bool x.reply, .int .i64 x.kind, .int .i64 x.epoch, .int .i64 x.at_, .int .i64 x.cell.what, .slice A8 x.cell.data.length c8, .int .i64 x.ballot.round, .int .i64 x.ballot.who, .slice A11 x.value.length c11, .int .i64 x.err, .int .i64 0, .int .i64 0, .int .i64 0] s13 (a12.setCell ⟨zw.heap.size, 12, none⟩ (.int .i64 x.err))) := ⟨by
            have := (HD25.out.set 12 (.int .i64 x.err))
            simpa using this⟩
          replace F8 := Aside0.mk (F8.out.set 12 (.int .i64 x.err))
          replace F11 := Aside0.mk (F11.out.set 12 (.int .i64 x.err))
          obtain ⟨d26, hd⟩ : ∃ d_, Aside0 (d_ = a12.setCell ⟨zw.heap.size, 12, none⟩ (.int .i64 x.err)) := ⟨_, ⟨rfl⟩⟩
          rw [← hd.out] at HD26 F8 F11 ⊢
          clear hd HD25 f0 f1 f2 f3 f4 f5 f6 f7 f8 f9 f10 f11 f12 f13 f14 f15 z0 z1 z2 z3 z4 z5 z6 z7 z8 z9 z10 z11 z12 z13 z14 z15 hx12 hv12 HX_12 HV_12
          as_aux_lemma =>
            refine (C13.out _ HD26.out.rr HD26.out.bel).mono ?_
            rintro e a13 ⟨rfl, rr, bl, u⟩
            have HD27 := Aside0.mk (HD26.out.upd rr bl u)
            replace F8 := Aside0.mk (F8.out.upd u)
            replace F11 := Aside0.mk (F11.out.upd u)
            clear rr bl u HD26 C13
            obtain ⟨f0, f1, f2, f3, f4, f5, f6, f7, f8, f9, f10, f11, f12, f13, f14, f15⟩ := frozen16 HD27.out.box
            obtain ⟨z0, z1, z2, z3, z4, z5, z6, z7, z8, z9, z10, z11, z12, z13, z14, z15⟩ := cells16 HD27.out.box
            have hx13 := HX_13.out
            have hv13 := HV_13.out
            go_wp2_with (fail)
            have HD28 : Aside0 (Dsr w2 zw.heap.size w2.heap.size #[.int .i64 x.from_, .int .i64 x.to_, .int .i64 x.number, .bool x.reply, .int .i64 x.kind, .int .i64 x.epoch, .int .i64 x.at_, .int .i64 x.cell.what, .slice A8 x.cell.data.length c8, .int .i64 x.ballot.round, .int .i64 x.ballot.who, .slice A11 x.value.length c11, .int .i64 x.err, .int .i64 x.tail, .int .i64 0, .int .i64 0] s14 (a13.setCell ⟨zw.heap.size, 13, none⟩ (.int .i64 x.tail))) := ⟨by
              have := (HD27.out.set 13 (.int .i64 x.tail))
              simpa using this⟩
            replace F8 := Aside0.mk (F8.out.set 13 (.int .i64 x.tail))
            replace F11 := Aside0.mk (F11.out.set 13 (.int .i64 x.tail))
            obtain ⟨d28, hd⟩ : ∃ d_, Aside0 (d_ = a13.setCell ⟨zw.heap.size, 13, none⟩ (.int .i64 x.tail)) := ⟨_, ⟨rfl⟩⟩
            rw [← hd.out] at HD28 F8 F11 ⊢
            clear hd HD27 f0 f1 f2 f3 f4 f5 f6 f7 f8 f9 f10 f11 f12 f13 f14 f15 z0 z1 z2 z3 z4 z5 z6 z7 z8 z9 z10 z11 z12 z13 z14 z15 hx13 hv13 HX_13 HV_13
            refine (C14.out _ HD28.out.rr HD28.out.bel).mono ?_
            rintro e a14 ⟨rfl, rr, bl, u⟩
            have HD29 := Aside0.mk (HD28.out.upd rr bl u)
            replace F8 := Aside0.mk (F8.out.upd u)
            replace F11 := Aside0.mk (F11.out.upd u)
            clear rr bl u HD28 C14
            obtain ⟨f0, f1, f2, f3, f4, f5, f6, f7, f8, f9, f10, f11, f12, f13, f14, f15⟩ := frozen16 HD29.out.box
            obtain ⟨z0, z1, z2, z3, z4, z5, z6, z7, z8, z9, z10, z11, z12, z13, z14, z15⟩ := cells16 HD29.out.box
            have hx14 := HX_14.out
            have hv14 := HV_14.out
            go_upto_region 20 with (fail)
            have HD30 : Aside0 (Dsr w2 zw.heap.size w2.heap.size #[.int .i64 x.from_, .int .i64 x.to_, .int .i64 x.number, .bool x.reply, .int .i64 x.kind, .int .i64 x.epoch, .int .i64 x.at_, .int .i64 x.cell.what, .slice A8 x.cell.data.length c8, .int .i64 x.ballot.round, .int .i64 x.ballot.who, .slice A11 x.value.length c11, .int .i64 x.err, .int .i64 x.tail, .int .i64 x.low, .int .i64 0] s15 (a14.setCell ⟨zw.heap.size, 14, none⟩ (.int .i64 x.low))) := ⟨by
              have := (HD29.out.set 14 (.int .i64 x.low))
              simpa using this⟩
            replace F8 := Aside0.mk (F8.out.set 14 (.int .i64 x.low))
            replace F11 := Aside0.mk (F11.out.set 14 (.int .i64 x.low))
            obtain ⟨d30, hd⟩ : ∃ d_, Aside0 (d_ = a14.setCell ⟨zw.heap.size, 14, none⟩ (.int .i64 x.low)) := ⟨_, ⟨rfl⟩⟩
            rw [← hd.out] at HD30 F8 F11 ⊢
            clear hd HD29 f0 f1 f2 f3 f4 f5 f6 f7 f8 f9 f10 f11 f12 f13 f14 f15 z0 z1 z2 z3 z4 z5 z6 z7 z8 z9 z10 z11 z12 z13 z14 z15 hx14 hv14 HX_14 HV_14
            go_cut [84] from 8 to 93 (fun v84 W => Aside0 (Dsr w2 zw.heap.size w2.heap.size #[.int .i64 x.from_, .int .i64 x.to_, .int .i64 x.number, .bool x.reply, .int .i64 x.kind, .int .i64 x.epoch, .int .i64 x.at_, .int .i64 x.cell.what, .slice A8 x.cell.data.length c8, .int .i64 x.ballot.round, .int .i64 x.ballot.who, .slice A11 x.value.length c11, .int .i64 x.err, .int .i64 x.tail, .int .i64 x.low, .int .i64 x.back] s16 W) ∧ Aside0 (Far zw.heap.size w2.heap.size A8 x.cell.data W) ∧ Aside0 (Far zw.heap.size w2.heap.size A11 x.value W))
            case first =>
              go_wp2_with (fail)
              refine (C15.out _ HD30.out.rr HD30.out.bel).mono ?_
              rintro e a15 ⟨rfl, rr, bl, u⟩
              have HD31 := Aside0.mk (HD30.out.upd rr bl u)
              replace F8 := Aside0.mk (F8.out.upd u)
              replace F11 := Aside0.mk (F11.out.upd u)
              clear rr bl u HD30 C15
              obtain ⟨f0, f1, f2, f3, f4, f5, f6, f7, f8, f9, f10, f11, f12, f13, f14, f15⟩ := frozen16 HD31.out.box
              obtain ⟨z0, z1, z2, z3, z4, z5, z6, z7, z8, z9, z10, z11, z12, z13, z14, z15⟩ := cells16 HD31.out.box
              have hx15 := HX_15.out
              have hv15 := HV_15.out
              go_wp2
              have HD32 : Aside0 (Dsr w2 zw.heap.size w2.heap.size #[.int .i64 x.from_, .int .i64 x.to_, .int .i64 x.number, .bool x.reply, .int .i64 x.kind, .int .i64 x.epoch, .int .i64 x.at_, .int .i64 x.cell.what, .slice A8 x.cell.data.length c8, .int .i64 x.ballot.round, .int .i64 x.ballot.who, .slice A11 x.value.length c11, .int .i64 x.err, .int .i64 x.tail, .int .i64 x.low, .int .i64 x.back] s16 (a15.setCell ⟨zw.heap.size, 15, none⟩ (.int .i64 x.back))) := ⟨by
                have := (HD31.out.set 15 (.int .i64 x.back))
                simpa using this⟩
              replace F8 := Aside0.mk (F8.out.set 15 (.int .i64 x.back))
              replace F11 := Aside0.mk (F11.out.set 15 (.int .i64 x.back))
              go_meet
              exact ⟨HD32, F8, F11⟩
            case rest =>
              obtain ⟨HDc, F8, F11⟩ := hcut
              as_aux_lemma =>
                go_wp2_with (fail)
                refine (CE.out _ HDc.out.rr HDc.out.bel).mono ?_
                rintro e w10 ⟨rfl, rr, bl, u⟩
                have HD := Aside0.mk (HDc.out.upd rr bl u)
                replace F8 := Aside0.mk (F8.out.upd u)
                replace F11 := Aside0.mk (F11.out.upd u)
                have HER := Aside0.mk (fun W (hB : Below w10.heap.size w10 W) => mrefright_calls x A8 c8 A11 c11 W (RB.keep F8.out.row hB) L8.out (RB.keep F11.out.row hB) L11.out)
                obtain ⟨en, hen⟩ : ∃ en, en = rEnd s16 := ⟨_, rfl⟩
                rw [← hen] at HED ⊢
                have HRB : Aside0 (∀ W, Below w2.heap.size w2 W → W.heap[w.heap.size]? = some (.cells #[.int .i64 0, .int .i64 0, .int .i64 0, .bool false, .int .i64 0, .int .i64 0, .int .i64 0, .int .i64 0, .slice none 0 0, .int .i64 0, .int .i64 0, .slice none 0 0, .int .i64 0, .int .i64 0, .int .i64 0, .int .i64 0] 29 (0, 0))) := ⟨fun W h => (h.block _ LT2.out).trans HX2.out⟩
                clear hen CE HDc rr bl u
                by_cases he : en = 0
                · have he1 : (en != 0) = false := by simp [he]
                  as_aux_lemma =>
                    have HE := Aside0.mk he
                    clear he
                    obtain ⟨zb, zm⟩ := boxed16 HD.out.box
                    obtain ⟨mv, hmv⟩ : ∃ mv, Aside0 (mv = Value.agg #[.int .i64 x.from_, .int .i64 x.to_, .int .i64 x.number, .bool x.reply, .int .i64 x.kind, .int .i64 x.epoch, .int .i64 x.at_, .int .i64 x.cell.what, .slice A8 x.cell.data.length c8, .int .i64 x.ballot.round, .int .i64 x.ballot.who, .slice A11 x.value.length c11, .int .i64 x.err, .int .i64 x.tail, .int .i64 x.low, .int .i64 x.back]) := ⟨_, ⟨rfl⟩⟩
                    rw [← hmv.out] at HER zm
                    go_wp2_with (fail)
                    refine (HER.out _ (Below.refl _ _)).mono ?_
                    rintro e w11 ⟨rfl, b11⟩
                    have HDe := Aside0.mk (HD.out.later b11)
                    have G8 := Aside0.mk (F8.out.later b11)
                    have G11 := Aside0.mk (F11.out.later b11)
                    have HZ := Aside0.mk (HRB.out _ HDe.out.bel)
                    have BW : Aside0 (Below w.heap.size w w11) := ⟨B2.out.trans (HDe.out.bel.mono B2.out.size)⟩
                    clear b11 HER HD F8 F11 zb zm
                    by_cases hok : MOk x
                    · have h1 : Aside0 (mdec b = (x, 0)) := ⟨by rw [HED.out, if_neg (by rintro (h | h); exact h HE.out; exact h hok)]⟩
                      rw [decide_eq_true hok]
                      clear hok
                      as_aux_lemma =>
                        obtain ⟨zb, zm⟩ := boxed16 HDe.out.box
                        rw [← hmv.out] at zm
                        go_wp2_with (fail)
                        rw [hmv.out, store_box (cells := #[.int .i64 x.from_, .int .i64 x.to_, .int .i64 x.number, .bool x.reply, .int .i64 x.kind, .int .i64 x.epoch, .int .i64 x.at_, .int .i64 x.cell.what, .slice A8 x.cell.data.length c8, .int .i64 x.ballot.round, .int .i64 x.ballot.who, .slice A11 x.value.length c11, .int .i64 x.err, .int .i64 x.tail, .int .i64 x.low, .int .i64 x.back]) HZ.out rfl rfl (one16 _ _ _ _ _ _ _ _ _ _ _ _ _ _ _ _ _ _ _ _)]
                        repeat (first | go_upon | go_step)
                        have h7 := setRow_heap _ w.heap.size _ #[.int .i64 x.from_, .int .i64 x.to_, .int .i64 x.number, .bool x.reply, .int .i64 x.kind, .int .i64 x.epoch, .int .i64 x.at_, .int .i64 x.cell.what, .slice A8 x.cell.data.length c8, .int .i64 x.ballot.round, .int .i64 x.ballot.who, .slice A11 x.value.length c11, .int .i64 x.err, .int .i64 x.tail, .int .i64 x.low, .int .i64 x.back] 29 (0, 0) HZ.out
                        obtain ⟨y0, y1, y2, y3, y4, y5, y6, y7, y8, y9, y10, y11, y12, y13, y14, y15⟩ := cells16 h7
                        refine bodyPost_ret (v := .tuple #[.agg #[.int .i64 x.from_, .int .i64 x.to_, .int .i64 x.number, .bool x.reply, .int .i64 x.kind, .int .i64 x.epoch, .int .i64 x.at_, .int .i64 x.cell.what, .slice A8 x.cell.data.length c8, .int .i64 x.ballot.round, .int .i64 x.ballot.who, .slice A11 x.value.length c11, .int .i64 x.err, .int .i64 x.tail, .int .i64 x.low, .int .i64 x.back], .int .i64 0]) (by simp [results, Try.results73, go_sem, y0, y1, y2, y3, y4, y5, y6, y7, y8, y9, y10, y11, y12, y13, y14, y15]) rfl ?_
                        unfold MPost
                        rw [h1.out]
                        exact ⟨A8, c8, A11, c11, rfl, C_move G8.out.row (fun ad e => setRow_other _ _ _ _ (K8.out ad e)), L8.out, C_move G11.out.row (fun ad e => setRow_other _ _ _ _ (K11.out ad e)), L11.out, BW.out.trans (below_setRow (Nat.le_refl _) _)⟩
                    · have h1 : Aside0 (mdec b = (msg0, 3)) := ⟨by rw [HED.out, if_pos (.inr hok)]⟩
                      rw [decide_eq_false hok]
                      clear hok
                      as_aux_lemma =>
                        go_wp2_with (fail)
                        rw [store_box (cells := #[.int .i64 0, .int .i64 0, .int .i64 0, .bool false, .int .i64 0, .int .i64 0, .int .i64 0, .int .i64 0, .slice none 0 0, .int .i64 0, .int .i64 0, .slice none 0 0, .int .i64 0, .int .i64 0, .int .i64 0, .int .i64 0]) HZ.out rfl rfl (one16 _ _ _ _ _ _ _ _ _ _ _ _ _ _ _ _ _ _ _ _)]
                        repeat (first | go_upon | go_step)
                        have h7 := setRow_heap _ w.heap.size _ #[.int .i64 0, .int .i64 0, .int .i64 0, .bool false, .int .i64 0, .int .i64 0, .int .i64 0, .int .i64 0, .slice none 0 0, .int .i64 0, .int .i64 0, .slice none 0 0, .int .i64 0, .int .i64 0, .int .i64 0, .int .i64 0] 29 (0, 0) HZ.out
                        obtain ⟨y0, y1, y2, y3, y4, y5, y6, y7, y8, y9, y10, y11, y12, y13, y14, y15⟩ := cells16 h7
                        refine bodyPost_ret (v := .tuple #[.agg #[.int .i64 0, .int .i64 0, .int .i64 0, .bool false, .int .i64 0, .int .i64 0, .int .i64 0, .int .i64 0, .slice none 0 0, .int .i64 0, .int .i64 0, .slice none 0 0, .int .i64 0, .int .i64 0, .int .i64 0, .int .i64 0], .int .i64 3]) (by simp [results, Try.results73, go_sem, y0, y1, y2, y3, y4, y5, y6, y7, y8, y9, y10, y11, y12, y13, y14, y15]) rfl ?_
                        unfold MPost
                        rw [h1.out]
                        exact ⟨none, 0, none, 0, rfl, C_nil0 _, Nat.le_refl _, C_nil0 _, Nat.le_refl _, BW.out.trans (below_setRow (Nat.le_refl _) _)⟩
                · have he1 : (en != 0) = true := by simp [he]
                  as_aux_lemma =>
                    have h1 : Aside0 (mdec b = (msg0, 3)) := ⟨by rw [HED.out, if_pos (.inl he)]⟩
                    have HZ := Aside0.mk (HRB.out _ HD.out.bel)
                    have BW : Aside0 (Below w.heap.size w w10) := ⟨B2.out.trans (HD.out.bel.mono B2.out.size)⟩
                    clear he
                    go_wp2_with (fail)
                    rw [store_box (cells := #[.int .i64 0, .int .i64 0, .int .i64 0, .bool false, .int .i64 0, .int .i64 0, .int .i64 0, .int .i64 0, .slice none 0 0, .int .i64 0, .int .i64 0, .slice none 0 0, .int .i64 0, .int .i64 0, .int .i64 0, .int .i64 0]) HZ.out rfl rfl (one16 _ _ _ _ _ _ _ _ _ _ _ _ _ _ _ _ _ _ _ _)]
                    repeat (first | go_upon | go_step)
                    have h7 := setRow_heap _ w.heap.size _ #[.int .i64 0, .int .i64 0, .int .i64 0, .bool false, .int .i64 0, .int .i64 0, .int .i64 0, .int .i64 0, .slice none 0 0, .int .i64 0, .int .i64 0, .slice none 0 0, .int .i64 0, .int .i64 0, .int .i64 0, .int .i64 0] 29 (0, 0) HZ.out
                    obtain ⟨y0, y1, y2, y3, y4, y5, y6, y7, y8, y9, y10, y11, y12, y13, y14, y15⟩ := cells16 h7
                    refine bodyPost_ret (v := .tuple #[.agg #[.int .i64 0, .int .i64 0, .int .i64 0, .bool false, .int .i64 0, .int .i64 0, .int .i64 0, .int .i64 0, .slice none 0 0, .int .i64 0, .int .i64 0, .slice none 0 0, .int .i64 0, .int .i64 0, .int .i64 0, .int .i64 0], .int .i64 3]) (by simp [results, Try.results73, go_sem, y0, y1, y2, y3, y4, y5, y6, y7, y8, y9, y10, y11, y12, y13, y14, y15]) rfl ?_
                    unfold MPost
                    rw [h1.out]
                    exact ⟨none, 0, none, 0, rfl, C_nil0 _, Nat.le_refl _, C_nil0 _, Nat.le_refl _, BW.out.trans (below_setRow (Nat.le_refl _) _)⟩
  · have e1 : mdec b = (msg0, 3) := by unfold mdec; rw [if_pos hu]
    have e2 : unwCode b = 3 := by unfold unwCode at hu ⊢; split at hu <;> simp_all
    have E1 := Aside0.mk e1
    rw [e2] at HU
    clear e1 e2 hu
    go_enter Try.func73, Try.ntmps73
    go_wp2_with (fail)
    refine HU.out.mono ?_
    rintro e w2 ⟨v2, rfl, o2, b2⟩
    have HX2 := Aside0.mk ((b2.block _ (blk_lt HX.out)).trans HX.out)
    have B2 : Aside0 (Below w.heap.size w w2) := ⟨HW1.out.trans (b2.mono HW1.out.size)⟩
    clear o2 b2 HX
    go_wp2_with (fail)
    rw [store_box (cells := #[.int .i64 0, .int .i64 0, .int .i64 0, .bool false, .int .i64 0, .int .i64 0, .int .i64 0, .int .i64 0, .slice none 0 0, .int .i64 0, .int .i64 0, .slice none 0 0, .int .i64 0, .int .i64 0, .int .i64 0, .int .i64 0]) HX2.out rfl rfl (one16 _ _ _ _ _ _ _ _ _ _ _ _ _ _ _ _ _ _ _ _)]
    repeat (first | go_upon | go_step)
    have h7 := setRow_heap _ w.heap.size _ #[.int .i64 0, .int .i64 0, .int .i64 0, .bool false, .int .i64 0, .int .i64 0, .int .i64 0, .int .i64 0, .slice none 0 0, .int .i64 0, .int .i64 0, .slice none 0 0, .int .i64 0, .int .i64 0, .int .i64 0, .int .i64 0] 29 (0, 0) HX2.out
    obtain ⟨y0, y1, y2, y3, y4, y5, y6, y7, y8, y9, y10, y11, y12, y13, y14, y15⟩ := cells16 h7
    refine bodyPost_ret (v := .tuple #[.agg #[.int .i64 0, .int .i64 0, .int .i64 0, .bool false, .int .i64 0, .int .i64 0, .int .i64 0, .int .i64 0, .slice none 0 0, .int .i64 0, .int .i64 0, .slice none 0 0, .int .i64 0, .int .i64 0, .int .i64 0, .int .i64 0], .int .i64 3]) (by simp [results, Try.results73, go_sem, y0, y1, y2, y3, y4, y5, y6, y7, y8, y9, y10, y11, y12, y13, y14, y15]) rfl ?_
    unfold MPost
    rw [E1.out]
    exact ⟨none, 0, none, 0, rfl, C_nil0 _, Nat.le_refl _, C_nil0 _, Nat.le_refl _, B2.out.trans (below_setRow (Nat.le_refl _) _)⟩
end Go.Proofs.Ytmdnokfmlbjbhaa
