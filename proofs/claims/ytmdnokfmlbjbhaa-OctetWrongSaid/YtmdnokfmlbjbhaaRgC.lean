/- OctetWrong: the walk. -/
import Derived.Test.YtmdnokfmlbjbhaaRgB
namespace Go.Proofs.Ytmdnokfmlbjbhaa
open Go.RowKit Go.Proofs.YtmdnokfmlbjbhaaW.PrintWords
set_option linter.unusedVariables false
set_option linter.unusedSimpArgs false

theorem rN_wrong (n : Nat) : rN n ([], true) = (0, ([], true)) := by simp [rN, tk, num]
theorem rBytes_wrong (m : Int) : rBytes m ([], true) = ([], ([], true)) := by simp [rBytes, rCount_wrong, tk]
theorem rFlag_wrong : rFlag ([], true) = (false, ([], true)) := by simp [rFlag, rN_wrong]
theorem rEnd_wrong : rEnd ([], true) = 3 := by simp [rEnd]
theorem rBytes_neg (s : Rst) (h : Bytes s.1) : (rBytes (-1) s).2 = ([], true) := by
  have hb := rN_bound4 s h
  have e : rCount (-1) s = (0, ([], true)) := by unfold rCount; rw [if_pos (by omega)]
  unfold rBytes
  rw [e]
  simp [tk]

theorem rint_wrong (g D : Nat) (w : World) (h : RD w g D ([], true)) : Calls Try.prog 35 #[.pointer (some ⟨g, 0, none⟩)] w fun e w' => e = .returned (.int .i64 0) ∧ RD w' g D ([], true) ∧ Upd (fun k => k = g) w w' := by
  have := rint_calls g D _ w h
  rw [rN_wrong] at this
  have e0 : wrap64 ((0, ([], true)) : Int × Rst).1 = 0 := IntWalk.wrap64_in 0 (by decide)
  rw [e0] at this
  exact this

/-- in a round: the reader has gone wrong, the thing lies in its box -/
def St7 (w : World) (g D b7 : Nat) (cs : Array Value) (W : World) : Prop := RD W g D ([], true) ∧ W.heap[b7]? = some (.cells cs 45 (0, 0)) ∧ Below w.heap.size w W
theorem St7.upd {w : World} {g D b7 : Nat} {cs : Array Value} {W W' : World} (h : St7 w g D b7 cs W) (hr : RD W' g D ([], true)) (hu : Upd (fun k => k = g) W W') (hg : w.heap.size ≤ g) (hb : b7 ≠ g) : St7 w g D b7 cs W' :=
  ⟨hr, hu.at_ h.2.1 hb, h.2.2.trans (hu.below h.2.2.size (fun k e => by subst e; exact hg))⟩
theorem St7.lift {w : World} {g D b7 : Nat} {k0 n v2 v3 : Value} {W : World} {f : FuncId} {args : Array Value} {v : Value} (h : Aside0 (St7 w g D b7 #[k0, n, v2, v3] W)) (hg : w.heap.size ≤ g) (hb : b7 ≠ g)
    (hc : Calls Try.prog f args W fun e w' => e = .returned v ∧ RD w' g D ([], true) ∧ Upd (fun k => k = g) W w') :
    Calls Try.prog f args W fun e w' => e = .returned v ∧ Aside0 (St7 w g D b7 #[k0, n, v2, v3] w') ∧ w'.cell? ⟨b7, 1, none⟩ = some n :=
  hc.mono fun _ _ ⟨he, hr, hu⟩ => ⟨he, ⟨h.out.upd hr hu hg hb⟩, blk_cell (h.out.upd hr hu hg hb).2.1 1⟩

set_option maxHeartbeats 2000000 in
set_option maxRecDepth 100000 in
theorem wrong_walk (A : Option Addr) (c : Nat) (x : List Int) (L : Option Addr) (cl : Nat) (ts : List Thing) (w : World) (hr : RB w A x) (hb : Bytes x) (ht : KThing.C w L ts.length ts) (hl : x.length ≤ 500) :
    Calls Try.prog 5 #[.slice A x.length c, .slice L ts.length cl] w fun e w' => e = .returned (.bool true) ∧ Below w.heap.size w w' := by
  have R0 := Aside0.mk hr
  have T0 := Aside0.mk ht
  have B0 := Aside0.mk hb
  have HL := Aside0.mk hl
  have m0 := Kd.C_max ht
  have q0 : ¬ (500 : Int) < (x.length : Int) := by omega
  clear hr ht hb hl
  go_enter Try.func5, Try.ntmps5
  go_wp2_with (first
    | (go_at_call 27; refine (speaks01_calls _).mono ?_; rintro e w1 ⟨rfl, b1⟩; have B1 := Aside0.mk b1; have G := Aside0.mk (great_calls L cl ts w1 (Kd.C_below T0.out b1)); clear b1))
  refine G.out.mono ?_
  rintro e w2 ⟨⟨bb, rfl⟩, b2⟩
  have B2 := Aside0.mk (B1.out.trans (b2.mono B1.out.size))
  clear b2 G
  cases bb
  · have HR := Aside0.mk (read_calls A c x w2 (RB.keep R0.out B2.out) B0.out (by have := HL.out; omega))
    go_wp2_with (fail)
    refine HR.out.mono ?_
    rintro e w3 ⟨g, D, rfl, hg, hD, hR, b3⟩
    have HB := Aside0.mk (rbytes_calls g D (x, false) (-1) w3 hR)
    have B3 := Aside0.mk (B2.out.trans (b3.mono B2.out.size))
    have hgw : w.heap.size ≤ g := Nat.le_trans B2.out.size hg
    clear hR b3 HR hD hg
    go_wp2_with (fail)
    refine HB.out.mono ?_
    rintro e w4 ⟨v, rfl, ov, hR, u4⟩
    rw [rBytes_neg (x, false) B0.out] at hR
    have R4 := Aside0.mk hR
    have B4 := Aside0.mk (B3.out.trans (u4.below B3.out.size (fun k e => by subst e; exact hgw)))
    clear hR u4 ov HB
    go_wp2_with (fail)
    go_loopw [24] (fun v wr => ∃ k : Nat, k ≤ ts.length ∧ v = .int .i64 k ∧ Aside0 (RD wr g D ([], true) ∧ Below w.heap.size w wr)) (fun v _ => ts.length - (intOf v).toNat)
    case atStart => exact ⟨0, by omega, rfl, ⟨R4.out, B4.out⟩⟩
    case round =>
      obtain ⟨k, hk, rfl, HS⟩ := hrel
      by_cases hlt : k < ts.length
      · obtain ⟨ad, t, B, cp, e, hx, q1, q2, c0, c1, c2, c3⟩ := thing_at (Kd.C_below T0.out HS.out.2) k hlt
        subst e
        have g0 : (0 : Int) ≤ (k : Int) := by omega
        have g1 : (k : Int) < (ts.length : Int) := by omega
        have hgl := HS.out.1.lt
        have hbg : wr.heap.size ≠ g := by omega
        have hlist := Aside0.mk (fun W (h : Aside0 (St7 w g D wr.heap.size #[.int .i64 t.kind, .int .i64 t.n, .int .u64 t.v, .slice B t.b.length cp] W)) => St7.lift h hgw hbg (list0_calls g D t.n W h.out.1))
        have hst : Aside0 (St7 w g D wr.heap.size #[.int .i64 t.kind, .int .i64 t.n, .int .u64 t.v, .slice B t.b.length cp] (wr.alloc (.cells #[.int .i64 t.kind, .int .i64 t.n, .int .u64 t.v, .slice B t.b.length cp] 45))) :=
          ⟨HS.out.1.below ((Below.refl _ wr).alloc (Nat.le_refl _) _), heap_alloc_new wr _, HS.out.2.alloc HS.out.2.size _⟩
        have h33 := Aside0.mk (fun W (h : Aside0 (St7 w g D wr.heap.size #[.int .i64 t.kind, .int .i64 t.n, .int .u64 t.v, .slice B t.b.length cp] W)) => St7.lift h hgw hbg (rbyte_calls g D _ W h.out.1))
        have h34 := Aside0.mk (fun W (h : Aside0 (St7 w g D wr.heap.size #[.int .i64 t.kind, .int .i64 t.n, .int .u64 t.v, .slice B t.b.length cp] W)) => St7.lift h hgw hbg (rN_wrong (sized t.n) ▸ rnumber_calls g D _ t.n W h.out.1))
        have h35 := Aside0.mk (fun W (h : Aside0 (St7 w g D wr.heap.size #[.int .i64 t.kind, .int .i64 t.n, .int .u64 t.v, .slice B t.b.length cp] W)) => St7.lift h hgw hbg (rint_wrong g D W h.out.1))
        have h36 := Aside0.mk (fun W (h : Aside0 (St7 w g D wr.heap.size #[.int .i64 t.kind, .int .i64 t.n, .int .u64 t.v, .slice B t.b.length cp] W)) => St7.lift h hgw hbg (rFlag_wrong ▸ rflag_calls g D _ W h.out.1))
        have h30 : Aside0 (∀ W, Aside0 (St7 w g D wr.heap.size #[.int .i64 t.kind, .int .i64 t.n, .int .u64 t.v, .slice B t.b.length cp] W) → Calls Try.prog 30 #[.pointer (some ⟨g, 0, none⟩), .int .i64 t.n] W fun e w' => (∃ A c, e = .returned (.slice A 0 c)) ∧ Aside0 (St7 w g D wr.heap.size #[.int .i64 t.kind, .int .i64 t.n, .int .u64 t.v, .slice B t.b.length cp] w') ∧ w'.cell? ⟨wr.heap.size, 1, none⟩ = some (.int .i64 t.n)) :=
          ⟨fun W h => (rbytes_calls g D _ t.n W h.out.1).mono fun _ w' ⟨v, he, ho, hr, hu⟩ => by
            rw [rBytes_wrong] at ho hr
            obtain ⟨A', c', rfl, _, _⟩ := OB.slice ho
            exact ⟨⟨A', c', he⟩, ⟨h.out.upd hr hu hgw hbg⟩, blk_cell (h.out.upd hr hu hgw hbg).2.1 1⟩⟩
        have h37 := Aside0.mk (fun W (h : Aside0 (St7 w g D wr.heap.size #[.int .i64 t.kind, .int .i64 t.n, .int .u64 t.v, .slice B t.b.length cp] W)) => rleft_calls g D _ W h.out.1)
        have h38 := Aside0.mk (fun W (h : Aside0 (St7 w g D wr.heap.size #[.int .i64 t.kind, .int .i64 t.n, .int .u64 t.v, .slice B t.b.length cp] W)) => (rEnd_wrong ▸ rend_calls g D _ W h.out.1 : Calls Try.prog 38 #[.pointer (some ⟨g, 0, none⟩)] W fun e w' => e = .returned (.int .i64 3) ∧ W = w'))
        clear q1 q2 hx hgl
        go_wp2_with (first
          | (go_at_call 31; ((with_reducible refine (hlist.out _ (by assumption)).mono ?_); rintro e w5 ⟨rfl, S5, f5⟩))
          | (go_at_call 33; ((with_reducible refine (h33.out _ (by assumption)).mono ?_); rintro e w6 ⟨rfl, S6, f6⟩))
          | (go_at_call 34; ((with_reducible refine (h34.out _ (by assumption)).mono ?_); rintro e w7 ⟨rfl, S7, f7⟩))
          | (go_at_call 35; ((with_reducible refine (h35.out _ (by assumption)).mono ?_); rintro e w8 ⟨rfl, S8, f8⟩))
          | (go_at_call 30; ((with_reducible refine (h30.out _ (by assumption)).mono ?_); rintro e w9 ⟨⟨A9, c9, rfl⟩, S9, f9⟩))
          | (go_at_call 36; ((with_reducible refine (h36.out _ (by assumption)).mono ?_); rintro e wa ⟨rfl, Sa, fa⟩))
          | (go_at_call 37; ((with_reducible refine (h37.out _ (by assumption)).mono ?_); rintro e wb ⟨rfl, rfl⟩))
          | (go_at_call 38; ((with_reducible refine (h38.out _ (by assumption)).mono ?_); rintro e wb ⟨rfl, rfl⟩)))
        go_roundw
        case rel => exact ⟨k + 1, by omega, by go_num, ⟨Sa.out.1, Sa.out.2.2⟩⟩
        case measure => simp [intOf]; omega
      · have h38 := Aside0.mk (rEnd_wrong ▸ rend_calls g D _ wr HS.out.1 : Calls Try.prog 38 #[.pointer (some ⟨g, 0, none⟩)] wr fun e w' => e = .returned (.int .i64 3) ∧ wr = w')
        go_wp2_with (go_at_call 38; ((with_reducible refine h38.out.mono ?_); rintro e wb ⟨rfl, rfl⟩))
        go_ret
        exact ⟨rfl, HS.out.2⟩
  · go_wp2
    go_ret
    exact ⟨rfl, B2.out⟩

set_option maxRecDepth 100000 in
theorem wrong_all (A : Option Addr) (c : Nat) (x : List Int) (L : Option Addr) (cl : Nat) (ts : List Thing) (w : World) (hr : RB w A x) (hb : Bytes x) (ht : KThing.C w L ts.length ts) :
    Calls Try.prog 5 #[.slice A x.length c, .slice L ts.length cl] w fun e w' => e = .returned (.bool true) ∧ Below w.heap.size w w' := by
  by_cases hl : x.length ≤ 500
  · exact wrong_walk A c x L cl ts w hr hb ht hl
  · clear hr hb ht
    have q0 : (500 : Int) < (x.length : Int) := by omega
    go_enter Try.func5, Try.ntmps5
    go_wp2_with (go_at_call 27; refine (speaks01_calls _).mono ?_; rintro e w1 ⟨rfl, b1⟩)
    go_ret
    exact ⟨rfl, b1⟩
end Go.Proofs.Ytmdnokfmlbjbhaa
