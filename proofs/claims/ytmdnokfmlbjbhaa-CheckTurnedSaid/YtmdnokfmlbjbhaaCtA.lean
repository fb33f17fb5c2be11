/- CheckTurned: the walk. -/
import Derived.Test.YtmdnokfmlbjbhaaCrc3
import Derived.Test.YtmdnokfmlbjbhaaRefA
namespace Go.Proofs.Ytmdnokfmlbjbhaa
open Go.RowKit Go.Proofs.YtmdnokfmlbjbhaaW.PrintWords
set_option linter.unusedVariables false
set_option linter.unusedSimpArgs false

theorem drawn_below {w w' : World} (h : Drawn0 w w') : Below w.heap.size w w' := h.below
theorem and_ffff (n : Int) : ∃ m : Nat, bits BinOp.and .i64 n 65535 = (m : Int) ∧ m ≤ 65535 := by
  refine ⟨(BitVec.ofInt 64 n &&& 65535#64).toNat, ?_, ?_⟩
  · show IntKind.i64.wrap ((BitVec.ofInt 64 n &&& BitVec.ofInt 64 65535).toNat : Int) = _
    have h : (BitVec.ofInt 64 n &&& 65535#64).toNat ≤ 65535 := by
      rw [BitVec.toNat_and]; exact Nat.and_le_right
    rw [show BitVec.ofInt 64 65535 = 65535#64 from rfl, IntKind.wrap_i64]; omega
  · rw [BitVec.toNat_and]; exact Nat.and_le_right

theorem OB.some {w : World} {base : Nat} {v : Value} {xs : List Int} (h : OB w base v xs) (hp : 0 < xs.length) : ∃ g c, v = .slice (some ⟨g, 0, none⟩) xs.length c ∧ base ≤ g ∧ g < w.heap.size ∧ xs.length ≤ c := by
  rcases h.2 with ⟨_, h0⟩ | ⟨g, cap, cur, e, hb, hh, hnc, _⟩
  · omega
  · exact ⟨g, cap, e, hb, (Array.getElem?_eq_some_iff.1 hh).1, hnc⟩

theorem OB.slice_some {w : World} {base : Nat} {a : Addr} {n c : Nat} {xs : List Int} (h : OB w base (.slice (Option.some a) n c) xs) : RB w (Option.some a) xs := by
  obtain ⟨A, c', e, hr, _⟩ := OB.slice h
  injection e with e1 _ _
  rw [e1]; exact hr
theorem own_at' {W : World} {base g n cap : Nat} {e : TypeId} {k : IntKind} {xs : List Int} (h : W.ownsRow base e 1 (.slice (Option.some ⟨g, 0, none⟩) n cap) xs.length (nums k xs)) (i : Nat) (h1 : i < xs.length) :
    W.cell? ⟨g, i, none⟩ = Option.some (.int k (rd xs i)) ∧ W.frozen? ⟨g, i, none⟩ = false := by
  have hn : n = xs.length := by
    rcases h.2 with ⟨h', _⟩ | ⟨g', cap', cur, h', _⟩
    · cases h'
    · injection h'
  subst hn
  have := own_at h (i : Int) (by omega) (by omega)
  rwa [Int.toNat_natCast] at this

theorem own_store' {W : World} {base g n cap : Nat} {e : TypeId} {k : IntKind} {xs : List Int} (h : W.ownsRow base e 1 (.slice (Option.some ⟨g, 0, none⟩) n cap) xs.length (nums k xs)) (i : Nat) (x : Int) :
    (W.setCell ⟨g, i, none⟩ (.int k x)).ownsRow base e 1 (.slice (Option.some ⟨g, 0, none⟩) n cap) (xs.set i x).length (nums k (xs.set i x)) := by
  have hn : n = xs.length := by
    rcases h.2 with ⟨h', _⟩ | ⟨g', cap', cur, h', _⟩
    · cases h'
    · injection h'
  subst hn
  have := (own_store h (i : Int) x).1
  rw [Int.toNat_natCast] at this
  rw [List.length_set]
  exact this

set_option maxHeartbeats 1000000 in
set_option maxRecDepth 100000 in
theorem checkTurned_walk (A : Option Addr) (c : Nat) (xs : List Int) (at_ turn : Int) (w : World) (hr : RB w A xs) (hb : Bytes xs) (hl : xs.length ≤ 2000) (t0 : 0 ≤ turn) (t1 : turn < 256) :
    Calls Try.prog 9 #[.slice A xs.length c, .int .i64 at_, .int .u8 turn] w fun e w' => e = .returned (.bool true) ∧ Below w.heap.size w w' := by
  have HR := Aside0.mk hr
  have HB := Aside0.mk hb
  obtain ⟨m, hm, hm1⟩ := and_ffff at_
  obtain ⟨i, hi⟩ : ∃ i, m % (xs.length + 4) = i := ⟨_, rfl⟩
  have hilt : i < xs.length + 4 := by rw [← hi]; exact Nat.mod_lt _ (by omega)
  have hmi : (m : Int) % ((xs.length : Int) + 4) = (i : Int) := by rw [← hi, Int.natCast_emod]; rfl
  have hl' : (xs.length : Int) ≤ 2000 := by omega
  have hm1' : (m : Int) ≤ 65535 := by omega
  have q0 : (0 : Int) ≤ (i : Int) := by omega
  have q1 : (i : Int) < (xs.length : Int) + 4 := by omega
  have HI := Aside0.mk hilt
  have hl2 : ¬ (2000 : Int) < (xs.length : Int) := by omega
  have T0 := Aside0.mk t0
  have T1 := Aside0.mk t1
  clear hr hb hi hilt hl hm1 t0 t1
  go_enter Try.func9, Try.ntmps9
  go_wp2_with (first
    | (go_at_call 24; refine (speaks02_calls _).mono ?_; rintro e w1 ⟨rfl, hB1⟩; have B1 := Aside0.mk hB1; have HW := Aside0.mk (wrap_calls A c xs w1 (RB.keep HR.out hB1) HB.out (by omega)); clear hB1)
    | (go_at_call 50; refine HW.out.mono ?_; rintro e w2 ⟨v, rfl, ho, hB2⟩; have B2 := Aside0.mk (B1.out.trans (hB2.mono B1.out.size)); obtain ⟨g, cw, rfl, hg1, hg2, hcw⟩ := OB.some ho (by rw [wrapped_len]; omega); have hu := unwrap_calls _ cw (wrapped xs) w2 (OB.slice_some ho) (wrapped_bytes HB.out) hcw (by rw [wrapped_len]; omega); rw [unwCode_wrapped, unw_wrapped, wrapped_len] at hu; have HU := Aside0.mk hu; rw [wrapped_len] at hcw ⊢; have CW := Aside0.mk hcw; have HG := Aside0.mk (Nat.le_trans B1.out.size hg1); have HG2 := Aside0.mk hg2; have HO := Aside0.mk ho; clear hg1 hg2 ho hB2 hcw hu))
  refine HU.out.mono ?_
  rintro e w3 ⟨v3, rfl, ho3, hB3⟩
  obtain ⟨A3, c3, rfl, hr3, hc3⟩ := OB.slice ho3
  have B3 := Aside0.mk (B2.out.trans (hB3.mono B2.out.size))
  have HS := Aside0.mk (same_calls A3 c3 xs A c xs w3 hr3 (RB.keep HR.out B3.out))
  rw [decide_eq_true rfl] at HS
  have HO3 := Aside0.mk (own_move HO.out (fun k hk => hB3.block k (own_lt HO.out k hk)))
  have hB3s := Aside0.mk hB3.size
  clear ho3 hB3 hr3 hc3
  go_wp2_with (go_at_call 49; refine HS.out.mono ?_; rintro e w4 ⟨rfl, hd⟩; have B4 := Aside0.mk (B3.out.trans (hd.below.mono B3.out.size)); have HO4 := Aside0.mk (pw_own_below HO3.out hd.below); have S4 := Aside0.mk hd.below.size; have hcell := (own_at' HO4.out i (by rw [wrapped_len]; exact HI.out)).1; have hfro := (own_at' HO4.out i (by rw [wrapped_len]; exact HI.out)).2; clear hd)
  have hy := xor_u8_range _ turn ((wrapped_bytes HB.out).at_ i).1 ((wrapped_bytes HB.out).at_ i).2 T0.out T1.out
  have hs5 := own_store' HO4.out i (bits BinOp.xor IntKind.u8 (rd (wrapped xs) ↑i) turn)
  have B5 := Aside0.mk (B4.out.setCell (p := ⟨g, i, none⟩) HG.out (.int .u8 (bits BinOp.xor IntKind.u8 (rd (wrapped xs) ↑i) turn)))
  generalize hw5 : w4.setCell { block := g, off := i } (Value.int IntKind.u8 (bits BinOp.xor IntKind.u8 (rd (wrapped xs) ↑i) turn)) = w5 at *
  have hu := unwrap_calls _ cw ((wrapped xs).set i (bits BinOp.xor IntKind.u8 (rd (wrapped xs) ↑i) turn)) w5 (OB.slice_some hs5) (bytes_set (wrapped_bytes HB.out) _ _ hy.1 hy.2) (by rw [List.length_set, wrapped_len]; exact CW.out) (by rw [List.length_set, wrapped_len]; omega)
  rw [List.length_set, wrapped_len] at hu
  obtain ⟨z, hz, hz2⟩ : ∃ z, unwCode ((wrapped xs).set i (bits BinOp.xor IntKind.u8 (rd (wrapped xs) ↑i) turn)) = z ∧ (z == 0) = (turn == 0) := by
    refine ⟨_, rfl, ?_⟩
    have hok := turned_ok xs HB.out i (by rw [wrapped_len]; exact HI.out) _ hy.1 hy.2
    unfold unwCode
    by_cases ht : turn = 0
    · subst ht
      rw [if_pos (hok.2 (xor_u8_zero _ ((wrapped_bytes HB.out).at_ i).1 ((wrapped_bytes HB.out).at_ i).2))]
    · rw [if_neg (fun h => ht (xor_u8_same _ _ ((wrapped_bytes HB.out).at_ i).1 ((wrapped_bytes HB.out).at_ i).2 T0.out T1.out (hok.1 h)))]
      exact (beq_eq_false_iff_ne.2 ht).symm
  rw [hz] at hu
  have HU5 := Aside0.mk hu
  obtain ⟨b, hb1⟩ : ∃ b, (turn == 0) = b := ⟨_, rfl⟩
  rw [hb1] at hz2
  clear hw5 hs5 hu hz hy hcell hfro
  refine HU5.out.mono ?_
  rintro e w6 ⟨v6, rfl, ho6, hB6⟩
  have B6 := Aside0.mk (B5.out.trans (hB6.mono B5.out.size))
  clear ho6 hB6
  go_wp2
  go_ret
  refine ⟨?_, B6.out⟩
  simp

set_option maxRecDepth 100000 in
theorem checkTurned_all (A : Option Addr) (c : Nat) (xs : List Int) (at_ turn : Int) (w : World) (hr : RB w A xs) (hb : Bytes xs) (t0 : 0 ≤ turn) (t1 : turn < 256) :
    Calls Try.prog 9 #[.slice A xs.length c, .int .i64 at_, .int .u8 turn] w fun e w' => e = .returned (.bool true) ∧ Below w.heap.size w w' := by
  by_cases hl : xs.length ≤ 2000
  · exact checkTurned_walk A c xs at_ turn w hr hb hl t0 t1
  · clear hr hb
    have g : (2000 : Int) < (xs.length : Int) := by omega
    go_enter Try.func9, Try.ntmps9
    go_wp2_with (go_at_call 24; refine (speaks02_calls _).mono ?_; rintro e w1 ⟨rfl, hB1⟩)
    go_ret
    exact ⟨rfl, hB1⟩
end Go.Proofs.Ytmdnokfmlbjbhaa
