/- Contracts of package check: the sum of more bytes, the sum of bytes, the example of the law. -/
import Derived.Test.YtmdnokfmlbjbhaaChkA
namespace Go.Proofs.Ytmdnokfmlbjbhaa
open Go.RowKit Go.Proofs.YtmdnokfmlbjbhaaW.PrintWords
set_option linter.unusedVariables false
set_option linter.unusedSimpArgs false

theorem U_nib (x : BitVec 32) : ∃ (j : Nat) (t : Int), j < 16 ∧ bits BinOp.and .u32 (Crc.U x) 15 = (j : Int) ∧ (∀ (w : World) (B : Nat), w.heap[B]? = some (.cells (ntab 16) 136 (0, 0)) → w.cell? ⟨B, j, none⟩ = some (.int .u32 t)) ∧
    bits BinOp.xor .u32 (Crc.U x / 16) t = Crc.U (Crc.bsteps 4 x) := by
  have hm : (x &&& 15#32).toNat = x.toNat % 16 := by
    rw [BitVec.toNat_and]
    show x.toNat &&& 15 = _
    rw [show (15 : Nat) = 2 ^ 4 - 1 from rfl, Nat.and_two_pow_sub_one_eq_mod]
  refine ⟨(x &&& 15#32).toNat, nib (x &&& 15#32).toNat 4, by omega, Crc.and_U x 15#32, fun w B h => ?_, ?_⟩
  · rw [blk_cell h]
    exact ntab_get16 _ (by omega)
  · have h2 : Crc.U x / (16 : Int) = Crc.U (x >>> 4) := Crc.shr_U x 4
    have h3 : BitVec.ofNat 32 (x &&& 15#32).toNat = x &&& 15#32 := by simp
    unfold nib
    rw [h2, h3, Crc.xor_U, ← Crc.nibble]

theorem byte_step (y : BitVec 32) (c : Int) (h0 : 0 ≤ c) (h1 : c < 256) : ∃ y1 y2 : BitVec 32, bits BinOp.xor .u32 (Crc.U y) c = Crc.U y1 ∧ y2 = Crc.bsteps 4 y1 ∧ Crc.bsteps 4 y2 = Crc.byte y c := by
  refine ⟨y ^^^ BitVec.ofInt 32 c, _, ?_, rfl, ?_⟩
  · have := Crc.xor_U y (BitVec.ofInt 32 c)
    rwa [Crc.U_ofInt' h0 (by omega)] at this
  · unfold Crc.byte; rw [← Crc.bsteps_add]

theorem fold_take (s : BitVec 32) (xs : List Int) (k : Nat) (h : k < xs.length) : Crc.fold s (xs.take (k + 1)) = Crc.byte (Crc.fold s (xs.take k)) (rd xs k) := by
  rw [take_succ_rd xs k h, Crc.fold_append]; rfl

theorem not_U (x : BitVec 32) : bits BinOp.xor IntKind.u32 IntKind.u32.max (Crc.U x) = Crc.U (~~~ x) := by
  have h : IntKind.u32.max = Crc.U (BitVec.allOnes 32) := by decide
  rw [h, Crc.xor_U]
  congr 1

theorem run_row {P : Program} {ty : TypeId} {cells : Array Value} (hi : (P.info? ty).map (·.size) = some cells.size) (a : Addr) (w w' : World) (h : (storeVar ty a (.agg cells)).run P w = .ok () w') : (storeCells a cells.toList).run P w = .ok () w' := by
  cases hq : P.info? ty with
  | none => simp [hq] at hi
  | some i =>
    have hs : cells.size = i.size := by simp [hq] at hi; omega
    simpa [storeVar, sizeOf, typeInfo, hq, Value.cells, hs] using h

set_option maxHeartbeats 400000 in
set_option maxRecDepth 100000 in
theorem more_calls (s : BitVec 32) (A : Option Addr) (c : Nat) (xs : List Int) (w : World) (hr : Kd.C (Kd.int .u8) w A xs.length xs) (hb : Bytes xs) :
    Calls Try.prog 25 #[.int .u32 (Crc.U s), .slice A xs.length c] w
      fun e w' => e = .returned (.int .u32 (Crc.U (Crc.more s xs))) ∧ Below w.heap.size w w' := by
  have HR := Aside0.mk hr
  have hmax := Kd.C_max hr
  have HB := Aside0.mk hb
  clear hr hb
  have hx0 := Crc.U_nonneg s
  have hx1 := Crc.U_lt s
  have HM : Aside0 (Crc.U (Crc.more s xs) = Crc.U (~~~ Crc.fold (~~~ s) xs)) := ⟨rfl⟩
  generalize Crc.U (Crc.more s xs) = res at *
  have hT : (ntab 16).size = 16 := ntab_size _
  have hone := ntab_one
  have hinf := info136
  have HT : Aside0 (ntab 16 = ntab 16) := ⟨rfl⟩
  have hnc := fun W => nibbles_calls W
  generalize hTe : ntab 16 = T at hT hone hinf hnc
  have HTe := Aside0.mk hTe
  clear hTe
  have Hnc := Aside0.mk hnc
  have HT2 := Aside0.mk hT
  have Hone := Aside0.mk hone
  have Hinf := Aside0.mk hinf
  clear hnc hT hone hinf HT
  go_enter Try.func25, Try.ntmps25
  go_wp2_with fail
  refine (Hnc.out _).mono ?_
  rintro e w1 ⟨rfl, hB⟩
  obtain ⟨W, hst, hblk, hB2⟩ : ∃ W, Sem.run Try.prog (storeCells { block := w1.heap.size, off := 0 } T.toList) (w1.alloc (Obj.cells #[Value.int IntKind.u32 0, Value.int IntKind.u32 0, Value.int IntKind.u32 0, Value.int IntKind.u32 0, Value.int IntKind.u32 0, Value.int IntKind.u32 0, Value.int IntKind.u32 0, Value.int IntKind.u32 0, Value.int IntKind.u32 0, Value.int IntKind.u32 0, Value.int IntKind.u32 0, Value.int IntKind.u32 0, Value.int IntKind.u32 0, Value.int IntKind.u32 0, Value.int IntKind.u32 0, Value.int IntKind.u32 0] 136)) = .ok () W ∧ W.heap[w1.heap.size]? = some (.cells T 136 (0, 0)) ∧ Below w.heap.size w W := by
    refine ⟨_, ?_, setRow_heap (w1.alloc (Obj.cells #[Value.int IntKind.u32 0, Value.int IntKind.u32 0, Value.int IntKind.u32 0, Value.int IntKind.u32 0, Value.int IntKind.u32 0, Value.int IntKind.u32 0, Value.int IntKind.u32 0, Value.int IntKind.u32 0, Value.int IntKind.u32 0, Value.int IntKind.u32 0, Value.int IntKind.u32 0, Value.int IntKind.u32 0, Value.int IntKind.u32 0, Value.int IntKind.u32 0, Value.int IntKind.u32 0, Value.int IntKind.u32 0] 136)) w1.heap.size _ T 136 (0, 0) (heap_alloc_new _ _), (hB.alloc hB.size _).trans (below_setRow hB.size _)⟩
    have := run_storeVar_row (P := Try.prog) (w1.alloc (Obj.cells #[Value.int IntKind.u32 0, Value.int IntKind.u32 0, Value.int IntKind.u32 0, Value.int IntKind.u32 0, Value.int IntKind.u32 0, Value.int IntKind.u32 0, Value.int IntKind.u32 0, Value.int IntKind.u32 0, Value.int IntKind.u32 0, Value.int IntKind.u32 0, Value.int IntKind.u32 0, Value.int IntKind.u32 0, Value.int IntKind.u32 0, Value.int IntKind.u32 0, Value.int IntKind.u32 0, Value.int IntKind.u32 0] 136)) w1.heap.size 136 136 (#[Value.int IntKind.u32 0, Value.int IntKind.u32 0, Value.int IntKind.u32 0, Value.int IntKind.u32 0, Value.int IntKind.u32 0, Value.int IntKind.u32 0, Value.int IntKind.u32 0, Value.int IntKind.u32 0, Value.int IntKind.u32 0, Value.int IntKind.u32 0, Value.int IntKind.u32 0, Value.int IntKind.u32 0, Value.int IntKind.u32 0, Value.int IntKind.u32 0, Value.int IntKind.u32 0, Value.int IntKind.u32 0]) T (heap_alloc_new _ _) Hinf.out HT2.out.symm Hone.out
    exact run_row Hinf.out _ _ _ this
  have hb0 : w.heap.size ≤ w1.heap.size := hB.size
  have hsg : IntKind.u32.signed = false := rfl
  have hnot : bits BinOp.xor IntKind.u32 IntKind.u32.max (Crc.U s) = Crc.U (~~~ s) := not_U s
  clear hx0 hx1; have hT := HT2.out
  go_wp2
  clear hst hnot hT
  generalize w1.heap.size = g at *
  go_loopw [0, 13] (fun v0 v13 wr => ∃ (k : Nat) (y : BitVec 32), k ≤ xs.length ∧ v13 = .int .i64 k ∧ v0 = .int .u32 (Crc.U y) ∧ Aside0 (y = Crc.fold (~~~ s) (xs.take k)) ∧ wr.heap[g]? = some (.cells T 136 (0, 0)) ∧ Below w.heap.size w wr) (fun _ v _ => xs.length - (intOf v).toNat)
  case atStart => exact ⟨0, ~~~ s, by omega, rfl, rfl, ⟨rfl⟩, hblk, hB2⟩
  case round =>
    obtain ⟨k, y, hk, rfl, rfl, HY, hblk, hB⟩ := hrel
    by_cases hlt : k < xs.length
    · have hbx := HB.out.at_ (k : Int)
      obtain ⟨y1, y2, e1, e2, e3⟩ := byte_step y (rd xs k) hbx.1 hbx.2
      obtain ⟨j1, t1, hj1, ea1, ht1, e4⟩ := U_nib y1
      obtain ⟨j2, t2, hj2, ea2, ht2, e5⟩ := U_nib y2
      rw [← e2] at e4
      rw [e3] at e5
      rw [HTe.out] at ht1 ht2
      have hc1 := ht1 wr g hblk
      have hc2 := ht2 wr g hblk
      clear ht1 ht2
      have E3 := Aside0.mk ((fold_take (~~~ s) xs k hlt).trans (by rw [← HY.out]))
      generalize Crc.byte y (rd xs k) = y3 at *
      have E2 := Aside0.mk e2
      clear e2 e3
      have b1 := Crc.U_lt y1; have b1' := Crc.U_nonneg y1
      have b2 := Crc.U_lt y2; have b2' := Crc.U_nonneg y2
      have b3 := Crc.U_lt y3; have b3' := Crc.U_nonneg y3
      have b0 := Crc.U_lt y; have b0' := Crc.U_nonneg y
      obtain ⟨ad, hA, hcx⟩ := Kd.at_int (Kd.C_below HR.out ⟨hB.os, hB.tape, hB.output, hB.size, hB.block⟩) (k : Int) (by omega) (by omega)
      subst hA
      rw [Int.toNat_natCast] at hcx
      obtain ⟨hb1, hb2⟩ := hbx
      have g1 : (0 : Int) ≤ (j1 : Int) := by omega
      have g2 : (0 : Int) ≤ (j2 : Int) := by omega
      have g3 : (j1 : Int) < 16 := by omega
      have g4 : (j2 : Int) < 16 := by omega
      go_wp2
      go_roundw
      case rel => exact ⟨k + 1, y3, by omega, by go_num, rfl, ⟨E3.out.symm⟩, hblk, hB⟩
      case measure => simp [intOf]; omega
    · have Hke : Aside0 (k = xs.length) := ⟨by omega⟩
      have hnot : bits BinOp.xor IntKind.u32 IntKind.u32.max (Crc.U y) = Crc.U (~~~ y) := not_U y
      go_wp2
      go_ret
      refine ⟨?_, hB⟩
      rw [HM.out, HY.out, Hke.out, List.take_length]; rfl

theorem sum_calls (A : Option Addr) (c : Nat) (xs : List Int) (w : World) (hr : Kd.C (Kd.int .u8) w A xs.length xs) (hb : Bytes xs) :
    Calls Try.prog 26 #[.slice A xs.length c] w
      fun e w' => e = .returned (.int .u32 (Crc.U (Crc.sum xs))) ∧ Below w.heap.size w w' := by
  have Hc := Aside0.mk (more_calls 0#32 A c xs w hr hb)
  have h0 : Crc.U 0#32 = 0 := rfl
  rw [h0] at Hc
  clear hr hb h0
  go_enter Try.func26, Try.ntmps26
  go_wp2_with (go_at_call 25; refine Hc.out.mono ?_; rintro e w1 ⟨rfl, hB⟩)
  go_ret
  exact ⟨rfl, hB⟩

theorem sum_123456789 : Crc.U (Crc.sum [49, 50, 51, 52, 53, 54, 55, 56, 57]) = 3421780262 := by decide +kernel

set_option maxRecDepth 100000 in
theorem speaks02_calls (w : World) :
    Calls Try.prog 24 #[] w fun e w' => e = .returned (.bool true) ∧ Below w.heap.size w w' := by
  have hcv := fun (w : World) (C : Array Value) (n c : Nat) => Lib.run_convert_bytes_const (P := Try.prog) w 22 5 C n c Try.underlying22 Try.underlying5
  go_enter Try.func24, Try.ntmps24
  go_wp2_with (go_at_call 26; refine (sum_calls _ _ [49, 50, 51, 52, 53, 54, 55, 56, 57] _ (C_lit w .u8 5 [49, 50, 51, 52, 53, 54, 55, 56, 57] _ (by decide)) (by unfold Bytes; decide)).mono ?_; rw [sum_123456789]; rintro e w1 ⟨rfl, hB⟩)
  go_ret
  exact ⟨rfl, ((Below.refl _ _).alloc (Nat.le_refl _) _).trans (hB.mono (by simp))⟩
end Go.Proofs.Ytmdnokfmlbjbhaa
