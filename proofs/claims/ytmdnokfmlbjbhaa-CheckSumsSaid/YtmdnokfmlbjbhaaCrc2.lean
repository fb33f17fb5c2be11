/- CRC-32 is linear. -/
import Derived.Test.YtmdnokfmlbjbhaaBase
import Derived.Test.YtmdnokfmlbjbhaaCrc
namespace Go.Proofs.Ytmdnokfmlbjbhaa
open Go.RowKit Go.Proofs.YtmdnokfmlbjbhaaW.PrintWords

theorem xor4 (a b c d : BitVec 32) : (a ^^^ b) ^^^ (c ^^^ d) = (a ^^^ c) ^^^ (b ^^^ d) := by
  rw [BitVec.xor_assoc, BitVec.xor_assoc, ← BitVec.xor_assoc b c d, BitVec.xor_comm b c, BitVec.xor_assoc c b d]
theorem byte_xor (s t : BitVec 32) (a b : Int) (ha0 : 0 ≤ a) (ha1 : a < 256) (hb0 : 0 ≤ b) (hb1 : b < 256) : Crc.byte (s ^^^ t) (bits BinOp.xor .u8 a b) = Crc.byte s a ^^^ Crc.byte t b := by
  unfold Crc.byte
  rw [← Crc.bsteps_xor]
  congr 1
  rw [xor4 s (BitVec.ofInt 32 a) t (BitVec.ofInt 32 b)]
  congr 1
  rw [u8_xor a b ha0 ha1 hb0 hb1, BitVec.ofInt_natCast]
  obtain ⟨A, rfl⟩ := Int.eq_ofNat_of_zero_le ha0
  obtain ⟨B, rfl⟩ := Int.eq_ofNat_of_zero_le hb0
  apply BitVec.eq_of_toNat_eq
  rw [BitVec.ofInt_natCast, BitVec.ofInt_natCast]
  simp only [BitVec.toNat_xor, BitVec.toNat_ofNat, Int.toNat_natCast]
  have h : A ^^^ B < 2 ^ 8 := Nat.xor_lt_two_pow (by omega) (by omega)
  rw [Nat.mod_eq_of_lt (by omega), Nat.mod_eq_of_lt (by omega), Nat.mod_eq_of_lt (by omega)]
theorem byte_xor_zero (s t : BitVec 32) (a : Int) : Crc.byte (s ^^^ t) a = Crc.byte s a ^^^ Crc.byte t 0 := by
  unfold Crc.byte
  rw [← Crc.bsteps_xor]
  congr 1
  rw [xor4 s (BitVec.ofInt 32 a) t (BitVec.ofInt 32 0), show BitVec.ofInt 32 0 = 0#32 from rfl, BitVec.xor_zero]
theorem range_map_succ (f : Nat → Int) (n : Nat) : (List.range (n + 1)).map f = (List.range n).map f ++ [f n] := by rw [List.range_succ, List.map_append]; rfl
theorem fold_snoc (s : BitVec 32) (xs : List Int) (x : Int) : Crc.fold s (xs ++ [x]) = Crc.byte (Crc.fold s xs) x := by rw [Crc.fold_append]; rfl
theorem fold_xor (x y : List Int) (hx : Bytes x) (hy : Bytes y) (s t : BitVec 32) : ∀ n, n ≤ x.length → n ≤ y.length →
    Crc.fold (s ^^^ t) ((List.range n).map fun j : Nat => bits BinOp.xor .u8 (rd x j) (rd y j)) = Crc.fold s (x.take n) ^^^ Crc.fold t (y.take n)
  | 0, _, _ => by simp [Crc.fold]
  | n + 1, h1, h2 => by
    rw [range_map_succ, fold_snoc, fold_xor x y hx hy s t n (by omega) (by omega), take_succ_rd x n (by omega), take_succ_rd y n (by omega), fold_snoc, fold_snoc,
      byte_xor _ _ _ _ (hx.at_ n).1 (hx.at_ n).2 (hy.at_ n).1 (hy.at_ n).2]
theorem fold_zeros (x : List Int) (s t : BitVec 32) : ∀ n, n ≤ x.length → Crc.fold (s ^^^ t) (x.take n) = Crc.fold s (x.take n) ^^^ Crc.fold t (List.replicate n 0)
  | 0, _ => by simp [Crc.fold]
  | n + 1, h1 => by
    rw [take_succ_rd x n (by omega), fold_snoc, fold_snoc, fold_zeros x s t n (by omega), List.replicate_succ', fold_snoc, byte_xor_zero]
theorem not_xor_not (a b : BitVec 32) : ~~~a ^^^ ~~~b = a ^^^ b := by
  apply BitVec.eq_of_getLsbD_eq; intro i hi
  simp [hi]
theorem sum_xor (x y : List Int) (hx : Bytes x) (hy : Bytes y) (n : Nat) (h1 : n ≤ x.length) (h2 : n ≤ y.length) :
    Crc.sum ((List.range n).map fun j : Nat => bits BinOp.xor .u8 (rd x j) (rd y j)) ^^^ Crc.sum (List.replicate n 0) = Crc.sum (x.take n) ^^^ Crc.sum (y.take n) := by
  unfold Crc.sum Crc.more
  rw [not_xor_not, not_xor_not]
  have a := fold_xor x y hx hy (~~~ 0#32) 0#32 n h1 h2
  have b := fold_zeros y 0#32 (~~~ 0#32) n h2
  rw [BitVec.xor_zero] at a
  rw [BitVec.zero_xor] at b
  show Crc.fold (~~~ 0#32) _ ^^^ Crc.fold (~~~ 0#32) _ = Crc.fold (~~~ 0#32) _ ^^^ Crc.fold (~~~ 0#32) _
  rw [a, b, BitVec.xor_assoc]
end Go.Proofs.Ytmdnokfmlbjbhaa
