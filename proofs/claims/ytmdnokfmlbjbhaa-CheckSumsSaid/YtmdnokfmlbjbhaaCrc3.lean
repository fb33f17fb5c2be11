/- Plain facts: the bytes of a number and back; one changed byte is found by the sum. -/
import Derived.Test.YtmdnokfmlbjbhaaChkE
import Derived.Test.YtmdnokfmlbjbhaaCrc2
namespace Go.Proofs.Ytmdnokfmlbjbhaa
open Go.RowKit Go.Proofs.YtmdnokfmlbjbhaaW.PrintWords

theorem pow_bytes (m : Nat) : (2 : Int) ^ (8 * m) = 256 ^ m := by rw [Int.pow_mul]; rfl
theorem num_beUpto (v : Int) (n : Nat) (h0 : 0 ≤ v) (h1 : v < 256 ^ n) : ∀ k, k ≤ n → num (beUpto v n k) = v / 256 ^ (n - k)
  | 0, _ => by
    show (0 : Int) = _
    rw [Nat.sub_zero, Int.ediv_eq_zero_of_lt h0 h1]
  | k + 1, hk => by
    rw [beUpto_succ, num_snoc, num_beUpto v n h0 h1 k (by omega), pow_bytes, show n - 1 - k = n - (k + 1) from by omega]
    have e : n - k = (n - (k + 1)) + 1 := by omega
    rw [e, Int.pow_succ, ← Int.ediv_ediv_of_nonneg (by exact Int.le_of_lt (Int.pow_pos (by decide)))]
    generalize v / 256 ^ (n - (k + 1)) = q
    omega
theorem num_be (v : Int) (n : Nat) (h0 : 0 ≤ v) (h1 : v < 256 ^ n) : num (be v n) = v := by
  have := num_beUpto v n h0 h1 n (Nat.le_refl _)
  rw [Nat.sub_self, Int.pow_zero, Int.ediv_one] at this
  exact this
theorem num_inj : ∀ (n : Nat) (a b : List Int), a.length = n → b.length = n → Bytes a → Bytes b → num a = num b → a = b
  | 0, a, b, ha, hb, _, _, _ => by rw [List.eq_nil_of_length_eq_zero ha, List.eq_nil_of_length_eq_zero hb]
  | n + 1, a, b, ha, hb, ba, bb, h => by
    rcases List.eq_nil_or_concat a with rfl | ⟨a', c, rfl⟩
    · cases ha
    · rcases List.eq_nil_or_concat b with rfl | ⟨b', d, rfl⟩
      · cases hb
      · rw [List.concat_eq_append] at *
        rw [List.concat_eq_append] at *
        have c0 := ba c (by simp); have d0 := bb d (by simp)
        rw [num_snoc, num_snoc] at h
        have hn : num a' = num b' := by omega
        have hcd : c = d := by omega
        rw [num_inj n a' b' (by simpa using ha) (by simpa using hb) (fun x hx => ba x (by simp [hx])) (fun x hx => bb x (by simp [hx])) hn, hcd]

theorem bstep_top (x : BitVec 32) : (Crc.bstep x).getLsbD 31 = x.getLsbD 0 := by
  unfold Crc.bstep
  rw [BitVec.getLsbD_xor, BitVec.getLsbD_ushiftRight]
  have h32 : x.getLsbD (1 + 31) = false := BitVec.getLsbD_of_ge x _ (by omega)
  rw [h32]
  cases x.getLsbD 0 <;> rfl
theorem bstep_zero (x : BitVec 32) (h : Crc.bstep x = 0#32) : x = 0#32 := by
  have h0 : x.getLsbD 0 = false := by rw [← bstep_top, h]; rfl
  rw [Crc.bstep_even x h0] at h
  apply BitVec.eq_of_getLsbD_eq; intro i hi
  rw [BitVec.getLsbD_zero]
  rcases Nat.eq_zero_or_pos i with rfl | hp
  · exact h0
  · have := congrArg (fun z : BitVec 32 => z.getLsbD (i - 1)) h
    simp only [BitVec.getLsbD_ushiftRight, BitVec.getLsbD_zero] at this
    rwa [show 1 + (i - 1) = i from by omega] at this
theorem bsteps_zero : ∀ (n : Nat) (x : BitVec 32), Crc.bsteps n x = 0#32 → x = 0#32
  | 0, _, h => h
  | n + 1, x, h => bsteps_zero n x (bstep_zero _ h)
theorem bsteps_inj (n : Nat) (x y : BitVec 32) (h : Crc.bsteps n x = Crc.bsteps n y) : x = y := by
  have : Crc.bsteps n (x ^^^ y) = 0#32 := by rw [Crc.bsteps_xor, h, BitVec.xor_self]
  have h2 := bsteps_zero n _ this
  have h3 : (x ^^^ y) ^^^ y = 0#32 ^^^ y := by rw [h2]
  rwa [BitVec.xor_assoc, BitVec.xor_self, BitVec.xor_zero, BitVec.zero_xor] at h3
theorem xor_cancel_right (a b c : BitVec 32) (h : a ^^^ c = b ^^^ c) : a = b := by
  have : (a ^^^ c) ^^^ c = (b ^^^ c) ^^^ c := by rw [h]
  rwa [BitVec.xor_assoc, BitVec.xor_self, BitVec.xor_zero, BitVec.xor_assoc, BitVec.xor_self, BitVec.xor_zero] at this
theorem byte_inj (s t : BitVec 32) (c : Int) (h : Crc.byte s c = Crc.byte t c) : s = t := xor_cancel_right _ _ _ (bsteps_inj 8 _ _ h)
theorem byte_inj_c (s : BitVec 32) (c d : Int) (c0 : 0 ≤ c) (c1 : c < 256) (d0 : 0 ≤ d) (d1 : d < 256) (h : Crc.byte s c = Crc.byte s d) : c = d := by
  have h2 := bsteps_inj 8 _ _ h
  rw [BitVec.xor_comm s, BitVec.xor_comm s] at h2
  have h3 := xor_cancel_right _ _ _ h2
  rw [← Crc.U_ofInt' c0 (by omega), ← Crc.U_ofInt' d0 (by omega), h3]
theorem fold_inj : ∀ (xs : List Int) (s t : BitVec 32), Crc.fold s xs = Crc.fold t xs → s = t
  | [], _, _, h => h
  | x :: xs, s, t, h => byte_inj s t x (fold_inj xs _ _ h)
theorem more_inj (s t : BitVec 32) (xs : List Int) (h : Crc.more s xs = Crc.more t xs) : s = t := by
  unfold Crc.more at h
  have h1 := congrArg (fun z : BitVec 32 => ~~~z) h
  simp only [BitVec.not_not] at h1
  have h2 := congrArg (fun z : BitVec 32 => ~~~z) (fold_inj xs _ _ h1)
  simpa only [BitVec.not_not] using h2
theorem not_inj {a b : BitVec 32} (h : ~~~a = ~~~b) : a = b := by
  have h1 := congrArg (fun z : BitVec 32 => ~~~z) h
  simpa only [BitVec.not_not] using h1
/-- one byte changed -/
theorem sum_set (xs : List Int) (hx : Bytes xs) (i : Nat) (hi : i < xs.length) (y : Int) (y0 : 0 ≤ y) (y1 : y < 256) (h : Crc.sum (xs.set i y) = Crc.sum xs) : y = rd xs i := by
  have e : xs = xs.take i ++ [rd xs i] ++ xs.drop (i + 1) := by rw [← take_succ_rd xs i hi, List.take_append_drop]
  have e2 : xs.set i y = xs.take i ++ [y] ++ xs.drop (i + 1) := by
    rw [List.set_eq_take_append_cons_drop, if_pos hi]; simp
  unfold Crc.sum Crc.more at h
  have h := not_inj h
  rw [e2] at h
  conv at h => rhs; rw [e]
  rw [Crc.fold_append _ _ (xs.drop (i + 1)), Crc.fold_append _ _ (xs.drop (i + 1))] at h
  have h := fold_inj _ _ _ h
  rw [fold_snoc, fold_snoc] at h
  exact byte_inj_c _ _ _ y0 y1 (hx.at_ i).1 (hx.at_ i).2 h

theorem wrapped_take (xs : List Int) : (wrapped xs).take ((wrapped xs).length - 4) = xs := by
  rw [wrapped_len, Nat.add_sub_cancel]; unfold wrapped; rw [List.take_left]
theorem wrapped_drop (xs : List Int) : (wrapped xs).drop ((wrapped xs).length - 4) = be (Crc.U (Crc.sum xs)) 4 := by
  rw [wrapped_len, Nat.add_sub_cancel]; unfold wrapped; rw [List.drop_left]
theorem num_sum (xs : List Int) : num (be (Crc.U (Crc.sum xs)) 4) = Crc.U (Crc.sum xs) := num_be _ 4 (Crc.U_nonneg _) (by have := Crc.U_lt (Crc.sum xs); rw [show (256 : Int) ^ 4 = 4294967296 from by decide]; exact this)
theorem wrapped_ok (xs : List Int) : sumOk (wrapped xs) := by
  refine ⟨by rw [wrapped_len]; omega, ?_⟩
  rw [wrapped_take, wrapped_drop, num_sum]
theorem unw_wrapped (xs : List Int) : unw (wrapped xs) = xs := by
  unfold unw; rw [if_pos (wrapped_ok xs), wrapped_take]
theorem unwCode_wrapped (xs : List Int) : unwCode (wrapped xs) = 0 := by
  unfold unwCode; rw [if_pos (wrapped_ok xs)]
/-- bytes with a sum that is right are what Wrap gives -/
theorem sumOk_wrapped (xs : List Int) (hb : Bytes xs) (h : sumOk xs) : xs = wrapped (unw xs) := by
  have hl := h.1
  have hu : unw xs = xs.take (xs.length - 4) := by unfold unw; rw [if_pos h]
  rw [hu]
  unfold wrapped
  have hd : xs.drop (xs.length - 4) = be (Crc.U (Crc.sum (xs.take (xs.length - 4)))) 4 :=
    num_inj 4 _ _ (by rw [List.length_drop]; omega) (be_len _ _) (hb.drop _) (be_bytes _ _) (by rw [num_sum]; exact h.2.symm)
  rw [← hd, List.take_append_drop]

theorem xor_u8_zero (a : Int) (h0 : 0 ≤ a) (h1 : a < 256) : bits BinOp.xor .u8 a 0 = a := by
  rw [u8_xor a 0 h0 h1 (by decide) (by decide)]; simp; omega
theorem xor_u8_same (a t : Int) (h0 : 0 ≤ a) (h1 : a < 256) (t0 : 0 ≤ t) (t1 : t < 256) (h : bits BinOp.xor .u8 a t = a) : t = 0 := by
  rw [u8_xor a t h0 h1 t0 t1] at h
  obtain ⟨A, rfl⟩ := Int.eq_ofNat_of_zero_le h0
  obtain ⟨T, rfl⟩ := Int.eq_ofNat_of_zero_le t0
  simp only [Int.toNat_natCast] at h
  have h2 : A ^^^ T = A := by omega
  have h3 : A ^^^ (A ^^^ T) = A ^^^ A := by rw [h2]
  rw [← Nat.xor_assoc, Nat.xor_self, Nat.zero_xor] at h3
  omega
theorem xor_u8_range (a t : Int) (h0 : 0 ≤ a) (h1 : a < 256) (t0 : 0 ≤ t) (t1 : t < 256) : 0 ≤ bits BinOp.xor .u8 a t ∧ bits BinOp.xor .u8 a t < 256 := by
  rw [u8_xor a t h0 h1 t0 t1]
  have : a.toNat ^^^ t.toNat < 2 ^ 8 := Nat.xor_lt_two_pow (by omega) (by omega)
  omega
theorem bytes_set {xs : List Int} (h : Bytes xs) (i : Nat) (y : Int) (y0 : 0 ≤ y) (y1 : y < 256) : Bytes (xs.set i y) := by
  intro x hx
  rcases List.mem_or_eq_of_mem_set hx with h1 | rfl
  · exact h x h1
  · exact ⟨y0, y1⟩
theorem set_rd (xs : List Int) (i : Nat) (h : i < xs.length) : xs.set i (rd xs i) = xs := by
  rw [rd_nat, List.getD_eq_getElem?_getD, List.getElem?_eq_getElem h]; exact List.set_getElem_self h

/-- bytes with their sum behind, one of which is changed: they are right just where nothing is changed -/
theorem turned_ok (xs : List Int) (hx : Bytes xs) (i : Nat) (hi : i < (wrapped xs).length) (y : Int) (y0 : 0 ≤ y) (y1 : y < 256) : sumOk ((wrapped xs).set i y) ↔ y = rd (wrapped xs) i := by
  constructor
  · rintro ⟨_, h⟩
    rw [List.length_set, wrapped_len, Nat.add_sub_cancel] at h
    have hbx := wrapped_bytes hx
    rcases Nat.lt_or_ge i xs.length with hl | hl
    · have e1 : ((wrapped xs).set i y).take xs.length = xs.set i y := by
        unfold wrapped; rw [List.set_append_left _ _ hl]; exact List.take_left' (by rw [List.length_set])
      have e2 : ((wrapped xs).set i y).drop xs.length = be (Crc.U (Crc.sum xs)) 4 := by
        unfold wrapped; rw [List.set_append_left _ _ hl]; exact List.drop_left' (by rw [List.length_set])
      rw [e1, e2, num_sum] at h
      have := sum_set xs hx i hl y y0 y1 (Crc.U_inj h)
      rw [this]
      unfold wrapped
      rw [rd_nat, rd_nat, List.getD_eq_getElem?_getD, List.getD_eq_getElem?_getD, List.getElem?_append_left hl]
    · have e1 : ((wrapped xs).set i y).take xs.length = xs := by
        unfold wrapped; rw [List.set_append_right _ _ hl, List.take_left]
      have e2 : ((wrapped xs).set i y).drop xs.length = (be (Crc.U (Crc.sum xs)) 4).set (i - xs.length) y := by
        unfold wrapped; rw [List.set_append_right _ _ hl, List.drop_left]
      rw [e1, e2] at h
      have hl4 : i - xs.length < (be (Crc.U (Crc.sum xs)) 4).length := by rw [be_len]; rw [wrapped_len] at hi; omega
      have := num_inj 4 (be (Crc.U (Crc.sum xs)) 4) ((be (Crc.U (Crc.sum xs)) 4).set (i - xs.length) y) (be_len _ _) (by rw [List.length_set, be_len]) (be_bytes _ _) (bytes_set (be_bytes _ _) _ _ y0 y1) (by rw [num_sum]; exact h)
      have h2 : y = ((be (Crc.U (Crc.sum xs)) 4).set (i - xs.length) y).getD (i - xs.length) 0 := by
        rw [List.getD_eq_getElem?_getD, List.getElem?_set_self hl4]; rfl
      rw [← this] at h2
      rw [h2]
      unfold wrapped
      rw [rd_nat, List.getD_eq_getElem?_getD, List.getD_eq_getElem?_getD, List.getElem?_append_right hl]
  · rintro rfl
    rw [set_rd _ _ hi]
    exact wrapped_ok xs
end Go.Proofs.Ytmdnokfmlbjbhaa
