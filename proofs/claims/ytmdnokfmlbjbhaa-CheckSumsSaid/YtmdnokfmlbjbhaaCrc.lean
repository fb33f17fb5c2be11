/- Plain facts on CRC-32: the bitwise step, the nibble step, sums of bytes; no program in sight. -/
import Derived.Laws.BitsAllLaws
namespace Go.Proofs.Ytmdnokfmlbjbhaa.Crc

/-- one bit -/
def bstep (x : BitVec 32) : BitVec 32 := (x >>> 1) ^^^ (if x.getLsbD 0 then 0xedb88320#32 else 0#32)
def bsteps : Nat → BitVec 32 → BitVec 32
  | 0, x => x
  | n + 1, x => bstep (bsteps n x)
def byte (s : BitVec 32) (c : Int) : BitVec 32 := bsteps 8 (s ^^^ BitVec.ofInt 32 c)
def fold (s : BitVec 32) (xs : List Int) : BitVec 32 := xs.foldl byte s
def more (s : BitVec 32) (xs : List Int) : BitVec 32 := ~~~ fold (~~~ s) xs
def sum (xs : List Int) : BitVec 32 := more 0 xs
/-- as the model has it -/
def U (x : BitVec 32) : Int := (x.toNat : Int)

theorem U_nonneg (x : BitVec 32) : 0 ≤ U x := Int.natCast_nonneg _
theorem U_lt (x : BitVec 32) : U x < 4294967296 := by have := x.isLt; unfold U; omega
theorem U_inj {x y : BitVec 32} (h : U x = U y) : x = y := BitVec.eq_of_toNat_eq (Int.ofNat.inj h)
theorem U_beq (x y : BitVec 32) : (U x == U y) = (x == y) := by
  by_cases h : x = y
  · subst h; simp
  · rw [beq_eq_false_iff_ne.2 h, beq_eq_false_iff_ne.2 (fun e => h (U_inj e))]
theorem U_ofInt (x : BitVec 32) : BitVec.ofInt 32 (U x) = x := by
  unfold U; rw [BitVec.ofInt_natCast]; simp
theorem U_ofInt' {n : Int} (h0 : 0 ≤ n) (h1 : n < 4294967296) : U (BitVec.ofInt 32 n) = n := by
  obtain ⟨k, rfl⟩ := Int.eq_ofNat_of_zero_le h0
  unfold U; rw [BitVec.ofInt_natCast, BitVec.toNat_ofNat]; omega
theorem wrapU (x : BitVec 32) : IntKind.u32.wrap (x.toNat : Int) = U x := by
  have := x.isLt
  rw [IntKind.wrap_u32']; unfold U; omega

theorem xor_U (x y : BitVec 32) : bits .xor .u32 (U x) (U y) = U (x ^^^ y) := by
  show IntKind.u32.wrap ((BitVec.ofInt 32 (U x) ^^^ BitVec.ofInt 32 (U y)).toNat : Int) = _
  rw [U_ofInt, U_ofInt, wrapU]
theorem and_U (x y : BitVec 32) : bits .and .u32 (U x) (U y) = U (x &&& y) := by
  show IntKind.u32.wrap ((BitVec.ofInt 32 (U x) &&& BitVec.ofInt 32 (U y)).toNat : Int) = _
  rw [U_ofInt, U_ofInt, wrapU]
theorem shr_U (x : BitVec 32) (k : Nat) : U x / ((2 ^ k : Nat) : Int) = U (x >>> k) := by
  unfold U; rw [BitVec.toNat_ushiftRight, Nat.shiftRight_eq_div_pow]; rfl

/-- the model's spelling of one bit's step -/
def nstep (x : Int) : Int := bits BinOp.xor IntKind.u32 (x / 2) (bits BinOp.and IntKind.u32 3988292384 (-bits BinOp.and IntKind.u32 x 1 % 4294967296))

theorem nstep_U (x : BitVec 32) : nstep (U x) = U (bstep x) := by
  unfold nstep
  have h1 : bits BinOp.and IntKind.u32 (U x) 1 = U (x &&& 1#32) := and_U x 1#32
  have h2 : U x / (2 : Int) = U (x >>> 1) := shr_U x 1
  rw [h1, h2]
  by_cases h : x.getLsbD 0 = true
  · have e : x &&& 1#32 = 1#32 := by
      apply BitVec.eq_of_getLsbD_eq; intro i hi
      simp only [BitVec.getLsbD_and, BitVec.getLsbD_one]
      by_cases hi0 : i = 0
      · subst hi0; simp [h]
      · simp [hi0]
    rw [e]
    have : (-U 1#32 % 4294967296) = U (0xffffffff#32) := by decide
    rw [this]
    have : (3988292384 : Int) = U 0xedb88320#32 := by decide
    rw [this, and_U, xor_U]
    unfold bstep; rw [if_pos h]; rfl
  · have e : x &&& 1#32 = 0#32 := by
      apply BitVec.eq_of_getLsbD_eq; intro i hi
      simp only [BitVec.getLsbD_and, BitVec.getLsbD_one, BitVec.getLsbD_zero]
      by_cases hi0 : i = 0
      · subst hi0; simp at h; simp [h]
      · simp [hi0]
    rw [e]
    have : (-U 0#32 % 4294967296) = U 0#32 := by decide
    rw [this]
    have : (3988292384 : Int) = U 0xedb88320#32 := by decide
    rw [this, and_U, xor_U]
    unfold bstep; rw [if_neg h]; rfl

theorem bstep_xor (x y : BitVec 32) : bstep (x ^^^ y) = bstep x ^^^ bstep y := by
  unfold bstep
  have e : (x ^^^ y).getLsbD 0 = (x.getLsbD 0 != y.getLsbD 0) := by rw [BitVec.getLsbD_xor]
  have s : (x ^^^ y) >>> 1 = (x >>> 1) ^^^ (y >>> 1) := by
    apply BitVec.eq_of_getLsbD_eq; intro i hi
    simp [BitVec.getLsbD_ushiftRight, BitVec.getLsbD_xor]
  rw [e, s]
  have a (p q r s : BitVec 32) : (p ^^^ q) ^^^ (r ^^^ s) = (p ^^^ r) ^^^ (q ^^^ s) := by
    rw [BitVec.xor_assoc, BitVec.xor_assoc, ← BitVec.xor_assoc q r s, BitVec.xor_comm q r, BitVec.xor_assoc r q s]
  rw [a]
  cases x.getLsbD 0 <;> cases y.getLsbD 0 <;> simp

theorem bsteps_xor (n : Nat) (x y : BitVec 32) : bsteps n (x ^^^ y) = bsteps n x ^^^ bsteps n y := by
  induction n with
  | zero => rfl
  | succ n ih => simp only [bsteps]; rw [ih, bstep_xor]

theorem bsteps_add (m n : Nat) (x : BitVec 32) : bsteps (m + n) x = bsteps m (bsteps n x) := by
  induction m with
  | zero => simp [bsteps]
  | succ m ih => rw [Nat.succ_add]; simp only [bsteps]; rw [ih]

theorem bstep_even (x : BitVec 32) (h : x.getLsbD 0 = false) : bstep x = x >>> 1 := by
  unfold bstep; rw [h]; simp

/-- four bits at once, by a table -/
theorem nibble (s : BitVec 32) : bsteps 4 s = (s >>> 4) ^^^ bsteps 4 (s &&& 15#32) := by
  have hs : s = ((s >>> 4) <<< 4) ^^^ (s &&& 15#32) := by
    apply BitVec.eq_of_getLsbD_eq; intro i hi
    have h15 : (15#32).getLsbD i = decide (i < 4) := by
      have : ∀ i, i < 32 → (15#32).getLsbD i = decide (i < 4) := by decide
      exact this i hi
    simp only [BitVec.getLsbD_xor, BitVec.getLsbD_shiftLeft, BitVec.getLsbD_ushiftRight, BitVec.getLsbD_and, h15]
    by_cases h4 : i < 4
    · simp [h4]
    · have : 4 + (i - 4) = i := by omega
      simp [h4, hi, this]
  have hz : ∀ y : BitVec 32, y >>> 28 = 0#32 → bsteps 4 (y <<< 4) = y := by
    intro y hy
    have hb : ∀ j, 28 ≤ j → y.getLsbD j = false := by
      intro j hj
      have := congrArg (fun z : BitVec 32 => z.getLsbD (j - 28)) hy
      simp only [BitVec.getLsbD_ushiftRight, BitVec.getLsbD_zero] at this
      rwa [show 28 + (j - 28) = j from by omega] at this
    have st : ∀ k, k < 4 → bstep (y <<< (k + 1)) = y <<< k := by
      intro k hk
      rw [bstep_even _ (by simp)]
      apply BitVec.eq_of_getLsbD_eq; intro i hi
      simp only [BitVec.getLsbD_ushiftRight, BitVec.getLsbD_shiftLeft]
      by_cases hik : i < k
      · simp [hik]; intro _ h; omega
      · by_cases h31 : 1 + i < 32
        · have e1 : 1 + i - (k + 1) = i - k := by omega
          have e2 : ¬ (1 + i < k + 1) := by omega
          simp [hik, h31, e1, e2, hi]
        · have h : y.getLsbD (i - k) = false := hb _ (by omega)
          simp [hik, h31, h]
    simp only [bsteps]
    rw [st 3 (by omega), st 2 (by omega), st 1 (by omega), st 0 (by omega)]
    simp
  conv => lhs; rw [hs]
  rw [bsteps_xor, hz]
  rw [← BitVec.shiftRight_add]
  apply BitVec.eq_of_toNat_eq
  simp [Nat.shiftRight_eq_div_pow]
  have := s.isLt
  omega

theorem fold_append (s : BitVec 32) (xs ys : List Int) : fold s (xs ++ ys) = fold (fold s xs) ys := List.foldl_append
theorem more_append (s : BitVec 32) (xs ys : List Int) : more s (xs ++ ys) = more (more s xs) ys := by
  unfold more; rw [fold_append, BitVec.not_not]
theorem more_nil (s : BitVec 32) : more s [] = s := by unfold more; simp [fold]

end Go.Proofs.Ytmdnokfmlbjbhaa.Crc
