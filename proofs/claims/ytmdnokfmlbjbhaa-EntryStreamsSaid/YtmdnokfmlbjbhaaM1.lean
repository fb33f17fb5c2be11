/- Words of this seat's walks: rows of bytes that are read, rows of bytes of the call's own, appends onto them; Plain facts on CRC-32: the bitwise step, the nibble step, sums of bytes; no program in sight; CRC-32 is linear; What a call may turn ('Upd'); slices.Clone of bytes; the Writer of package octet; The Writer of package octet: each of its methods puts bytes behind; The Writer of package octet: Int, Bytes, Flag, Out; Contracts of package check's inner functions: the table of nibbles, the sum of more bytes; Contracts of package check: the sum of more bytes, the sum of bytes, the example of the law; slices.Grow of nothing, slices.Concat of two rows of bytes, check.Wrap; check.Wrap: bytes with their sum behind; The references of layer 1: are two rows of bytes one; Arguments opened, kind by kind: what the walk along an argument's type says of its cells. -/
import Derived.Test.YtmdnokfmlbjbhaaProg
import Derived.WalkKit
import Derived.KernelRfl
import Derived.Deep.QuietTactic
import Derived.BigQuiet
import Derived.Deep.RegionHeld3
import Derived.Deep.RegionWith
import Derived.Lib.Hide
import Derived.Lib.SlBytesConst
import Derived.Test.YtmdnokfmlbjbhaaWWords
import Derived.Laws.BitsAllLaws
import Derived.WalkSpells
import Derived.Test.YtmdnokfmlbjbhaaWMore
import Derived.Test.YtmdnokfmlbjbhaaWZeros
import Derived.OpenShut
import Derived.ChangeArms

namespace Go.Proofs.Ytmdnokfmlbjbhaa
open Go.RowKit Go.Proofs.YtmdnokfmlbjbhaaW.PrintWords
set_option linter.unusedVariables false

/-- numbers that are bytes -/
def Bytes (xs : List Int) : Prop := ∀ x ∈ xs, 0 ≤ x ∧ x < 256
theorem Bytes.at_ {xs : List Int} (h : Bytes xs) (i : Int) : 0 ≤ rd xs i ∧ rd xs i < 256 := by
  unfold rd
  rcases Nat.lt_or_ge i.toNat xs.length with hl | hl
  · rw [List.getD_eq_getElem?_getD, List.getElem?_eq_getElem hl]; exact h _ (List.getElem_mem hl)
  · rw [List.getD_eq_getElem?_getD, List.getElem?_eq_none hl]; decide
theorem Bytes.nil : Bytes [] := fun _ h => by cases h
theorem Bytes.append {xs ys : List Int} (h : Bytes xs) (k : Bytes ys) : Bytes (xs ++ ys) := fun x hx => (List.mem_append.1 hx).elim (h x) (k x)
theorem Bytes.take {xs : List Int} (h : Bytes xs) (n : Nat) : Bytes (xs.take n) := fun x hx => h x (List.mem_of_mem_take hx)
theorem Bytes.drop {xs : List Int} (h : Bytes xs) (n : Nat) : Bytes (xs.drop n) := fun x hx => h x (List.mem_of_mem_drop hx)
theorem rd_nat (xs : List Int) (k : Nat) : rd xs (k : Int) = xs.getD k 0 := by unfold rd; simp
theorem take_succ_rd (xs : List Int) (k : Nat) (h : k < xs.length) : xs.take (k + 1) = xs.take k ++ [rd xs k] := by
  rw [rd_nat, List.take_succ_eq_append_getElem h, List.getD_eq_getElem?_getD, List.getElem?_eq_getElem h]; rfl

/-- a row of bytes that is read -/
abbrev RB (w : World) (A : Option Addr) (xs : List Int) : Prop := Kd.C (Kd.int .u8) w A xs.length xs
/-- a row of bytes of the call's own -/
abbrev OB (w : World) (base : Nat) (v : Value) (xs : List Int) : Prop := w.ownsRow base 5 1 v xs.length (nums .u8 xs)

/-- a part of a block of numbers, as a row that is read -/
theorem C_part {w : World} {g : Nat} {cs : Array Value} {t : TypeId} {fr : Nat × Nat} (hb : w.heap[g]? = some (.cells cs t fr)) (k : IntKind) (off : Nat) (xs : List Int) (hm : xs.length ≤ 9223372036854775807)
    (hc : ∀ j, j < xs.length → cs[off + j]? = some (.int k (xs.getD j 0))) : Kd.C (Kd.int k) w (some ⟨g, off, none⟩) xs.length xs := by
  refine ⟨rfl, hm, fun _ => ⟨_, rfl, fun j p hj => ⟨[.int k p], rfl, rfl, fun i u hu => ?_⟩⟩⟩
  have hlt : j < xs.length := (List.getElem?_eq_some_iff.1 hj).1
  have hi : i = 0 := by
    have := (List.getElem?_eq_some_iff.1 hu).1
    simpa using this
  subst hi
  obtain rfl : Value.int k p = u := by simpa using hu
  have hp : xs.getD j 0 = p := by rw [List.getD_eq_getElem?_getD, hj]; rfl
  have := hc j hlt
  rw [hp] at this
  show w.cell? ((⟨g, off, none⟩ : Addr).add (j * 1 + 0)) = _
  rw [show (⟨g, off, none⟩ : Addr).add (j * 1 + 0) = ⟨g, off + j, none⟩ from by rw [Nat.mul_one, Nat.add_zero]; exact add_at g off j]
  exact (cell_of_row w g _ cs t fr hb).trans this

theorem C_lit (w : World) (k : IntKind) (t : TypeId) (xs : List Int) (fr : Nat × Nat) (hm : xs.length ≤ 9223372036854775807) : Kd.C (Kd.int k) (w.alloc (.cells (nums k xs).toArray t fr)) (some ⟨w.heap.size, 0, none⟩) xs.length xs :=
  C_part (heap_alloc_new w _) k 0 xs hm fun j hj => by
    rw [Nat.zero_add]; simp [nums, List.getElem?_eq_getElem hj, List.getD_eq_getElem?_getD]
theorem C_one (w : World) (k : IntKind) (t : TypeId) (x : Int) : Kd.C (Kd.int k) (w.alloc (.cells #[.int k x] t)) (some ⟨w.heap.size, 0, none⟩) 1 [x] := C_lit w k t [x] (0, 0) (by simp)

theorem C_int {k : IntKind} {w : World} {A : Option Addr} {n : Nat} {xs : List Int} : Kd.C (Kd.int k) w A n xs ↔ ReadsInt w k A n xs := by
  constructor
  · rintro ⟨h1, h2, h3⟩
    refine ⟨h1, h2, fun hn => ?_⟩
    obtain ⟨ad, e, hc⟩ := h3 hn
    refine ⟨ad, e, fun j hj => ?_⟩
    obtain ⟨c, hs, hr, hcell⟩ := hc j xs[j] (List.getElem?_eq_getElem (by omega))
    have hr : c = [.int k xs[j]] := hr
    have := hcell 0 (.int k xs[j]) (by rw [hr]; rfl)
    simp only [Kd.int, Kd.scalar, Nat.mul_one, Nat.add_zero] at this
    rw [this, List.getD_eq_getElem?_getD, List.getElem?_eq_getElem (by omega)]; rfl
  · rintro ⟨h1, h2, h3⟩
    refine ⟨h1, h2, fun hn => ?_⟩
    obtain ⟨ad, e, hc⟩ := h3 hn
    refine ⟨ad, e, fun j p hj => ⟨[.int k p], rfl, rfl, fun i u hu => ?_⟩⟩
    have hi : i = 0 := by have := (List.getElem?_eq_some_iff.1 hu).1; simpa using this
    subst hi
    obtain rfl : Value.int k p = u := by simpa using hu
    have hlt := (List.getElem?_eq_some_iff.1 hj).1
    have := hc j (by omega)
    rw [List.getD_eq_getElem?_getD, hj] at this
    simp only [Kd.int, Kd.scalar, Nat.mul_one, Nat.add_zero]
    exact this

/-- elements, by a number -/
theorem RB.cell {k : IntKind} {w : World} {A : Option Addr} {xs : List Int} (h : Kd.C (Kd.int k) w A xs.length xs) (j : Nat) (hj : j < xs.length) : ∃ ad, A = some ad ∧ w.cell? (ad.add j) = some (.int k (rd xs j)) := by
  obtain ⟨ad, e, hc⟩ := Kd.at_int h (j : Int) (by omega) (by omega)
  exact ⟨ad, e, by rwa [Int.toNat_natCast] at hc⟩
theorem RB.len {k : IntKind} {w : World} {A : Option Addr} {n : Nat} {xs : List Int} (h : Kd.C (Kd.int k) w A n xs) : xs.length = n := h.1
theorem RB.keep {k : IntKind} {w w' : World} {A : Option Addr} {n : Nat} {xs : List Int} (h : Kd.C (Kd.int k) w A n xs) (hb : Below w.heap.size w w') : Kd.C (Kd.int k) w' A n xs := Kd.C_below h hb
theorem RB.take {k : IntKind} {w : World} {A : Option Addr} {n : Nat} {xs : List Int} (h : Kd.C (Kd.int k) w A n xs) (m : Nat) (hm : m ≤ n) : Kd.C (Kd.int k) w A m (xs.take m) :=
  C_int.2 ((C_int.1 h).take_ m hm)

theorem OB.nil (w : World) (base : Nat) : OB w base (.slice none 0 0) [] := own_nil w base 5 1
theorem OB.slice {w : World} {base : Nat} {v : Value} {xs : List Int} (h : OB w base v xs) : ∃ A c, v = .slice A xs.length c ∧ RB w A xs ∧ xs.length ≤ c := by
  obtain ⟨A, c, e, hr⟩ := own_reads h
  refine ⟨A, c, e, C_int.2 hr, ?_⟩
  rcases h.2 with ⟨h1, h2⟩ | ⟨g, cap, cur, h1, _, _, h2, _⟩
  · omega
  · rw [e] at h1; injection h1 with _ _ h1; omega
theorem OB.empty (w : World) (base : Nat) (hb : base ≤ w.heap.size) : OB (w.alloc (.cells #[] 5)) base (.slice (some ⟨w.heap.size, 0, none⟩) 0 0) [] :=
  World.ownsRow_made w #[] 0 hb (by simp [maxLen]) (by simp)

theorem info5' : (Try.prog.info? 5).map (fun i => (i.zero, i.size, i.bytes)) = some (some (.int .u8 0), 1, 1) := by kernel_rfl

/-- append(s, x...) of bytes -/
theorem wpList_appB {ops : Array Oper} {rest : List Oper} {o : Oper} {a : Act} {Q : Exit → Act → World → Prop} {W : World} (N : Tmp) (hd : o.dst = some N) (hgd : o.guard = none) (s x : Operand)
    (ho : o.op = .call { callee := .builtin .append, args := #[s, x], argTypes := #[22, 22] })
    {base : Nat} {v : Value} {xs ys : List Int} {A : Option Addr} {c : Nat} (hs : a.eval s = v) (hx : a.eval x = .slice A ys.length c)
    (HO : OB W base v xs) (HR : RB W A ys) (hbase : base ≤ W.heap.size) (hl : xs.length + ys.length ≤ 140737488355328)
    (h : ∀ v1 W1, OB W1 base v1 (xs ++ ys) → W.grownBy W1 v.ownBlock → (v1.ownBlock = v.ownBlock ∨ ∃ b, v1.ownBlock = some b ∧ W.heap.size ≤ b) → wpList Try.prog ops Q rest (a.put (some N) v1) W1) :
    wpList Try.prog ops Q (o :: rest) a W := by
  rw [← hd] at h
  exact print_append_row (w0 := W) base hgd s x 22 5 .u8 1 ho Try.underlying22 info5' (by decide) v xs ys A ys.length c hs hx HO (C_int.1 HR) (Below.refl _ _) hbase (by omega) fun v1 w1 h1 _ h3 h4 => h v1 w1 h1 h3 h4

/-- the same, where all from base on is the row's (and rubbish) -/
theorem wpList_appW {ops : Array Oper} {rest : List Oper} {o : Oper} {a : Act} {Q : Exit → Act → World → Prop} {W : World} (N : Tmp) (hd : o.dst = some N) (hgd : o.guard = none) (s x : Operand)
    (ho : o.op = .call { callee := .builtin .append, args := #[s, x], argTypes := #[22, 22] })
    (w0 : World) (v : Value) (xs ys : List Int) {A : Option Addr} {c : Nat} (hs : a.eval s = v) (hx : a.eval x = .slice A ys.length c)
    (HO : OB W w0.heap.size v xs) (HR : RB W A ys) (HB : Below w0.heap.size w0 W) (hl : xs.length + ys.length ≤ 140737488355328)
    (h : ∀ v1 W1, OB W1 w0.heap.size v1 (xs ++ ys) → Below w0.heap.size w0 W1 → wpList Try.prog ops Q rest (a.put (some N) v1) W1) :
    wpList Try.prog ops Q (o :: rest) a W := by
  refine wpList_appB N hd hgd s x ho hs hx HO HR HB.size hl fun v1 W1 h1 h3 _ => h v1 W1 h1 (HB.grown h3 HB.size (own_base HO))

/-- what is told of a slice of integers that came in -/
def IsRow (k : IntKind) (w : World) (a : Option Addr) (len cap : Nat) (zs : List Int) : Prop :=
  (a = none ∧ len = 0 ∧ cap = 0 ∧ zs = []) ∨
  ∃ x, a = some x ∧ len ≤ cap ∧ cap ≤ maxLen ∧ zs.length = cap ∧ (∀ i, i < zs.length → w.cell? (x.add i) = some (.int k (zs.getD i 0))) ∧ ∀ n ∈ zs, (Lit.int k n).wf = true
theorem IsRow.ints {k : IntKind} {w : World} {a : Option Addr} {len cap : Nat} {zs : List Int} (h : IsRow k w a len cap zs) : ∃ xs, xs.length = len ∧ len ≤ cap ∧ Kd.C (Kd.int k) w a len xs ∧ ∀ n ∈ xs, (Lit.int k n).wf = true := by
  rcases h with ⟨rfl, rfl, rfl, rfl⟩ | ⟨x, rfl, hl, hm, hz, hc, hw⟩
  · exact ⟨[], rfl, Nat.le_refl _, C_int.2 ⟨rfl, by omega, fun h => absurd h (by omega)⟩, fun _ h => by cases h⟩
  · unfold maxLen at hm
    refine ⟨zs.take len, by rw [List.length_take]; omega, hl, C_int.2 ⟨by rw [List.length_take]; omega, by omega, fun hn => ⟨x, rfl, fun j hj => ?_⟩⟩, fun n hn => hw n (List.mem_of_mem_take hn)⟩
    rw [hc j (by omega), List.getD_eq_getElem?_getD, List.getD_eq_getElem?_getD, List.getElem?_take, if_pos hj]
theorem wf_u8 {n : Int} (h : (Lit.int .u8 n).wf = true) : 0 ≤ n ∧ n < 256 := by
  have : 0 ≤ n ∧ n ≤ 255 := by simpa [Lit.wf, IntKind.min, IntKind.max, IntKind.bits, IntKind.signed] using h
  omega
theorem IsRow.bytes {w : World} {a : Option Addr} {len cap : Nat} {zs : List Int} (h : IsRow .u8 w a len cap zs) : ∃ xs, xs.length = len ∧ len ≤ cap ∧ RB w a xs ∧ Bytes xs := by
  obtain ⟨xs, e, hl, hc, hw⟩ := h.ints
  subst e; exact ⟨xs, rfl, hl, hc, fun x hx => wf_u8 (hw x hx)⟩

end Go.Proofs.Ytmdnokfmlbjbhaa

namespace Go.Proofs.Ytmdnokfmlbjbhaa.Crc

/-- one bit -/
def bstep (x : BitVec 32) : BitVec 32 := (x >>> 1) ^^^ (if x.getLsbD 0 then 0xedb88320#32 else 0#32)
def bsteps : Nat → BitVec 32 → BitVec 32
  | 0, x => x
  | n + 1, x => bstep (bsteps n x)
def byte (s : BitVec 32) (c : Int) : BitVec 32 := bsteps 8 (s ^^^ BitVec.ofInt 32 c)
def fold (s : BitVec 32) (xs : List Int) : BitVec 32 := xs.foldl byte s
def more (s : BitVec 32) (xs : List Int) : BitVec 32 := ~~~ fold (~~~ s) xs
def sum (xs : List Int) : BitVec 32 := more 0 xs
/-- as the model has it -/
def U (x : BitVec 32) : Int := (x.toNat : Int)

theorem U_nonneg (x : BitVec 32) : 0 ≤ U x := Int.natCast_nonneg _
theorem U_lt (x : BitVec 32) : U x < 4294967296 := by have := x.isLt; unfold U; omega
theorem U_inj {x y : BitVec 32} (h : U x = U y) : x = y := BitVec.eq_of_toNat_eq (Int.ofNat.inj h)
theorem U_beq (x y : BitVec 32) : (U x == U y) = (x == y) := by
  by_cases h : x = y
  · subst h; simp
  · rw [beq_eq_false_iff_ne.2 h, beq_eq_false_iff_ne.2 (fun e => h (U_inj e))]
theorem U_ofInt (x : BitVec 32) : BitVec.ofInt 32 (U x) = x := by
  unfold U; rw [BitVec.ofInt_natCast]; simp
theorem U_ofInt' {n : Int} (h0 : 0 ≤ n) (h1 : n < 4294967296) : U (BitVec.ofInt 32 n) = n := by
  obtain ⟨k, rfl⟩ := Int.eq_ofNat_of_zero_le h0
  unfold U; rw [BitVec.ofInt_natCast, BitVec.toNat_ofNat]; omega
theorem wrapU (x : BitVec 32) : IntKind.u32.wrap (x.toNat : Int) = U x := by
  have := x.isLt
  rw [IntKind.wrap_u32']; unfold U; omega

theorem xor_U (x y : BitVec 32) : bits .xor .u32 (U x) (U y) = U (x ^^^ y) := by
  show IntKind.u32.wrap ((BitVec.ofInt 32 (U x) ^^^ BitVec.ofInt 32 (U y)).toNat : Int) = _
  rw [U_ofInt, U_ofInt, wrapU]
theorem and_U (x y : BitVec 32) : bits .and .u32 (U x) (U y) = U (x &&& y) := by
  show IntKind.u32.wrap ((BitVec.ofInt 32 (U x) &&& BitVec.ofInt 32 (U y)).toNat : Int) = _
  rw [U_ofInt, U_ofInt, wrapU]
theorem shr_U (x : BitVec 32) (k : Nat) : U x / ((2 ^ k : Nat) : Int) = U (x >>> k) := by
  unfold U; rw [BitVec.toNat_ushiftRight, Nat.shiftRight_eq_div_pow]; rfl

/-- the model's spelling of one bit's step -/
def nstep (x : Int) : Int := bits BinOp.xor IntKind.u32 (x / 2) (bits BinOp.and IntKind.u32 3988292384 (-bits BinOp.and IntKind.u32 x 1 % 4294967296))

theorem nstep_U (x : BitVec 32) : nstep (U x) = U (bstep x) := by
  unfold nstep
  have h1 : bits BinOp.and IntKind.u32 (U x) 1 = U (x &&& 1#32) := and_U x 1#32
  have h2 : U x / (2 : Int) = U (x >>> 1) := shr_U x 1
  rw [h1, h2]
  by_cases h : x.getLsbD 0 = true
  · have e : x &&& 1#32 = 1#32 := by
      apply BitVec.eq_of_getLsbD_eq; intro i hi
      simp only [BitVec.getLsbD_and, BitVec.getLsbD_one]
      by_cases hi0 : i = 0
      · subst hi0; simp [h]
      · simp [hi0]
    rw [e]
    have : (-U 1#32 % 4294967296) = U (0xffffffff#32) := by decide
    rw [this]
    have : (3988292384 : Int) = U 0xedb88320#32 := by decide
    rw [this, and_U, xor_U]
    unfold bstep; rw [if_pos h]; rfl
  · have e : x &&& 1#32 = 0#32 := by
      apply BitVec.eq_of_getLsbD_eq; intro i hi
      simp only [BitVec.getLsbD_and, BitVec.getLsbD_one, BitVec.getLsbD_zero]
      by_cases hi0 : i = 0
      · subst hi0; simp at h; simp [h]
      · simp [hi0]
    rw [e]
    have : (-U 0#32 % 4294967296) = U 0#32 := by decide
    rw [this]
    have : (3988292384 : Int) = U 0xedb88320#32 := by decide
    rw [this, and_U, xor_U]
    unfold bstep; rw [if_neg h]; rfl

theorem bstep_xor (x y : BitVec 32) : bstep (x ^^^ y) = bstep x ^^^ bstep y := by
  unfold bstep
  have e : (x ^^^ y).getLsbD 0 = (x.getLsbD 0 != y.getLsbD 0) := by rw [BitVec.getLsbD_xor]
  have s : (x ^^^ y) >>> 1 = (x >>> 1) ^^^ (y >>> 1) := by
    apply BitVec.eq_of_getLsbD_eq; intro i hi
    simp [BitVec.getLsbD_ushiftRight, BitVec.getLsbD_xor]
  rw [e, s]
  have a (p q r s : BitVec 32) : (p ^^^ q) ^^^ (r ^^^ s) = (p ^^^ r) ^^^ (q ^^^ s) := by
    rw [BitVec.xor_assoc, BitVec.xor_assoc, ← BitVec.xor_assoc q r s, BitVec.xor_comm q r, BitVec.xor_assoc r q s]
  rw [a]
  cases x.getLsbD 0 <;> cases y.getLsbD 0 <;> simp

theorem bsteps_xor (n : Nat) (x y : BitVec 32) : bsteps n (x ^^^ y) = bsteps n x ^^^ bsteps n y := by
  induction n with
  | zero => rfl
  | succ n ih => simp only [bsteps]; rw [ih, bstep_xor]

theorem bsteps_add (m n : Nat) (x : BitVec 32) : bsteps (m + n) x = bsteps m (bsteps n x) := by
  induction m with
  | zero => simp [bsteps]
  | succ m ih => rw [Nat.succ_add]; simp only [bsteps]; rw [ih]

theorem bstep_even (x : BitVec 32) (h : x.getLsbD 0 = false) : bstep x = x >>> 1 := by
  unfold bstep; rw [h]; simp

/-- four bits at once, by a table -/
theorem nibble (s : BitVec 32) : bsteps 4 s = (s >>> 4) ^^^ bsteps 4 (s &&& 15#32) := by
  have hs : s = ((s >>> 4) <<< 4) ^^^ (s &&& 15#32) := by
    apply BitVec.eq_of_getLsbD_eq; intro i hi
    have h15 : (15#32).getLsbD i = decide (i < 4) := by
      have : ∀ i, i < 32 → (15#32).getLsbD i = decide (i < 4) := by decide
      exact this i hi
    simp only [BitVec.getLsbD_xor, BitVec.getLsbD_shiftLeft, BitVec.getLsbD_ushiftRight, BitVec.getLsbD_and, h15]
    by_cases h4 : i < 4
    · simp [h4]
    · have : 4 + (i - 4) = i := by omega
      simp [h4, hi, this]
  have hz : ∀ y : BitVec 32, y >>> 28 = 0#32 → bsteps 4 (y <<< 4) = y := by
    intro y hy
    have hb : ∀ j, 28 ≤ j → y.getLsbD j = false := by
      intro j hj
      have := congrArg (fun z : BitVec 32 => z.getLsbD (j - 28)) hy
      simp only [BitVec.getLsbD_ushiftRight, BitVec.getLsbD_zero] at this
      rwa [show 28 + (j - 28) = j from by omega] at this
    have st : ∀ k, k < 4 → bstep (y <<< (k + 1)) = y <<< k := by
      intro k hk
      rw [bstep_even _ (by simp)]
      apply BitVec.eq_of_getLsbD_eq; intro i hi
      simp only [BitVec.getLsbD_ushiftRight, BitVec.getLsbD_shiftLeft]
      by_cases hik : i < k
      · simp [hik]; intro _ h; omega
      · by_cases h31 : 1 + i < 32
        · have e1 : 1 + i - (k + 1) = i - k := by omega
          have e2 : ¬ (1 + i < k + 1) := by omega
          simp [hik, h31, e1, e2, hi]
        · have h : y.getLsbD (i - k) = false := hb _ (by omega)
          simp [hik, h31, h]
    simp only [bsteps]
    rw [st 3 (by omega), st 2 (by omega), st 1 (by omega), st 0 (by omega)]
    simp
  conv => lhs; rw [hs]
  rw [bsteps_xor, hz]
  rw [← BitVec.shiftRight_add]
  apply BitVec.eq_of_toNat_eq
  simp [Nat.shiftRight_eq_div_pow]
  have := s.isLt
  omega

theorem fold_append (s : BitVec 32) (xs ys : List Int) : fold s (xs ++ ys) = fold (fold s xs) ys := List.foldl_append
theorem more_append (s : BitVec 32) (xs ys : List Int) : more s (xs ++ ys) = more (more s xs) ys := by
  unfold more; rw [fold_append, BitVec.not_not]
theorem more_nil (s : BitVec 32) : more s [] = s := by unfold more; simp [fold]

end Go.Proofs.Ytmdnokfmlbjbhaa.Crc

namespace Go.Proofs.Ytmdnokfmlbjbhaa
open Go.RowKit Go.Proofs.YtmdnokfmlbjbhaaW.PrintWords

theorem xor4 (a b c d : BitVec 32) : (a ^^^ b) ^^^ (c ^^^ d) = (a ^^^ c) ^^^ (b ^^^ d) := by
  rw [BitVec.xor_assoc, BitVec.xor_assoc, ← BitVec.xor_assoc b c d, BitVec.xor_comm b c, BitVec.xor_assoc c b d]
theorem byte_xor (s t : BitVec 32) (a b : Int) (ha0 : 0 ≤ a) (ha1 : a < 256) (hb0 : 0 ≤ b) (hb1 : b < 256) : Crc.byte (s ^^^ t) (bits BinOp.xor .u8 a b) = Crc.byte s a ^^^ Crc.byte t b := by
  unfold Crc.byte
  rw [← Crc.bsteps_xor]
  congr 1
  rw [xor4 s (BitVec.ofInt 32 a) t (BitVec.ofInt 32 b)]
  congr 1
  rw [u8_xor a b ha0 ha1 hb0 hb1, BitVec.ofInt_natCast]
  obtain ⟨A, rfl⟩ := Int.eq_ofNat_of_zero_le ha0
  obtain ⟨B, rfl⟩ := Int.eq_ofNat_of_zero_le hb0
  apply BitVec.eq_of_toNat_eq
  rw [BitVec.ofInt_natCast, BitVec.ofInt_natCast]
  simp only [BitVec.toNat_xor, BitVec.toNat_ofNat, Int.toNat_natCast]
  have h : A ^^^ B < 2 ^ 8 := Nat.xor_lt_two_pow (by omega) (by omega)
  rw [Nat.mod_eq_of_lt (by omega), Nat.mod_eq_of_lt (by omega), Nat.mod_eq_of_lt (by omega)]
theorem byte_xor_zero (s t : BitVec 32) (a : Int) : Crc.byte (s ^^^ t) a = Crc.byte s a ^^^ Crc.byte t 0 := by
  unfold Crc.byte
  rw [← Crc.bsteps_xor]
  congr 1
  rw [xor4 s (BitVec.ofInt 32 a) t (BitVec.ofInt 32 0), show BitVec.ofInt 32 0 = 0#32 from rfl, BitVec.xor_zero]
theorem range_map_succ (f : Nat → Int) (n : Nat) : (List.range (n + 1)).map f = (List.range n).map f ++ [f n] := by rw [List.range_succ, List.map_append]; rfl
theorem fold_snoc (s : BitVec 32) (xs : List Int) (x : Int) : Crc.fold s (xs ++ [x]) = Crc.byte (Crc.fold s xs) x := by rw [Crc.fold_append]; rfl
theorem fold_xor (x y : List Int) (hx : Bytes x) (hy : Bytes y) (s t : BitVec 32) : ∀ n, n ≤ x.length → n ≤ y.length →
    Crc.fold (s ^^^ t) ((List.range n).map fun j : Nat => bits BinOp.xor .u8 (rd x j) (rd y j)) = Crc.fold s (x.take n) ^^^ Crc.fold t (y.take n)
  | 0, _, _ => by simp [Crc.fold]
  | n + 1, h1, h2 => by
    rw [range_map_succ, fold_snoc, fold_xor x y hx hy s t n (by omega) (by omega), take_succ_rd x n (by omega), take_succ_rd y n (by omega), fold_snoc, fold_snoc,
      byte_xor _ _ _ _ (hx.at_ n).1 (hx.at_ n).2 (hy.at_ n).1 (hy.at_ n).2]
theorem fold_zeros (x : List Int) (s t : BitVec 32) : ∀ n, n ≤ x.length → Crc.fold (s ^^^ t) (x.take n) = Crc.fold s (x.take n) ^^^ Crc.fold t (List.replicate n 0)
  | 0, _ => by simp [Crc.fold]
  | n + 1, h1 => by
    rw [take_succ_rd x n (by omega), fold_snoc, fold_snoc, fold_zeros x s t n (by omega), List.replicate_succ', fold_snoc, byte_xor_zero]
theorem not_xor_not (a b : BitVec 32) : ~~~a ^^^ ~~~b = a ^^^ b := by
  apply BitVec.eq_of_getLsbD_eq; intro i hi
  simp [hi]
theorem sum_xor (x y : List Int) (hx : Bytes x) (hy : Bytes y) (n : Nat) (h1 : n ≤ x.length) (h2 : n ≤ y.length) :
    Crc.sum ((List.range n).map fun j : Nat => bits BinOp.xor .u8 (rd x j) (rd y j)) ^^^ Crc.sum (List.replicate n 0) = Crc.sum (x.take n) ^^^ Crc.sum (y.take n) := by
  unfold Crc.sum Crc.more
  rw [not_xor_not, not_xor_not]
  have a := fold_xor x y hx hy (~~~ 0#32) 0#32 n h1 h2
  have b := fold_zeros y 0#32 (~~~ 0#32) n h2
  rw [BitVec.xor_zero] at a
  rw [BitVec.zero_xor] at b
  show Crc.fold (~~~ 0#32) _ ^^^ Crc.fold (~~~ 0#32) _ = Crc.fold (~~~ 0#32) _ ^^^ Crc.fold (~~~ 0#32) _
  rw [a, b, BitVec.xor_assoc]
end Go.Proofs.Ytmdnokfmlbjbhaa

namespace Go.Proofs.Ytmdnokfmlbjbhaa
open Go.RowKit Go.Proofs.YtmdnokfmlbjbhaaW.PrintWords
set_option linter.unusedVariables false
set_option linter.unusedSimpArgs false

/-- of the blocks that were there only those of S may have turned -/
structure Upd (S : Nat → Prop) (w w' : World) : Prop where
  os : w'.os = w.os
  tape : w'.tape = w.tape
  output : w'.output = w.output
  size : w.heap.size ≤ w'.heap.size
  block : ∀ k, k < w.heap.size → ¬ S k → w'.heap[k]? = w.heap[k]?
namespace Upd
variable {S S' : Nat → Prop} {w w1 w2 : World}
theorem refl (S : Nat → Prop) (w : World) : Upd S w w := ⟨rfl, rfl, rfl, Nat.le_refl _, fun _ _ _ => rfl⟩
theorem trans' (h : Upd S w w1) (k : Upd S' w1 w2) (hs : ∀ k, S' k → S k ∨ w.heap.size ≤ k) : Upd S w w2 :=
  ⟨k.os.trans h.os, k.tape.trans h.tape, k.output.trans h.output, Nat.le_trans h.size k.size, fun i hi hn => (k.block i (Nat.lt_of_lt_of_le hi h.size) (fun e => (hs i e).elim hn (by omega))).trans (h.block i hi hn)⟩
theorem mono (h : Upd S w w1) (hs : ∀ k, S k → S' k) : Upd S' w w1 := ⟨h.os, h.tape, h.output, h.size, fun i hi hn => h.block i hi (fun e => hn (hs i e))⟩
theorem of_below (h : Below w.heap.size w w1) : Upd S w w1 := ⟨h.os, h.tape, h.output, h.size, fun i hi _ => h.block i hi⟩
theorem below (h : Upd S w w1) {B : Nat} (hB : B ≤ w.heap.size) (hs : ∀ k, S k → B ≤ k) : Below B w w1 := ⟨h.os, h.tape, h.output, h.size, fun i hi => h.block i (by omega) (fun e => by have := hs i e; omega)⟩
theorem drew (h : Upd S w w1) : Upd S w w1.drew := ⟨h.os, h.tape, h.output, h.size, h.block⟩
theorem alloc (h : Upd S w w1) (o : Obj) : Upd S w (w1.alloc o) := h.trans' (S' := fun _ => False) (of_below ((Below.refl _ _).alloc (Nat.le_refl _) o)) (fun _ hk => hk.elim)
theorem setCell (h : Upd S w w1) {p : Addr} (hp : S p.block ∨ w.heap.size ≤ p.block) (u : Value) : Upd S w (w1.setCell p u) :=
  h.trans' (S' := fun k => k = p.block) ⟨rfl, rfl, rfl, by simp [World.setCell], fun k _ hk => Below.heap_setCell _ _ _ _ hk⟩ (fun k hk => by rw [hk]; exact hp)
theorem grown (h : Upd S w w1) {row : Option Nat} (hg : w1.grownBy w2 row) (hr : ∀ k, row = some k → S k ∨ w.heap.size ≤ k) : Upd S w w2 :=
  h.trans' (S' := fun k => row = some k) ⟨hg.os, hg.tape, hg.output, hg.size, fun k hk hn => hg.block k hk (fun e => hn e.symm)⟩ hr
/-- a block that was there and is not of S is as it was -/
theorem at_ (h : Upd S w w1) {k : Nat} {o : Obj} (hk : w.heap[k]? = some o) (hn : ¬ S k) : w1.heap[k]? = some o := (h.block k (Array.getElem?_eq_some_iff.1 hk).1 hn).trans hk
theorem own (h : Upd S w w1) {base : Nat} {e : TypeId} {size n : Nat} {v : Value} {xs : List Value} (ho : w.ownsRow base e size v n xs) (hn : ∀ k, v.ownBlock = some k → ¬ S k) : w1.ownsRow base e size v n xs :=
  own_move ho (fun k hk => h.block k (own_lt ho k hk) (hn k hk))
end Upd

/-- a row that is read, where its block hasn't turned -/
theorem C_move {k : IntKind} {w w1 : World} {A : Option Addr} {n : Nat} {xs : List Int} (h : Kd.C (Kd.int k) w A n xs) (hm : ∀ ad, A = some ad → w1.heap[ad.block]? = w.heap[ad.block]?) : Kd.C (Kd.int k) w1 A n xs := by
  obtain ⟨h1, h2, h3⟩ := C_int.1 h
  refine C_int.2 ⟨h1, h2, fun hn => ?_⟩
  obtain ⟨ad, e, hc⟩ := h3 hn
  refine ⟨ad, e, fun j hj => ?_⟩
  have hb : (ad.add j).block = ad.block := by unfold Addr.add; split <;> rfl
  rw [World.cell?_of_block (w := w) (by rw [hb]; exact hm ad e)]
  exact hc j hj
theorem C_lt {k : IntKind} {w : World} {A : Option Addr} {n : Nat} {xs : List Int} (h : Kd.C (Kd.int k) w A n xs) (hn : 0 < n) : ∃ ad, A = some ad ∧ ad.block < w.heap.size := by
  obtain ⟨h1, h2, h3⟩ := C_int.1 h
  obtain ⟨ad, e, hc⟩ := h3 hn
  have hb : (ad.add 0).block = ad.block := by unfold Addr.add; split <;> rfl
  exact ⟨ad, e, by rw [← hb]; exact World.block_lt_of_cell? w _ (hc 0 hn)⟩

theorem RB.of {w : World} {A : Option Addr} {n : Nat} {xs : List Int} (h : Kd.C (Kd.int .u8) w A n xs) : RB w A xs := by
  have := h.1; subst this; exact h

/-- the shape of a row of the call's own, its length a letter -/
theorem OB.shape {w : World} {base : Nat} {v : Value} {xs : List Int} (h : OB w base v xs) : ∃ A n c, v = .slice A n c ∧ Aside0 (n = xs.length) := by
  obtain ⟨A, c, e, _⟩ := OB.slice h
  exact ⟨A, _, c, e, ⟨rfl⟩⟩

set_option maxRecDepth 100000 in
theorem clone_calls (A : Option Addr) (c : Nat) (xs : List Int) (w : World) (hr : RB w A xs) (hl : xs.length ≤ 140737488355328) :
    Calls Try.prog 91 #[.slice A xs.length c] w fun e w' => ∃ v, e = .returned v ∧ OB w' w.heap.size v xs ∧ Below w.heap.size w w' := by
  have heq := fun (w : World) (a : Option Addr) (l c : Nat) => Lib.run_eql_slice_nil (P := Try.prog) w 22 5 a l c 0 0 Try.underlying22
  have HR := Aside0.mk hr
  clear hr
  rcases A with _ | ad
  · have h0 : xs = [] := by
      rcases Nat.eq_zero_or_pos xs.length with h | h
      · exact List.eq_nil_of_length_eq_zero h
      · obtain ⟨ad, e, _⟩ := C_lt HR.out h; cases e
    subst h0
    go_enter Try.func91, Try.ntmps91
    go_wp2
    go_ret
    exact ⟨_, rfl, OB.nil _ _, Below.refl _ _⟩
  · have H0 := Aside0.mk (OB.empty w w.heap.size (Nat.le_refl _))
    have B0 := Aside0.mk ((Below.refl w.heap.size w).alloc (Nat.le_refl _) (.cells #[] 5))
    go_enter Try.func91, Try.ntmps91
    go_wp2_with (at_builtin; refine wpList_appW 7 rfl rfl (.tmp 5) (.tmp 6) rfl w (.slice (some ⟨w.heap.size, 0, none⟩) 0 0) [] xs rfl rfl H0.out (RB.keep HR.out B0.out) B0.out (by simpa using hl) ?_; intro v1 W1 o1 b1; rw [List.nil_append] at o1; have O1 := Aside0.mk o1; have D1 := Aside0.mk b1; clear o1 b1)
    go_ret
    exact ⟨_, rfl, O1.out, D1.out⟩

end Go.Proofs.Ytmdnokfmlbjbhaa

namespace Go.Proofs.Ytmdnokfmlbjbhaa
open Go.RowKit Go.Proofs.YtmdnokfmlbjbhaaW.PrintWords Go.Proofs.YtmdnokfmlbjbhaaW.PrintMore
set_option linter.unusedVariables false
set_option linter.unusedSimpArgs false

/-- the Writer at block g, whose row was v, has the row v' of xs -/
structure Wrote (base g : Nat) (w : World) (v : Value) (w' : World) (v' : Value) (xs : List Int) : Prop where
  cell : w'.heap[g]? = some (.cells #[v'] 76 (0, 0))
  own : OB w' base v' xs
  upd : Upd (fun k => k = g ∨ v.ownBlock = some k) w w'
  same : v'.ownBlock = v.ownBlock ∨ ∃ b, v'.ownBlock = some b ∧ w.heap.size ≤ b
theorem Wrote.refl {base g : Nat} {w : World} {v : Value} {xs : List Int} (hc : w.heap[g]? = some (.cells #[v] 76 (0, 0))) (ho : OB w base v xs) : Wrote base g w v w v xs :=
  ⟨hc, ho, Upd.refl _ _, .inl rfl⟩
theorem Wrote.trans {base g : Nat} {w w1 w2 : World} {v v1 v2 : Value} {xs ys : List Int} (h : Wrote base g w v w1 v1 xs) (k : Wrote base g w1 v1 w2 v2 ys) : Wrote base g w v w2 v2 ys := by
  refine ⟨k.cell, k.own, h.upd.trans' k.upd (fun i hi => ?_), ?_⟩
  · rcases hi with rfl | hi
    · exact .inl (.inl rfl)
    · rcases h.same with e | ⟨b, e, hb⟩
      · exact .inl (.inr (by rw [← e]; exact hi))
      · rw [e] at hi; injection hi with hi; exact .inr (by omega)
  · rcases k.same with e | ⟨b, e, hb⟩
    · rw [e]; exact h.same
    · exact .inr ⟨b, e, Nat.le_trans h.upd.size hb⟩
theorem Wrote.keeps {base g : Nat} {w w1 : World} {v v1 : Value} {xs : List Int} (h : Wrote base g w v w1 v1 xs) {t : Nat} {o : Obj} (ht : w.heap[t]? = some o) (h1 : t ≠ g) (h2 : v.ownBlock ≠ some t) : w1.heap[t]? = some o ∧ v1.ownBlock ≠ some t :=
  ⟨h.upd.at_ ht (fun e => e.elim h1 h2), fun e => by
    rcases h.same with e1 | ⟨b, e1, hb⟩
    · exact h2 (by rw [← e1]; exact e)
    · rw [e1] at e; injection e with e; have := (Array.getElem?_eq_some_iff.1 ht).1; omega⟩

/-- behind an append onto the Writer's row: its cell is as it was; the store of the new row -/
theorem wrote_append {base g : Nat} {w w1 W1 : World} {v v1 : Value} {xs ys : List Int} (hc : w.heap[g]? = some (.cells #[v] 76 (0, 0))) (ho : OB w base v xs) (hw : Below w.heap.size w w1)
    (o1 : OB W1 base v1 (xs ++ ys)) (g1 : w1.grownBy W1 v.ownBlock) (s1 : v1.ownBlock = v.ownBlock ∨ ∃ b, v1.ownBlock = some b ∧ w1.heap.size ≤ b) :
    W1.cell? ⟨g, 0, none⟩ = some v ∧ W1.frozen? ⟨g, 0, none⟩ = false ∧ Wrote base g w v (W1.setCell ⟨g, 0, none⟩ v1) v1 (xs ++ ys) := by
  have hne : some g ≠ v.ownBlock := own_ne ho hc (by decide)
  have hblk : W1.heap[g]? = some (.cells #[v] 76 (0, 0)) := blk_grown ((hw.block g (blk_lt hc)).trans hc) g1 hne
  have hne1 : some g ≠ v1.ownBlock := own_ne o1 hblk (by decide)
  refine ⟨blk_cell hblk 0, blk_frozen hblk 0, ?_, own_setCell o1 hne1 v1, ?_, ?_⟩
  · have := blk_set hblk 0 v1
    simpa using this
  · exact ((Upd.of_below hw).grown g1 (fun k hk => .inl (.inr hk))).setCell (.inl (.inl rfl)) v1
  · rcases s1 with e | ⟨b, e, hb⟩
    · exact .inl e
    · exact .inr ⟨b, e, Nat.le_trans hw.size hb⟩

set_option maxRecDepth 100000 in
theorem wbyte_calls (base g : Nat) (v : Value) (xs : List Int) (x : Int) (w : World) (hc : w.heap[g]? = some (.cells #[v] 76 (0, 0))) (ho : OB w base v xs) (hb : base ≤ w.heap.size) (hl : xs.length + 1 ≤ 140737488355328) :
    Calls Try.prog 104 #[.pointer (some ⟨g, 0, none⟩), .int .u8 x] w fun e w' => e = .returned (.tuple #[]) ∧ ∃ v', Wrote base g w v w' v' (xs ++ [x]) := by
  have hcell : w.cell? ⟨g, 0, none⟩ = some v := blk_cell hc 0
  have HC := Aside0.mk hc
  have HO0 := Aside0.mk ho
  have HO := Aside0.mk (ho.alloc (.cells #[.int .u8 x] 5))
  have HR := Aside0.mk (C_one w .u8 5 x)
  have B0 := Aside0.mk ((Below.refl w.heap.size w).alloc (Nat.le_refl _) (.cells #[.int .u8 x] 5))
  have hglt := blk_lt hc
  obtain ⟨A, c, rfl, _, hcap⟩ := OB.slice ho
  clear hc ho
  go_enter Try.func104, Try.ntmps104
  go_wp2_with (at_builtin; refine wpList_appB 11 rfl rfl (.tmp 8) (.tmp 10) rfl (v := .slice A xs.length c) (xs := xs) (ys := [x]) rfl rfl HO.out HR.out ?q1 ?q2 ?_; (case q1 => simp; omega); (case q2 => simpa using hl); intro v1 W1 o1 g1 s1; obtain ⟨k1, k2, k3⟩ := wrote_append HC.out HO0.out B0.out o1 g1 s1; have K3 := Aside0.mk k3; obtain ⟨A1, n1, c1, rfl, _⟩ := OB.shape o1; clear o1 g1 s1 k3)
  go_end0
  exact ⟨rfl, _, K3.out⟩

theorem size_calls (n : Int) (w : World) : Calls Try.prog 95 #[.int .i64 n] w fun e w' => e = .returned (.int .i64 (if n < 0 then 0 else if 8 < n then 8 else n)) ∧ w = w' := by
  rcases Int.lt_or_le n 0 with h | h
  · have e1 : ¬ (8 : Int) < n := by omega
    have e2 : n < 8 := by omega
    have e3 : n ≤ 8 := by omega
    rw [if_pos h]
    go_enter Try.func95, Try.ntmps95
    go_wp2
    go_ret
    exact ⟨rfl, rfl⟩
  · rw [if_neg (by omega)]
    by_cases h8 : 8 < n
    · rw [if_pos h8]
      go_enter Try.func95, Try.ntmps95
      go_wp2
      go_ret
      exact ⟨rfl, rfl⟩
    · rw [if_neg h8]
      have e3 : n ≤ 8 := by omega
      have e4 : ¬ n < 0 := by omega
      go_enter Try.func95, Try.ntmps95
      go_wp2
      go_ret
      exact ⟨rfl, rfl⟩

/-- the bytes of a number, the greatest first -/
def beUpto (v : Int) (n k : Nat) : List Int := (List.range k).map fun j : Nat => v / 2 ^ (8 * (n - 1 - j)) % 256
def be (v : Int) (n : Nat) : List Int := beUpto v n n
theorem beUpto_succ (v : Int) (n k : Nat) : beUpto v n (k + 1) = beUpto v n k ++ [v / 2 ^ (8 * (n - 1 - k)) % 256] := by
  unfold beUpto; rw [List.range_succ, List.map_append]; rfl
theorem beUpto_len (v : Int) (n k : Nat) : (beUpto v n k).length = k := by simp [beUpto]
theorem be_len (v : Int) (n : Nat) : (be v n).length = n := beUpto_len v n n
theorem be_bytes (v : Int) (n : Nat) : Bytes (be v n) := by
  intro x hx
  simp only [be, beUpto, List.mem_map, List.mem_range] at hx
  obtain ⟨j, _, rfl⟩ := hx
  omega

set_option maxHeartbeats 1000000 in
set_option maxRecDepth 100000 in
/-- Number, at a size from 0 to 8 -/
theorem wnumber_calls (base g : Nat) (v : Value) (xs : List Int) (x : Int) (n : Nat) (m : Int) (hm : (if m < 0 then 0 else if 8 < m then 8 else m) = (n : Int)) (hn : n ≤ 8) (w : World)
    (hx0 : 0 ≤ x) (hx1 : x < 18446744073709551616) (hc : w.heap[g]? = some (.cells #[v] 76 (0, 0))) (ho : OB w base v xs) (hb : base ≤ w.heap.size) (hl : xs.length + 8 ≤ 140737488355328) :
    Calls Try.prog 101 #[.pointer (some ⟨g, 0, none⟩), .int .u64 x, .int .i64 m] w fun e w' => e = .returned (.tuple #[]) ∧ ∃ v', Wrote base g w v w' v' (xs ++ be x n) := by
  have hs := fun W => size_calls m W
  rw [hm] at hs
  have HS := Aside0.mk hs
  have HC := Aside0.mk (Wrote.refl hc ho)
  have HX := Aside0.mk hx1
  clear hm hs hc ho hx1
  go_enter Try.func101, Try.ntmps101
  go_wp2_with (go_at_call 95; refine (HS.out _).mono ?_; rintro e w1 ⟨rfl, rfl⟩)
  go_loopw [6] (fun v6 wr => ∃ (k : Nat) (v' : Value), k ≤ n ∧ v6 = .int .i64 ((n : Int) - 1 - k) ∧ Aside0 (Wrote base g w v wr v' (xs ++ beUpto x n k))) (fun v6 _ => (intOf v6 + 1).toNat)
  case atStart => exact ⟨0, v, by omega, by simp, ⟨by simpa [beUpto] using HC.out⟩⟩
  case round =>
    obtain ⟨k, v', hk, rfl, HW⟩ := hrel
    by_cases hlt : k < n
    · obtain ⟨j, hj⟩ : ∃ j : Nat, n - 1 - k = j := ⟨_, rfl⟩
      rw [show ((n : Int) - 1 - (k : Int)) = (j : Int) from by omega]
      have hj7 : (j : Int) ≤ 7 := by omega
      have hj0 : (0 : Int) ≤ (j : Int) := by omega
      have HJ := Aside0.mk hj
      have hkn : (k : Int) < n := by omega
      have hk' : k + 1 ≤ n := hlt
      have Hk' := Aside0.mk hk'
      have hlen : (xs ++ beUpto x n k).length + 1 ≤ 140737488355328 := by rw [List.length_append, beUpto_len]; omega
      have HB := Aside0.mk (wbyte_calls base g v' (xs ++ beUpto x n k) (x / 2 ^ (8 * j) % 256) wr HW.out.cell HW.out.own (Nat.le_trans hb HW.out.upd.size) hlen)
      clear hj hlt hk hk' hlen
      go_wp2_with (go_at_call 104; refine HB.out.mono ?_; rintro e w1 ⟨rfl, v1, hw1⟩; have HW1 := Aside0.mk (HW.out.trans hw1); clear hw1)
      go_roundw
      case rel => exact ⟨k + 1, v1, Hk'.out, by rw [Value.int.injEq]; exact ⟨rfl, by have := HJ.out; have := Hk'.out; omega⟩, ⟨by have := HW1.out; rw [beUpto_succ, HJ.out, ← List.append_assoc]; exact this⟩⟩
      case measure => simp [intOf]
    · obtain rfl : n = k := by omega
      have h0 : ((n : Int) - 1 - (n : Int)) < 0 := by omega
      have h1 : ¬ (0 : Int) ≤ ((n : Int) - 1 - (n : Int)) := by omega
      go_wp2
      go_end0
      exact ⟨rfl, v', HW.out⟩
end Go.Proofs.Ytmdnokfmlbjbhaa

namespace Go.Proofs.Ytmdnokfmlbjbhaa
open Go.RowKit Go.Proofs.YtmdnokfmlbjbhaaW.PrintWords Go.Proofs.YtmdnokfmlbjbhaaW.PrintMore
set_option linter.unusedVariables false
set_option linter.unusedSimpArgs false

set_option maxRecDepth 100000 in
theorem wint_calls (base g : Nat) (v : Value) (xs : List Int) (x : Int) (w : World) (hc : w.heap[g]? = some (.cells #[v] 76 (0, 0))) (ho : OB w base v xs) (hb : base ≤ w.heap.size) (hl : xs.length + 8 ≤ 140737488355328) :
    Calls Try.prog 105 #[.pointer (some ⟨g, 0, none⟩), .int .i64 x] w fun e w' => e = .returned (.tuple #[]) ∧ ∃ v', Wrote base g w v w' v' (xs ++ be (x % 18446744073709551616) 8) := by
  have H := Aside0.mk (wnumber_calls base g v xs (x % 18446744073709551616) 8 8 (by decide) (by decide) w (by omega) (by omega) hc ho hb hl)
  clear hc ho
  go_enter Try.func105, Try.ntmps105
  go_wp2_with (go_at_call 101; refine H.out.mono ?_; rintro e w1 ⟨rfl, v1, hw1⟩; have HW1 := Aside0.mk hw1; clear hw1)
  go_end0
  exact ⟨rfl, v1, HW1.out⟩

set_option maxRecDepth 100000 in
theorem wbytes_calls (base g : Nat) (v : Value) (xs ys : List Int) (A : Option Addr) (c : Nat) (w : World) (hc : w.heap[g]? = some (.cells #[v] 76 (0, 0))) (ho : OB w base v xs) (hb : base ≤ w.heap.size)
    (hy : RB w A ys) (hyg : ∀ ad, A = some ad → ad.block ≠ g ∧ v.ownBlock ≠ some ad.block) (hl : xs.length + 4 + ys.length + 8 ≤ 140737488355328) :
    Calls Try.prog 90 #[.pointer (some ⟨g, 0, none⟩), .slice A ys.length c] w fun e w' => e = .returned (.tuple #[]) ∧ ∃ v', Wrote base g w v w' v' (xs ++ be ys.length 4 ++ ys) := by
  have H := Aside0.mk (wnumber_calls base g v xs (ys.length : Int) 4 4 (by decide) (by decide) w (by omega) (by omega) hc ho hb (by omega))
  have HY := Aside0.mk hy
  have HG := Aside0.mk hyg
  have h0 : (0 : Int) ≤ (ys.length : Int) := by omega
  have h1 : (ys.length : Int) ≤ 140737488355328 := by omega
  clear hc ho hy hyg
  go_enter Try.func90, Try.ntmps90
  go_wp2_with fail
  refine H.out.mono ?_
  rintro e w1 ⟨rfl, v1, hw1⟩
  have hcell : w1.cell? ⟨g, 0, none⟩ = some v1 := blk_cell hw1.cell 0
  have hby : RB w1 A ys := by
    rcases Nat.eq_zero_or_pos ys.length with hz | hp
    · rw [List.eq_nil_of_length_eq_zero hz]; exact C_int.2 ⟨rfl, by simp, fun h => absurd h (by simp)⟩
    · obtain ⟨ad, e, hlt⟩ := C_lt HY.out hp
      exact C_move HY.out (fun ad' e' => hw1.upd.block _ (by rw [e] at e'; injection e' with e'; rw [← e']; exact hlt) (fun k => k.elim (HG.out ad' e').1 (HG.out ad' e').2))
  have HBY := Aside0.mk hby
  obtain ⟨A1, n1, c1, rfl, _⟩ := OB.shape hw1.own
  have HW1 := Aside0.mk hw1
  have hb1 := Aside0.mk (Nat.le_trans hb hw1.upd.size)
  clear hby hw1
  go_wp2_with (at_builtin; refine wpList_appB 15 rfl rfl (.tmp 13) (.tmp 14) rfl (v := .slice A1 n1 c1) (xs := xs ++ be ys.length 4) (ys := ys) rfl rfl HW1.out.own HBY.out hb1.out ?q2 ?_; (case q2 => rw [List.length_append, be_len]; omega); intro v2 W1 o2 g2 s2; obtain ⟨k1, k2, k3⟩ := wrote_append HW1.out.cell HW1.out.own (Below.refl _ _) o2 g2 s2; have K3 := Aside0.mk (HW1.out.trans k3); obtain ⟨A2, n2, c2, rfl, _⟩ := OB.shape o2; clear o2 g2 s2 k3)
  go_end0
  exact ⟨rfl, _, K3.out⟩

set_option maxRecDepth 100000 in
theorem wflag_calls (base g : Nat) (v : Value) (xs : List Int) (b : Bool) (w : World) (hc : w.heap[g]? = some (.cells #[v] 76 (0, 0))) (ho : OB w base v xs) (hb : base ≤ w.heap.size) (hl : xs.length + 1 ≤ 140737488355328) :
    Calls Try.prog 107 #[.pointer (some ⟨g, 0, none⟩), .bool b] w fun e w' => e = .returned (.tuple #[]) ∧ ∃ v', Wrote base g w v w' v' (xs ++ [if b then 1 else 0]) := by
  have H1 := Aside0.mk (wbyte_calls base g v xs 1 w hc ho hb hl)
  have H0 := Aside0.mk (wbyte_calls base g v xs 0 w hc ho hb hl)
  clear hc ho
  cases b with
  | true =>
    go_enter Try.func107, Try.ntmps107
    go_wp2_with (go_at_call 104; refine H1.out.mono ?_; rintro e w1 ⟨rfl, v1, hw1⟩; have HW1 := Aside0.mk hw1; clear hw1)
    exact bodyPost_ret (results_none rfl _ _ _) rfl ⟨rfl, v1, HW1.out⟩
  | false =>
    go_enter Try.func107, Try.ntmps107
    go_wp2_with (go_at_call 104; refine H0.out.mono ?_; rintro e w1 ⟨rfl, v1, hw1⟩; have HW1 := Aside0.mk hw1; clear hw1)
    go_end0
    exact ⟨rfl, v1, HW1.out⟩

set_option maxRecDepth 100000 in
theorem wout_calls (base g : Nat) (v : Value) (xs : List Int) (w : World) (hc : w.heap[g]? = some (.cells #[v] 76 (0, 0))) (ho : OB w base v xs) (hl : xs.length ≤ 140737488355328) :
    Calls Try.prog 53 #[.pointer (some ⟨g, 0, none⟩)] w fun e w' => ∃ u, e = .returned u ∧ OB w' w.heap.size u xs ∧ Below w.heap.size w w' := by
  have hcell : w.cell? ⟨g, 0, none⟩ = some v := blk_cell hc 0
  obtain ⟨A, c, rfl, hr, _⟩ := OB.slice ho
  have H := Aside0.mk (clone_calls A c xs w hr hl)
  clear hc ho hr
  go_enter Try.func53, Try.ntmps53
  go_wp2_with (go_at_call 91; refine H.out.mono ?_; rintro e w1 ⟨u, rfl, ou, bu⟩; have OU := Aside0.mk ou; have BU := Aside0.mk bu; clear ou bu)
  go_ret
  exact ⟨_, rfl, OU.out, BU.out⟩
end Go.Proofs.Ytmdnokfmlbjbhaa

namespace Go.Proofs.Ytmdnokfmlbjbhaa
open Go.RowKit Go.Proofs.YtmdnokfmlbjbhaaW.PrintWords
set_option linter.unusedVariables false
set_option linter.unusedSimpArgs false

def nib (i k : Nat) : Int := Crc.U (Crc.bsteps k (BitVec.ofNat 32 i))
def ntab (i : Nat) : Array Value := ((List.range 16).map fun j => Value.int .u32 (if j < i then nib j 4 else 0)).toArray

theorem ntab_size (i : Nat) : (ntab i).size = 16 := by simp [ntab]
theorem ntab_get (i j : Nat) (h : j < 16) : (ntab i)[j]? = some (.int .u32 (if j < i then nib j 4 else 0)) := by
  simp [ntab, h]
theorem ntab_get16 (j : Nat) (h : j < 16) : (ntab 16)[j]? = some (.int .u32 (nib j 4)) := by
  rw [ntab_get 16 j h, if_pos h]
theorem ntab_zero : ntab 0 = #[.int .u32 0, .int .u32 0, .int .u32 0, .int .u32 0, .int .u32 0, .int .u32 0, .int .u32 0, .int .u32 0, .int .u32 0, .int .u32 0, .int .u32 0, .int .u32 0, .int .u32 0, .int .u32 0, .int .u32 0, .int .u32 0] := by
  rfl
theorem ntab_succ (i : Nat) (h : i < 16) : (ntab i).setIfInBounds i (.int .u32 (nib i 4)) = ntab (i + 1) := by
  apply Array.ext_getElem?
  intro j
  rw [Array.getElem?_setIfInBounds]
  by_cases hj : j < 16
  · rw [ntab_get _ _ hj, ntab_get _ _ hj]
    by_cases e : i = j
    · subst e; simp [ntab_size, h]
    · simp [e]
      by_cases h1 : j < i
      · rw [if_pos h1, if_pos (by omega)]
      · rw [if_neg h1, if_neg (by omega)]
  · have e : i ≠ j := by omega
    rw [if_neg e, Array.getElem?_eq_none (by rw [ntab_size]; omega), Array.getElem?_eq_none (by rw [ntab_size]; omega)]
theorem nib_zero (i : Nat) (h : i < 16) : (i : Int) = nib i 0 := by
  unfold nib; simp only [Crc.bsteps]; unfold Crc.U; rw [BitVec.toNat_ofNat]; omega
theorem nib_succ (i k : Nat) : Crc.nstep (nib i k) = nib i (k + 1) := by
  unfold nib; rw [Crc.nstep_U]; rfl
theorem nib_range (i k : Nat) : 0 ≤ nib i k ∧ nib i k < 4294967296 := ⟨Crc.U_nonneg _, Crc.U_lt _⟩

theorem below_setRow {B : Nat} {w : World} {g : Nat} (h : B ≤ g) (cs : Array Value) : Below B w (w.setRow g cs) := by
  unfold World.setRow
  exact ⟨rfl, rfl, rfl, by simp, fun k hk => by simp only [Array.getElem?_modify]; rw [if_neg (by omega)]⟩
theorem info136 : (Try.prog.info? 136).map (·.size) = some (ntab 16).size := by rw [ntab_size]; kernel_rfl
theorem ntab_one : (ntab 16).all (·.oneCell') = true := by kernel_rfl

set_option maxHeartbeats 400000 in
set_option maxRecDepth 100000 in
theorem nibbles_calls (w : World) :
    Calls Try.prog 89 #[] w
      fun e w' => e = .returned (.agg (ntab 16)) ∧ Below w.heap.size w w' := by
  go_enter Try.func89, Try.ntmps89
  go_wp2
  go_loopw [2] (fun v wr => ∃ i : Nat, i ≤ 16 ∧ v = .int .i64 i ∧ wr.heap[w.heap.size]? = some (.cells (ntab i) 136 (0, 0)) ∧ Below w.heap.size w wr) (fun v _ => 16 - (intOf v).toNat)
  case atStart =>
    refine ⟨0, by omega, rfl, ?_, (Below.refl _ _).alloc (Nat.le_refl _) _⟩
    rw [ntab_zero]; exact heap_alloc_new _ _
  case round =>
    obtain ⟨i, hi, rfl, hb, hB⟩ := hrel
    by_cases hlt : i < 16
    · have hc := (blk_cell hb i).trans (ntab_get i i hlt)
      have hf := blk_frozen hb i
      have h0 : (0 : Int) ≤ i := by omega
      have h1 : (i : Int) < 16 := by omega
      go_wp2
      have hlt2 := blk_lt hb
      have hb1 := blk_set hb i (.int .u32 (i : Int))
      have hB1 := hB.setCell (p := ⟨w.heap.size, i, none⟩) (Nat.le_refl _) (.int .u32 (i : Int))
      clear hc hf; obtain ⟨wo, rfl⟩ : ∃ wo : World, wo = wr := ⟨_, rfl⟩
      generalize wo.setCell { block := w.heap.size, off := i } (Value.int IntKind.u32 ↑i) = w1 at *
      go_loopw [9] (fun v w2 => ∃ k : Nat, k ≤ 4 ∧ v = .int .i64 k ∧ w2.heap[w.heap.size]? = some (.cells ((ntab i).setIfInBounds i (.int .u32 (nib i k))) 136 (0, 0)) ∧ Below w.heap.size w w2) (fun v _ => 4 - (intOf v).toNat)
      case atStart => exact ⟨0, by omega, rfl, by rw [← nib_zero i hlt]; exact hb1, hB1⟩
      case round =>
        obtain ⟨k, hk, rfl, hb2, hB2⟩ := hrel
        by_cases hlt' : k < 4
        · go_wp2
          have hc : wr.cell? ⟨w.heap.size, i, none⟩ = some (.int .u32 (nib i k)) := by rw [blk_cell hb2 i]; simp [ntab_size, hlt]
          have hf := blk_frozen hb2 i
          have Hn := Lib.hid (nib_succ i k)
          have hx := nib_range i k
          generalize nib i k = x at *
          obtain ⟨hx0, hx1⟩ := hx
          have hb3 := blk_set hb2 i (.int .u32 (nib i (k + 1)))
          have Hb3 := Lib.hid hb3
          clear hb3 hb2
          go_region
          go_wp2
          refine ⟨⟨k + 1, by omega, by go_num, ?_, ?_⟩, by simp [intOf]; omega⟩
          · have := Hb3.out
            rw [← Hn.out] at this
            simp only [Array.setIfInBounds_setIfInBounds] at this
            rw [← Hn.out]
            exact this
          · exact (hB2.setCell (p := ⟨w.heap.size, i, none⟩) (Nat.le_refl _) _).drew
        · have hk4 : k = 4 := by omega
          subst hk4
          rw [ntab_succ i hlt] at hb2
          go_wp2
          go_roundw
          case rel => exact ⟨i + 1, by omega, by go_num, hb2, hB2⟩
          case measure => simp [intOf]; omega
    · have hi16 : i = 16 := by omega
      subst hi16
      go_wp2_with (first | (refine wpList_load_row rfl 136 _ rfl w.heap.size rfl 136 (ntab 16) (0, 0) _ hb Try.underlying136 rfl info136 ?_) | (refine wpList_store_row rfl 136 _ _ rfl w.heap.size (ntab 16) rfl rfl 136 (ntab 16) hb info136 rfl ntab_one ?_))
      have hb' := setRow_heap wr w.heap.size (ntab 16) (ntab 16) 136 (0, 0) hb
      exact bodyPost_ret (results_cell_row rfl _ _ w.heap.size 136 (ntab 16) (0, 0) _ rfl hb' Try.underlying136 rfl info136) rfl ⟨rfl, hB.trans (below_setRow (Nat.le_refl _) _)⟩
end Go.Proofs.Ytmdnokfmlbjbhaa

namespace Go.Proofs.Ytmdnokfmlbjbhaa
open Go.RowKit Go.Proofs.YtmdnokfmlbjbhaaW.PrintWords
set_option linter.unusedVariables false
set_option linter.unusedSimpArgs false

theorem U_nib (x : BitVec 32) : ∃ (j : Nat) (t : Int), j < 16 ∧ bits BinOp.and .u32 (Crc.U x) 15 = (j : Int) ∧ (∀ (w : World) (B : Nat), w.heap[B]? = some (.cells (ntab 16) 136 (0, 0)) → w.cell? ⟨B, j, none⟩ = some (.int .u32 t)) ∧
    bits BinOp.xor .u32 (Crc.U x / 16) t = Crc.U (Crc.bsteps 4 x) := by
  have hm : (x &&& 15#32).toNat = x.toNat % 16 := by
    rw [BitVec.toNat_and]
    show x.toNat &&& 15 = _
    rw [show (15 : Nat) = 2 ^ 4 - 1 from rfl, Nat.and_two_pow_sub_one_eq_mod]
  refine ⟨(x &&& 15#32).toNat, nib (x &&& 15#32).toNat 4, by omega, Crc.and_U x 15#32, fun w B h => ?_, ?_⟩
  · rw [blk_cell h]
    exact ntab_get16 _ (by omega)
  · have h2 : Crc.U x / (16 : Int) = Crc.U (x >>> 4) := Crc.shr_U x 4
    have h3 : BitVec.ofNat 32 (x &&& 15#32).toNat = x &&& 15#32 := by simp
    unfold nib
    rw [h2, h3, Crc.xor_U, ← Crc.nibble]

theorem byte_step (y : BitVec 32) (c : Int) (h0 : 0 ≤ c) (h1 : c < 256) : ∃ y1 y2 : BitVec 32, bits BinOp.xor .u32 (Crc.U y) c = Crc.U y1 ∧ y2 = Crc.bsteps 4 y1 ∧ Crc.bsteps 4 y2 = Crc.byte y c := by
  refine ⟨y ^^^ BitVec.ofInt 32 c, _, ?_, rfl, ?_⟩
  · have := Crc.xor_U y (BitVec.ofInt 32 c)
    rwa [Crc.U_ofInt' h0 (by omega)] at this
  · unfold Crc.byte; rw [← Crc.bsteps_add]

theorem fold_take (s : BitVec 32) (xs : List Int) (k : Nat) (h : k < xs.length) : Crc.fold s (xs.take (k + 1)) = Crc.byte (Crc.fold s (xs.take k)) (rd xs k) := by
  rw [take_succ_rd xs k h, Crc.fold_append]; rfl

theorem not_U (x : BitVec 32) : bits BinOp.xor IntKind.u32 IntKind.u32.max (Crc.U x) = Crc.U (~~~ x) := by
  have h : IntKind.u32.max = Crc.U (BitVec.allOnes 32) := by decide
  rw [h, Crc.xor_U]
  congr 1

theorem run_row {P : Program} {ty : TypeId} {cells : Array Value} (hi : (P.info? ty).map (·.size) = some cells.size) (a : Addr) (w w' : World) (h : (storeVar ty a (.agg cells)).run P w = .ok () w') : (storeCells a cells.toList).run P w = .ok () w' := by
  cases hq : P.info? ty with
  | none => simp [hq] at hi
  | some i =>
    have hs : cells.size = i.size := by simp [hq] at hi; omega
    simpa [storeVar, sizeOf, typeInfo, hq, Value.cells, hs] using h

set_option maxHeartbeats 400000 in
set_option maxRecDepth 100000 in
theorem more_calls (s : BitVec 32) (A : Option Addr) (c : Nat) (xs : List Int) (w : World) (hr : Kd.C (Kd.int .u8) w A xs.length xs) (hb : Bytes xs) :
    Calls Try.prog 25 #[.int .u32 (Crc.U s), .slice A xs.length c] w
      fun e w' => e = .returned (.int .u32 (Crc.U (Crc.more s xs))) ∧ Below w.heap.size w w' := by
  have HR := Aside0.mk hr
  have hmax := Kd.C_max hr
  have HB := Aside0.mk hb
  clear hr hb
  have hx0 := Crc.U_nonneg s
  have hx1 := Crc.U_lt s
  have HM : Aside0 (Crc.U (Crc.more s xs) = Crc.U (~~~ Crc.fold (~~~ s) xs)) := ⟨rfl⟩
  generalize Crc.U (Crc.more s xs) = res at *
  have hT : (ntab 16).size = 16 := ntab_size _
  have hone := ntab_one
  have hinf := info136
  have HT : Aside0 (ntab 16 = ntab 16) := ⟨rfl⟩
  have hnc := fun W => nibbles_calls W
  generalize hTe : ntab 16 = T at hT hone hinf hnc
  have HTe := Aside0.mk hTe
  clear hTe
  have Hnc := Aside0.mk hnc
  have HT2 := Aside0.mk hT
  have Hone := Aside0.mk hone
  have Hinf := Aside0.mk hinf
  clear hnc hT hone hinf HT
  go_enter Try.func25, Try.ntmps25
  go_wp2_with fail
  refine (Hnc.out _).mono ?_
  rintro e w1 ⟨rfl, hB⟩
  obtain ⟨W, hst, hblk, hB2⟩ : ∃ W, Sem.run Try.prog (storeCells { block := w1.heap.size, off := 0 } T.toList) (w1.alloc (Obj.cells #[Value.int IntKind.u32 0, Value.int IntKind.u32 0, Value.int IntKind.u32 0, Value.int IntKind.u32 0, Value.int IntKind.u32 0, Value.int IntKind.u32 0, Value.int IntKind.u32 0, Value.int IntKind.u32 0, Value.int IntKind.u32 0, Value.int IntKind.u32 0, Value.int IntKind.u32 0, Value.int IntKind.u32 0, Value.int IntKind.u32 0, Value.int IntKind.u32 0, Value.int IntKind.u32 0, Value.int IntKind.u32 0] 136)) = .ok () W ∧ W.heap[w1.heap.size]? = some (.cells T 136 (0, 0)) ∧ Below w.heap.size w W := by
    refine ⟨_, ?_, setRow_heap (w1.alloc (Obj.cells #[Value.int IntKind.u32 0, Value.int IntKind.u32 0, Value.int IntKind.u32 0, Value.int IntKind.u32 0, Value.int IntKind.u32 0, Value.int IntKind.u32 0, Value.int IntKind.u32 0, Value.int IntKind.u32 0, Value.int IntKind.u32 0, Value.int IntKind.u32 0, Value.int IntKind.u32 0, Value.int IntKind.u32 0, Value.int IntKind.u32 0, Value.int IntKind.u32 0, Value.int IntKind.u32 0, Value.int IntKind.u32 0] 136)) w1.heap.size _ T 136 (0, 0) (heap_alloc_new _ _), (hB.alloc hB.size _).trans (below_setRow hB.size _)⟩
    have := run_storeVar_row (P := Try.prog) (w1.alloc (Obj.cells #[Value.int IntKind.u32 0, Value.int IntKind.u32 0, Value.int IntKind.u32 0, Value.int IntKind.u32 0, Value.int IntKind.u32 0, Value.int IntKind.u32 0, Value.int IntKind.u32 0, Value.int IntKind.u32 0, Value.int IntKind.u32 0, Value.int IntKind.u32 0, Value.int IntKind.u32 0, Value.int IntKind.u32 0, Value.int IntKind.u32 0, Value.int IntKind.u32 0, Value.int IntKind.u32 0, Value.int IntKind.u32 0] 136)) w1.heap.size 136 136 (#[Value.int IntKind.u32 0, Value.int IntKind.u32 0, Value.int IntKind.u32 0, Value.int IntKind.u32 0, Value.int IntKind.u32 0, Value.int IntKind.u32 0, Value.int IntKind.u32 0, Value.int IntKind.u32 0, Value.int IntKind.u32 0, Value.int IntKind.u32 0, Value.int IntKind.u32 0, Value.int IntKind.u32 0, Value.int IntKind.u32 0, Value.int IntKind.u32 0, Value.int IntKind.u32 0, Value.int IntKind.u32 0]) T (heap_alloc_new _ _) Hinf.out HT2.out.symm Hone.out
    exact run_row Hinf.out _ _ _ this
  have hb0 : w.heap.size ≤ w1.heap.size := hB.size
  have hsg : IntKind.u32.signed = false := rfl
  have hnot : bits BinOp.xor IntKind.u32 IntKind.u32.max (Crc.U s) = Crc.U (~~~ s) := not_U s
  clear hx0 hx1; have hT := HT2.out
  go_wp2
  clear hst hnot hT
  generalize w1.heap.size = g at *
  go_loopw [0, 13] (fun v0 v13 wr => ∃ (k : Nat) (y : BitVec 32), k ≤ xs.length ∧ v13 = .int .i64 k ∧ v0 = .int .u32 (Crc.U y) ∧ Aside0 (y = Crc.fold (~~~ s) (xs.take k)) ∧ wr.heap[g]? = some (.cells T 136 (0, 0)) ∧ Below w.heap.size w wr) (fun _ v _ => xs.length - (intOf v).toNat)
  case atStart => exact ⟨0, ~~~ s, by omega, rfl, rfl, ⟨rfl⟩, hblk, hB2⟩
  case round =>
    obtain ⟨k, y, hk, rfl, rfl, HY, hblk, hB⟩ := hrel
    by_cases hlt : k < xs.length
    · have hbx := HB.out.at_ (k : Int)
      obtain ⟨y1, y2, e1, e2, e3⟩ := byte_step y (rd xs k) hbx.1 hbx.2
      obtain ⟨j1, t1, hj1, ea1, ht1, e4⟩ := U_nib y1
      obtain ⟨j2, t2, hj2, ea2, ht2, e5⟩ := U_nib y2
      rw [← e2] at e4
      rw [e3] at e5
      rw [HTe.out] at ht1 ht2
      have hc1 := ht1 wr g hblk
      have hc2 := ht2 wr g hblk
      clear ht1 ht2
      have E3 := Aside0.mk ((fold_take (~~~ s) xs k hlt).trans (by rw [← HY.out]))
      generalize Crc.byte y (rd xs k) = y3 at *
      have E2 := Aside0.mk e2
      clear e2 e3
      have b1 := Crc.U_lt y1; have b1' := Crc.U_nonneg y1
      have b2 := Crc.U_lt y2; have b2' := Crc.U_nonneg y2
      have b3 := Crc.U_lt y3; have b3' := Crc.U_nonneg y3
      have b0 := Crc.U_lt y; have b0' := Crc.U_nonneg y
      obtain ⟨ad, hA, hcx⟩ := Kd.at_int (Kd.C_below HR.out ⟨hB.os, hB.tape, hB.output, hB.size, hB.block⟩) (k : Int) (by omega) (by omega)
      subst hA
      rw [Int.toNat_natCast] at hcx
      obtain ⟨hb1, hb2⟩ := hbx
      have g1 : (0 : Int) ≤ (j1 : Int) := by omega
      have g2 : (0 : Int) ≤ (j2 : Int) := by omega
      have g3 : (j1 : Int) < 16 := by omega
      have g4 : (j2 : Int) < 16 := by omega
      go_wp2
      go_roundw
      case rel => exact ⟨k + 1, y3, by omega, by go_num, rfl, ⟨E3.out.symm⟩, hblk, hB⟩
      case measure => simp [intOf]; omega
    · have Hke : Aside0 (k = xs.length) := ⟨by omega⟩
      have hnot : bits BinOp.xor IntKind.u32 IntKind.u32.max (Crc.U y) = Crc.U (~~~ y) := not_U y
      go_wp2
      go_ret
      refine ⟨?_, hB⟩
      rw [HM.out, HY.out, Hke.out, List.take_length]; rfl

theorem sum_calls (A : Option Addr) (c : Nat) (xs : List Int) (w : World) (hr : Kd.C (Kd.int .u8) w A xs.length xs) (hb : Bytes xs) :
    Calls Try.prog 26 #[.slice A xs.length c] w
      fun e w' => e = .returned (.int .u32 (Crc.U (Crc.sum xs))) ∧ Below w.heap.size w w' := by
  have Hc := Aside0.mk (more_calls 0#32 A c xs w hr hb)
  have h0 : Crc.U 0#32 = 0 := rfl
  rw [h0] at Hc
  clear hr hb h0
  go_enter Try.func26, Try.ntmps26
  go_wp2_with (go_at_call 25; refine Hc.out.mono ?_; rintro e w1 ⟨rfl, hB⟩)
  go_ret
  exact ⟨rfl, hB⟩

theorem sum_123456789 : Crc.U (Crc.sum [49, 50, 51, 52, 53, 54, 55, 56, 57]) = 3421780262 := by decide +kernel

set_option maxRecDepth 100000 in
theorem speaks02_calls (w : World) :
    Calls Try.prog 24 #[] w fun e w' => e = .returned (.bool true) ∧ Below w.heap.size w w' := by
  have hcv := fun (w : World) (C : Array Value) (n c : Nat) => Lib.run_convert_bytes_const (P := Try.prog) w 22 5 C n c Try.underlying22 Try.underlying5
  go_enter Try.func24, Try.ntmps24
  go_wp2_with (go_at_call 26; refine (sum_calls _ _ [49, 50, 51, 52, 53, 54, 55, 56, 57] _ (C_lit w .u8 5 [49, 50, 51, 52, 53, 54, 55, 56, 57] _ (by decide)) (by unfold Bytes; decide)).mono ?_; rw [sum_123456789]; rintro e w1 ⟨rfl, hB⟩)
  go_ret
  exact ⟨rfl, ((Below.refl _ _).alloc (Nat.le_refl _) _).trans (hB.mono (by simp))⟩
end Go.Proofs.Ytmdnokfmlbjbhaa

namespace Go.Proofs.Ytmdnokfmlbjbhaa
open Go.RowKit Go.Proofs.YtmdnokfmlbjbhaaW.PrintWords
set_option linter.unusedVariables false
set_option linter.unusedSimpArgs false

/-- append(s, make([]byte, m)...) -/
theorem wpList_appZ {ops : Array Oper} {rest : List Oper} {o : Oper} {a : Act} {Q : Exit → Act → World → Prop} {W : World} (N : Tmp) (hd : o.dst = some N) (hgd : o.guard = none) (s x : Operand)
    (ho : o.op = .call { callee := .builtin .append, args := #[s, x], argTypes := #[22, 3] })
    {base : Nat} {v : Value} {xs : List Int} {m : Nat} (hs : a.eval s = v) (hx : a.eval x = .int .i64 (m : Int))
    (HO : OB W base v xs) (hbase : base ≤ W.heap.size) (hl : xs.length + m ≤ 140737488355328)
    (h : ∀ v1 W1, W1.ownsRow base 5 1 v1 (xs.length + m) (nums .u8 (xs ++ List.replicate m 0)) → W.grownBy W1 v.ownBlock → wpList Try.prog ops Q rest (a.put (some N) v1) W1) :
    wpList Try.prog ops Q (o :: rest) a W := by
  obtain ⟨i0, hi, hzz⟩ := Option.map_eq_some_iff.1 info5'
  simp only [Prod.mk.injEq] at hzz
  obtain ⟨hz0, hz1, hz2⟩ := hzz
  have hzc : (Builtin.zeroCells (Value.cells (.int .u8 0)) m).toList = nums .u8 (List.replicate m 0) := by
    simp [Builtin.zeroCells, Value.cells, nums, Nat.mod_one]
    apply List.ext_getElem
    · simp
    · intro j h1 h2; simp
  obtain ⟨v1, w1, hr, h1, hg, _⟩ := run_append_zeros (P := Try.prog) W base 22 3 o.type 5 i0 (.int .u8 0) 1 1 Try.underlying22 (k := .i64) Try.underlying3 hi hz0 hz1 hz2 rfl (by omega) (by omega) v xs.length (nums .u8 xs) HO .i64 m
    (by rw [hzc]; intro u hu; simp only [nums, List.mem_map] at hu; obtain ⟨q, _, rfl⟩ := hu; rfl) (by omega) hbase
  rw [hzc, ← nums_append] at h1
  rw [← hd] at h
  refine wpList_plain hgd fun K hK => ?_
  unfold Oper.wp execOp
  simp only [ho, resolve, invoke, builtin, Sem.run_bind, Sem.run_pure, Result.andThen_ok, List.map_toArray, List.map_cons, List.map_nil, hs, hx, hr]
  exact hK _ _ (h v1 w1 h1 hg)

theorem own_cap {w : World} {base n c size : Nat} {e : TypeId} {A : Option Addr} {xs : List Value} (h : w.ownsRow base e size (.slice A n c) n xs) : n ≤ c := by
  rcases h.2 with ⟨he, h0⟩ | ⟨g, cap, cur, he, hb, hh, hnc, _⟩
  · omega
  · injection he with _ _ hc; omega

set_option maxRecDepth 100000 in
theorem grow_calls (n : Nat) (w : World) (hl : n ≤ 140737488355328) :
    Calls Try.prog 139 #[.slice none 0 0, .int .i64 (n : Int)] w fun e w' => ∃ v, e = .returned v ∧ OB w' w.heap.size v [] ∧ Below w.heap.size w w' := by
  obtain ⟨i0, hi, hzz⟩ := Option.map_eq_some_iff.1 info5'
  have hcut1 := cut_to (P := Try.prog) 22 5 .i64 Try.underlying22 hi none 0 0 0 (by omega) (by omega) (by omega)
  have HI := Aside0.mk hi
  clear hi hzz
  by_cases h0 : n = 0
  · subst h0
    go_enter Try.func139, Try.ntmps139
    go_wp2
    go_ret
    exact ⟨_, rfl, OB.nil _ _, Below.refl _ _⟩
  · have hp : (0 : Int) < (n : Int) := by omega
    have hp0 : ¬ (n : Int) < 0 := by omega
    have HO := Aside0.mk (OB.nil w w.heap.size)
    go_enter Try.func139, Try.ntmps139
    go_wp2_with (at_builtin; refine wpList_appZ 22 rfl rfl (.tmp 20) (.tmp 21) rfl (v := .slice none 0 0) (xs := []) (m := n) rfl rfl HO.out (Nat.le_refl _) (by simpa using hl) ?_; intro v1 W1 o1 g1; rw [List.nil_append, show (([] : List Int).length + n) = n from by simp] at o1; obtain ⟨A1, c1, rfl⟩ := own_slice o1; have O1 := Aside0.mk (own_take o1 (Nat.zero_le _)); have hcut2 := cut_to (P := Try.prog) 22 5 .i64 Try.underlying22 HI.out A1 n c1 0 (by omega) (by omega) (own_cap o1); have G1 := Aside0.mk ((Below.refl w.heap.size w).grown g1 (Nat.le_refl _) (by simp [Value.ownBlock])); clear o1 g1)
    go_ret
    exact ⟨.slice A1 0 c1, rfl, by simpa [OB, nums] using O1.out, G1.out⟩

/-- slices.Concat of two -/
theorem concat2_calls (h n0 c0 n1 c1 : Nat) (A0 A1 : Option Addr) (fr : Nat × Nat) (x0 x1 : List Int) (w : World) (hb : w.heap[h]? = some (.cells #[.slice A0 n0 c0, .slice A1 n1 c1] 22 fr))
    (h0 : Kd.C (Kd.int .u8) w A0 n0 x0) (h1 : Kd.C (Kd.int .u8) w A1 n1 x1) (hl : n0 + n1 ≤ 140737488355328) :
    Calls Try.prog 102 #[.slice (some ⟨h, 0, none⟩) 2 2] w fun e w' => ∃ v, e = .returned v ∧ OB w' w.heap.size v (x0 ++ x1) ∧ Below w.heap.size w w' := by
  have l0 := h0.1; have l1 := h1.1
  subst l0 l1
  have hc0 : w.cell? ⟨h, 0, none⟩ = some (.slice A0 x0.length c0) := by rw [cell_of_row w h 0 _ 22 fr hb]; rfl
  have hc1 : w.cell? ⟨h, 1, none⟩ = some (.slice A1 x1.length c1) := by rw [cell_of_row w h 1 _ 22 fr hb]; rfl
  have HB := Aside0.mk hb
  have H0 := Aside0.mk h0
  have H1 := Aside0.mk h1
  have HL := Aside0.mk hl
  have b0 : (x0.length : Int) ≤ 140737488355328 := by omega
  have b1 : (x0.length : Int) + (x1.length : Int) ≤ 140737488355328 := by omega
  clear hb h0 h1 hl
  go_enter Try.func102, Try.ntmps102
  go_wp2

  go_loop [3, 11] (fun v3 v11 => (v11 = .int .i64 0 ∧ v3 = .int .i64 0) ∨ (v11 = .int .i64 1 ∧ v3 = .int .i64 (x0.length : Int)) ∨ (v11 = .int .i64 2 ∧ v3 = .int .i64 ((x0.length : Int) + (x1.length : Int)))) (fun _ v => 2 - (intOf v).toNat)
  case atStart => exact .inl ⟨rfl, rfl⟩
  case round =>
    rcases hrel with ⟨rfl, rfl⟩ | ⟨rfl, rfl⟩ | ⟨rfl, rfl⟩
    · go_wp2
      go_round
      case rel => exact .inr (.inl ⟨rfl, rfl⟩)
      case measure => simp [intOf]
    · go_wp2
      go_round
      case rel => exact .inr (.inr ⟨rfl, rfl⟩)
      case measure => simp [intOf]
    · have HG := Aside0.mk (grow_calls (x0.length + x1.length) w HL.out)
      have hcast : ((x0.length + x1.length : Nat) : Int) = (x0.length : Int) + (x1.length : Int) := by omega
      rw [hcast] at HG
      have hh : h < w.heap.size := blk_lt HB.out
      go_wp2_with (go_at_call 139; refine HG.out.mono ?_; rintro e w1 ⟨v1, rfl, o1, b1'⟩; have O1 := Aside0.mk o1; have B1 := Aside0.mk b1'; clear o1 b1')
      clear hc0 hc1
      go_loopw [6, 27] (fun v6 v27 wr => Aside0 (Below w.heap.size w wr) ∧ ((v27 = .int .i64 0 ∧ Aside0 (OB wr w.heap.size v6 [])) ∨ (v27 = .int .i64 1 ∧ Aside0 (OB wr w.heap.size v6 x0)) ∨ (v27 = .int .i64 2 ∧ Aside0 (OB wr w.heap.size v6 (x0 ++ x1))))) (fun _ v _ => 2 - (intOf v).toNat)
      case atStart => exact ⟨B1, .inl ⟨rfl, O1⟩⟩
      case round =>
        obtain ⟨BW, hrel⟩ := hrel
        have hc0 : wr.cell? ⟨h, 0, none⟩ = some (.slice A0 x0.length c0) := by rw [BW.out.cell (p := ⟨h, 0, none⟩) hh, cell_of_row w h 0 _ 22 fr HB.out]; rfl
        have hc1 : wr.cell? ⟨h, 1, none⟩ = some (.slice A1 x1.length c1) := by rw [BW.out.cell (p := ⟨h, 1, none⟩) hh, cell_of_row w h 1 _ 22 fr HB.out]; rfl
        rcases hrel with ⟨rfl, O2⟩ | ⟨rfl, O2⟩ | ⟨rfl, O2⟩
        · go_wp2_with (at_builtin; refine wpList_appW 33 rfl rfl (.tmp 31) (.tmp 32) rfl w u6 [] x0 rfl rfl O2.out (RB.keep H0.out BW.out) BW.out (by simp; omega) ?_; intro v3 w3 o3 b3; rw [List.nil_append] at o3; have O3 := Aside0.mk o3; have B3 := Aside0.mk b3; clear o3 b3)
          go_roundw
          case rel => exact ⟨B3, .inr (.inl ⟨rfl, O3⟩)⟩
          case measure => simp [intOf]
        · go_wp2_with (at_builtin; refine wpList_appW 33 rfl rfl (.tmp 31) (.tmp 32) rfl w u6 x0 x1 rfl rfl O2.out (RB.keep H1.out BW.out) BW.out (by omega) ?_; intro v3 w3 o3 b3; have O3 := Aside0.mk o3; have B3 := Aside0.mk b3; clear o3 b3)
          go_roundw
          case rel => exact ⟨B3, .inr (.inr ⟨rfl, O3⟩)⟩
          case measure => simp [intOf]
        · go_wp2
          go_ret
          exact ⟨_, rfl, O2.out, BW.out⟩
end Go.Proofs.Ytmdnokfmlbjbhaa

namespace Go.Proofs.Ytmdnokfmlbjbhaa
open Go.RowKit Go.Proofs.YtmdnokfmlbjbhaaW.PrintWords
set_option linter.unusedVariables false
set_option linter.unusedSimpArgs false

def wrapped (xs : List Int) : List Int := xs ++ be (Crc.U (Crc.sum xs)) 4
theorem wrapped_len (xs : List Int) : (wrapped xs).length = xs.length + 4 := by unfold wrapped; rw [List.length_append, be_len]
theorem wrapped_bytes {xs : List Int} (h : Bytes xs) : Bytes (wrapped xs) := h.append (be_bytes _ _)

set_option maxRecDepth 100000 in
theorem wrap_calls (A : Option Addr) (c : Nat) (xs : List Int) (w : World) (hr : RB w A xs) (hb : Bytes xs) (hl : xs.length ≤ 140737488350000) :
    Calls Try.prog 50 #[.slice A xs.length c] w fun e w' => ∃ v, e = .returned v ∧ OB w' w.heap.size v (wrapped xs) ∧ Below w.heap.size w w' := by
  have HR := Aside0.mk hr
  have hw1 : Below w.heap.size w (w.alloc (.cells #[.slice none 0 0] 76)) := (Below.refl _ _).alloc (Nat.le_refl _) _
  have HW1 := Aside0.mk hw1
  have HS := Aside0.mk (sum_calls A c xs _ (RB.keep hr hw1) hb)
  have C1 := Aside0.mk (heap_alloc_new w (.cells #[.slice none 0 0] 76))
  have u0 := Crc.U_nonneg (Crc.sum xs)
  have u1 := Crc.U_lt (Crc.sum xs)
  have u2 : Crc.U (Crc.sum xs) < 18446744073709551616 := by omega
  have HU := Aside0.mk u2
  have HE : Aside0 (wrapped xs = xs ++ be (Crc.U (Crc.sum xs)) 4) := ⟨rfl⟩
  generalize wrapped xs = ws at *
  generalize Crc.U (Crc.sum xs) = s at *
  clear hr hb hw1 u2
  go_enter Try.func50, Try.ntmps50
  go_wp2_with fail
  refine HS.out.mono ?_
  rintro e w2 ⟨rfl, b2⟩
  have c2 : w2.heap[w.heap.size]? = some (.cells #[.slice none 0 0] 76 (0, 0)) := (b2.block _ (by simp)).trans C1.out
  have B2 : Aside0 (Below w.heap.size w w2) := ⟨HW1.out.trans (b2.mono HW1.out.size)⟩
  have hsz := Aside0.mk (show w.heap.size + 1 ≤ w2.heap.size by have := b2.size; simpa using this)
  have HN := Aside0.mk (wnumber_calls (w.heap.size + 1) w.heap.size (.slice none 0 0) [] s 4 4 (by decide) (by decide) w2 u0 HU.out c2 (OB.nil _ _) hsz.out (by simp))
  clear c2 b2
  go_wp2_with fail
  refine HN.out.mono ?_
  rintro e w3 ⟨rfl, v3, hw3⟩
  have HO := Aside0.mk (wout_calls (w.heap.size + 1) w.heap.size v3 _ w3 hw3.cell hw3.own (by simp [be_len]))
  have B3 : Aside0 (Below w.heap.size w w3) := ⟨B2.out.trans (hw3.upd.below (B2.out.size) (fun k hk => hk.elim (fun e => by omega) (fun e => by simp [Value.ownBlock] at e)))⟩
  clear hw3
  go_wp2_with fail
  refine HO.out.mono ?_
  rintro e w4 ⟨u, rfl, ou, b4⟩
  rw [List.nil_append] at ou
  obtain ⟨A4, c4, rfl, r4, _⟩ := OB.slice ou
  have B4 : Aside0 (Below w.heap.size w w4) := ⟨B3.out.trans (b4.mono B3.out.size)⟩
  have R4 : Kd.C (Kd.int .u8) w4 A4 4 (be s 4) := by rwa [RB, be_len] at r4
  have hw5 : Below w4.heap.size w4 (w4.alloc (.cells #[.slice A xs.length c, .slice A4 4 c4] 22)) := (Below.refl _ _).alloc (Nat.le_refl _) _
  have HC := Aside0.mk (concat2_calls w4.heap.size xs.length c 4 c4 A A4 (0, 0) xs (be s 4) _ (heap_alloc_new w4 _) (RB.keep (RB.keep HR.out B4.out) hw5) (RB.keep R4 hw5) (by omega))
  have B5 : Aside0 (Below w.heap.size w (w4.alloc (.cells #[.slice A xs.length c, .slice A4 4 c4] 22))) := ⟨B4.out.trans (hw5.mono B4.out.size)⟩
  clear ou b4 r4 R4 hw5
  rw [be_len]
  go_wp2_with fail
  refine HC.out.mono ?_
  rintro e w6 ⟨v6, rfl, o6, b6⟩
  have O6 := Aside0.mk (own_weaken o6 B5.out.size)
  have B6 : Aside0 (Below w.heap.size w w6) := ⟨B5.out.trans (b6.mono B5.out.size)⟩
  clear o6 b6
  go_wp2
  go_ret
  exact ⟨_, rfl, HE.out ▸ O6.out, B6.out⟩
end Go.Proofs.Ytmdnokfmlbjbhaa

namespace Go.Proofs.Ytmdnokfmlbjbhaa
open Go.RowKit Go.Proofs.YtmdnokfmlbjbhaaW.PrintWords
set_option linter.unusedVariables false
set_option linter.unusedSimpArgs false

theorem take_ne {x y : List Int} {k : Nat} (hx : k < x.length) (hy : k < y.length) (h : rd x k ≠ rd y k) : x ≠ y := fun e => h (by rw [e])
theorem take_eq_succ {x y : List Int} {k : Nat} (hx : k < x.length) (hy : k < y.length) (h : x.take k = y.take k) (e : rd x k = rd y k) : x.take (k + 1) = y.take (k + 1) := by
  rw [take_succ_rd x k hx, take_succ_rd y k hy, h, e]

set_option maxHeartbeats 400000 in
set_option maxRecDepth 100000 in
/-- a comparison of two rows of numbers of a kind, cell by cell: functions 49 -/
theorem same_calls (A0 : Option Addr) (c0 : Nat) (x : List Int) (A1 : Option Addr) (c1 : Nat) (y : List Int) (w : World) (hx : RB w A0 x) (hy : RB w A1 y) :
    Calls Try.prog 49 #[.slice A0 x.length c0, .slice A1 y.length c1] w fun e w' => e = .returned (.bool (decide (x = y))) ∧ Drawn0 w w' := by
  have HX := Aside0.mk hx
  have HY := Aside0.mk hy
  have m0 := Kd.C_max hx
  clear hx hy
  by_cases hl : x.length = y.length
  · have b0 : ((x.length : Int) == (y.length : Int)) = true := beq_iff_eq.mpr (by omega)
    have b1 : ((x.length : Int) != (y.length : Int)) = false := bne_eq_false_iff_eq.mpr (by omega)
    have b2 : (x.length == y.length) = true := by simpa using hl
    have HL := Aside0.mk hl
    clear hl
    go_enter Try.func49, Try.ntmps49
    go_wp2
    go_loopw [5] (fun v wr => ∃ k : Nat, k ≤ x.length ∧ v = .int .i64 k ∧ Aside0 (x.take k = y.take k) ∧ Drawn0 w wr) (fun v _ => x.length - (intOf v).toNat)
    case atStart => exact ⟨0, by omega, rfl, ⟨rfl⟩, Drawn0.refl _⟩
    case round =>
      clear b0 b1 b2
      obtain ⟨k, hk, rfl, HE, ⟨m1, rfl⟩⟩ := hrel
      by_cases hlt : k < x.length
      · obtain ⟨ad0, e0, hc0⟩ := RB.cell HX.out k hlt
        obtain ⟨ad1, e1, hc1⟩ := RB.cell HY.out k (by have := HL.out; omega)
        subst e0 e1
        have q0 : (0 : Int) ≤ (k : Int) := by omega
        have q1 : (k : Int) < (x.length : Int) := by omega
        have q2 : (k : Int) < (y.length : Int) := by have := HL.out; omega
        by_cases he : rd x k = rd y k
        · have n0 : (rd x k != rd y k) = false := by simp [he]
          have HT := Aside0.mk (take_eq_succ hlt (by have := HL.out; omega) HE.out he)
          clear he
          go_wp2
          go_quiet (fail)
          go_wp2
          go_roundw
          case rel => exact ⟨k + 1, by omega, by go_num, HT, by repeat (first | exact Drawn0.refl _ | apply Drawn0.step)⟩
          case measure => simp [intOf]; omega
        · have n0 : (rd x k != rd y k) = true := by simp [he]
          have HT : Aside0 (decide (x = y) = false) := ⟨decide_eq_false (take_ne hlt (by have := HL.out; omega) he)⟩
          clear he
          go_wp2
          go_quiet (fail)
          go_wp2
          go_ret
          exact ⟨by rw [HT.out]; rfl, by repeat (first | exact Drawn0.refl _ | apply Drawn0.step)⟩
      · have HT : Aside0 (decide (x = y) = true) := ⟨decide_eq_true (by
          have h := HE.out
          rw [List.take_of_length_le (by omega), List.take_of_length_le (by have := HL.out; omega)] at h
          exact h)⟩
        go_wp2
        go_ret
        exact ⟨by rw [HT.out]; rfl, by repeat (first | exact Drawn0.refl _ | apply Drawn0.step)⟩
  · have b0 : ((x.length : Int) == (y.length : Int)) = false := beq_eq_false_iff_ne.mpr (by omega)
    have b1 : ((x.length : Int) != (y.length : Int)) = true := bne_iff_ne.mpr (by omega)
    have b2 : (x.length == y.length) = false := by simpa using hl
    have HT : Aside0 (decide (x = y) = false) := ⟨decide_eq_false (fun e => hl (by rw [e]))⟩
    clear hl
    go_enter Try.func49, Try.ntmps49
    go_wp2
    go_ret
    exact ⟨by rw [HT.out]; rfl, Drawn0.refl _⟩
end Go.Proofs.Ytmdnokfmlbjbhaa

namespace Go.Proofs.Ytmdnokfmlbjbhaa
open Go.RowKit Go.Proofs.YtmdnokfmlbjbhaaW.PrintWords
set_option linter.unusedVariables false

/-- what walking along the type t tells of cells -/
def TR {α : Type} (d : Kd α) (Q : α → Prop) (t : TypeId) : Prop :=
  ∀ (H : Type) (enc : TypeId × Value → H) (W : World) (spare : Nat → Bool) (held : Bool) (fuel : Nat) (cs : List Value) (x : DataW H × List MemPlace),
    DataW.trod enc Try.prog W 0 spare held fuel t cs = some x → ∃ y, Q y ∧ d.K W y cs

theorem TR.int {t : TypeId} {k : IntKind} (ht : Try.prog.underlying t = some (.int k)) : TR (Kd.int k) (fun n => (Lit.int k n).wf = true) t := by
  intro H enc W spare held fuel cs x h
  obtain ⟨n, e, _, hw⟩ := DataW.trod_int ht h
  exact ⟨n, hw, e⟩
theorem TR.bool {t : TypeId} (ht : Try.prog.underlying t = some .bool) : TR Kd.bool (fun _ => True) t := by
  intro H enc W spare held fuel cs x h
  obtain ⟨n, e, _⟩ := DataW.trod_bool ht h
  exact ⟨n, trivial, e⟩

theorem cells?_each {w : World} {base : Nat} {a : Addr} {n : Nat} {cs : List Value} (h : w.cells? base a n = some cs) : cs.length = n ∧ ∀ i u, cs[i]? = some u → w.cell? (a.add i) = some u := by
  unfold World.cells? at h
  split at h
  · have hl := mapM_some_length h
    refine ⟨by simpa using hl, fun i u hu => ?_⟩
    have hi : i < n := by
      have := (List.getElem?_eq_some_iff.1 hu).1
      simp at hl; omega
    have := mapM_some_get h i i (by simp [hi])
    rw [this, hu]
  · cases h

theorem addr_add (a : Addr) (x y : Nat) : (a.add x).add y = a.add (x + y) := by
  unfold Addr.add; split <;> split <;> (try split) <;> simp_all [Nat.add_assoc] <;> omega

theorem TR.slice {α : Type} {d : Kd α} {Q : α → Prop} {t e : TypeId} (ht : Try.prog.underlying t = some (.slice e)) (hc : Try.prog.cellsOf e = d.sz) (hd : TR d Q e) :
    TR (Kd.slice e d) (fun xs => ∀ y ∈ xs, Q y) t := by
  intro H enc W spare held fuel cs x h
  rcases DataW.trod_slice ht h with ⟨rfl, _⟩ | ⟨a, len, cap, elems, rest, n, _, rfl, _, _, hl, hm, hlen, hel, _, _⟩
  · exact ⟨[], (by intro y hy; cases hy), none, 0, rfl, Nat.le_refl _, Kd.C_nil d W⟩
  · have key : ∀ m, m ≤ len → ∃ ys : List α, ys.length = m ∧ ∀ (j : Nat) (y : α), ys[j]? = some y → Q y ∧ ∃ c, c.length = d.sz ∧ d.K W y c ∧ ∀ (i : Nat) (u : Value), c[i]? = some u → W.cell? (a.add (j * d.sz + i)) = some u := by
      intro m
      induction m with
      | zero => intro _; exact ⟨[], rfl, fun j y h => by simp at h⟩
      | succ m ih =>
        intro hle
        obtain ⟨ys, hy, hi⟩ := ih (by omega)
        have h1 := hel m (by omega)
        rw [List.getElem?_eq_getElem (by omega), Option.bind_eq_some_iff] at h1
        obtain ⟨c, hc1, hc2⟩ := h1
        obtain ⟨y, hq, hk⟩ := hd H enc W spare held n c _ hc2
        obtain ⟨hcl, hcc⟩ := cells?_each hc1
        refine ⟨ys ++ [y], by simp [hy], fun j z hz => ?_⟩
        rcases Nat.lt_or_ge j ys.length with hj | hj
        · rw [List.getElem?_append_left hj] at hz; exact hi j z hz
        · have hjm : j = m := by
            have := (List.getElem?_eq_some_iff.1 hz).1
            simp at this; omega
          subst hjm
          rw [List.getElem?_append_right hj, hy, Nat.sub_self] at hz
          obtain rfl : y = z := by simpa using hz
          refine ⟨hq, c, by rw [hcl, hc], hk, fun i u hu => ?_⟩
          have := hcc i u hu
          rw [hc] at this
          rw [← addr_add]; exact this
    obtain ⟨ys, hy, hi⟩ := key len (Nat.le_refl _)
    refine ⟨ys, fun y hy' => ?_, some a, cap, by rw [hy], by omega, rfl, by unfold maxLen at hm; omega, fun _ => ⟨a, rfl, fun j p hp => (hi j p hp).2⟩⟩
    obtain ⟨j, hj, rfl⟩ := List.getElem_of_mem hy'
    exact (hi j _ (List.getElem?_eq_getElem hj)).1

/-- fields from an offset on -/
def TRF {α : Type} (d : Kd α) (Q : α → Prop) (n : Nat) (fs : List Field) (off : Nat) : Prop :=
  ∀ (H : Type) (enc : TypeId × Value → H) (W : World) (spare : Nat → Bool) (held : Bool) (fuel : Nat) (cs : List Value), cs.length = n →
    (∀ f ∈ fs, ∃ x, DataW.trod enc Try.prog W 0 spare held fuel f.type ((cs.drop f.offset).take (Try.prog.cellsOf f.type)) = some x) → ∃ y, Q y ∧ d.K W y (cs.drop off)
theorem TRF.one {α : Type} {d : Kd α} {Q : α → Prop} {n off : Nat} {f : Field} (hd : TR d Q f.type) (hz : Try.prog.cellsOf f.type = d.sz) (ho : f.offset = off) (hn : n = off + d.sz) : TRF d Q n [f] off := by
  intro H enc W spare held fuel cs hl h
  obtain ⟨x, hx⟩ := h f (List.mem_singleton.2 rfl)
  rw [ho, hz, List.take_of_length_le (by rw [List.length_drop]; omega)] at hx
  exact hd H enc W spare held fuel _ x hx
theorem TRF.cons {α β : Type} {d : Kd α} {Q : α → Prop} {d' : Kd β} {Q' : β → Prop} {n off : Nat} {f : Field} {fs : List Field} (hd : TR d Q f.type) (hz : Try.prog.cellsOf f.type = d.sz) (ho : f.offset = off) (hr : TRF d' Q' n fs (off + d.sz)) :
    TRF (Kd.pair d d') (fun x => Q x.1 ∧ Q' x.2) n (f :: fs) off := by
  intro H enc W spare held fuel cs hl h
  obtain ⟨x, hx⟩ := h f (List.mem_cons_self ..)
  rw [ho, hz] at hx
  obtain ⟨y, hy, ky⟩ := hd H enc W spare held fuel _ x hx
  obtain ⟨z, hz', kz⟩ := hr H enc W spare held fuel cs hl (fun g hg => h g (List.mem_cons_of_mem _ hg))
  refine ⟨(y, z), ⟨hy, hz'⟩, _, _, ?_, ky, kz⟩
  rw [← List.drop_drop, List.take_append_drop]
theorem TR.struct {α : Type} {d : Kd α} {Q : α → Prop} {t : TypeId} {fs : Array Field} (ht : Try.prog.underlying t = some (.struct fs)) (h : TRF d Q (Try.prog.cellsOf t) fs.toList 0) : TR d Q t := by
  intro H enc W spare held fuel cs x hx
  obtain ⟨xs, n, _, _, hl, hn, hf⟩ := DataW.trod_struct ht hx
  obtain ⟨y, hy, ky⟩ := h H enc W spare held n cs hl (fun f hfm => by
    obtain ⟨i, hi, rfl⟩ := List.getElem_of_mem hfm
    have hi' : i < fs.size := by simpa using hi
    refine ⟨xs[i]'(by omega), ?_⟩
    rw [hf i _ (by simp [Array.getElem?_eq_getElem hi'])]
    exact List.getElem?_eq_getElem _)
  exact ⟨y, hy, by simpa using ky⟩
theorem TR.iso {α β : Type} {d : Kd α} {Q : α → Prop} {t : TypeId} (h : TR d Q t) (f : β → α) (g : α → β) (hg : ∀ y, f (g y) = y) : TR (Kd.iso d f) (fun z => Q (f z)) t := by
  intro H enc W spare held fuel cs x hx
  obtain ⟨y, hy, ky⟩ := h H enc W spare held fuel cs x hx
  refine ⟨g y, by show Q (f (g y)); rw [hg]; exact hy, ?_⟩
  show d.K W (f (g y)) cs
  rw [hg]; exact ky
theorem TR.imp {α : Type} {d : Kd α} {Q Q' : α → Prop} {t : TypeId} (h : TR d Q t) (hq : ∀ y, Q y → Q' y) : TR d Q' t := by
  intro H enc W spare held fuel cs x hx
  obtain ⟨y, hy, ky⟩ := h H enc W spare held fuel cs x hx
  exact ⟨y, hq y hy, ky⟩
theorem TR.opened {α : Type} {d : Kd α} {Q : α → Prop} {t : TypeId} (h : TR d Q t) {H : Type} {enc : TypeId × Value → H} {W : World} {spare : Nat → Bool} {held : Bool} {v : Value} {x : DataW H} {p : List MemPlace} (hv : DataW.Trod enc Try.prog W 0 spare held t v x p) :
    ∃ y, Q y ∧ d.K W y v.cells.toList := by
  obtain ⟨fuel, hf⟩ := hv
  exact h H enc W spare held fuel _ _ hf

/-- a whole machine number -/
def Wf (n : Int) : Prop := -9223372036854775808 ≤ n ∧ n ≤ 9223372036854775807
theorem wf_i64 {n : Int} (h : (Lit.int .i64 n).wf = true) : Wf n := by
  have : -9223372036854775808 ≤ n ∧ n ≤ 9223372036854775807 := by simpa [Lit.wf, IntKind.min, IntKind.max, IntKind.bits, IntKind.signed] using h
  exact this
theorem tr_i64 {t : TypeId} (ht : Try.prog.underlying t = some (.int .i64)) : TR (Kd.int .i64) Wf t := (TR.int ht).imp fun _ h => wf_i64 h
theorem tr_u8 {t : TypeId} (ht : Try.prog.underlying t = some (.int .u8)) : TR (Kd.int .u8) (fun n => 0 ≤ n ∧ n < 256) t := (TR.int ht).imp fun _ h => wf_u8 h
theorem tr_bytes : TR (Kd.slice 5 (Kd.int .u8)) Bytes 22 := (TR.slice Try.underlying22 (by kernel_rfl) (tr_u8 Try.underlying5)).imp fun _ h => h

/-! ### messages -/
structure Cel where
  what : Int
  data : List Int
structure Bal where
  round : Int
  who : Int
structure Msg where
  from_ : Int
  to_ : Int
  number : Int
  reply : Bool
  kind : Int
  epoch : Int
  at_ : Int
  cell : Cel
  ballot : Bal
  value : List Int
  err : Int
  tail : Int
  low : Int
  back : Int
def Cel.flat (c : Cel) := (c.what, c.data)
def Bal.flat (b : Bal) := (b.round, b.who)
def Msg.flat (m : Msg) := (m.from_, m.to_, m.number, m.reply, m.kind, m.epoch, m.at_, m.cell, m.ballot, m.value, m.err, m.tail, m.low, m.back)
noncomputable def KCel : Kd Cel := Kd.iso (Kd.pair (Kd.int .i64) (Kd.slice 5 (Kd.int .u8))) Cel.flat
noncomputable def KBal : Kd Bal := Kd.iso (Kd.pair (Kd.int .i64) (Kd.int .i64)) Bal.flat
noncomputable def KMsg : Kd Msg :=
  Kd.iso (Kd.pair (Kd.int .i64) (Kd.pair (Kd.int .i64) (Kd.pair (Kd.int .i64) (Kd.pair Kd.bool (Kd.pair (Kd.int .i64) (Kd.pair (Kd.int .i64) (Kd.pair (Kd.int .i64)
    (Kd.pair KCel (Kd.pair KBal (Kd.pair (Kd.slice 5 (Kd.int .u8)) (Kd.pair (Kd.int .i64) (Kd.pair (Kd.int .i64) (Kd.pair (Kd.int .i64) (Kd.int .i64)))))))))))))) Msg.flat
theorem tr_cel : TR KCel (fun c => Wf c.what ∧ Bytes c.data) 24 :=
  (TR.iso (TR.struct Try.underlying24 (.cons (tr_i64 Try.underlying3) (by kernel_rfl) rfl (.one tr_bytes (by kernel_rfl) rfl (by kernel_rfl)))) Cel.flat (fun y => ⟨y.1, y.2⟩) (fun _ => rfl)).imp fun _ h => h
theorem tr_bal : TR KBal (fun c => Wf c.round ∧ Wf c.who) 26 :=
  (TR.iso (TR.struct Try.underlying26 (.cons (tr_i64 Try.underlying3) (by kernel_rfl) rfl (.one (tr_i64 Try.underlying3) (by kernel_rfl) rfl (by kernel_rfl)))) Bal.flat (fun y => ⟨y.1, y.2⟩) (fun _ => rfl)).imp fun _ h => h
def Msg.Ok (m : Msg) : Prop := Wf m.from_ ∧ Wf m.to_ ∧ Wf m.number ∧ True ∧ Wf m.kind ∧ Wf m.epoch ∧ Wf m.at_ ∧ (Wf m.cell.what ∧ Bytes m.cell.data) ∧ (Wf m.ballot.round ∧ Wf m.ballot.who) ∧ Bytes m.value ∧ Wf m.err ∧ Wf m.tail ∧ Wf m.low ∧ Wf m.back
theorem tr_msg : TR KMsg Msg.Ok 29 :=
  (TR.iso (TR.struct Try.underlying29 (.cons (tr_i64 Try.underlying3) (by kernel_rfl) rfl (.cons (tr_i64 Try.underlying3) (by kernel_rfl) rfl (.cons (tr_i64 Try.underlying3) (by kernel_rfl) rfl (.cons (TR.bool Try.underlying4) (by kernel_rfl) rfl
    (.cons (tr_i64 Try.underlying3) (by kernel_rfl) rfl (.cons (tr_i64 Try.underlying3) (by kernel_rfl) rfl (.cons (tr_i64 Try.underlying3) (by kernel_rfl) rfl (.cons tr_cel (by kernel_rfl) rfl (.cons tr_bal (by kernel_rfl) rfl (.cons tr_bytes (by kernel_rfl) rfl
    (.cons (tr_i64 Try.underlying27) (by kernel_rfl) rfl (.cons (tr_i64 Try.underlying3) (by kernel_rfl) rfl (.cons (tr_i64 Try.underlying3) (by kernel_rfl) rfl (.one (tr_i64 Try.underlying3) (by kernel_rfl) rfl (by kernel_rfl))))))))))))))))
    Msg.flat (fun y => ⟨y.1, y.2.1, y.2.2.1, y.2.2.2.1, y.2.2.2.2.1, y.2.2.2.2.2.1, y.2.2.2.2.2.2.1, y.2.2.2.2.2.2.2.1, y.2.2.2.2.2.2.2.2.1, y.2.2.2.2.2.2.2.2.2.1, y.2.2.2.2.2.2.2.2.2.2.1, y.2.2.2.2.2.2.2.2.2.2.2.1, y.2.2.2.2.2.2.2.2.2.2.2.2.1, y.2.2.2.2.2.2.2.2.2.2.2.2.2⟩) (fun _ => rfl)).imp fun _ h => h

/-- a message's cells, its two rows by their addresses -/
theorem msg_cells {w : World} {m : Msg} {cs : List Value} (h : KMsg.K w m cs) : ∃ A c B d, RB w A m.cell.data ∧ m.cell.data.length ≤ c ∧ RB w B m.value ∧ m.value.length ≤ d ∧
    cs = [.int .i64 m.from_, .int .i64 m.to_, .int .i64 m.number, .bool m.reply, .int .i64 m.kind, .int .i64 m.epoch, .int .i64 m.at_, .int .i64 m.cell.what, .slice A m.cell.data.length c, .int .i64 m.ballot.round, .int .i64 m.ballot.who,
      .slice B m.value.length d, .int .i64 m.err, .int .i64 m.tail, .int .i64 m.low, .int .i64 m.back] := by
  obtain ⟨_, _, rfl, rfl, _, _, rfl, rfl, _, _, rfl, rfl, _, _, rfl, rfl, _, _, rfl, rfl, _, _, rfl, rfl, _, _, rfl, rfl, _, _, rfl, ⟨_, _, rfl, rfl, A, c, rfl, h1, h2⟩, _, _, rfl, ⟨_, _, rfl, rfl, rfl⟩, _, _, rfl, ⟨B, d, rfl, h3, h4⟩, _, _, rfl, rfl, _, _, rfl, rfl, _, _, rfl, rfl, rfl⟩ := h
  exact ⟨A, c, B, d, h2, h1, h4, h3, rfl⟩
end Go.Proofs.Ytmdnokfmlbjbhaa
