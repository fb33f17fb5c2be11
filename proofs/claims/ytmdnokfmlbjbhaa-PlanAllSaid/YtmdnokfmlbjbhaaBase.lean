/- Words of this seat's walks: rows of bytes that are read, rows of bytes of the call's own, appends onto them. -/
import Derived.Test.YtmdnokfmlbjbhaaProg
import Derived.WalkKit
import Derived.KernelRfl
import Derived.Deep.QuietTactic
import Derived.BigQuiet
import Derived.Deep.RegionHeld3
import Derived.Deep.RegionWith
import Derived.Lib.Hide
import Derived.Lib.SlBytesConst
import Derived.Test.YtmdnokfmlbjbhaaWWords
namespace Go.Proofs.Ytmdnokfmlbjbhaa
open Go.RowKit Go.Proofs.YtmdnokfmlbjbhaaW.PrintWords
set_option linter.unusedVariables false

/-- numbers that are bytes -/
def Bytes (xs : List Int) : Prop := ∀ x ∈ xs, 0 ≤ x ∧ x < 256
theorem Bytes.at_ {xs : List Int} (h : Bytes xs) (i : Int) : 0 ≤ rd xs i ∧ rd xs i < 256 := by
  unfold rd
  rcases Nat.lt_or_ge i.toNat xs.length with hl | hl
  · rw [List.getD_eq_getElem?_getD, List.getElem?_eq_getElem hl]; exact h _ (List.getElem_mem hl)
  · rw [List.getD_eq_getElem?_getD, List.getElem?_eq_none hl]; decide
theorem Bytes.nil : Bytes [] := fun _ h => by cases h
theorem Bytes.append {xs ys : List Int} (h : Bytes xs) (k : Bytes ys) : Bytes (xs ++ ys) := fun x hx => (List.mem_append.1 hx).elim (h x) (k x)
theorem Bytes.take {xs : List Int} (h : Bytes xs) (n : Nat) : Bytes (xs.take n) := fun x hx => h x (List.mem_of_mem_take hx)
theorem Bytes.drop {xs : List Int} (h : Bytes xs) (n : Nat) : Bytes (xs.drop n) := fun x hx => h x (List.mem_of_mem_drop hx)
theorem rd_nat (xs : List Int) (k : Nat) : rd xs (k : Int) = xs.getD k 0 := by unfold rd; simp
theorem take_succ_rd (xs : List Int) (k : Nat) (h : k < xs.length) : xs.take (k + 1) = xs.take k ++ [rd xs k] := by
  rw [rd_nat, List.take_succ_eq_append_getElem h, List.getD_eq_getElem?_getD, List.getElem?_eq_getElem h]; rfl

/-- a row of bytes that is read -/
abbrev RB (w : World) (A : Option Addr) (xs : List Int) : Prop := Kd.C (Kd.int .u8) w A xs.length xs
/-- a row of bytes of the call's own -/
abbrev OB (w : World) (base : Nat) (v : Value) (xs : List Int) : Prop := w.ownsRow base 5 1 v xs.length (nums .u8 xs)

/-- a part of a block of numbers, as a row that is read -/
theorem C_part {w : World} {g : Nat} {cs : Array Value} {t : TypeId} {fr : Nat × Nat} (hb : w.heap[g]? = some (.cells cs t fr)) (k : IntKind) (off : Nat) (xs : List Int) (hm : xs.length ≤ 9223372036854775807)
    (hc : ∀ j, j < xs.length → cs[off + j]? = some (.int k (xs.getD j 0))) : Kd.C (Kd.int k) w (some ⟨g, off, none⟩) xs.length xs := by
  refine ⟨rfl, hm, fun _ => ⟨_, rfl, fun j p hj => ⟨[.int k p], rfl, rfl, fun i u hu => ?_⟩⟩⟩
  have hlt : j < xs.length := (List.getElem?_eq_some_iff.1 hj).1
  have hi : i = 0 := by
    have := (List.getElem?_eq_some_iff.1 hu).1
    simpa using this
  subst hi
  obtain rfl : Value.int k p = u := by simpa using hu
  have hp : xs.getD j 0 = p := by rw [List.getD_eq_getElem?_getD, hj]; rfl
  have := hc j hlt
  rw [hp] at this
  show w.cell? ((⟨g, off, none⟩ : Addr).add (j * 1 + 0)) = _
  rw [show (⟨g, off, none⟩ : Addr).add (j * 1 + 0) = ⟨g, off + j, none⟩ from by rw [Nat.mul_one, Nat.add_zero]; exact add_at g off j]
  exact (cell_of_row w g _ cs t fr hb).trans this

theorem C_lit (w : World) (k : IntKind) (t : TypeId) (xs : List Int) (fr : Nat × Nat) (hm : xs.length ≤ 9223372036854775807) : Kd.C (Kd.int k) (w.alloc (.cells (nums k xs).toArray t fr)) (some ⟨w.heap.size, 0, none⟩) xs.length xs :=
  C_part (heap_alloc_new w _) k 0 xs hm fun j hj => by
    rw [Nat.zero_add]; simp [nums, List.getElem?_eq_getElem hj, List.getD_eq_getElem?_getD]
theorem C_one (w : World) (k : IntKind) (t : TypeId) (x : Int) : Kd.C (Kd.int k) (w.alloc (.cells #[.int k x] t)) (some ⟨w.heap.size, 0, none⟩) 1 [x] := C_lit w k t [x] (0, 0) (by simp)

theorem C_int {k : IntKind} {w : World} {A : Option Addr} {n : Nat} {xs : List Int} : Kd.C (Kd.int k) w A n xs ↔ ReadsInt w k A n xs := by
  constructor
  · rintro ⟨h1, h2, h3⟩
    refine ⟨h1, h2, fun hn => ?_⟩
    obtain ⟨ad, e, hc⟩ := h3 hn
    refine ⟨ad, e, fun j hj => ?_⟩
    obtain ⟨c, hs, hr, hcell⟩ := hc j xs[j] (List.getElem?_eq_getElem (by omega))
    have hr : c = [.int k xs[j]] := hr
    have := hcell 0 (.int k xs[j]) (by rw [hr]; rfl)
    simp only [Kd.int, Kd.scalar, Nat.mul_one, Nat.add_zero] at this
    rw [this, List.getD_eq_getElem?_getD, List.getElem?_eq_getElem (by omega)]; rfl
  · rintro ⟨h1, h2, h3⟩
    refine ⟨h1, h2, fun hn => ?_⟩
    obtain ⟨ad, e, hc⟩ := h3 hn
    refine ⟨ad, e, fun j p hj => ⟨[.int k p], rfl, rfl, fun i u hu => ?_⟩⟩
    have hi : i = 0 := by have := (List.getElem?_eq_some_iff.1 hu).1; simpa using this
    subst hi
    obtain rfl : Value.int k p = u := by simpa using hu
    have hlt := (List.getElem?_eq_some_iff.1 hj).1
    have := hc j (by omega)
    rw [List.getD_eq_getElem?_getD, hj] at this
    simp only [Kd.int, Kd.scalar, Nat.mul_one, Nat.add_zero]
    exact this

/-- elements, by a number -/
theorem RB.cell {k : IntKind} {w : World} {A : Option Addr} {xs : List Int} (h : Kd.C (Kd.int k) w A xs.length xs) (j : Nat) (hj : j < xs.length) : ∃ ad, A = some ad ∧ w.cell? (ad.add j) = some (.int k (rd xs j)) := by
  obtain ⟨ad, e, hc⟩ := Kd.at_int h (j : Int) (by omega) (by omega)
  exact ⟨ad, e, by rwa [Int.toNat_natCast] at hc⟩
theorem RB.len {k : IntKind} {w : World} {A : Option Addr} {n : Nat} {xs : List Int} (h : Kd.C (Kd.int k) w A n xs) : xs.length = n := h.1
theorem RB.keep {k : IntKind} {w w' : World} {A : Option Addr} {n : Nat} {xs : List Int} (h : Kd.C (Kd.int k) w A n xs) (hb : Below w.heap.size w w') : Kd.C (Kd.int k) w' A n xs := Kd.C_below h hb
theorem RB.take {k : IntKind} {w : World} {A : Option Addr} {n : Nat} {xs : List Int} (h : Kd.C (Kd.int k) w A n xs) (m : Nat) (hm : m ≤ n) : Kd.C (Kd.int k) w A m (xs.take m) :=
  C_int.2 ((C_int.1 h).take_ m hm)

theorem OB.nil (w : World) (base : Nat) : OB w base (.slice none 0 0) [] := own_nil w base 5 1
theorem OB.slice {w : World} {base : Nat} {v : Value} {xs : List Int} (h : OB w base v xs) : ∃ A c, v = .slice A xs.length c ∧ RB w A xs ∧ xs.length ≤ c := by
  obtain ⟨A, c, e, hr⟩ := own_reads h
  refine ⟨A, c, e, C_int.2 hr, ?_⟩
  rcases h.2 with ⟨h1, h2⟩ | ⟨g, cap, cur, h1, _, _, h2, _⟩
  · omega
  · rw [e] at h1; injection h1 with _ _ h1; omega
theorem OB.empty (w : World) (base : Nat) (hb : base ≤ w.heap.size) : OB (w.alloc (.cells #[] 5)) base (.slice (some ⟨w.heap.size, 0, none⟩) 0 0) [] :=
  World.ownsRow_made w #[] 0 hb (by simp [maxLen]) (by simp)

theorem info5' : (Try.prog.info? 5).map (fun i => (i.zero, i.size, i.bytes)) = some (some (.int .u8 0), 1, 1) := by kernel_rfl

/-- append(s, x...) of bytes -/
theorem wpList_appB {ops : Array Oper} {rest : List Oper} {o : Oper} {a : Act} {Q : Exit → Act → World → Prop} {W : World} (N : Tmp) (hd : o.dst = some N) (hgd : o.guard = none) (s x : Operand)
    (ho : o.op = .call { callee := .builtin .append, args := #[s, x], argTypes := #[22, 22] })
    {base : Nat} {v : Value} {xs ys : List Int} {A : Option Addr} {c : Nat} (hs : a.eval s = v) (hx : a.eval x = .slice A ys.length c)
    (HO : OB W base v xs) (HR : RB W A ys) (hbase : base ≤ W.heap.size) (hl : xs.length + ys.length ≤ 140737488355328)
    (h : ∀ v1 W1, OB W1 base v1 (xs ++ ys) → W.grownBy W1 v.ownBlock → (v1.ownBlock = v.ownBlock ∨ ∃ b, v1.ownBlock = some b ∧ W.heap.size ≤ b) → wpList Try.prog ops Q rest (a.put (some N) v1) W1) :
    wpList Try.prog ops Q (o :: rest) a W := by
  rw [← hd] at h
  exact print_append_row (w0 := W) base hgd s x 22 5 .u8 1 ho Try.underlying22 info5' (by decide) v xs ys A ys.length c hs hx HO (C_int.1 HR) (Below.refl _ _) hbase (by omega) fun v1 w1 h1 _ h3 h4 => h v1 w1 h1 h3 h4

/-- the same, where all from base on is the row's (and rubbish) -/
theorem wpList_appW {ops : Array Oper} {rest : List Oper} {o : Oper} {a : Act} {Q : Exit → Act → World → Prop} {W : World} (N : Tmp) (hd : o.dst = some N) (hgd : o.guard = none) (s x : Operand)
    (ho : o.op = .call { callee := .builtin .append, args := #[s, x], argTypes := #[22, 22] })
    (w0 : World) (v : Value) (xs ys : List Int) {A : Option Addr} {c : Nat} (hs : a.eval s = v) (hx : a.eval x = .slice A ys.length c)
    (HO : OB W w0.heap.size v xs) (HR : RB W A ys) (HB : Below w0.heap.size w0 W) (hl : xs.length + ys.length ≤ 140737488355328)
    (h : ∀ v1 W1, OB W1 w0.heap.size v1 (xs ++ ys) → Below w0.heap.size w0 W1 → wpList Try.prog ops Q rest (a.put (some N) v1) W1) :
    wpList Try.prog ops Q (o :: rest) a W := by
  refine wpList_appB N hd hgd s x ho hs hx HO HR HB.size hl fun v1 W1 h1 h3 _ => h v1 W1 h1 (HB.grown h3 HB.size (own_base HO))

/-- what is told of a slice of integers that came in -/
def IsRow (k : IntKind) (w : World) (a : Option Addr) (len cap : Nat) (zs : List Int) : Prop :=
  (a = none ∧ len = 0 ∧ cap = 0 ∧ zs = []) ∨
  ∃ x, a = some x ∧ len ≤ cap ∧ cap ≤ maxLen ∧ zs.length = cap ∧ (∀ i, i < zs.length → w.cell? (x.add i) = some (.int k (zs.getD i 0))) ∧ ∀ n ∈ zs, (Lit.int k n).wf = true
theorem IsRow.ints {k : IntKind} {w : World} {a : Option Addr} {len cap : Nat} {zs : List Int} (h : IsRow k w a len cap zs) : ∃ xs, xs.length = len ∧ len ≤ cap ∧ Kd.C (Kd.int k) w a len xs ∧ ∀ n ∈ xs, (Lit.int k n).wf = true := by
  rcases h with ⟨rfl, rfl, rfl, rfl⟩ | ⟨x, rfl, hl, hm, hz, hc, hw⟩
  · exact ⟨[], rfl, Nat.le_refl _, C_int.2 ⟨rfl, by omega, fun h => absurd h (by omega)⟩, fun _ h => by cases h⟩
  · unfold maxLen at hm
    refine ⟨zs.take len, by rw [List.length_take]; omega, hl, C_int.2 ⟨by rw [List.length_take]; omega, by omega, fun hn => ⟨x, rfl, fun j hj => ?_⟩⟩, fun n hn => hw n (List.mem_of_mem_take hn)⟩
    rw [hc j (by omega), List.getD_eq_getElem?_getD, List.getD_eq_getElem?_getD, List.getElem?_take, if_pos hj]
theorem wf_u8 {n : Int} (h : (Lit.int .u8 n).wf = true) : 0 ≤ n ∧ n < 256 := by
  have : 0 ≤ n ∧ n ≤ 255 := by simpa [Lit.wf, IntKind.min, IntKind.max, IntKind.bits, IntKind.signed] using h
  omega
theorem IsRow.bytes {w : World} {a : Option Addr} {len cap : Nat} {zs : List Int} (h : IsRow .u8 w a len cap zs) : ∃ xs, xs.length = len ∧ len ≤ cap ∧ RB w a xs ∧ Bytes xs := by
  obtain ⟨xs, e, hl, hc, hw⟩ := h.ints
  subst e; exact ⟨xs, rfl, hl, hc, fun x hx => wf_u8 (hw x hx)⟩

end Go.Proofs.Ytmdnokfmlbjbhaa
