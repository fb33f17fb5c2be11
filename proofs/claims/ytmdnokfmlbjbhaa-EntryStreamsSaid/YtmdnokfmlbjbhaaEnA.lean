/- Entries: what may be one; its bytes; what the printed functions of the reference come to. -/
import Derived.Test.YtmdnokfmlbjbhaaM2
import Derived.Test.YtmdnokfmlbjbhaaPEntryTurnedx3
namespace Go.Proofs.Ytmdnokfmlbjbhaa
open Go.RowKit Go.Proofs.YtmdnokfmlbjbhaaW.PrintWords
set_option linter.unusedVariables false
set_option linter.unusedSimpArgs false

structure Ent where
  kind : Int
  client : Int
  birth : Int
  number : Int
  stream : Int
  back : Int
  pay : List Int
deriving DecidableEq

def Num31 (n : Int) : Prop := 0 ≤ n ∧ n ≤ 2147483647
instance (n : Int) : Decidable (Num31 n) := by unfold Num31; infer_instance
/-- may an entry be -/
def EOk (x : Ent) : Prop := (Num31 x.client ∧ Num31 x.birth ∧ Num31 x.number) ∧ (x.kind = 1 ∨ x.kind = 2) ∧ (0 ≤ x.stream ∧ x.stream < 8) ∧ (-1 ≤ x.back ∧ x.back ≤ 4294967296) ∧ x.pay.length ≤ 65506
instance (x : Ent) : Decidable (EOk x) := by unfold EOk; infer_instance
/-- an entry's bytes ahead of their sum -/
def ebytes (x : Ent) : List Int := [x.kind % 256] ++ be (x.client % 18446744073709551616) 4 ++ be (x.birth % 18446744073709551616) 4 ++ be (x.number % 18446744073709551616) 4 ++ [x.stream % 256] ++ be (x.back % 18446744073709551616) 8 ++ (be x.pay.length 4 ++ x.pay)
theorem ebytes_len (x : Ent) : (ebytes x).length = x.pay.length + 26 := by unfold ebytes; simp only [List.length_append, be_len, List.length_cons, List.length_nil]; omega
theorem ebytes_bytes {x : Ent} (h : Bytes x.pay) : Bytes (ebytes x) := by
  unfold ebytes
  have h1 : ∀ n : Int, Bytes [n % 256] := fun n y hy => by rw [List.mem_singleton.1 hy]; omega
  exact ((((((h1 _).append (be_bytes _ _)).append (be_bytes _ _)).append (be_bytes _ _)).append (h1 _)).append (be_bytes _ _)).append ((be_bytes _ _).append h)

theorem enumber_f (n : Int) : PEntryTurned.entry_number.f n = some (decide (Num31 n)) := by
  unfold PEntryTurned.entry_number.f Num31
  by_cases h : 0 ≤ n
  · rw [if_pos h]; congr 1; apply decide_eq_decide.2; omega
  · rw [if_neg h]; congr 1; symm; apply decide_eq_false; omega
theorem eright_f (k c b n s bk : Int) (p : List Int) : PEntryTurned.entry_right.f k c b n s bk p = some (decide (EOk ⟨k, c, b, n, s, bk, p⟩)) := by
  unfold PEntryTurned.entry_right.f
  simp only [enumber_f, Option.bind_some, decide_eq_true_eq]
  unfold EOk
  dsimp only
  by_cases h1 : Num31 c
  · by_cases h2 : Num31 b
    · by_cases h3 : Num31 n
      · simp only [h1, h2, h3, if_true, true_and]
        repeat' split
        all_goals (congr 1; first | (apply decide_eq_decide.2; omega) | (symm; apply decide_eq_false; omega))
      · simp only [h1, h2, h3, if_true, if_false, true_and, false_and, and_false, decide_false]
        repeat' split
        all_goals (first | rfl | contradiction)
    · simp [h1, h2]
  · simp [h1]
/-! ### PEntryTurned: Put, Sum, Wrap, Bytes, Int -/
namespace PEntryTurned
theorem put_l1 (l : List Int) (hl : l.length < 140737488355328) (x : Int) (hx0 : 0 ≤ x) (hx1 : x < 18446744073709551616) (j : Nat) (hj : j < 8) : ∀ (d q : Nat), q + d = j → ∀ r,
    Ev (fun k => tidelineref01_Put.l0 k (l ++ [x / 256 ^ j % 256]) x ((j : Int) - 1)) r → Ev (fun k => tidelineref01_Put.l1 k l x (j : Int) (x / 256 ^ q) (q : Int)) r
  | 0, q, h, r, hr => by
    obtain rfl : q = j := by omega
    have hy : 0 ≤ x / 256 ^ q := Int.ediv_nonneg hx0 (Int.le_of_lt (Int.pow_pos (by decide)))
    refine Ev.step (fun k => ?_) hr
    simp only [tidelineref01_Put.l1]
    rw [if_neg (by omega), if_pos hl, Int.tmod_eq_emod_of_nonneg hy, Int.emod_emod_of_dvd _ (Int.dvd_refl _), IntWalk.wrap64_in _ (by omega)]
  | d + 1, q, h, r, hr => by
    have hy : 0 ≤ x / 256 ^ q := Int.ediv_nonneg hx0 (Int.le_of_lt (Int.pow_pos (by decide)))
    have hy1 : x / 256 ^ q ≤ x := Int.ediv_le_self _ hx0
    have e1 : IntKind.u64.wrap (Int.tdiv (x / 256 ^ q) 256) = x / 256 ^ (q + 1) := by
      rw [Int.tdiv_eq_ediv_of_nonneg hy, IntKind.wrap_u64, Int.pow_succ, ← Int.ediv_ediv_of_nonneg (Int.le_of_lt (Int.pow_pos (by decide)))]
      omega
    refine Ev.step (fun k => ?_) (put_l1 l hl x hx0 hx1 j hj d (q + 1) (by omega) r hr)
    conv => lhs; simp only [tidelineref01_Put.l1]
    rw [if_pos (by omega), e1, IntWalk.wrap64_in _ (by omega)]; rfl
theorem put_l0 (l : List Int) (x : Int) (hx0 : 0 ≤ x) (hx1 : x < 18446744073709551616) (n : Nat) (hn : n ≤ 8) (hl : l.length + 8 ≤ 140737488355328) : ∀ (m k : Nat), k + m = n → Ev (fun t => tidelineref01_Put.l0 t (l ++ beUpto x n k) x ((m : Int) - 1)) (l ++ be x n)
  | 0, k, h => by
    obtain rfl : k = n := by omega
    refine Ev.step (f := fun _ => some (l ++ be x k)) (fun t => ?_) (Ev.now _)
    simp only [tidelineref01_Put.l0]
    rw [if_neg (by omega)]; rfl
  | m + 1, k, h => by
    have ih := put_l0 l x hx0 hx1 n hn hl m (k + 1) (by omega)
    rw [beUpto_succ, show n - 1 - k = m from by omega, pow_bytes, ← List.append_assoc] at ih
    have h1 := put_l1 (l ++ beUpto x n k) (by rw [List.length_append, beUpto_len]; omega) x hx0 hx1 m (by omega) m 0 (by omega) _ ih
    refine Ev.step (fun t => ?_) h1
    simp only [tidelineref01_Put.l0]
    rw [show ((m + 1 : Nat) : Int) - 1 = (m : Int) from by omega, if_pos (by omega), Int.pow_zero, Int.ediv_one]; rfl
theorem put_ev (l : List Int) (x : Int) (hx0 : 0 ≤ x) (hx1 : x < 18446744073709551616) (n : Nat) (hn : n ≤ 8) (hl : l.length + 8 ≤ 140737488355328) : Ev (fun t => tidelineref01_Put.f t l x (n : Int)) (l ++ be x n) := by
  have h := put_l0 l x hx0 hx1 n hn hl n 0 (by omega)
  rw [show beUpto x n 0 = [] from rfl, List.append_nil] at h
  refine Ev.step (fun t => ?_) h
  unfold tidelineref01_Put.f
  rw [if_neg (by omega)]
  simp only [tidelineref01_Put.j0]
  rw [IntWalk.wrap64_in _ (by omega)]

theorem sum_l1 (xs : List Int) (i : Nat) (hi : i < xs.length) (hm : xs.length ≤ 9223372036854775807) (y : BitVec 32) : ∀ (d j : Nat), j + d = 8 → ∀ r, Ev (fun k => tidelineref02_Sum.l0 k xs (Crc.U (Crc.bsteps 8 y)) ((i + 1 : Nat) : Int)) r → Ev (fun k => tidelineref02_Sum.l1 k xs (Crc.U (Crc.bsteps j y)) (i : Int) (j : Int)) r
  | 0, j, h, r, hr => by
    obtain rfl : j = 8 := by omega
    refine Ev.step (fun k => ?_) hr
    simp only [tidelineref02_Sum.l1]
    rw [if_neg (by decide), IntWalk.wrap64_in _ (by omega)]; rfl
  | d + 1, j, h, r, hr => by
    have ih := sum_l1 xs i hi hm y d (j + 1) (by omega) r hr
    have hs := ref_step (Crc.bsteps j y)
    have z0 := Crc.U_nonneg (Crc.bsteps j y); have z1 := Crc.U_lt (Crc.bsteps j y)
    have ej : wrap64 ((j : Int) + 1) = ((j + 1 : Nat) : Int) := by rw [IntWalk.wrap64_in _ (by omega)]; rfl
    have e8 : Crc.bsteps (j + 1) y = Crc.bstep (Crc.bsteps j y) := rfl
    rw [e8] at ih
    refine Ev.step (fun k => ?_) ih
    conv => lhs; simp only [tidelineref02_Sum.l1]
    rw [if_pos (by omega), Int.tmod_eq_emod_of_nonneg z0, Int.tdiv_eq_ediv_of_nonneg z0, ej]
    have e2 : Crc.U (Crc.bsteps j y) / 2 % 4294967296 = Crc.U (Crc.bsteps j y) / 2 := by omega
    rw [e2]
    by_cases h1 : Crc.U (Crc.bsteps j y) % 2 = 1
    · rw [if_pos h1]; rw [if_pos (by rw [h1]; rfl)] at hs; rw [hs]
    · rw [if_neg h1]; rw [if_neg (by simpa using h1)] at hs; rw [hs]
theorem sum_l0 (xs : List Int) (hb : Bytes xs) (hm : xs.length ≤ 9223372036854775807) : ∀ (d i : Nat) (y : BitVec 32), i + d = xs.length → Ev (fun k => tidelineref02_Sum.l0 k xs (Crc.U y) (i : Int)) (Crc.U (~~~ Crc.fold y (xs.drop i)))
  | 0, i, y, h => by
    rw [List.drop_of_length_le (by omega)]
    refine Ev.step (f := fun _ => some (Crc.U (~~~ y))) (fun k => ?_) (Ev.now _)
    simp only [tidelineref02_Sum.l0]
    have z0 := Crc.U_nonneg y; have z1 := Crc.U_lt y
    rw [if_neg (by omega), ← U_not y]; congr 1; omega
  | d + 1, i, y, h => by
    have hi : i < xs.length := by omega
    have hbx := hb.at_ (i : Int)
    obtain ⟨y1, y2, e1, e2, e3⟩ := byte_step y (rd xs i) hbx.1 hbx.2
    have e4 : Crc.bsteps 8 y1 = Crc.byte y (rd xs i) := by rw [← e3, e2, ← Crc.bsteps_add]
    have hd : xs.drop i = rd xs i :: xs.drop (i + 1) := by rw [rd_nat, List.getD_eq_getElem?_getD, List.getElem?_eq_getElem hi]; exact List.drop_eq_getElem_cons hi
    have ih := sum_l0 xs hb hm d (i + 1) (Crc.bsteps 8 y1) (by omega)
    have h1 := sum_l1 xs i hi hm y1 8 0 (by omega) _ ih
    have e5 : Crc.fold (Crc.bsteps 8 y1) (xs.drop (i + 1)) = Crc.fold y (xs.drop i) := by rw [e4, hd]; rfl
    rw [e5] at h1
    refine Ev.step (fun k => ?_) h1
    simp only [tidelineref02_Sum.l0]
    rw [if_pos (by omega), if_pos (by omega), show rd xs (i : Int) % 4294967296 = rd xs (i : Int) from by omega, e1]; rfl
theorem sum_ev (xs : List Int) (hb : Bytes xs) (hm : xs.length ≤ 9223372036854775807) : Ev (fun k => tidelineref02_Sum.f k xs) (Crc.U (Crc.sum xs)) := by
  have h := sum_l0 xs hb hm xs.length 0 (~~~ 0#32) (by omega)
  rw [List.drop_zero, U_ones] at h
  exact h

theorem wrap_ev (xs : List Int) (hb : Bytes xs) (hl : xs.length + 8 ≤ 140737488355000) : Ev (fun k => tidelineref02_Wrap.f k xs) (wrapped xs) := by
  have u0 := Crc.U_nonneg (Crc.sum xs); have u1 := Crc.U_lt (Crc.sum xs)
  refine Ev.congr (f := fun k => (tidelineref02_Sum.f k xs).bind fun t => (tidelineref01_Put.f k xs (IntKind.u64.wrap t) 4).bind fun t => some t) (fun k => ?_) (Ev.bind (sum_ev xs hb (by omega)) ?_)
  · unfold tidelineref02_Wrap.f
    simp only [Option.bind_some, List.nil_append, List.length_nil]
    rw [if_pos (by omega)]
  · rw [IntKind.wrap_u64, show Crc.U (Crc.sum xs) % 18446744073709551616 = Crc.U (Crc.sum xs) from by omega]
    exact Ev.bind (put_ev xs _ u0 (by omega) 4 (by decide) (by omega)) (Ev.now _)

theorem bytes_ev (l xs : List Int) (hl : l.length + xs.length + 20 ≤ 140737488355328) : Ev (fun k => tidelineref01_Bytes.f k l xs) (l ++ (be xs.length 4 ++ xs)) := by
  refine Ev.bind (a := l ++ be xs.length 4) ?_ ?_
  · rw [IntKind.wrap_u64, show (xs.length : Int) % 18446744073709551616 = (xs.length : Int) from by omega]
    exact put_ev l _ (by omega) (by omega) 4 (by decide) (by omega)
  · refine Ev.congr (f := fun _ => some (l ++ be xs.length 4 ++ xs)) (fun k => ?_) (by rw [List.append_assoc]; exact Ev.now _)
    rw [if_pos (by rw [List.length_append, be_len]; omega)]

theorem int_ev (l : List Int) (n : Int) (hl : l.length + 20 ≤ 140737488355328) : Ev (fun k => tidelineref05_Int.f k l n) (l ++ be (n % 18446744073709551616) 8) := by
  refine Ev.bind ?_ (Ev.now _)
  rw [IntKind.wrap_u64]
  exact put_ev l _ (by omega) (by omega) 8 (by decide) (by omega)
end PEntryTurned

theorem refbytes_ev (x : Ent) (hb : Bytes x.pay) (hl : x.pay.length ≤ 140737488350000) : Ev (fun k => PEntryTurned.tidelineref07_Bytes.f k x.kind x.client x.birth x.number x.stream x.back x.pay) (wrapped (ebytes x)) := by
  have hL := ebytes_len x
  unfold PEntryTurned.tidelineref07_Bytes.f
  simp only [IntKind.wrap_u64]
  refine Ev.bind (PEntryTurned.put_ev _ _ (by omega) (by omega) 4 (by decide) (by simp)) ?_
  refine Ev.bind (PEntryTurned.put_ev _ _ (by omega) (by omega) 4 (by decide) (by simp [be_len])) ?_
  refine Ev.bind (PEntryTurned.put_ev _ _ (by omega) (by omega) 4 (by decide) (by simp [be_len])) ?_
  refine Ev.congr (f := fun n => (PEntryTurned.tidelineref05_Int.f n (([x.kind % 256] ++ be (x.client % 18446744073709551616) 4 ++ be (x.birth % 18446744073709551616) 4 ++ be (x.number % 18446744073709551616) 4) ++ [x.stream % 256]) x.back).bind fun t158 => (PEntryTurned.tidelineref01_Bytes.f n t158 x.pay).bind fun t161 => (PEntryTurned.tidelineref02_Wrap.f n t161).bind fun t164 => some t164) (fun n => if_pos (by simp [be_len])) ?_
  refine Ev.bind (PEntryTurned.int_ev _ _ (by simp [be_len])) ?_
  refine Ev.bind (PEntryTurned.bytes_ev _ _ (by simp [be_len]; omega)) ?_
  exact Ev.bind (PEntryTurned.wrap_ev (ebytes x) (ebytes_bytes hb) (by rw [hL]; omega)) (Ev.now _)
theorem may_f (n : Int) : PEntryTurned.tidelineref07_may.f n = some (decide (Num31 n)) := by
  unfold PEntryTurned.tidelineref07_may.f Num31
  by_cases h : 0 ≤ n
  · rw [if_pos h]; congr 1; apply decide_eq_decide.2; omega
  · rw [if_neg h]; congr 1; symm; apply decide_eq_false; omega
theorem refright_ev (x : Ent) (hb : Bytes x.pay) (hl : x.pay.length ≤ 140737488350000) : Ev (fun k => PEntryTurned.tidelineref07_Right.f k x.kind x.client x.birth x.number x.stream x.back x.pay) (decide (EOk x)) := by
  have hw : (wrapped (ebytes x)).length = x.pay.length + 30 := by rw [wrapped_len, ebytes_len]
  have hbe := Ev.bind (f := fun _ (t : List Int) => some (decide ((t.length : Int) ≤ 65536))) (refbytes_ev x hb hl) (Ev.now _)
  rw [hw] at hbe
  unfold PEntryTurned.tidelineref07_Right.f
  simp only [may_f, Option.bind_some, decide_eq_true_eq]
  by_cases h1 : Num31 x.client
  · by_cases h2 : Num31 x.birth
    · by_cases h3 : Num31 x.number
      · simp only [h1, h2, h3, if_true]
        by_cases hk : x.kind = 1 ∨ x.kind = 2
        · by_cases hr : (0 ≤ x.stream ∧ x.stream < 8) ∧ (-1 ≤ x.back ∧ x.back ≤ 4294967296)
          · have e : decide (EOk x) = decide (((x.pay.length + 30 : Nat) : Int) ≤ 65536) := by
              apply decide_eq_decide.2
              unfold EOk
              constructor
              · rintro ⟨-, -, -, -, h⟩; omega
              · intro h; exact ⟨⟨h1, h2, h3⟩, hk, hr.1, hr.2, by omega⟩
            rw [e]
            by_cases hk1 : x.kind = 1
            · refine Ev.congr (fun k => ?_) hbe
              rw [if_pos hk1, if_pos (by omega), if_pos (by omega), if_pos (by omega), if_pos (by omega)]
            · refine Ev.congr (fun k => ?_) hbe
              rw [if_neg hk1, if_pos (by omega), if_pos (by omega), if_pos (by omega), if_pos (by omega), if_pos (by omega)]
          · have e : decide (EOk x) = false := decide_eq_false (fun h => hr ⟨h.2.2.1, h.2.2.2.1⟩)
            rw [e]
            refine Ev.congr (f := fun _ => some false) (fun k => ?_) (Ev.now _)
            repeat' split
            all_goals first | rfl | (exfalso; omega)
        · have e : decide (EOk x) = false := decide_eq_false (fun h => hk h.2.1)
          rw [e]
          refine Ev.congr (f := fun _ => some false) (fun k => ?_) (Ev.now _)
          rw [if_neg (by omega), if_neg (by omega)]
      · have e : decide (EOk x) = false := decide_eq_false (fun h => h3 h.1.2.2)
        rw [e]
        refine Ev.congr (f := fun _ => some false) (fun k => ?_) (Ev.now _)
        simp only [h1, h2, h3, if_true, if_false]
        repeat' split
        all_goals rfl
    · have e : decide (EOk x) = false := decide_eq_false (fun h => h2 h.1.2.1)
      rw [e]
      refine Ev.congr (f := fun _ => some false) (fun k => ?_) (Ev.now _)
      simp only [h1, h2, if_true, if_false]
      repeat' split
      all_goals rfl
  · have e : decide (EOk x) = false := decide_eq_false (fun h => h1 h.1.1)
    rw [e]
    refine Ev.congr (f := fun _ => some false) (fun k => ?_) (Ev.now _)
    simp only [h1, if_false]
    repeat' split
    all_goals rfl
end Go.Proofs.Ytmdnokfmlbjbhaa
