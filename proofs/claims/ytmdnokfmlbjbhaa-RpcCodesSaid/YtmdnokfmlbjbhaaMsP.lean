/- Messages' bytes: the plain laws. -/
import Derived.Test.YtmdnokfmlbjbhaaMsD
namespace Go.Proofs.Ytmdnokfmlbjbhaa
open Go.RowKit Go.Proofs.YtmdnokfmlbjbhaaW.PrintWords Go.Proofs.YtmdnokfmlbjbhaaW.PrintMore
set_option linter.unusedVariables false
set_option linter.unusedSimpArgs false

/-! ### RefMs: Put, Sum, Wrap, Bytes, Int -/
namespace RefMs
theorem put_l1 (l : List Int) (hl : l.length < 140737488355328) (x : Int) (hx0 : 0 ≤ x) (hx1 : x < 18446744073709551616) (j : Nat) (hj : j < 8) : ∀ (d q : Nat), q + d = j → ∀ r,
    Ev (fun k => tidelineref01_Put.l0 k (l ++ [x / 256 ^ j % 256]) x ((j : Int) - 1)) r → Ev (fun k => tidelineref01_Put.l1 k l x (j : Int) (x / 256 ^ q) (q : Int)) r
  | 0, q, h, r, hr => by
    obtain rfl : q = j := by omega
    have hy : 0 ≤ x / 256 ^ q := Int.ediv_nonneg hx0 (Int.le_of_lt (Int.pow_pos (by decide)))
    refine Ev.step (fun k => ?_) hr
    simp only [tidelineref01_Put.l1]
    rw [if_neg (by omega), if_pos hl, Int.tmod_eq_emod_of_nonneg hy, Int.emod_emod_of_dvd _ (Int.dvd_refl _), IntWalk.wrap64_in _ (by omega)]
  | d + 1, q, h, r, hr => by
    have hy : 0 ≤ x / 256 ^ q := Int.ediv_nonneg hx0 (Int.le_of_lt (Int.pow_pos (by decide)))
    have hy1 : x / 256 ^ q ≤ x := Int.ediv_le_self _ hx0
    have e1 : IntKind.u64.wrap (Int.tdiv (x / 256 ^ q) 256) = x / 256 ^ (q + 1) := by
      rw [Int.tdiv_eq_ediv_of_nonneg hy, IntKind.wrap_u64, Int.pow_succ, ← Int.ediv_ediv_of_nonneg (Int.le_of_lt (Int.pow_pos (by decide)))]
      omega
    refine Ev.step (fun k => ?_) (put_l1 l hl x hx0 hx1 j hj d (q + 1) (by omega) r hr)
    conv => lhs; simp only [tidelineref01_Put.l1]
    rw [if_pos (by omega), e1, IntWalk.wrap64_in _ (by omega)]; rfl
theorem put_l0 (l : List Int) (x : Int) (hx0 : 0 ≤ x) (hx1 : x < 18446744073709551616) (n : Nat) (hn : n ≤ 8) (hl : l.length + 8 ≤ 140737488355328) : ∀ (m k : Nat), k + m = n → Ev (fun t => tidelineref01_Put.l0 t (l ++ beUpto x n k) x ((m : Int) - 1)) (l ++ be x n)
  | 0, k, h => by
    obtain rfl : k = n := by omega
    refine Ev.step (f := fun _ => some (l ++ be x k)) (fun t => ?_) (Ev.now _)
    simp only [tidelineref01_Put.l0]
    rw [if_neg (by omega)]; rfl
  | m + 1, k, h => by
    have ih := put_l0 l x hx0 hx1 n hn hl m (k + 1) (by omega)
    rw [beUpto_succ, show n - 1 - k = m from by omega, pow_bytes, ← List.append_assoc] at ih
    have h1 := put_l1 (l ++ beUpto x n k) (by rw [List.length_append, beUpto_len]; omega) x hx0 hx1 m (by omega) m 0 (by omega) _ ih
    refine Ev.step (fun t => ?_) h1
    simp only [tidelineref01_Put.l0]
    rw [show ((m + 1 : Nat) : Int) - 1 = (m : Int) from by omega, if_pos (by omega), Int.pow_zero, Int.ediv_one]; rfl
theorem put_ev (l : List Int) (x : Int) (hx0 : 0 ≤ x) (hx1 : x < 18446744073709551616) (n : Nat) (hn : n ≤ 8) (hl : l.length + 8 ≤ 140737488355328) : Ev (fun t => tidelineref01_Put.f t l x (n : Int)) (l ++ be x n) := by
  have h := put_l0 l x hx0 hx1 n hn hl n 0 (by omega)
  rw [show beUpto x n 0 = [] from rfl, List.append_nil] at h
  refine Ev.step (fun t => ?_) h
  unfold tidelineref01_Put.f
  rw [if_neg (by omega)]
  simp only [tidelineref01_Put.j0]
  rw [IntWalk.wrap64_in _ (by omega)]

theorem sum_l1 (xs : List Int) (i : Nat) (hi : i < xs.length) (hm : xs.length ≤ 9223372036854775807) (y : BitVec 32) : ∀ (d j : Nat), j + d = 8 → ∀ r, Ev (fun k => tidelineref02_Sum.l0 k xs (Crc.U (Crc.bsteps 8 y)) ((i + 1 : Nat) : Int)) r → Ev (fun k => tidelineref02_Sum.l1 k xs (Crc.U (Crc.bsteps j y)) (i : Int) (j : Int)) r
  | 0, j, h, r, hr => by
    obtain rfl : j = 8 := by omega
    refine Ev.step (fun k => ?_) hr
    simp only [tidelineref02_Sum.l1]
    rw [if_neg (by decide), IntWalk.wrap64_in _ (by omega)]; rfl
  | d + 1, j, h, r, hr => by
    have ih := sum_l1 xs i hi hm y d (j + 1) (by omega) r hr
    have hs := ref_step (Crc.bsteps j y)
    have z0 := Crc.U_nonneg (Crc.bsteps j y); have z1 := Crc.U_lt (Crc.bsteps j y)
    have ej : wrap64 ((j : Int) + 1) = ((j + 1 : Nat) : Int) := by rw [IntWalk.wrap64_in _ (by omega)]; rfl
    have e8 : Crc.bsteps (j + 1) y = Crc.bstep (Crc.bsteps j y) := rfl
    rw [e8] at ih
    refine Ev.step (fun k => ?_) ih
    conv => lhs; simp only [tidelineref02_Sum.l1]
    rw [if_pos (by omega), Int.tmod_eq_emod_of_nonneg z0, Int.tdiv_eq_ediv_of_nonneg z0, ej]
    have e2 : Crc.U (Crc.bsteps j y) / 2 % 4294967296 = Crc.U (Crc.bsteps j y) / 2 := by omega
    rw [e2]
    by_cases h1 : Crc.U (Crc.bsteps j y) % 2 = 1
    · rw [if_pos h1]; rw [if_pos (by rw [h1]; rfl)] at hs; rw [hs]
    · rw [if_neg h1]; rw [if_neg (by simpa using h1)] at hs; rw [hs]
theorem sum_l0 (xs : List Int) (hb : Bytes xs) (hm : xs.length ≤ 9223372036854775807) : ∀ (d i : Nat) (y : BitVec 32), i + d = xs.length → Ev (fun k => tidelineref02_Sum.l0 k xs (Crc.U y) (i : Int)) (Crc.U (~~~ Crc.fold y (xs.drop i)))
  | 0, i, y, h => by
    rw [List.drop_of_length_le (by omega)]
    refine Ev.step (f := fun _ => some (Crc.U (~~~ y))) (fun k => ?_) (Ev.now _)
    simp only [tidelineref02_Sum.l0]
    have z0 := Crc.U_nonneg y; have z1 := Crc.U_lt y
    rw [if_neg (by omega), ← U_not y]; congr 1; omega
  | d + 1, i, y, h => by
    have hi : i < xs.length := by omega
    have hbx := hb.at_ (i : Int)
    obtain ⟨y1, y2, e1, e2, e3⟩ := byte_step y (rd xs i) hbx.1 hbx.2
    have e4 : Crc.bsteps 8 y1 = Crc.byte y (rd xs i) := by rw [← e3, e2, ← Crc.bsteps_add]
    have hd : xs.drop i = rd xs i :: xs.drop (i + 1) := by rw [rd_nat, List.getD_eq_getElem?_getD, List.getElem?_eq_getElem hi]; exact List.drop_eq_getElem_cons hi
    have ih := sum_l0 xs hb hm d (i + 1) (Crc.bsteps 8 y1) (by omega)
    have h1 := sum_l1 xs i hi hm y1 8 0 (by omega) _ ih
    have e5 : Crc.fold (Crc.bsteps 8 y1) (xs.drop (i + 1)) = Crc.fold y (xs.drop i) := by rw [e4, hd]; rfl
    rw [e5] at h1
    refine Ev.step (fun k => ?_) h1
    simp only [tidelineref02_Sum.l0]
    rw [if_pos (by omega), if_pos (by omega), show rd xs (i : Int) % 4294967296 = rd xs (i : Int) from by omega, e1]; rfl
theorem sum_ev (xs : List Int) (hb : Bytes xs) (hm : xs.length ≤ 9223372036854775807) : Ev (fun k => tidelineref02_Sum.f k xs) (Crc.U (Crc.sum xs)) := by
  have h := sum_l0 xs hb hm xs.length 0 (~~~ 0#32) (by omega)
  rw [List.drop_zero, U_ones] at h
  exact h

theorem wrap_ev (xs : List Int) (hb : Bytes xs) (hl : xs.length + 8 ≤ 140737488355000) : Ev (fun k => tidelineref02_Wrap.f k xs) (wrapped xs) := by
  have u0 := Crc.U_nonneg (Crc.sum xs); have u1 := Crc.U_lt (Crc.sum xs)
  refine Ev.congr (f := fun k => (tidelineref02_Sum.f k xs).bind fun t => (tidelineref01_Put.f k xs (IntKind.u64.wrap t) 4).bind fun t => some t) (fun k => ?_) (Ev.bind (sum_ev xs hb (by omega)) ?_)
  · unfold tidelineref02_Wrap.f
    simp only [Option.bind_some, List.nil_append, List.length_nil]
    rw [if_pos (by omega)]
  · rw [IntKind.wrap_u64, show Crc.U (Crc.sum xs) % 18446744073709551616 = Crc.U (Crc.sum xs) from by omega]
    exact Ev.bind (put_ev xs _ u0 (by omega) 4 (by decide) (by omega)) (Ev.now _)

theorem bytes_ev (l xs : List Int) (hl : l.length + xs.length + 20 ≤ 140737488355328) : Ev (fun k => tidelineref01_Bytes.f k l xs) (l ++ (be xs.length 4 ++ xs)) := by
  refine Ev.bind (a := l ++ be xs.length 4) ?_ ?_
  · rw [IntKind.wrap_u64, show (xs.length : Int) % 18446744073709551616 = (xs.length : Int) from by omega]
    exact put_ev l _ (by omega) (by omega) 4 (by decide) (by omega)
  · refine Ev.congr (f := fun _ => some (l ++ be xs.length 4 ++ xs)) (fun k => ?_) (by rw [List.append_assoc]; exact Ev.now _)
    rw [if_pos (by rw [List.length_append, be_len]; omega)]

theorem int_ev (l : List Int) (n : Int) (hl : l.length + 20 ≤ 140737488355328) : Ev (fun k => tidelineref05_Int.f k l n) (l ++ be (n % 18446744073709551616) 8) := by
  refine Ev.bind ?_ (Ev.now _)
  rw [IntKind.wrap_u64]
  exact put_ev l _ (by omega) (by omega) 8 (by decide) (by omega)
end RefMs

theorem flag_f (l : List Int) (b : Bool) (h : l.length < 140737488355328) : RefMs.tidelineref01_Flag.f l b = some (l ++ [if b then 1 else 0]) := by
  unfold RefMs.tidelineref01_Flag.f
  cases b <;> simp [h]

theorem mencref_ev (m : Msg) (hb : Bytes m.cell.data) (hb' : Bytes m.value) (hl : m.cell.data.length ≤ 65536) (hl' : m.value.length ≤ 1000) : Ev (fun k => RefMs.tidelineref12_Encode.f k m.from_ m.to_ m.number m.reply m.kind m.epoch m.at_ m.cell.what m.cell.data m.ballot.round m.ballot.who m.value m.err m.tail m.low m.back) (wrapped (mbytes m)) := by
  have hL := mbytes_len m
  unfold RefMs.tidelineref12_Encode.f
  refine Ev.bind (RefMs.int_ev _ _ (by simp)) ?_
  simp only [flag_f _ _ (show ([m.from_ % 256, m.to_ % 256] ++ be (m.number % 18446744073709551616) 8).length < 140737488355328 from by simp [be_len]), Option.bind_some]
  have e1 : ([m.from_ % 256, m.to_ % 256] ++ be (m.number % 18446744073709551616) 8 ++ [if m.reply then (1 : Int) else 0]).length < 140737488355328 := by simp [be_len]
  simp only [e1, if_true]
  refine Ev.bind (RefMs.int_ev _ _ (by simp [be_len])) ?_
  refine Ev.bind (RefMs.int_ev _ _ (by simp [be_len])) ?_
  have e2 : ([m.from_ % 256, m.to_ % 256] ++ be (m.number % 18446744073709551616) 8 ++ [if m.reply then (1 : Int) else 0] ++ [m.kind % 256] ++ be (m.epoch % 18446744073709551616) 8 ++ be (m.at_ % 18446744073709551616) 8).length < 140737488355328 := by simp [be_len]
  simp only [e2, if_true]
  refine Ev.bind (RefMs.bytes_ev _ _ (by simp [be_len]; omega)) ?_
  refine Ev.bind (RefMs.int_ev _ _ (by simp [be_len]; omega)) ?_
  refine Ev.bind (RefMs.int_ev _ _ (by simp [be_len]; omega)) ?_
  refine Ev.bind (RefMs.bytes_ev _ _ (by simp [be_len]; omega)) ?_
  refine Ev.bind (RefMs.int_ev _ _ (by simp [be_len]; omega)) ?_
  refine Ev.bind (RefMs.int_ev _ _ (by simp [be_len]; omega)) ?_
  refine Ev.bind (RefMs.int_ev _ _ (by simp [be_len]; omega)) ?_
  refine Ev.bind (RefMs.int_ev _ _ (by simp [be_len]; omega)) ?_
  have e3 : [m.from_ % 256, m.to_ % 256] ++ be (m.number % 18446744073709551616) 8 ++ [if m.reply then (1 : Int) else 0] ++ [m.kind % 256] ++ be (m.epoch % 18446744073709551616) 8 ++ be (m.at_ % 18446744073709551616) 8 ++ [m.cell.what % 256] ++ (be m.cell.data.length 4 ++ m.cell.data) ++ be (m.ballot.round % 18446744073709551616) 8 ++ be (m.ballot.who % 18446744073709551616) 8 ++ (be m.value.length 4 ++ m.value) ++ be (m.err % 18446744073709551616) 8 ++ be (m.tail % 18446744073709551616) 8 ++ be (m.low % 18446744073709551616) 8 ++ be (m.back % 18446744073709551616) 8 = mbytes m := by
    unfold mbytes; simp only [List.append_assoc, List.cons_append, List.nil_append]
  rw [e3]
  exact Ev.bind (RefMs.wrap_ev (mbytes m) (mbytes_bytes hb hb') (by rw [hL]; omega)) (Ev.now _)
theorem mencref_calls (m : Msg) (A : Option Addr) (c : Nat) (B : Option Addr) (d : Nat) (w : World) (h : RB w A m.cell.data) (hc : m.cell.data.length ≤ c) (h' : RB w B m.value) (hd : m.value.length ≤ d) (hb : Bytes m.cell.data) (hb' : Bytes m.value) (hl : m.cell.data.length ≤ 65536) (hl' : m.value.length ≤ 1000) :
    Calls Try.prog 75 #[.agg #[.int .i64 m.from_, .int .i64 m.to_, .int .i64 m.number, .bool m.reply, .int .i64 m.kind, .int .i64 m.epoch, .int .i64 m.at_, .int .i64 m.cell.what, .slice A m.cell.data.length c, .int .i64 m.ballot.round, .int .i64 m.ballot.who, .slice B m.value.length d, .int .i64 m.err, .int .i64 m.tail, .int .i64 m.low, .int .i64 m.back]] w fun e w' => ∃ A' c', e = .returned (.slice A' (wrapped (mbytes m)).length c') ∧ RB w' A' (wrapped (mbytes m)) ∧ (wrapped (mbytes m)).length ≤ c' ∧ Below w.heap.size w w' := by
  obtain ⟨k, hk⟩ := (mencref_ev m hb hb' hl hl').rounds
  refine (RefMs.tidelineref12_Encode.calls k _ _ _ _ _ _ _ _ A c m.cell.data _ _ B d m.value _ _ _ _ _ w h hc h' hd hk).mono ?_
  rintro e w' ⟨v, he, ho, hB⟩
  obtain ⟨A', c', rfl, h1, h2⟩ := Kd.R_reads ho
  exact ⟨A', c', he, h2, h1, hB⟩

/-! ### what is read -/
theorem rN_be (x : Int) (n : Nat) (r : List Int) (h0 : 0 ≤ x) (h1 : x < 256 ^ n) : rN n (be x n ++ r, false) = (x, (r, false)) := by
  unfold rN tk
  rw [if_neg (by simp [be_len])]
  have e : (be x n ++ r).take n = be x n := List.take_left' (be_len x n)
  have e' : (be x n ++ r).drop n = r := List.drop_left' (be_len x n)
  simp only [e, e', num_be x n h0 h1]
theorem rN_one (x : Int) (r : List Int) (h0 : 0 ≤ x) (h1 : x < 256) : rN 1 (x :: r, false) = (x, (r, false)) := by
  unfold rN tk
  rw [if_neg (by simp)]
  simp [num]
theorem rFlag_one (b : Bool) (r : List Int) : rFlag ((if b then (1 : Int) else 0) :: r, false) = (b, (r, false)) := by
  unfold rFlag
  rw [rN_one _ _ (by split <;> omega) (by split <;> omega)]
  cases b <;> rfl
theorem rBytes_be (xs r : List Int) (most : Int) (h : (xs.length : Int) ≤ most) (hl : xs.length < 4294967296) : rBytes most (be (xs.length : Int) 4 ++ (xs ++ r), false) = (xs, (r, false)) := by
  have e : rCount most (be (xs.length : Int) 4 ++ (xs ++ r), false) = ((xs.length : Int), (xs ++ r, false)) := by
    unfold rCount
    rw [rN_be _ 4 _ (by omega) (by rw [show (256:Int)^4 = 4294967296 from by decide]; omega), if_neg (by simp only; omega)]
  unfold rBytes tk
  rw [e]
  simp only [Int.toNat_natCast]
  rw [if_neg (by simp)]
  simp
theorem sb_mod (x : Int) (h0 : -128 ≤ x) (h1 : x ≤ 127) : sb (x % 256) = x := by
  unfold sb; split <;> omega
theorem wrap_mod {x : Int} (h : Wf x) : wrap64 (x % 18446744073709551616) = x := by
  unfold Wf at h
  have hk : wrap64 (x % 18446744073709551616) = IntKind.i64.wrap (x % 18446744073709551616) := by unfold Go.RowKit.wrap64; exact (IntKind.wrap_i64 _).symm
  rw [hk, IntKind.wrap_i64]; omega
theorem mdec_wrapped (m : Msg) (hok : MOk m) (hw : m.Ok) : mdec (wrapped (mbytes m)) = (m, 0) := by
  obtain ⟨⟨⟨f0, f1⟩, t0, t1⟩, ⟨k0, k1⟩, ⟨c0, c1⟩, d1, v1⟩ := id hok
  obtain ⟨w1, w2, w3, _, w4, w5, w6, ⟨w7, w8⟩, ⟨w9, w10⟩, w11, w12, w13, w14, w15⟩ := hw
  obtain ⟨q16, h16⟩ : ∃ q : List Int, q = [] := ⟨_, rfl⟩
  obtain ⟨q15, h15⟩ : ∃ q : List Int, q = be (m.back % 18446744073709551616) 8 ++ q16 := ⟨_, rfl⟩
  obtain ⟨q14, h14⟩ : ∃ q : List Int, q = be (m.low % 18446744073709551616) 8 ++ q15 := ⟨_, rfl⟩
  obtain ⟨q13, h13⟩ : ∃ q : List Int, q = be (m.tail % 18446744073709551616) 8 ++ q14 := ⟨_, rfl⟩
  obtain ⟨q12, h12⟩ : ∃ q : List Int, q = be (m.err % 18446744073709551616) 8 ++ q13 := ⟨_, rfl⟩
  obtain ⟨q11, h11⟩ : ∃ q : List Int, q = be (m.value.length : Int) 4 ++ (m.value ++ q12) := ⟨_, rfl⟩
  obtain ⟨q10, h10⟩ : ∃ q : List Int, q = be (m.ballot.who % 18446744073709551616) 8 ++ q11 := ⟨_, rfl⟩
  obtain ⟨q9, h9⟩ : ∃ q : List Int, q = be (m.ballot.round % 18446744073709551616) 8 ++ q10 := ⟨_, rfl⟩
  obtain ⟨q8, h8⟩ : ∃ q : List Int, q = be (m.cell.data.length : Int) 4 ++ (m.cell.data ++ q9) := ⟨_, rfl⟩
  obtain ⟨q7, h7⟩ : ∃ q : List Int, q = (m.cell.what % 256) :: q8 := ⟨_, rfl⟩
  obtain ⟨q6, h6⟩ : ∃ q : List Int, q = be (m.at_ % 18446744073709551616) 8 ++ q7 := ⟨_, rfl⟩
  obtain ⟨q5, h5⟩ : ∃ q : List Int, q = be (m.epoch % 18446744073709551616) 8 ++ q6 := ⟨_, rfl⟩
  obtain ⟨q4, h4⟩ : ∃ q : List Int, q = (m.kind % 256) :: q5 := ⟨_, rfl⟩
  obtain ⟨q3, h3⟩ : ∃ q : List Int, q = (if m.reply then (1 : Int) else 0) :: q4 := ⟨_, rfl⟩
  obtain ⟨q2, h2⟩ : ∃ q : List Int, q = be (m.number % 18446744073709551616) 8 ++ q3 := ⟨_, rfl⟩
  obtain ⟨q1, h1⟩ : ∃ q : List Int, q = (m.to_ % 256) :: q2 := ⟨_, rfl⟩
  obtain ⟨q0, h0⟩ : ∃ q : List Int, q = (m.from_ % 256) :: q1 := ⟨_, rfl⟩
  have hE : mbytes m = q0 := by
    rw [h0, h1, h2, h3, h4, h5, h6, h7, h8, h9, h10, h11, h12, h13, h14, h15, h16]
    unfold mbytes
    simp only [List.append_assoc, List.cons_append, List.nil_append, List.append_nil]
  have g0 : rN 1 (q0, false) = (m.from_ % 256, (q1, false)) := by rw [h0]; exact rN_one _ _ (by omega) (by omega)
  have s1 : mS1 (q0, false) = (q1, false) := by unfold mS1; rw [g0]
  have g1 : rN 1 (q1, false) = (m.to_ % 256, (q2, false)) := by rw [h1]; exact rN_one _ _ (by omega) (by omega)
  have s2 : mS2 (q0, false) = (q2, false) := by unfold mS2; rw [s1, g1]
  have g2 : rN 8 (q2, false) = (m.number % 18446744073709551616, (q3, false)) := by rw [h2]; exact rN_be _ 8 _ (by omega) (by rw [show (256:Int)^8 = 18446744073709551616 from by decide]; omega)
  have s3 : mS3 (q0, false) = (q3, false) := by unfold mS3; rw [s2, g2]
  have g3 : rFlag (q3, false) = (m.reply, (q4, false)) := by rw [h3]; exact rFlag_one _ _
  have s4 : mS4 (q0, false) = (q4, false) := by unfold mS4; rw [s3, g3]
  have g4 : rN 1 (q4, false) = (m.kind % 256, (q5, false)) := by rw [h4]; exact rN_one _ _ (by omega) (by omega)
  have s5 : mS5 (q0, false) = (q5, false) := by unfold mS5; rw [s4, g4]
  have g5 : rN 8 (q5, false) = (m.epoch % 18446744073709551616, (q6, false)) := by rw [h5]; exact rN_be _ 8 _ (by omega) (by rw [show (256:Int)^8 = 18446744073709551616 from by decide]; omega)
  have s6 : mS6 (q0, false) = (q6, false) := by unfold mS6; rw [s5, g5]
  have g6 : rN 8 (q6, false) = (m.at_ % 18446744073709551616, (q7, false)) := by rw [h6]; exact rN_be _ 8 _ (by omega) (by rw [show (256:Int)^8 = 18446744073709551616 from by decide]; omega)
  have s7 : mS7 (q0, false) = (q7, false) := by unfold mS7; rw [s6, g6]
  have g7 : rN 1 (q7, false) = (m.cell.what % 256, (q8, false)) := by rw [h7]; exact rN_one _ _ (by omega) (by omega)
  have s8 : mS8 (q0, false) = (q8, false) := by unfold mS8; rw [s7, g7]
  have g8 : rBytes 65536 (q8, false) = (m.cell.data, (q9, false)) := by rw [h8]; exact rBytes_be _ _ _ (by omega) (by omega)
  have s9 : mS9 (q0, false) = (q9, false) := by unfold mS9; rw [s8, g8]
  have g9 : rN 8 (q9, false) = (m.ballot.round % 18446744073709551616, (q10, false)) := by rw [h9]; exact rN_be _ 8 _ (by omega) (by rw [show (256:Int)^8 = 18446744073709551616 from by decide]; omega)
  have s10 : mS10 (q0, false) = (q10, false) := by unfold mS10; rw [s9, g9]
  have g10 : rN 8 (q10, false) = (m.ballot.who % 18446744073709551616, (q11, false)) := by rw [h10]; exact rN_be _ 8 _ (by omega) (by rw [show (256:Int)^8 = 18446744073709551616 from by decide]; omega)
  have s11 : mS11 (q0, false) = (q11, false) := by unfold mS11; rw [s10, g10]
  have g11 : rBytes 1000 (q11, false) = (m.value, (q12, false)) := by rw [h11]; exact rBytes_be _ _ _ (by omega) (by omega)
  have s12 : mS12 (q0, false) = (q12, false) := by unfold mS12; rw [s11, g11]
  have g12 : rN 8 (q12, false) = (m.err % 18446744073709551616, (q13, false)) := by rw [h12]; exact rN_be _ 8 _ (by omega) (by rw [show (256:Int)^8 = 18446744073709551616 from by decide]; omega)
  have s13 : mS13 (q0, false) = (q13, false) := by unfold mS13; rw [s12, g12]
  have g13 : rN 8 (q13, false) = (m.tail % 18446744073709551616, (q14, false)) := by rw [h13]; exact rN_be _ 8 _ (by omega) (by rw [show (256:Int)^8 = 18446744073709551616 from by decide]; omega)
  have s14 : mS14 (q0, false) = (q14, false) := by unfold mS14; rw [s13, g13]
  have g14 : rN 8 (q14, false) = (m.low % 18446744073709551616, (q15, false)) := by rw [h14]; exact rN_be _ 8 _ (by omega) (by rw [show (256:Int)^8 = 18446744073709551616 from by decide]; omega)
  have s15 : mS15 (q0, false) = (q15, false) := by unfold mS15; rw [s14, g14]
  have g15 : rN 8 (q15, false) = (m.back % 18446744073709551616, (q16, false)) := by rw [h15]; exact rN_be _ 8 _ (by omega) (by rw [show (256:Int)^8 = 18446744073709551616 from by decide]; omega)
  have s16 : mS16 (q0, false) = (q16, false) := by unfold mS16; rw [s15, g15]
  have hr : rMsg (q0, false) = m := by
    unfold rMsg
    rw [s1, s2, s3, s4, s5, s6, s7, s8, s9, s10, s11, s12, s13, s14, s15, g0, g1, g2, g3, g4, g5, g6, g7, g8, g9, g10, g11, g12, g13, g14, g15]
    simp only [sb_mod _ f0 f1, sb_mod _ t0 t1, wrap_mod w3, wrap_mod w5, wrap_mod w6, wrap_mod w9, wrap_mod w10, wrap_mod w12, wrap_mod w13, wrap_mod w14, wrap_mod w15, show m.kind % 256 = m.kind from by omega, show m.cell.what % 256 = m.cell.what from by omega]
  unfold mdec
  rw [unwCode_wrapped, unw_wrapped, hE, hr, s16, h16, if_neg (by decide), if_neg]
  rintro (h | h)
  · exact h (by decide)
  · exact h hok

/-- Encode of what may not be -/
theorem menc_no (m : Msg) (A : Option Addr) (c : Nat) (B : Option Addr) (d : Nat) (w : World) (h : RB w A m.cell.data) (hc : m.cell.data.length ≤ c) (h' : RB w B m.value) (hd : m.value.length ≤ d) (hok : ¬ MOk m) :
    Calls Try.prog 71 #[.agg #[.int .i64 m.from_, .int .i64 m.to_, .int .i64 m.number, .bool m.reply, .int .i64 m.kind, .int .i64 m.epoch, .int .i64 m.at_, .int .i64 m.cell.what, .slice A m.cell.data.length c, .int .i64 m.ballot.round, .int .i64 m.ballot.who, .slice B m.value.length d, .int .i64 m.err, .int .i64 m.tail, .int .i64 m.low, .int .i64 m.back]] w fun e w' => e = .returned (.tuple #[.slice none 0 0, .int .i64 1]) ∧ Below w.heap.size w w' := by
  have HR := Aside0.mk (fun W (hB : Below w.heap.size w W) => mright_calls m A c B d W (RB.keep h hB) hc (RB.keep h' hB) hd)
  rw [decide_eq_false hok] at HR
  obtain ⟨w0, hw0⟩ : ∃ w0, Aside0 (w0 = w.alloc (.cells (mCells m A c B d) 29)) := ⟨_, ⟨rfl⟩⟩
  have B0 : Aside0 (Below w.heap.size w w0) := ⟨by rw [hw0.out]; exact (Below.refl _ w).alloc (Nat.le_refl _) _⟩
  have hw0' := hw0.out
  unfold mCells at hw0'
  have HW0 := Aside0.mk hw0'
  clear h h' hok hw0 hw0'
  go_enter Try.func71, Try.ntmps71
  go_wp2_with (fail)
  rw [← HW0.out]
  refine (HR.out _ B0.out).mono ?_
  rintro e w1 ⟨rfl, b1⟩
  have B1 : Aside0 (Below w.heap.size w w1) := ⟨B0.out.trans (b1.mono B0.out.size)⟩
  clear HR b1 HW0
  go_wp2
  go_ret2
  exact ⟨rfl, B1.out⟩
end Go.Proofs.Ytmdnokfmlbjbhaa
