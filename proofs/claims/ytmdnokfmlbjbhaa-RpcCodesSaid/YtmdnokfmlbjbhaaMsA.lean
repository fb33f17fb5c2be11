/- Messages: which may be, their bytes, when two are one. -/
import Derived.Test.YtmdnokfmlbjbhaaGnA
import Derived.Test.YtmdnokfmlbjbhaaPRpcCodesx5
import Derived.Test.YtmdnokfmlbjbhaaRfB
namespace Go.Proofs.Ytmdnokfmlbjbhaa
open Go.RowKit Go.Proofs.YtmdnokfmlbjbhaaW.PrintWords Go.Proofs.YtmdnokfmlbjbhaaW.PrintMore
set_option linter.unusedVariables false
set_option linter.unusedSimpArgs false
theorem msg_ext (x y : Msg) : x = y ↔ x.from_ = y.from_ ∧ x.to_ = y.to_ ∧ x.number = y.number ∧ x.reply = y.reply ∧ x.kind = y.kind ∧ x.epoch = y.epoch ∧ x.at_ = y.at_ ∧ x.cell.what = y.cell.what ∧ x.cell.data = y.cell.data ∧ x.ballot.round = y.ballot.round ∧ x.ballot.who = y.ballot.who ∧ x.value = y.value ∧ x.err = y.err ∧ x.tail = y.tail ∧ x.low = y.low ∧ x.back = y.back := by
  obtain ⟨xf, xt, xn, xr, xk, xe, xa, ⟨xw, xd⟩, ⟨xo, xh⟩, xv, xx, xl, xs, xb⟩ := x
  obtain ⟨yf, yt, yn, yr, yk, ye, ya, ⟨yw, yd⟩, ⟨yo, yh⟩, yv, yx, yl, ys, yb⟩ := y
  simp only [Msg.mk.injEq, Cel.mk.injEq, Bal.mk.injEq, and_assoc]
instance (x y : Msg) : Decidable (x = y) := decidable_of_iff _ (msg_ext x y).symm

def Nb (n : Int) : Prop := -128 ≤ n ∧ n ≤ 127
instance (n : Int) : Decidable (Nb n) := by unfold Nb; infer_instance
/-- may a message be -/
def MOk (m : Msg) : Prop := (Nb m.from_ ∧ Nb m.to_) ∧ (1 ≤ m.kind ∧ m.kind ≤ 9) ∧ (0 ≤ m.cell.what ∧ m.cell.what ≤ 3) ∧ m.cell.data.length ≤ 65536 ∧ m.value.length ≤ 1000
instance (m : Msg) : Decidable (MOk m) := by unfold MOk; infer_instance
/-- a message's bytes ahead of their sum -/
def mbytes (m : Msg) : List Int := [m.from_ % 256] ++ [m.to_ % 256] ++ be (m.number % 18446744073709551616) 8 ++ [if m.reply then 1 else 0] ++ [m.kind % 256] ++ be (m.epoch % 18446744073709551616) 8 ++ be (m.at_ % 18446744073709551616) 8 ++ [m.cell.what % 256] ++ (be m.cell.data.length 4 ++ m.cell.data) ++ be (m.ballot.round % 18446744073709551616) 8 ++ be (m.ballot.who % 18446744073709551616) 8 ++ (be m.value.length 4 ++ m.value) ++ be (m.err % 18446744073709551616) 8 ++ be (m.tail % 18446744073709551616) 8 ++ be (m.low % 18446744073709551616) 8 ++ be (m.back % 18446744073709551616) 8
theorem mbytes_len (m : Msg) : (mbytes m).length = m.cell.data.length + m.value.length + 85 := by unfold mbytes; simp only [List.length_append, be_len, List.length_cons, List.length_nil]; omega
theorem mbytes_bytes {m : Msg} (h : Bytes m.cell.data) (h' : Bytes m.value) : Bytes (mbytes m) := by
  unfold mbytes
  have h1 : ∀ n : Int, Bytes [n % 256] := fun n y hy => by rw [List.mem_singleton.1 hy]; omega
  have h2 : Bytes [if m.reply then (1 : Int) else 0] := fun y hy => by rw [List.mem_singleton.1 hy]; split <;> omega
  exact (((((((((((((((h1 _).append (h1 _)).append (be_bytes _ _)).append h2).append (h1 _)).append (be_bytes _ _)).append (be_bytes _ _)).append (h1 _)).append ((be_bytes _ _).append h)).append (be_bytes _ _)).append (be_bytes _ _)).append ((be_bytes _ _).append h')).append (be_bytes _ _)).append (be_bytes _ _)).append (be_bytes _ _)).append (be_bytes _ _)
theorem be8_inj {a b : Int} (ha : Wf a) (hb : Wf b) (h : be (a % 18446744073709551616) 8 = be (b % 18446744073709551616) 8) : a = b := by
  have := be_inj (n := 8) (by omega) (by rw [show (256:Int)^8 = 18446744073709551616 from by decide]; omega) (by omega) (by rw [show (256:Int)^8 = 18446744073709551616 from by decide]; omega) h
  unfold Wf at ha hb
  omega
theorem app_inj_len {a b c d : List Int} (hl : a.length = b.length) (h : a ++ c = b ++ d) : a = b ∧ c = d := List.append_inj h hl
theorem mbytes_inj {x y : Msg} (hx : MOk x) (hy : MOk y) (wx : x.Ok) (wy : y.Ok) (h : mbytes x = mbytes y) : x = y := by
  obtain ⟨⟨⟨f0, f1⟩, g0, g1⟩, ⟨k0, k1⟩, ⟨c0, c1⟩, d1, v1⟩ := hx
  obtain ⟨⟨⟨f0', f1'⟩, g0', g1'⟩, ⟨k0', k1'⟩, ⟨c0', c1'⟩, d1', v1'⟩ := hy
  obtain ⟨w1, w2, w3, _, w4, w5, w6, ⟨w7, w8⟩, ⟨w9, w10⟩, w11, w12, w13, w14, w15⟩ := wx
  obtain ⟨u1, u2, u3, _, u4, u5, u6, ⟨u7, u8⟩, ⟨u9, u10⟩, u11, u12, u13, u14, u15⟩ := wy
  unfold mbytes at h
  simp only [List.append_assoc, List.cons_append, List.nil_append] at h
  injection h with h1 h
  injection h with h2 h
  obtain ⟨h3, h⟩ := app_inj_len (by simp [be_len]) h
  injection h with h4 h
  injection h with h5 h
  obtain ⟨h6, h⟩ := app_inj_len (by simp [be_len]) h
  obtain ⟨h7, h⟩ := app_inj_len (by simp [be_len]) h
  injection h with h8 h
  obtain ⟨h9, h⟩ := app_inj_len (by simp [be_len]) h
  have e9 : (x.cell.data.length : Int) = y.cell.data.length := be_inj (n := 4) (by omega) (by rw [show (256:Int)^4 = 4294967296 from by decide]; omega) (by omega) (by rw [show (256:Int)^4 = 4294967296 from by decide]; omega) h9
  obtain ⟨h10, h⟩ := app_inj_len (by omega) h
  obtain ⟨h11, h⟩ := app_inj_len (by simp [be_len]) h
  obtain ⟨h12, h⟩ := app_inj_len (by simp [be_len]) h
  obtain ⟨h13, h⟩ := app_inj_len (by simp [be_len]) h
  have e13 : (x.value.length : Int) = y.value.length := be_inj (n := 4) (by omega) (by rw [show (256:Int)^4 = 4294967296 from by decide]; omega) (by omega) (by rw [show (256:Int)^4 = 4294967296 from by decide]; omega) h13
  obtain ⟨h14, h⟩ := app_inj_len (by omega) h
  obtain ⟨h15, h⟩ := app_inj_len (by simp [be_len]) h
  obtain ⟨h16, h⟩ := app_inj_len (by simp [be_len]) h
  obtain ⟨h17, h18⟩ := app_inj_len (by simp [be_len]) h
  have e3 := be8_inj w3 u3 h3
  have e6 := be8_inj w5 u5 h6
  have e7 := be8_inj w6 u6 h7
  have e11 := be8_inj w9 u9 h11
  have e12 := be8_inj w10 u10 h12
  have e15 := be8_inj w12 u12 h15
  have e16 := be8_inj w13 u13 h16
  have e17 := be8_inj w14 u14 h17
  have e18 := be8_inj w15 u15 h18
  have e4 : x.reply = y.reply := by
    cases hx4 : x.reply <;> cases hy4 : y.reply <;> simp [hx4, hy4] at h4 <;> rfl
  obtain ⟨xf, xt, xn, xr, xk, xe, xa, ⟨xw, xd⟩, ⟨xo, xh⟩, xv, xx, xl, xs, xb⟩ := x
  obtain ⟨yf, yt, yn, yr, yk, ye, ya, ⟨yw, yd⟩, ⟨yo, yh⟩, yv, yx, yl, ys, yb⟩ := y
  simp only at *
  obtain rfl : xf = yf := by omega
  obtain rfl : xt = yt := by omega
  obtain rfl : xk = yk := by omega
  obtain rfl : xw = yw := by omega
  subst e3 e4 e6 e7 h10 e11 e12 h14 e15 e16 e17 e18
  rfl
theorem mwr_iff {x y : Msg} (hx : MOk x) (hy : MOk y) (wx : x.Ok) (wy : y.Ok) : decide (wrapped (mbytes x) = wrapped (mbytes y)) = decide (x = y) :=
  decide_eq_decide.2 ⟨fun h => mbytes_inj hx hy wx wy (wrapped_inj h), fun h => by rw [h]⟩

theorem mnode_f (n : Int) : RefMs.rpc_node.f n = some (decide (Nb n)) := by
  unfold RefMs.rpc_node.f Nb
  by_cases h : n ≥ -128
  · rw [if_pos h]; congr 1; apply decide_eq_decide.2; omega
  · rw [if_neg h]; congr 1; symm; apply decide_eq_false; omega
theorem mright_f (m : Msg) : RefMs.rpc_right.f m.from_ m.to_ m.number m.reply m.kind m.epoch m.at_ m.cell.what m.cell.data m.ballot.round m.ballot.who m.value m.err m.tail m.low m.back = some (decide (MOk m)) := by
  unfold RefMs.rpc_right.f
  simp only [mnode_f, Option.bind_some, decide_eq_true_eq]
  by_cases h1 : Nb m.from_
  · by_cases h2 : Nb m.to_
    · unfold MOk
      simp only [h1, h2, if_true, true_and, and_self]
      repeat' split
      all_goals (congr 1; first | (apply decide_eq_decide.2; omega) | (symm; apply decide_eq_false; omega))
    · rw [decide_eq_false (fun h : MOk m => h2 h.1.2)]
      simp only [h1, h2, if_true, if_false]
      repeat' split
      all_goals rfl
  · rw [decide_eq_false (fun h : MOk m => h1 h.1.1)]
    simp only [h1, if_false]
    repeat' split
    all_goals rfl
theorem mrefright_f (m : Msg) : RefMs.tidelineref12_Right.f m.from_ m.to_ m.number m.reply m.kind m.epoch m.at_ m.cell.what m.cell.data m.ballot.round m.ballot.who m.value m.err m.tail m.low m.back = some (decide (MOk m)) := by
  unfold RefMs.tidelineref12_Right.f MOk Nb
  repeat' split
  all_goals (congr 1; first | (apply decide_eq_decide.2; omega) | (symm; apply decide_eq_false; omega))

/-- a message's cells -/
def mCells (m : Msg) (A : Option Addr) (c : Nat) (B : Option Addr) (d : Nat) : Array Value := #[.int .i64 m.from_, .int .i64 m.to_, .int .i64 m.number, .bool m.reply, .int .i64 m.kind, .int .i64 m.epoch, .int .i64 m.at_, .int .i64 m.cell.what, .slice A m.cell.data.length c, .int .i64 m.ballot.round, .int .i64 m.ballot.who, .slice B m.value.length d, .int .i64 m.err, .int .i64 m.tail, .int .i64 m.low, .int .i64 m.back]
theorem m_at {W : World} {b : Nat} {m : Msg} {A : Option Addr} {c : Nat} {B : Option Addr} {d : Nat} (h : W.heap[b]? = some (.cells (mCells m A c B d) 29 (0, 0))) :
    W.cell? ⟨b, 0, none⟩ = some (.int .i64 m.from_) ∧ W.cell? ⟨b, 1, none⟩ = some (.int .i64 m.to_) ∧ W.cell? ⟨b, 2, none⟩ = some (.int .i64 m.number) ∧ W.cell? ⟨b, 3, none⟩ = some (.bool m.reply) ∧ W.cell? ⟨b, 4, none⟩ = some (.int .i64 m.kind) ∧ W.cell? ⟨b, 5, none⟩ = some (.int .i64 m.epoch) ∧ W.cell? ⟨b, 6, none⟩ = some (.int .i64 m.at_) ∧ W.cell? ⟨b, 7, none⟩ = some (.int .i64 m.cell.what) ∧ W.cell? ⟨b, 8, none⟩ = some (.slice A m.cell.data.length c) ∧ W.cell? ⟨b, 9, none⟩ = some (.int .i64 m.ballot.round) ∧ W.cell? ⟨b, 10, none⟩ = some (.int .i64 m.ballot.who) ∧ W.cell? ⟨b, 11, none⟩ = some (.slice B m.value.length d) ∧ W.cell? ⟨b, 12, none⟩ = some (.int .i64 m.err) ∧ W.cell? ⟨b, 13, none⟩ = some (.int .i64 m.tail) ∧ W.cell? ⟨b, 14, none⟩ = some (.int .i64 m.low) ∧ W.cell? ⟨b, 15, none⟩ = some (.int .i64 m.back) :=
  ⟨blk_cell h 0, blk_cell h 1, blk_cell h 2, blk_cell h 3, blk_cell h 4, blk_cell h 5, blk_cell h 6, blk_cell h 7, blk_cell h 8, blk_cell h 9, blk_cell h 10, blk_cell h 11, blk_cell h 12, blk_cell h 13, blk_cell h 14, blk_cell h 15⟩
theorem mright_calls (m : Msg) (A : Option Addr) (c : Nat) (B : Option Addr) (d : Nat) (w : World) (h : RB w A m.cell.data) (hc : m.cell.data.length ≤ c) (h' : RB w B m.value) (hd : m.value.length ≤ d) :
    Calls Try.prog 128 #[.agg #[.int .i64 m.from_, .int .i64 m.to_, .int .i64 m.number, .bool m.reply, .int .i64 m.kind, .int .i64 m.epoch, .int .i64 m.at_, .int .i64 m.cell.what, .slice A m.cell.data.length c, .int .i64 m.ballot.round, .int .i64 m.ballot.who, .slice B m.value.length d, .int .i64 m.err, .int .i64 m.tail, .int .i64 m.low, .int .i64 m.back]] w fun e w' => e = .returned (.bool (decide (MOk m))) ∧ Below w.heap.size w w' :=
  RefMs.rpc_right.calls _ _ _ _ _ _ _ _ A c m.cell.data _ _ B d m.value _ _ _ _ _ w h hc h' hd (mright_f m)
theorem mrefright_calls (m : Msg) (A : Option Addr) (c : Nat) (B : Option Addr) (d : Nat) (w : World) (h : RB w A m.cell.data) (hc : m.cell.data.length ≤ c) (h' : RB w B m.value) (hd : m.value.length ≤ d) :
    Calls Try.prog 74 #[.agg #[.int .i64 m.from_, .int .i64 m.to_, .int .i64 m.number, .bool m.reply, .int .i64 m.kind, .int .i64 m.epoch, .int .i64 m.at_, .int .i64 m.cell.what, .slice A m.cell.data.length c, .int .i64 m.ballot.round, .int .i64 m.ballot.who, .slice B m.value.length d, .int .i64 m.err, .int .i64 m.tail, .int .i64 m.low, .int .i64 m.back]] w fun e w' => e = .returned (.bool (decide (MOk m))) ∧ Below w.heap.size w w' :=
  RefMs.tidelineref12_Right.calls _ _ _ _ _ _ _ _ A c m.cell.data _ _ B d m.value _ _ _ _ _ w h hc h' hd (mrefright_f m)

/-! ### two messages that are one -/
theorem msameB_l (a b : List Int) (hl : a.length = b.length) (hm : a.length ≤ 9223372036854775807) : ∀ (d i : Nat), i + d = a.length → Ev (fun k => PRpcCodes.tidelineref01_Same.l0 k a b (i : Int)) (decide (a.drop i = b.drop i))
  | 0, i, h => by
    rw [List.drop_of_length_le (by omega), List.drop_of_length_le (by omega)]
    refine Ev.step (f := fun _ => some (decide (([] : List Int) = []))) (fun k => ?_) (Ev.now _)
    simp only [PRpcCodes.tidelineref01_Same.l0]
    rw [if_neg (by omega)]; rfl
  | d + 1, i, h => by
    have hda : a.drop i = rd a i :: a.drop (i + 1) := by rw [rd_nat, List.getD_eq_getElem?_getD, List.getElem?_eq_getElem (show i < a.length by omega)]; exact List.drop_eq_getElem_cons _
    have hdb : b.drop i = rd b i :: b.drop (i + 1) := by rw [rd_nat, List.getD_eq_getElem?_getD, List.getElem?_eq_getElem (show i < b.length by omega)]; exact List.drop_eq_getElem_cons _
    rw [hda, hdb]
    by_cases he : rd a i = rd b i
    · refine Ev.step (f := fun k => PRpcCodes.tidelineref01_Same.l0 k a b ((i + 1 : Nat) : Int)) (fun k => ?_) ?_
      · conv => lhs; simp only [PRpcCodes.tidelineref01_Same.l0]
        rw [if_pos (by omega), if_pos (by omega), if_pos (by omega), if_pos he, IntWalk.wrap64_in _ (by omega)]; rfl
      · have := msameB_l a b hl hm d (i + 1) (by omega)
        rw [show decide (rd a i :: a.drop (i + 1) = rd b i :: b.drop (i + 1)) = decide (a.drop (i + 1) = b.drop (i + 1)) from decide_eq_decide.2 ⟨fun h => (List.cons.inj h).2, fun h => by rw [h, he]⟩]
        exact this
    · rw [decide_eq_false (fun h => he (List.cons.inj h).1)]
      refine Ev.step (f := fun _ => some false) (fun k => ?_) (Ev.now _)
      simp only [PRpcCodes.tidelineref01_Same.l0]
      rw [if_pos (by omega), if_pos (by omega), if_pos (by omega), if_neg he]
theorem msameB_ev (a b : List Int) (hm : a.length ≤ 9223372036854775807) : Ev (fun k => PRpcCodes.tidelineref01_Same.f k a b) (decide (a = b)) := by
  by_cases hl : a.length = b.length
  · refine Ev.congr (f := fun k => PRpcCodes.tidelineref01_Same.l0 k a b ((0 : Nat) : Int)) (fun k => ?_) ?_
    · unfold PRpcCodes.tidelineref01_Same.f; rw [if_pos (by omega)]; rfl
    · have := msameB_l a b hl hm a.length 0 (by omega)
      simpa using this
  · rw [decide_eq_false (fun e => hl (by rw [e]))]
    refine Ev.congr (f := fun k => some false) (fun k => ?_) (Ev.now _)
    unfold PRpcCodes.tidelineref01_Same.f; rw [if_neg (by omega)]
theorem ite_some_b (p : Prop) [Decidable p] (q : Bool) : (if p then some q else some false) = some (decide p && q) := by
  by_cases h : p <;> simp [h]
theorem msame_f (x y : Msg) (hm : x.cell.data.length ≤ 9223372036854775807) (hm' : x.value.length ≤ 9223372036854775807) : ∃ k, PRpcCodes.tidelineref12_Same.f k x.from_ x.to_ x.number x.reply x.kind x.epoch x.at_ x.cell.what x.cell.data x.ballot.round x.ballot.who x.value x.err x.tail x.low x.back y.from_ y.to_ y.number y.reply y.kind y.epoch y.at_ y.cell.what y.cell.data y.ballot.round y.ballot.who y.value y.err y.tail y.low y.back = some (decide (x = y)) := by
  obtain ⟨K1, h1⟩ := msameB_ev x.cell.data y.cell.data hm
  obtain ⟨K2, h2⟩ := msameB_ev x.value y.value hm'
  refine ⟨max K1 K2 + 1, ?_⟩
  have h1 := h1 (max K1 K2) (Nat.le_max_left _ _)
  have h2 := h2 (max K1 K2) (Nat.le_max_right _ _)
  generalize max K1 K2 = k at *
  have hj : ∀ q : Bool, PRpcCodes.tidelineref12_Same.j0 (k + 1) q x.from_ x.to_ x.number x.reply x.kind x.epoch x.at_ x.cell.what x.cell.data x.ballot.round x.ballot.who x.value x.err x.tail x.low x.back y.from_ y.to_ y.number y.reply y.kind y.epoch y.at_ y.cell.what y.cell.data y.ballot.round y.ballot.who y.value y.err y.tail y.low y.back = some (!q && (decide (x.cell.what = y.cell.what ∧ x.cell.data = y.cell.data ∧ x.ballot.round = y.ballot.round ∧ x.ballot.who = y.ballot.who ∧ x.value = y.value ∧ x.err = y.err ∧ x.tail = y.tail ∧ x.low = y.low ∧ x.back = y.back))) := by
    intro q
    cases q
    · simp only [PRpcCodes.tidelineref12_Same.j0, PRpcCodes.tidelineref09_SameCell.f, h1, h2, Option.bind_some, ite_some_b, Bool.decide_eq_true]
      rw [if_neg (by decide)]
      congr 1
      rw [Bool.eq_iff_iff]
      simp [and_assoc]
    · simp [PRpcCodes.tidelineref12_Same.j0]
  unfold PRpcCodes.tidelineref12_Same.f
  simp only [hj, ite_some_b, Bool.decide_eq_true]
  rw [show decide (x = y) = decide (x.from_ = y.from_ ∧ x.to_ = y.to_ ∧ x.number = y.number ∧ x.reply = y.reply ∧ x.kind = y.kind ∧ x.epoch = y.epoch ∧ x.at_ = y.at_ ∧ x.cell.what = y.cell.what ∧ x.cell.data = y.cell.data ∧ x.ballot.round = y.ballot.round ∧ x.ballot.who = y.ballot.who ∧ x.value = y.value ∧ x.err = y.err ∧ x.tail = y.tail ∧ x.low = y.low ∧ x.back = y.back) from decide_eq_decide.2 (msg_ext x y)]
  by_cases e0 : x.from_ = y.from_
  · by_cases e1 : x.to_ = y.to_
    · by_cases e2 : x.number = y.number
      · by_cases e3 : x.reply = y.reply
        · by_cases e4 : x.kind = y.kind
          · by_cases e5 : x.epoch = y.epoch
            · by_cases e6 : x.at_ = y.at_
              · simp [e0, e1, e2, e3, e4, e5, e6]
              · simp [e0, e1, e2, e3, e4, e5, e6]
            · simp [e0, e1, e2, e3, e4, e5]
          · simp [e0, e1, e2, e3, e4]
        · simp [e0, e1, e2, e3]
      · simp [e0, e1, e2]
    · simp [e0, e1]
  · simp [e0]
theorem msame_calls (x y : Msg) (A : Option Addr) (c : Nat) (B : Option Addr) (d : Nat) (A' : Option Addr) (c' : Nat) (B' : Option Addr) (d' : Nat) (w : World) (h1 : RB w A x.cell.data) (l1 : x.cell.data.length ≤ c) (h2 : RB w B x.value) (l2 : x.value.length ≤ d) (h3 : RB w A' y.cell.data) (l3 : y.cell.data.length ≤ c') (h4 : RB w B' y.value) (l4 : y.value.length ≤ d') :
    Calls Try.prog 22 #[.agg #[.int .i64 x.from_, .int .i64 x.to_, .int .i64 x.number, .bool x.reply, .int .i64 x.kind, .int .i64 x.epoch, .int .i64 x.at_, .int .i64 x.cell.what, .slice A x.cell.data.length c, .int .i64 x.ballot.round, .int .i64 x.ballot.who, .slice B x.value.length d, .int .i64 x.err, .int .i64 x.tail, .int .i64 x.low, .int .i64 x.back], .agg #[.int .i64 y.from_, .int .i64 y.to_, .int .i64 y.number, .bool y.reply, .int .i64 y.kind, .int .i64 y.epoch, .int .i64 y.at_, .int .i64 y.cell.what, .slice A' y.cell.data.length c', .int .i64 y.ballot.round, .int .i64 y.ballot.who, .slice B' y.value.length d', .int .i64 y.err, .int .i64 y.tail, .int .i64 y.low, .int .i64 y.back]] w fun e w' => e = .returned (.bool (decide (x = y))) ∧ Below w.heap.size w w' := by
  obtain ⟨k, hk⟩ := msame_f x y (Kd.C_max h1) (Kd.C_max h2)
  exact PRpcCodes.tidelineref12_Same.calls k _ _ _ _ _ _ _ _ A c x.cell.data _ _ B d x.value _ _ _ _ _ _ _ _ _ _ _ _ A' c' y.cell.data _ _ B' d' y.value _ _ _ _ _ w h1 l1 h2 l2 h3 l3 h4 l4 hk
end Go.Proofs.Ytmdnokfmlbjbhaa
