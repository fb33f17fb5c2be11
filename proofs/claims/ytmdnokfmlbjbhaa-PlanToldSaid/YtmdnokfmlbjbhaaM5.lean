/- octet.PutList of plan.Encode; plan.Encode; tidelineref11.Encode. -/
import Derived.Test.YtmdnokfmlbjbhaaM1
import Derived.Test.YtmdnokfmlbjbhaaM3
import Derived.Test.YtmdnokfmlbjbhaaM2

namespace Go.Proofs.Ytmdnokfmlbjbhaa
open Go.RowKit Go.Proofs.YtmdnokfmlbjbhaaW.PrintWords Go.Proofs.YtmdnokfmlbjbhaaW.PrintMore
set_option linter.unusedVariables false
set_option linter.unusedSimpArgs false

def lowB (l : List Int) : List Int := l.map (· % 256)
theorem lowB_len (l : List Int) : (lowB l).length = l.length := List.length_map _
theorem lowB_bytes (l : List Int) : Bytes (lowB l) := by
  intro x hx
  obtain ⟨y, _, rfl⟩ := List.mem_map.1 hx
  omega
theorem lowB_snoc (l : List Int) (k : Nat) (h : k < l.length) : lowB (l.take (k + 1)) = lowB (l.take k) ++ [rd l k % 256] := by
  unfold lowB; rw [take_succ_rd l k h, List.map_append]; rfl
/-- the bytes of a row of ints -/
def encRow (l : List Int) : List Int := be l.length 4 ++ lowB l
theorem encRow_len (l : List Int) : (encRow l).length = l.length + 4 := by unfold encRow; rw [List.length_append, be_len, lowB_len]; omega

set_option maxRecDepth 100000 in
theorem put1_calls (base g : Nat) (v : Value) (xs : List Int) (n : Int) (w : World) (hc : w.heap[g]? = some (.cells #[v] 76 (0, 0))) (ho : OB w base v xs) (hb : base ≤ w.heap.size) (hl : xs.length + 1 ≤ 140737488355328) :
    Calls Try.prog 114 #[.pointer (some ⟨g, 0, none⟩), .int .i64 n] w fun e w' => e = .returned (.tuple #[]) ∧ ∃ v', Wrote base g w v w' v' (xs ++ [n % 256]) := by
  have H := Aside0.mk (wbyte_calls base g v xs (n % 256) w hc ho hb hl)
  clear hc ho
  go_enter Try.func114, Try.ntmps114
  go_wp2_with (go_at_call 104; refine H.out.mono ?_; rintro e w1 ⟨rfl, v1, hw1⟩; have HW1 := Aside0.mk hw1; clear hw1)
  go_end0
  exact ⟨rfl, v1, HW1.out⟩

/-- what lay ahead of a Writer is as it was -/
theorem Wrote.ahead {base g : Nat} {w0 w w' : World} {v v' : Value} {xs xs0 : List Int} (h : Wrote base g w v w' v' xs) (hB : Below w0.heap.size w0 w) (hg : w0.heap.size ≤ g) (hb : w0.heap.size ≤ base) (ho : OB w base v xs0) : Below w0.heap.size w0 w' :=
  hB.trans (h.upd.below hB.size (fun k hk => hk.elim (fun e => by omega) (fun e => Nat.le_trans hb (own_base ho k e))))

set_option maxHeartbeats 1000000 in
set_option maxRecDepth 100000 in
theorem putints_calls (w0 : World) (base g : Nat) (v : Value) (xs : List Int) (A : Option Addr) (c : Nat) (l : List Int) (w : World) (hc : w.heap[g]? = some (.cells #[v] 76 (0, 0))) (ho : OB w base v xs) (hb : base ≤ w.heap.size)
    (hr : RI w0 A l) (hB : Below w0.heap.size w0 w) (hg0 : w0.heap.size ≤ g) (hb0 : w0.heap.size ≤ base) (hl : xs.length + l.length + 20 ≤ 140737488355328) :
    Calls Try.prog 113 #[.pointer (some ⟨g, 0, none⟩), .slice A l.length c, .func (.func 114) #[] #[]] w fun e w' => e = .returned (.tuple #[]) ∧ ∃ v', Wrote base g w v w' v' (xs ++ encRow l) := by
  have H := Aside0.mk (wnumber_calls base g v xs (l.length : Int) 4 4 (by decide) (by decide) w (by omega) (by omega) hc ho hb (by omega))
  have HR := Aside0.mk hr
  have HB0 := Aside0.mk hB
  have hl0 : (0 : Int) ≤ (l.length : Int) := by omega
  have hl1 : (l.length : Int) ≤ 140737488355328 := by omega
  clear hr hB hc
  have HO := Aside0.mk ho
  clear ho
  go_enter Try.func113, Try.ntmps113
  go_wp2_with (fail)
  refine H.out.mono ?_
  rintro e w1 ⟨rfl, v1, hw1⟩
  have HW1 := Aside0.mk hw1
  clear hw1 H
  go_wp2
  go_loopw [15] (fun v15 W => ∃ (k : Nat) (v' : Value), k ≤ l.length ∧ v15 = .int .i64 k ∧ Aside0 (Wrote base g w v W v' (xs ++ be l.length 4 ++ lowB (l.take k)))) (fun v15 _ => l.length - (intOf v15).toNat)
  case atStart => exact ⟨0, v1, by omega, rfl, ⟨by simpa [lowB] using HW1.out⟩⟩
  case round =>
    clear HW1
    obtain ⟨k, v', hk, rfl, HW⟩ := hrel
    by_cases hlt : k < l.length
    · have hrr : RI wr A l := RB.keep HR.out (HW.out.ahead HB0.out hg0 hb0 HO.out)
      obtain ⟨ad0, e0, hc0⟩ := RB.cell hrr k hlt
      subst e0
      have q0 : (0 : Int) ≤ (k : Int) := by omega
      have q1 : (k : Int) < (l.length : Int) := by omega
      have HB := Aside0.mk (put1_calls base g v' _ (rd l k) wr HW.out.cell HW.out.own (Nat.le_trans hb HW.out.upd.size) (by rw [List.length_append, List.length_append, be_len, lowB_len, List.length_take]; omega))
      have HS := Aside0.mk (lowB_snoc l k hlt)
      have HK : Aside0 (k + 1 ≤ l.length) := ⟨hlt⟩
      clear hrr
      go_wp2_with (go_at_call 114; refine HB.out.mono ?_; rintro e w2 ⟨rfl, v2, hw2⟩; have HW2 := Aside0.mk (HW.out.trans hw2); clear hw2)
      go_roundw
      case rel => exact ⟨k + 1, v2, HK.out, by go_num, ⟨by have := HW2.out; rw [HS.out, ← List.append_assoc]; exact this⟩⟩
      case measure => have := HK.out; simp [intOf]; omega
    · have HK : Aside0 (l.take k = l) := ⟨List.take_of_length_le (by omega)⟩
      go_wp2
      go_end0
      exact ⟨rfl, v', by have := HW.out; rw [HK.out, List.append_assoc] at this; exact this⟩

set_option maxRecDepth 100000 in
theorem put2_calls (w0 : World) (base g : Nat) (v : Value) (xs : List Int) (A : Option Addr) (c : Nat) (l : List Int) (w : World) (hc : w.heap[g]? = some (.cells #[v] 76 (0, 0))) (ho : OB w base v xs) (hb : base ≤ w.heap.size)
    (hr : RI w0 A l) (hB : Below w0.heap.size w0 w) (hg0 : w0.heap.size ≤ g) (hb0 : w0.heap.size ≤ base) (hl : xs.length + l.length + 20 ≤ 140737488355328) :
    Calls Try.prog 112 #[.pointer (some ⟨g, 0, none⟩), .slice A l.length c] w fun e w' => e = .returned (.tuple #[]) ∧ ∃ v', Wrote base g w v w' v' (xs ++ encRow l) := by
  have H := Aside0.mk (putints_calls w0 base g v xs A c l w hc ho hb hr hB hg0 hb0 hl)
  clear hc ho hr hB
  go_enter Try.func112, Try.ntmps112
  go_wp2_with (go_at_call 113; refine H.out.mono ?_; rintro e w1 ⟨rfl, v1, hw1⟩; have HW1 := Aside0.mk hw1; clear hw1)
  go_end0
  exact ⟨rfl, v1, HW1.out⟩

/-- the bytes of rows of ints -/
def encRows (cs : List (List Int)) : List Int := (cs.map encRow).flatten
theorem encRows_snoc (cs : List (List Int)) (k : Nat) (h : k < cs.length) : encRows (cs.take (k + 1)) = encRows (cs.take k) ++ encRow cs[k] := by
  unfold encRows; rw [List.take_succ_eq_append_getElem h, List.map_append, List.flatten_append]; simp
theorem encRows_take_len (cs : List (List Int)) : ∀ k, (encRows (cs.take k)).length ≤ (encRows cs).length := by
  intro k
  conv => rhs; rw [← List.take_append_drop k cs]
  unfold encRows
  rw [List.map_append, List.flatten_append, List.length_append]
  omega
theorem encRow_bytes (l : List Int) : Bytes (encRow l) := (be_bytes _ _).append (lowB_bytes l)
theorem encRows_bytes (cs : List (List Int)) : Bytes (encRows cs) := by
  intro x hx
  unfold encRows at hx
  obtain ⟨l, hl, hx⟩ := List.mem_flatten.1 hx
  obtain ⟨c, _, rfl⟩ := List.mem_map.1 hl
  exact encRow_bytes c x hx

set_option maxHeartbeats 1000000 in
set_option maxRecDepth 100000 in
theorem putrows_calls (w0 : World) (base g : Nat) (v : Value) (xs : List Int) (A : Option Addr) (c : Nat) (cs : List (List Int)) (w : World) (hc : w.heap[g]? = some (.cells #[v] 76 (0, 0))) (ho : OB w base v xs) (hb : base ≤ w.heap.size)
    (hr : RL w0 A cs) (hB : Below w0.heap.size w0 w) (hg0 : w0.heap.size ≤ g) (hb0 : w0.heap.size ≤ base) (hl : xs.length + cs.length + (encRows cs).length + 40 ≤ 140737488355328) :
    Calls Try.prog 111 #[.pointer (some ⟨g, 0, none⟩), .slice A cs.length c, .func (.func 112) #[] #[]] w fun e w' => e = .returned (.tuple #[]) ∧ ∃ v', Wrote base g w v w' v' (xs ++ be cs.length 4 ++ encRows cs) := by
  have H := Aside0.mk (wnumber_calls base g v xs (cs.length : Int) 4 4 (by decide) (by decide) w (by omega) (by omega) hc ho hb (by omega))
  have HR := Aside0.mk hr
  have HB0 := Aside0.mk hB
  have hl0 : (0 : Int) ≤ (cs.length : Int) := by omega
  have hl1 : (cs.length : Int) ≤ 140737488355328 := by omega
  clear hr hB hc
  have HO := Aside0.mk ho
  clear ho
  go_enter Try.func111, Try.ntmps111
  go_wp2_with (fail)
  refine H.out.mono ?_
  rintro e w1 ⟨rfl, v1, hw1⟩
  have HW1 := Aside0.mk hw1
  clear hw1 H
  go_wp2
  go_loopw [15] (fun v15 W => ∃ (k : Nat) (v' : Value), k ≤ cs.length ∧ v15 = .int .i64 k ∧ Aside0 (Wrote base g w v W v' (xs ++ be cs.length 4 ++ encRows (cs.take k)))) (fun v15 _ => cs.length - (intOf v15).toNat)
  case atStart => exact ⟨0, v1, by omega, rfl, ⟨by simpa [encRows] using HW1.out⟩⟩
  case round =>
    clear HW1
    obtain ⟨k, v', hk, rfl, HW⟩ := hrel
    by_cases hlt : k < cs.length
    · obtain ⟨ad, B, cb, e0, hc0, q1, q2⟩ := chain_at HR.out k hlt
      subst e0
      have HBW := Aside0.mk (HW.out.ahead HB0.out hg0 hb0 HO.out)
      replace hc0 := cell_later HBW.out hc0
      obtain ⟨l, hlk⟩ : ∃ l, l = cs[k] := ⟨_, rfl⟩
      have HS := Aside0.mk (encRows_snoc cs k hlt)
      rw [← hlk] at hc0 q1 q2 HS
      have hx1 : (encRows (cs.take k) ++ encRow l).length ≤ (encRows cs).length := by rw [← HS.out]; exact encRows_take_len cs (k + 1)
      rw [List.length_append, encRow_len] at hx1
      have k0 : (0 : Int) ≤ (k : Int) := by omega
      have k1 : (k : Int) < (cs.length : Int) := by omega
      have HB := Aside0.mk (put2_calls w0 base g v' _ B cb l wr HW.out.cell HW.out.own (Nat.le_trans hb HW.out.upd.size) q1 HBW.out hg0 hb0 (by rw [List.length_append, List.length_append, be_len]; omega))
      have HK : Aside0 (k + 1 ≤ cs.length) := ⟨hlt⟩
      clear q1 hlk hx1
      go_wp2_with (go_at_call 112; refine HB.out.mono ?_; rintro e w2 ⟨rfl, v2, hw2⟩; have HW2 := Aside0.mk (HW.out.trans hw2); clear hw2)
      go_roundw
      case rel => exact ⟨k + 1, v2, HK.out, by go_num, ⟨by have := HW2.out; rw [HS.out, ← List.append_assoc]; exact this⟩⟩
      case measure => have := HK.out; simp [intOf]; omega
    · have HK : Aside0 (cs.take k = cs) := ⟨List.take_of_length_le (by omega)⟩
      go_wp2
      go_end0
      exact ⟨rfl, v', by have := HW.out; rw [HK.out] at this; exact this⟩

/-- the bytes of a plan, ahead of their sum -/
def encOf (e : Int) (cs : List (List Int)) : List Int := be (e % 18446744073709551616) 4 ++ be cs.length 4 ++ encRows cs
theorem encOf_bytes (e : Int) (cs : List (List Int)) : Bytes (encOf e cs) := ((be_bytes _ _).append (be_bytes _ _)).append (encRows_bytes cs)

set_option maxHeartbeats 1000000 in
set_option maxRecDepth 100000 in
theorem encode_calls (e : Int) (A : Option Addr) (c : Nat) (cs : List (List Int)) (w : World) (h : RL w A cs) (hl : cs.length + (encRows cs).length + 100 ≤ 140737488350000) (he : Wf e) :
    Calls Try.prog 60 #[.agg #[.int .i64 e, .slice A cs.length c]] w fun ex w' => ∃ v, ex = .returned v ∧ OB w' w.heap.size v (wrapped (encOf e cs)) ∧ Below w.heap.size w w' := by
  have H := Aside0.mk h
  obtain ⟨es, hes⟩ : ∃ es, es = encOf e cs := ⟨_, rfl⟩
  have HL : Aside0 (es.length ≤ 140737488350000) := ⟨by rw [hes]; unfold encOf; rw [List.length_append, List.length_append, be_len, be_len]; omega⟩
  have HEB : Aside0 (Bytes es) := ⟨by rw [hes]; exact encOf_bytes e cs⟩
  have HE : Aside0 (be (e % 18446744073709551616) 4 ++ be cs.length 4 ++ encRows cs = es) := ⟨hes.symm⟩
  rw [← hes]
  clear hes
  obtain ⟨w0, hw0⟩ : ∃ w0, Aside0 (w0 = (w.alloc (.cells #[.int .i64 e, .slice A cs.length c] 55)).alloc (.cells #[.slice none 0 0] 76)) := ⟨_, ⟨rfl⟩⟩
  have hz0 : w0.heap.size = w.heap.size + 2 := by rw [hw0.out]; simp only [World.size_alloc]
  have B0 : Aside0 (Below w.heap.size w w0) := ⟨by rw [hw0.out]; exact ((Below.refl _ w).alloc (Nat.le_refl _) _).alloc (by simp only [World.size_alloc]; omega) _⟩
  have hp : w0.heap[w.heap.size]? = some (.cells #[.int .i64 e, .slice A cs.length c] 55 (0, 0)) := by rw [hw0.out]; exact (Below.heap_alloc _ _ _ (by simp only [World.size_alloc]; omega)).trans (heap_alloc_new w _)
  have hg : w0.heap[w.heap.size + 1]? = some (.cells #[.slice none 0 0] 76 (0, 0)) := by
    have q := heap_alloc_new (w.alloc (.cells #[.int .i64 e, .slice A cs.length c] 55)) (.cells #[.slice none 0 0] 76)
    rw [World.size_alloc] at q
    rw [hw0.out]; exact q
  have hN := wnumber_calls (w.heap.size + 2) (w.heap.size + 1) (.slice none 0 0) [] (e % 18446744073709551616) 4 4 (by decide) (by decide) w0 (by omega) (by omega) hg (OB.nil _ _) (by omega) (by simp)
  rw [List.nil_append] at hN
  have HN := Aside0.mk hN
  have HP := Aside0.mk hp
  have w1 := he.1
  have w2 := he.2
  clear h hN hp hg
  go_enter Try.func60, Try.ntmps60
  go_wp2_with (fail)
  rw [← hw0.out]
  simp only [IntKind.wrap_u64]
  refine HN.out.mono ?_
  rintro ex w3 ⟨rfl, v3, hw3⟩
  have HW3 := Aside0.mk hw3
  have BW3 := Aside0.mk (hw3.ahead B0.out (by omega) (by omega) (OB.nil _ _))
  have hP3 := hw3.upd.at_ HP.out (fun h => h.elim (fun e => by omega) (fun e => by simp [Value.ownBlock] at e))
  have p1 := blk_cell hP3 1
  simp only [List.getElem?_toArray, List.getElem?_cons_zero, List.getElem?_cons_succ] at p1
  have HQ := Aside0.mk (putrows_calls w (w.heap.size + 2) (w.heap.size + 1) v3 (be (e % 18446744073709551616) 4) A c cs w3 hw3.cell hw3.own (by have := hw3.upd.size; omega) H.out BW3.out (by omega) (by omega) (by rw [be_len]; omega))
  rw [HE.out] at HQ
  clear hw3 hP3 HN w1 w2
  go_wp2_with (fail)
  refine HQ.out.mono ?_
  rintro ex w4 ⟨rfl, v4, hw4⟩
  have HO := Aside0.mk (wout_calls (w.heap.size + 2) (w.heap.size + 1) v4 es w4 hw4.cell hw4.own (by have := HL.out; omega))
  have BW4 := Aside0.mk (hw4.ahead BW3.out (by omega) (by omega) HW3.out.own)
  clear hw4 HQ p1
  go_wp2_with (fail)
  refine HO.out.mono ?_
  rintro ex w5 ⟨u, rfl, ou, b5⟩
  obtain ⟨A5, c5, rfl, r5, _⟩ := OB.slice ou
  have B5 : Aside0 (Below w.heap.size w w5) := ⟨BW4.out.trans (b5.mono BW4.out.size)⟩
  have HWR := Aside0.mk (wrap_calls A5 c5 es w5 r5 HEB.out HL.out)
  clear ou r5 b5
  go_wp2_with (fail)
  refine HWR.out.mono ?_
  rintro ex w6 ⟨v6, rfl, o6, b6⟩
  have O6 := Aside0.mk (own_weaken o6 B5.out.size)
  have B6 : Aside0 (Below w.heap.size w w6) := ⟨B5.out.trans (b6.mono B5.out.size)⟩
  clear o6 b6
  go_wp2
  go_ret
  exact ⟨_, rfl, O6.out, B6.out⟩
end Go.Proofs.Ytmdnokfmlbjbhaa

namespace Go.Proofs.Ytmdnokfmlbjbhaa
open Go.RowKit Go.Proofs.YtmdnokfmlbjbhaaW.PrintWords Go.Proofs.YtmdnokfmlbjbhaaW.PrintMore
set_option linter.unusedVariables false
set_option linter.unusedSimpArgs false

theorem Puts.from_ {base B : Nat} {w0 w w' : World} {v v' : Value} {xs xs0 : List Int} (h : Puts base w v w' v' xs) (hB : Below B w0 w) (hb : B ≤ base) (hs : B ≤ w.heap.size) (ho : OB w base v xs0) : Below B w0 w' :=
  hB.trans (h.below hs (fun k hk => Nat.le_trans hb (own_base ho k hk)))

set_option maxHeartbeats 1000000 in
set_option maxRecDepth 100000 in
theorem refencode_calls (e : Int) (A : Option Addr) (c : Nat) (cs : List (List Int)) (w : World) (h : RL w A cs) (hl : cs.length + (encRows cs).length + 100 ≤ 140737488350000) (he : Wf e) :
    Calls Try.prog 61 #[.agg #[.int .i64 e, .slice A cs.length c]] w fun ex w' => ∃ v, ex = .returned v ∧ OB w' w.heap.size v (wrapped (encOf e cs)) ∧ Below w.heap.size w w' := by
  have H := Aside0.mk h
  have m0 := Kd.C_max h
  obtain ⟨es, hes⟩ : ∃ es, es = encOf e cs := ⟨_, rfl⟩
  have HL : Aside0 (es.length ≤ 140737488350000) := ⟨by rw [hes]; unfold encOf; rw [List.length_append, List.length_append, be_len, be_len]; omega⟩
  have HEB : Aside0 (Bytes es) := ⟨by rw [hes]; exact encOf_bytes e cs⟩
  have HE : Aside0 (be (e % 18446744073709551616) 4 ++ be cs.length 4 ++ encRows cs = es) := ⟨hes.symm⟩
  rw [← hes]
  clear hes
  obtain ⟨w0, hw0⟩ : ∃ w0, Aside0 (w0 = (w.alloc (.cells #[.int .i64 e, .slice A cs.length c] 55)).alloc (.cells #[] 5)) := ⟨_, ⟨rfl⟩⟩
  have hz0 : w0.heap.size = w.heap.size + 2 := by rw [hw0.out]; simp only [World.size_alloc]
  have B0 : Aside0 (Below (w.heap.size + 1) w0 w0) := ⟨Below.refl _ _⟩
  have B00 : Aside0 (Below w.heap.size w w0) := ⟨by rw [hw0.out]; exact ((Below.refl _ w).alloc (Nat.le_refl _) _).alloc (by simp only [World.size_alloc]; omega) _⟩
  have hp : w0.heap[w.heap.size]? = some (.cells #[.int .i64 e, .slice A cs.length c] 55 (0, 0)) := by rw [hw0.out]; exact (Below.heap_alloc _ _ _ (by simp only [World.size_alloc]; omega)).trans (heap_alloc_new w _)
  have HP := Aside0.mk hp
  have O0 : Aside0 (OB w0 (w.heap.size + 1) (.slice (some ⟨w.heap.size + 1, 0, none⟩) 0 0) []) := ⟨by
    have := OB.empty (w.alloc (.cells #[.int .i64 e, .slice A cs.length c] 55)) (w.heap.size + 1) (by simp only [World.size_alloc]; omega)
    rw [World.size_alloc] at this
    rw [hw0.out]; exact this⟩
  have hN := put_calls (w.heap.size + 1) _ [] (e % 18446744073709551616) 4 (by decide) w0 (by omega) (by omega) O0.out (by omega) (by simp)
  rw [List.nil_append] at hN
  have HN := Aside0.mk hN
  have w1 := he.1
  have w2 := he.2
  have hcl : (cs.length : Int) ≤ 140737488350000 := by omega
  have hc0 : (0 : Int) ≤ (cs.length : Int) := by omega
  clear h hN hp
  go_enter Try.func61, Try.ntmps61
  go_wp2_with (fail)
  rw [← hw0.out]
  simp only [IntKind.wrap_u64]
  refine HN.out.mono ?_
  rintro ex w3 ⟨v3, rfl, hp3⟩
  have HP3 := Aside0.mk hp3.own
  have B3 := Aside0.mk (hp3.from_ B0.out (Nat.le_refl _) (by omega) O0.out)
  have s3 := hp3.upd.size
  have x3 := (B3.out.block _ (Nat.lt_succ_self _)).trans HP.out
  have p1 := blk_cell x3 1
  simp only [List.getElem?_toArray, List.getElem?_cons_zero, List.getElem?_cons_succ] at p1
  have HQ := Aside0.mk (put_calls (w.heap.size + 1) v3 (be (e % 18446744073709551616) 4) (cs.length : Int) 4 (by decide) w3 (by omega) (by omega) HP3.out (by omega) (by rw [be_len]; omega))
  clear hp3 HN x3 w1 w2
  go_wp2_with (fail)
  refine HQ.out.mono ?_
  rintro ex w4 ⟨v4, rfl, hp4⟩
  have HP4 := Aside0.mk hp4.own
  have B4 := Aside0.mk (hp4.from_ B3.out (Nat.le_refl _) (by omega) HP3.out)
  have s4 := hp4.upd.size
  obtain ⟨hd, hhd⟩ : ∃ hd, hd = be (e % 18446744073709551616) 4 ++ be cs.length 4 := ⟨_, rfl⟩
  have HD : Aside0 (hd.length = 8 ∧ hd ++ encRows cs = es) := ⟨by rw [hhd]; exact ⟨by rw [List.length_append, be_len, be_len], HE.out⟩⟩
  rw [← hhd] at HP4
  clear hp4 HQ p1 hhd HP3
  go_wp2
  go_loopw [3, 4] (fun v3 v4 W => ∃ (i : Nat), i ≤ cs.length ∧ v4 = .int .i64 i ∧ Aside0 (OB W (w.heap.size + 1) v3 (hd ++ encRows (cs.take i))) ∧ Aside0 (Below (w.heap.size + 1) w0 W)) (fun _ v4 _ => cs.length - (intOf v4).toNat)
  case atStart => exact ⟨0, by omega, rfl, ⟨by simpa [encRows] using HP4.out⟩, B4⟩
  case round =>
    clear HP4 B3 B4 s3 s4
    obtain ⟨i, hi, rfl, HO, HB⟩ := hrel
    obtain ⟨wo, rfl⟩ : ∃ wo : World, wo = wr := ⟨_, rfl⟩
    have hX := (HB.out.block _ (Nat.lt_succ_self _)).trans HP.out
    have so := HB.out.size
    have p1 := blk_cell hX 1
    simp only [List.getElem?_toArray, List.getElem?_cons_zero, List.getElem?_cons_succ] at p1
    have BW : Aside0 (Below w.heap.size w wo) := ⟨B00.out.trans (HB.out.mono (Nat.le_succ _))⟩
    by_cases hlt : i < cs.length
    · obtain ⟨ad, B, cb, e0, hci, q1, q2⟩ := chain_at H.out i hlt
      subst e0
      have hci2 := cell_later BW.out hci
      obtain ⟨l, hlk⟩ : ∃ l, l = cs[i] := ⟨_, rfl⟩
      have HS := Aside0.mk (encRows_snoc cs i hlt)
      rw [← hlk] at hci hci2 q1 q2 HS
      have hx1 : (encRows (cs.take i) ++ encRow l).length ≤ (encRows cs).length := by rw [← HS.out]; exact encRows_take_len cs (i + 1)
      rw [List.length_append, encRow_len] at hx1
      have k0 : (0 : Int) ≤ (i : Int) := by omega
      have k1 : (i : Int) < (cs.length : Int) := by omega
      have l0 : (0 : Int) ≤ (l.length : Int) := by omega
      have l1 : (l.length : Int) ≤ 140737488350000 := by omega
      have hd8 := HD.out.1
      have HX1 : Aside0 ((hd ++ encRows (cs.take i)).length + l.length + 20 ≤ 140737488355328) := ⟨by rw [List.length_append]; omega⟩
      have HQ := Aside0.mk (put_calls (w.heap.size + 1) u3 (hd ++ encRows (cs.take i)) (l.length : Int) 4 (by decide) wo (by omega) (by omega) HO.out (by omega) (by have := HX1.out; omega))
      have HCI := Aside0.mk hci
      have Q1 := Aside0.mk q1
      have HK : Aside0 (i + 1 ≤ cs.length) := ⟨hlt⟩
      clear q1 hci hlk hx1 hX hd8
      go_wp2_with (fail)
      refine HQ.out.mono ?_
      rintro ex w5 ⟨v5, rfl, hp5⟩
      have HP5 := Aside0.mk hp5.own
      have B5 := Aside0.mk (hp5.from_ HB.out (Nat.le_refl _) (by omega) HO.out)
      clear hp5 HQ p1 hci2
      go_wp2
      go_loopw [3, 5] (fun v3 v5 W => ∃ (j : Nat), j ≤ l.length ∧ v5 = .int .i64 j ∧ Aside0 (OB W (w.heap.size + 1) v3 (hd ++ encRows (cs.take i) ++ be l.length 4 ++ lowB (l.take j))) ∧ Aside0 (Below (w.heap.size + 1) w0 W)) (fun _ v5 _ => l.length - (intOf v5).toNat)
      case atStart => exact ⟨0, by omega, rfl, ⟨by simpa [lowB] using HP5.out⟩, B5⟩
      case round =>
        clear HP5 B5 BW HO HB so
        obtain ⟨j, hj, rfl, HO, HB⟩ := hrel
        have hX := (HB.out.block _ (Nat.lt_succ_self _)).trans HP.out
        have so := HB.out.size
        have p1 := blk_cell hX 1
        simp only [List.getElem?_toArray, List.getElem?_cons_zero, List.getElem?_cons_succ] at p1
        have hbw : Below w.heap.size w wr := B00.out.trans (HB.out.mono (Nat.le_succ _))
        have hci2 := cell_later hbw HCI.out
        by_cases hlj : j < l.length
        · obtain ⟨ad1, e1, hcj⟩ := RB.cell (RB.keep Q1.out hbw) j hlj
          subst e1
          have j0 : (0 : Int) ≤ (j : Int) := by omega
          have j1 : (j : Int) < (l.length : Int) := by omega
          have HJ : Aside0 (j + 1 ≤ l.length) := ⟨hlj⟩
          have HT := Aside0.mk (lowB_snoc l j hlj)
          have HLB : Aside0 ((hd ++ encRows (cs.take i) ++ be l.length 4 ++ lowB (l.take j)).length + 1 ≤ 140737488355328) := ⟨by
            have := HX1.out
            rw [List.length_append, List.length_append, be_len, lowB_len, List.length_take]; omega⟩
          have HR1 := Aside0.mk (C_one wr .u8 5 (rd l j % 256))
          have HO1 := Aside0.mk (HO.out.alloc (.cells #[.int .u8 (rd l j % 256)] 5))
          clear hbw hX
          go_wp2_with (at_builtin; refine wpList_appB 54 rfl rfl (.tmp 43) (.tmp 53) rfl (v := u3) (ys := [rd l j % 256]) rfl rfl HO1.out HR1.out (by simp only [World.size_alloc]; omega) (by simpa using HLB.out) ?_; intro v6 w6 o6 g6 a6; have O6 := Aside0.mk o6; have B6 := Aside0.mk ((HB.out.alloc (by omega) (.cells #[.int .u8 (rd l j % 256)] 5)).grown g6 (by simp only [World.size_alloc]; omega) (own_base HO.out)); clear o6 g6 a6)
          go_roundw
          case rel => exact ⟨j + 1, HJ.out, by go_num, ⟨by have := O6.out; rw [HT.out, ← List.append_assoc]; exact this⟩, B6⟩
          case measure => have := HJ.out; simp [intOf]; omega
        · have HJ : Aside0 (l.take j = l) := ⟨List.take_of_length_le (by omega)⟩
          clear hbw hX
          go_wp2
          go_roundw
          case rel => exact ⟨i + 1, HK.out, by go_num, ⟨by have := HO.out; rw [HJ.out] at this; rw [HS.out]; unfold encRow; simpa [List.append_assoc] using this⟩, HB⟩
          case measure => have := HK.out; simp [intOf]; omega
    · have HI : Aside0 (hd ++ encRows (cs.take i) = es) := ⟨by rw [List.take_of_length_le (by omega)]; exact HD.out.2⟩
      obtain ⟨A5, c5, rfl, r5, _⟩ := OB.slice HO.out
      rw [HI.out] at r5
      have HWR := Aside0.mk (refwrap_calls A5 c5 es wo r5 HEB.out HL.out)
      rw [HI.out]
      clear r5 hX
      go_wp2_with (fail)
      refine HWR.out.mono ?_
      rintro ex w6 ⟨v6, rfl, o6, b6⟩
      have O6 := Aside0.mk (own_weaken o6 BW.out.size)
      have B6 : Aside0 (Below w.heap.size w w6) := ⟨BW.out.trans (b6.mono BW.out.size)⟩
      clear o6 b6
      go_wp2
      go_ret
      exact ⟨_, rfl, O6.out, B6.out⟩
end Go.Proofs.Ytmdnokfmlbjbhaa
