/- The Writer of package octet: each of its methods puts bytes behind. -/
import Derived.Test.YtmdnokfmlbjbhaaOctA
namespace Go.Proofs.Ytmdnokfmlbjbhaa
open Go.RowKit Go.Proofs.YtmdnokfmlbjbhaaW.PrintWords Go.Proofs.YtmdnokfmlbjbhaaW.PrintMore
set_option linter.unusedVariables false
set_option linter.unusedSimpArgs false

/-- the Writer at block g, whose row was v, has the row v' of xs -/
structure Wrote (base g : Nat) (w : World) (v : Value) (w' : World) (v' : Value) (xs : List Int) : Prop where
  cell : w'.heap[g]? = some (.cells #[v'] 76 (0, 0))
  own : OB w' base v' xs
  upd : Upd (fun k => k = g ∨ v.ownBlock = some k) w w'
  same : v'.ownBlock = v.ownBlock ∨ ∃ b, v'.ownBlock = some b ∧ w.heap.size ≤ b
theorem Wrote.refl {base g : Nat} {w : World} {v : Value} {xs : List Int} (hc : w.heap[g]? = some (.cells #[v] 76 (0, 0))) (ho : OB w base v xs) : Wrote base g w v w v xs :=
  ⟨hc, ho, Upd.refl _ _, .inl rfl⟩
theorem Wrote.trans {base g : Nat} {w w1 w2 : World} {v v1 v2 : Value} {xs ys : List Int} (h : Wrote base g w v w1 v1 xs) (k : Wrote base g w1 v1 w2 v2 ys) : Wrote base g w v w2 v2 ys := by
  refine ⟨k.cell, k.own, h.upd.trans' k.upd (fun i hi => ?_), ?_⟩
  · rcases hi with rfl | hi
    · exact .inl (.inl rfl)
    · rcases h.same with e | ⟨b, e, hb⟩
      · exact .inl (.inr (by rw [← e]; exact hi))
      · rw [e] at hi; injection hi with hi; exact .inr (by omega)
  · rcases k.same with e | ⟨b, e, hb⟩
    · rw [e]; exact h.same
    · exact .inr ⟨b, e, Nat.le_trans h.upd.size hb⟩
theorem Wrote.keeps {base g : Nat} {w w1 : World} {v v1 : Value} {xs : List Int} (h : Wrote base g w v w1 v1 xs) {t : Nat} {o : Obj} (ht : w.heap[t]? = some o) (h1 : t ≠ g) (h2 : v.ownBlock ≠ some t) : w1.heap[t]? = some o ∧ v1.ownBlock ≠ some t :=
  ⟨h.upd.at_ ht (fun e => e.elim h1 h2), fun e => by
    rcases h.same with e1 | ⟨b, e1, hb⟩
    · exact h2 (by rw [← e1]; exact e)
    · rw [e1] at e; injection e with e; have := (Array.getElem?_eq_some_iff.1 ht).1; omega⟩

/-- behind an append onto the Writer's row: its cell is as it was; the store of the new row -/
theorem wrote_append {base g : Nat} {w w1 W1 : World} {v v1 : Value} {xs ys : List Int} (hc : w.heap[g]? = some (.cells #[v] 76 (0, 0))) (ho : OB w base v xs) (hw : Below w.heap.size w w1)
    (o1 : OB W1 base v1 (xs ++ ys)) (g1 : w1.grownBy W1 v.ownBlock) (s1 : v1.ownBlock = v.ownBlock ∨ ∃ b, v1.ownBlock = some b ∧ w1.heap.size ≤ b) :
    W1.cell? ⟨g, 0, none⟩ = some v ∧ W1.frozen? ⟨g, 0, none⟩ = false ∧ Wrote base g w v (W1.setCell ⟨g, 0, none⟩ v1) v1 (xs ++ ys) := by
  have hne : some g ≠ v.ownBlock := own_ne ho hc (by decide)
  have hblk : W1.heap[g]? = some (.cells #[v] 76 (0, 0)) := blk_grown ((hw.block g (blk_lt hc)).trans hc) g1 hne
  have hne1 : some g ≠ v1.ownBlock := own_ne o1 hblk (by decide)
  refine ⟨blk_cell hblk 0, blk_frozen hblk 0, ?_, own_setCell o1 hne1 v1, ?_, ?_⟩
  · have := blk_set hblk 0 v1
    simpa using this
  · exact ((Upd.of_below hw).grown g1 (fun k hk => .inl (.inr hk))).setCell (.inl (.inl rfl)) v1
  · rcases s1 with e | ⟨b, e, hb⟩
    · exact .inl e
    · exact .inr ⟨b, e, Nat.le_trans hw.size hb⟩

set_option maxRecDepth 100000 in
theorem wbyte_calls (base g : Nat) (v : Value) (xs : List Int) (x : Int) (w : World) (hc : w.heap[g]? = some (.cells #[v] 76 (0, 0))) (ho : OB w base v xs) (hb : base ≤ w.heap.size) (hl : xs.length + 1 ≤ 140737488355328) :
    Calls Try.prog 104 #[.pointer (some ⟨g, 0, none⟩), .int .u8 x] w fun e w' => e = .returned (.tuple #[]) ∧ ∃ v', Wrote base g w v w' v' (xs ++ [x]) := by
  have hcell : w.cell? ⟨g, 0, none⟩ = some v := blk_cell hc 0
  have HC := Aside0.mk hc
  have HO0 := Aside0.mk ho
  have HO := Aside0.mk (ho.alloc (.cells #[.int .u8 x] 5))
  have HR := Aside0.mk (C_one w .u8 5 x)
  have B0 := Aside0.mk ((Below.refl w.heap.size w).alloc (Nat.le_refl _) (.cells #[.int .u8 x] 5))
  have hglt := blk_lt hc
  obtain ⟨A, c, rfl, _, hcap⟩ := OB.slice ho
  clear hc ho
  go_enter Try.func104, Try.ntmps104
  go_wp2_with (at_builtin; refine wpList_appB 11 rfl rfl (.tmp 8) (.tmp 10) rfl (v := .slice A xs.length c) (xs := xs) (ys := [x]) rfl rfl HO.out HR.out ?q1 ?q2 ?_; (case q1 => simp; omega); (case q2 => simpa using hl); intro v1 W1 o1 g1 s1; obtain ⟨k1, k2, k3⟩ := wrote_append HC.out HO0.out B0.out o1 g1 s1; have K3 := Aside0.mk k3; obtain ⟨A1, n1, c1, rfl, _⟩ := OB.shape o1; clear o1 g1 s1 k3)
  go_end0
  exact ⟨rfl, _, K3.out⟩

theorem size_calls (n : Int) (w : World) : Calls Try.prog 95 #[.int .i64 n] w fun e w' => e = .returned (.int .i64 (if n < 0 then 0 else if 8 < n then 8 else n)) ∧ w = w' := by
  rcases Int.lt_or_le n 0 with h | h
  · have e1 : ¬ (8 : Int) < n := by omega
    have e2 : n < 8 := by omega
    have e3 : n ≤ 8 := by omega
    rw [if_pos h]
    go_enter Try.func95, Try.ntmps95
    go_wp2
    go_ret
    exact ⟨rfl, rfl⟩
  · rw [if_neg (by omega)]
    by_cases h8 : 8 < n
    · rw [if_pos h8]
      go_enter Try.func95, Try.ntmps95
      go_wp2
      go_ret
      exact ⟨rfl, rfl⟩
    · rw [if_neg h8]
      have e3 : n ≤ 8 := by omega
      have e4 : ¬ n < 0 := by omega
      go_enter Try.func95, Try.ntmps95
      go_wp2
      go_ret
      exact ⟨rfl, rfl⟩

/-- the bytes of a number, the greatest first -/
def beUpto (v : Int) (n k : Nat) : List Int := (List.range k).map fun j : Nat => v / 2 ^ (8 * (n - 1 - j)) % 256
def be (v : Int) (n : Nat) : List Int := beUpto v n n
theorem beUpto_succ (v : Int) (n k : Nat) : beUpto v n (k + 1) = beUpto v n k ++ [v / 2 ^ (8 * (n - 1 - k)) % 256] := by
  unfold beUpto; rw [List.range_succ, List.map_append]; rfl
theorem beUpto_len (v : Int) (n k : Nat) : (beUpto v n k).length = k := by simp [beUpto]
theorem be_len (v : Int) (n : Nat) : (be v n).length = n := beUpto_len v n n
theorem be_bytes (v : Int) (n : Nat) : Bytes (be v n) := by
  intro x hx
  simp only [be, beUpto, List.mem_map, List.mem_range] at hx
  obtain ⟨j, _, rfl⟩ := hx
  omega

set_option maxHeartbeats 1000000 in
set_option maxRecDepth 100000 in
/-- Number, at a size from 0 to 8 -/
theorem wnumber_calls (base g : Nat) (v : Value) (xs : List Int) (x : Int) (n : Nat) (m : Int) (hm : (if m < 0 then 0 else if 8 < m then 8 else m) = (n : Int)) (hn : n ≤ 8) (w : World)
    (hx0 : 0 ≤ x) (hx1 : x < 18446744073709551616) (hc : w.heap[g]? = some (.cells #[v] 76 (0, 0))) (ho : OB w base v xs) (hb : base ≤ w.heap.size) (hl : xs.length + 8 ≤ 140737488355328) :
    Calls Try.prog 101 #[.pointer (some ⟨g, 0, none⟩), .int .u64 x, .int .i64 m] w fun e w' => e = .returned (.tuple #[]) ∧ ∃ v', Wrote base g w v w' v' (xs ++ be x n) := by
  have hs := fun W => size_calls m W
  rw [hm] at hs
  have HS := Aside0.mk hs
  have HC := Aside0.mk (Wrote.refl hc ho)
  have HX := Aside0.mk hx1
  clear hm hs hc ho hx1
  go_enter Try.func101, Try.ntmps101
  go_wp2_with (go_at_call 95; refine (HS.out _).mono ?_; rintro e w1 ⟨rfl, rfl⟩)
  go_loopw [6] (fun v6 wr => ∃ (k : Nat) (v' : Value), k ≤ n ∧ v6 = .int .i64 ((n : Int) - 1 - k) ∧ Aside0 (Wrote base g w v wr v' (xs ++ beUpto x n k))) (fun v6 _ => (intOf v6 + 1).toNat)
  case atStart => exact ⟨0, v, by omega, by simp, ⟨by simpa [beUpto] using HC.out⟩⟩
  case round =>
    obtain ⟨k, v', hk, rfl, HW⟩ := hrel
    by_cases hlt : k < n
    · obtain ⟨j, hj⟩ : ∃ j : Nat, n - 1 - k = j := ⟨_, rfl⟩
      rw [show ((n : Int) - 1 - (k : Int)) = (j : Int) from by omega]
      have hj7 : (j : Int) ≤ 7 := by omega
      have hj0 : (0 : Int) ≤ (j : Int) := by omega
      have HJ := Aside0.mk hj
      have hkn : (k : Int) < n := by omega
      have hk' : k + 1 ≤ n := hlt
      have Hk' := Aside0.mk hk'
      have hlen : (xs ++ beUpto x n k).length + 1 ≤ 140737488355328 := by rw [List.length_append, beUpto_len]; omega
      have HB := Aside0.mk (wbyte_calls base g v' (xs ++ beUpto x n k) (x / 2 ^ (8 * j) % 256) wr HW.out.cell HW.out.own (Nat.le_trans hb HW.out.upd.size) hlen)
      clear hj hlt hk hk' hlen
      go_wp2_with (go_at_call 104; refine HB.out.mono ?_; rintro e w1 ⟨rfl, v1, hw1⟩; have HW1 := Aside0.mk (HW.out.trans hw1); clear hw1)
      go_roundw
      case rel => exact ⟨k + 1, v1, Hk'.out, by rw [Value.int.injEq]; exact ⟨rfl, by have := HJ.out; have := Hk'.out; omega⟩, ⟨by have := HW1.out; rw [beUpto_succ, HJ.out, ← List.append_assoc]; exact this⟩⟩
      case measure => simp [intOf]
    · obtain rfl : n = k := by omega
      have h0 : ((n : Int) - 1 - (n : Int)) < 0 := by omega
      have h1 : ¬ (0 : Int) ≤ ((n : Int) - 1 - (n : Int)) := by omega
      go_wp2
      go_end0
      exact ⟨rfl, v', HW.out⟩
end Go.Proofs.Ytmdnokfmlbjbhaa
