/- The Reader of package octet: what it takes; The Reader of package octet: count, Bytes, Flag, Left, End, Read; check.Unwrap: what is ahead of a sum that is right; Plain facts: the bytes of a number and back; one changed byte is found by the sum; The references of layers 1 and 2: Put, the sum, Wrap, Unwrap; The references of layer 2: the sum, Wrap, Unwrap; CheckTurned: the walk; CheckSums: the walk. -/
import Derived.Test.YtmdnokfmlbjbhaaM1
import Derived.Deep.DrawnRows

namespace Go.Proofs.Ytmdnokfmlbjbhaa
open Go.RowKit Go.Proofs.YtmdnokfmlbjbhaaW.PrintWords Go.Proofs.YtmdnokfmlbjbhaaW.PrintMore
set_option linter.unusedVariables false
set_option linter.unusedSimpArgs false

/-! ### the plain machine: bytes that are left, and whether it has gone wrong -/
abbrev Rst := List Int × Bool
def tk (n : Nat) (s : Rst) : List Int × Rst := if s.2 = true ∨ s.1.length < n then ([], ([], true)) else (s.1.take n, (s.1.drop n, false))
def num (b : List Int) : Int := b.foldl (fun v c => v * 256 + c) 0
def rN (n : Nat) (s : Rst) : Int × Rst := (num (tk n s).1, (tk n s).2)
def rCount (most : Int) (s : Rst) : Int × Rst := if most < (rN 4 s).1 then (0, ([], true)) else rN 4 s
def rBytes (most : Int) (s : Rst) : List Int × Rst := tk (rCount most s).1.toNat (rCount most s).2
def rFlag (s : Rst) : Bool × Rst := if 1 < (rN 1 s).1 then (false, ([], true)) else ((rN 1 s).1 == 1, (rN 1 s).2)
def rEnd (s : Rst) : Int := if s.2 = true ∨ 0 < s.1.length then 3 else 0
def sized (m : Int) : Nat := if m < 0 then 0 else if 8 < m then 8 else m.toNat
theorem sized_eq (m : Int) : (if m < 0 then 0 else if 8 < m then 8 else m) = (sized m : Int) := by
  unfold sized; split
  · rfl
  · split
    · rfl
    · omega
theorem sized_le (m : Int) : sized m ≤ 8 := by unfold sized; split <;> (try split) <;> omega

theorem num_snoc (b : List Int) (c : Int) : num (b ++ [c]) = num b * 256 + c := by unfold num; rw [List.foldl_append]; rfl
theorem num_bound : ∀ (n : Nat) (b : List Int), b.length = n → Bytes b → 0 ≤ num b ∧ num b < 256 ^ n
  | 0, b, hl, _ => by rw [List.eq_nil_of_length_eq_zero hl]; exact ⟨by decide, by decide⟩
  | n + 1, b, hl, h => by
    rcases List.eq_nil_or_concat b with rfl | ⟨b', c, rfl⟩
    · cases hl
    · obtain ⟨h0, h1⟩ := num_bound n b' (by simpa using hl) (fun x hx => h x (by simp [hx]))
      obtain ⟨c0, c1⟩ := h c (by simp)
      rw [List.concat_eq_append, num_snoc, Int.pow_succ]
      generalize (256 : Int) ^ n = p at *
      omega

/-- the Reader at block g, whose bytes lie in block D -/
def RD (w : World) (g D : Nat) (s : Rst) : Prop :=
  ∃ A c, w.heap[g]? = some (.cells #[.slice A s.1.length c, .bool s.2] 141 (0, 0)) ∧ RB w A s.1 ∧ s.1.length ≤ c ∧ (∀ ad, A = some ad → ad.block = D ∧ D ≠ g) ∧ Bytes s.1 ∧ (s.2 = true → s.1 = [])
theorem RD.keep {w w1 : World} {g D : Nat} {s : Rst} {S : Nat → Prop} (h : RD w g D s) (u : Upd S w w1) (hg : ¬ S g) (hD : ¬ S D) : RD w1 g D s := by
  obtain ⟨A, c, h1, h2, h3, h4, h5⟩ := h
  refine ⟨A, c, u.at_ h1 hg, ?_, h3, h4, h5⟩
  rcases Nat.eq_zero_or_pos s.1.length with hz | hp
  · rw [List.eq_nil_of_length_eq_zero hz]; exact C_int.2 ⟨rfl, by simp, fun h => absurd h (by simp)⟩
  · obtain ⟨ad, e, hlt⟩ := C_lt h2 hp
    exact C_move h2 (fun ad' e' => u.block _ (by rw [e] at e'; injection e' with e'; rw [← e']; exact hlt) (by rw [(h4 ad' e').1]; exact hD))
theorem RD.below {w w1 : World} {g D : Nat} {s : Rst} (h : RD w g D s) (b : Below w.heap.size w w1) : RD w1 g D s :=
  h.keep (S := fun _ => False) (Upd.of_below b) (fun e => e) (fun e => e)
theorem RD.lt {w : World} {g D : Nat} {s : Rst} (h : RD w g D s) : g < w.heap.size := by obtain ⟨A, c, h1, _⟩ := h; exact blk_lt h1

/-- cuts of a row that is read -/
theorem cut_hm_any {P : Program} (t e : TypeId) {i : TypeInfo} (ht : P.underlying t = some (.slice e)) (hi : P.info? e = some i) (A : Option Addr) (n c m : Nat) (hm : m ≤ c) :
    ∀ W : World, (Instr.slice t (.slice A n c) none (some (.int .i64 (m : Int))) (some (.int .i64 (m : Int)))).run P W = .ok (.slice A m m) W := by
  intro W
  have hel : P.elem t = e := by simp [Program.elem, ht]
  have hu : P.underlying t = some (.slice (P.elem t)) := by rw [hel]; exact ht
  have ha : (A.map fun x => x.add 0) = A := by cases A <;> simp [Addr.add]
  rw [run_slice_hm W t A n c hu .i64 .i64 m m (by omega) (by omega) (by omega), hel]
  simp [sizeOf, typeInfo, hi, sliced, Result.andThen, ha]
theorem cut_hm (A : Option Addr) (n c m : Nat) (hm : m ≤ c) : ∀ W : World, (Instr.slice 22 (.slice A n c) none (some (.int .i64 (m : Int))) (some (.int .i64 (m : Int)))).run Try.prog W = .ok (.slice A m m) W := by
  obtain ⟨i0, hi, hzz⟩ := Option.map_eq_some_iff.1 info5'
  exact cut_hm_any 22 5 Try.underlying22 hi A n c m hm
theorem cut_l_any {P : Program} (t e : TypeId) {i : TypeInfo} (ht : P.underlying t = some (.slice e)) (hi : P.info? e = some i) (hsz : i.size = 1) (A : Option Addr) (n c m : Nat) (hm : m ≤ n) : ∃ A' : Option Addr, (∀ W : World, (Instr.slice t (.slice A n c) (some (.int .i64 (m : Int))) none none).run P W = .ok (.slice A' (n - m) (c - m)) W) ∧
    (∀ (k : IntKind) (w : World) (xs : List Int), n ≤ c → Kd.C (Kd.int k) w A n xs → Kd.C (Kd.int k) w A' (n - m) (xs.drop m)) ∧ ∀ ad, A' = some ad → ∃ ad0, A = some ad0 ∧ ad.block = ad0.block := by
  refine ⟨if c = m then A else A.map (·.add m), fun W => ?_, fun k w xs hc h => C_int.2 ((C_int.1 h).drop_ m hm hc), fun ad h => ?_⟩
  · have hel : P.elem t = e := by simp [Program.elem, ht]
    have hu : P.underlying t = some (.slice (P.elem t)) := by rw [hel]; exact ht
    rw [run_slice_l W t A n c hu .i64 (m : Int) (Int.natCast_nonneg _) (by omega), hel]
    simp [sizeOf, typeInfo, hi, hsz, sliced, Result.andThen]
  · split at h
    · exact ⟨ad, h, rfl⟩
    · cases A with
      | none => cases h
      | some a0 => exact ⟨a0, rfl, by injection h with h; rw [← h]; unfold Addr.add; split <;> rfl⟩
theorem cut_l (A : Option Addr) (n c m : Nat) (hm : m ≤ n) : ∃ A' : Option Addr, (∀ W : World, (Instr.slice 22 (.slice A n c) (some (.int .i64 (m : Int))) none none).run Try.prog W = .ok (.slice A' (n - m) (c - m)) W) ∧
    (∀ (w : World) (xs : List Int), n ≤ c → Kd.C (Kd.int .u8) w A n xs → Kd.C (Kd.int .u8) w A' (n - m) (xs.drop m)) ∧ ∀ ad, A' = some ad → ∃ ad0, A = some ad0 ∧ ad.block = ad0.block := by
  obtain ⟨i0, hi, hzz⟩ := Option.map_eq_some_iff.1 info5'
  simp only [Prod.mk.injEq] at hzz
  obtain ⟨A', h1, h2, h3⟩ := cut_l_any 22 5 Try.underlying22 hi hzz.2.1 A n c m hm
  exact ⟨A', h1, fun w xs => h2 .u8 w xs, h3⟩

set_option maxRecDepth 100000 in
theorem rfail_calls (g D : Nat) (s : Rst) (w : World) (c0 c1 : Value) (hc : w.heap[g]? = some (.cells #[c0, c1] 141 (0, 0))) :
    Calls Try.prog 96 #[.pointer (some ⟨g, 0, none⟩)] w fun e w' => e = .returned (.tuple #[]) ∧ RD w' g D ([], true) ∧ Upd (fun k => k = g) w w' := by
  have hc0 : w.cell? ⟨g, 0, none⟩ = some c0 := blk_cell hc 0
  have hc1 : w.cell? ⟨g, 1, none⟩ = some c1 := blk_cell hc 1
  have hf0 := blk_frozen hc 0
  have hf1 := blk_frozen hc 1
  have HC := Aside0.mk hc
  clear hc
  go_enter Try.func96, Try.ntmps96
  go_wp2
  go_end0
  refine ⟨rfl, ⟨none, 0, ?_, C_int.2 ⟨rfl, by simp, fun h => absurd h (by simp)⟩, by simp, (fun _ h => by cases h), Bytes.nil, fun _ => rfl⟩, ?_⟩
  · have := blk_set (blk_set HC.out 0 (.slice none 0 0)) 1 (.bool true)
    simpa using this
  · exact ((Upd.refl (fun k => k = g) w).setCell (p := ⟨g, 0, none⟩) (.inl rfl) _).setCell (p := ⟨g, 1, none⟩) (.inl rfl) _

set_option maxHeartbeats 400000 in
set_option maxRecDepth 100000 in
theorem take_calls (g D n : Nat) (s : Rst) (w : World) (h : RD w g D s) (hn : n ≤ 4294967296) :
    Calls Try.prog 92 #[.pointer (some ⟨g, 0, none⟩), .int .i64 (n : Int)] w fun e w' => ∃ A c ok, e = .returned (.tuple #[.slice A (tk n s).1.length c, .bool ok]) ∧ RB w' A (tk n s).1 ∧ RD w' g D (tk n s).2 ∧ Upd (fun k => k = g) w w' ∧ ∀ ad, A = some ad → ad.block = D := by
  obtain ⟨ys, wr⟩ := s
  obtain ⟨A, c, hb, hr, hc, hA, hy, hw⟩ := h
  dsimp only at hb hr hc hy hw
  have hc0 : w.cell? ⟨g, 0, none⟩ = some (.slice A ys.length c) := blk_cell hb 0
  have hc1 : w.cell? ⟨g, 1, none⟩ = some (.bool wr) := blk_cell hb 1
  have hf0 := blk_frozen hb 0
  have HF := Aside0.mk (rfail_calls g D ([], true) w _ _ hb)
  have HB := Aside0.mk hb
  have HR := Aside0.mk hr
  have HA := Aside0.mk hA
  have HY := Aside0.mk hy
  have hnil : RB w none [] := C_int.2 ⟨rfl, by simp, fun h => absurd h (by simp)⟩
  have hn' : (n : Int) ≤ 4294967296 := by omega
  by_cases hcase : wr = true ∨ ys.length < n
  · have e : tk n (ys, wr) = ([], ([], true)) := by unfold tk; rw [if_pos hcase]
    rw [e]
    have HE := Aside0.mk e
    clear hb hr hA hy e
    cases wr with
    | true =>
      go_enter Try.func92, Try.ntmps92
      go_wp2_with (go_at_call 96; refine HF.out.mono ?_; rintro e w1 ⟨rfl, hrd, hu⟩; have HRD := Aside0.mk hrd; have HU := Aside0.mk hu; clear hrd hu)
      go_ret2
      exact ⟨none, 0, false, rfl, C_int.2 ⟨rfl, by simp, fun h => absurd h (by simp)⟩, HRD.out, HU.out, fun _ h => by cases h⟩
    | false =>
      have hlt : ys.length < n := by simpa using hcase
      have hlt' : (ys.length : Int) < (n : Int) := by omega
      clear hcase
      go_enter Try.func92, Try.ntmps92
      go_wp2_with (go_at_call 96; refine HF.out.mono ?_; rintro e w1 ⟨rfl, hrd, hu⟩; have HRD := Aside0.mk hrd; have HU := Aside0.mk hu; clear hrd hu)
      go_ret2
      exact ⟨none, 0, false, rfl, C_int.2 ⟨rfl, by simp, fun h => absurd h (by simp)⟩, HRD.out, HU.out, fun _ h => by cases h⟩
  · have hwr : wr = false := by simpa using (not_or.1 hcase).1
    subst hwr
    have hle : n ≤ ys.length := by have := (not_or.1 hcase).2; omega
    have hle' : (n : Int) ≤ (ys.length : Int) := by omega
    have hlt' : ¬ (ys.length : Int) < (n : Int) := by omega
    have e : tk n (ys, false) = (ys.take n, (ys.drop n, false)) := by unfold tk; rw [if_neg hcase]
    rw [e]
    have h1 := cut_hm A ys.length c n (by omega)
    obtain ⟨A', h2, h3, h4⟩ := cut_l A ys.length c n hle
    have H3 := Aside0.mk h3
    have H4 := Aside0.mk h4
    have HC := Aside0.mk hc
    have HLE := Aside0.mk hle
    clear hb hr hA hy e hcase h3 h4 hw HF
    go_enter Try.func92, Try.ntmps92
    go_wp2
    go_region
    all_goals go_wp2
    all_goals go_ret2
    all_goals
      refine ⟨A, n, true, ?_, ?_, ?_, ?_, ?_⟩
    · rw [List.length_take, Nat.min_eq_left HLE.out]; rfl
    · have h := RB.take HR.out n HLE.out
      have hl : (ys.take n).length = n := by rw [List.length_take, Nat.min_eq_left HLE.out]
      rw [RB, hl]
      exact C_move h (fun ad e => Below.heap_setCell _ _ _ _ (by rw [(HA.out ad e).1]; exact (HA.out ad e).2))
    · have hl : (ys.drop n).length = ys.length - n := by rw [List.length_drop]
      refine ⟨A', c - n, ?_, ?_, ?_, ?_, HY.out.drop n, fun h => by cases h⟩
      · have := blk_set HB.out 0 (.slice A' (ys.length - n) (c - n))
        rw [hl]
        simp at this
        exact this
      · rw [RB, hl]
        refine C_move (H3.out w ys HC.out HR.out) (fun ad e => Below.heap_setCell _ _ _ _ ?_)
        obtain ⟨ad0, e0, eb⟩ := H4.out ad e
        rw [eb, (HA.out ad0 e0).1]; exact (HA.out ad0 e0).2
      · rw [hl]; have := HC.out; omega
      · intro ad e
        obtain ⟨ad0, e0, eb⟩ := H4.out ad e
        rw [eb, (HA.out ad0 e0).1]; exact ⟨rfl, (HA.out ad0 e0).2⟩
    · exact ((Upd.refl (fun k => k = g) w).setCell (p := ⟨g, 0, none⟩) (.inl rfl) _).drew
    · exact fun ad e => (HA.out ad e).1

theorem or_low (x c : Int) (h0 : 0 ≤ c) (h1 : c < 256) (hx0 : 0 ≤ x) (hx1 : x < 72057594037927936) : bits BinOp.or .u64 (x * 256) c = x * 256 + c := by
  have := bits_join .u64 64 (by decide) (fun n h0 h1 => by rw [IntKind.wrap_u64]; omega) 8 (x * 256) c (by omega) (by omega) (by omega) h0 (by omega) (by omega)
  exact this

theorem num_take (b : List Int) (k : Nat) (h : k < b.length) : num (b.take (k + 1)) = num (b.take k) * 256 + rd b k := by
  rw [take_succ_rd b k h, num_snoc]

theorem tk_len (n : Nat) (s : Rst) : (tk n s).1.length ≤ n := by
  unfold tk; split
  · simp
  · rw [List.length_take]; omega
theorem tk_bytes (n : Nat) (s : Rst) (h : Bytes s.1) : Bytes (tk n s).1 := by
  unfold tk; split
  · exact Bytes.nil
  · exact h.take n
theorem RD.bytes {w : World} {g D : Nat} {s : Rst} (h : RD w g D s) : Bytes s.1 := by obtain ⟨A, c, h1, h2, h3, h4, h6, h7⟩ := h; exact h6

set_option maxHeartbeats 400000 in
set_option maxRecDepth 100000 in
theorem rnumber_calls (g D : Nat) (s : Rst) (m : Int) (w : World) (h : RD w g D s) :
    Calls Try.prog 34 #[.pointer (some ⟨g, 0, none⟩), .int .i64 m] w fun e w' => e = .returned (.int .u64 (rN (sized m) s).1) ∧ RD w' g D (rN (sized m) s).2 ∧ Upd (fun k => k = g) w w' := by
  have hs := fun W => size_calls m W
  rw [sized_eq m] at hs
  have HS := Aside0.mk hs
  have HT := Aside0.mk (take_calls g D (sized m) s w h (by have := sized_le m; omega))
  have hb := tk_bytes (sized m) s h.bytes
  have hl := Nat.le_trans (tk_len (sized m) s) (sized_le m)
  have HE : Aside0 ((rN (sized m) s).1 = num (tk (sized m) s).1 ∧ (rN (sized m) s).2 = (tk (sized m) s).2) := ⟨⟨rfl, rfl⟩⟩
  generalize (rN (sized m) s).1 = res at *
  generalize (rN (sized m) s).2 = s2 at *
  generalize (tk (sized m) s) = t at *
  obtain ⟨b, s1⟩ := t
  dsimp only at HE HT hb hl
  have HBB := Aside0.mk hb
  generalize sized m = n at *
  clear h hs hb
  go_enter Try.func34, Try.ntmps34
  go_wp2_with (first | (go_at_call 95; refine (HS.out _).mono ?_; rintro e w1 ⟨rfl, rfl⟩) | (go_at_call 92; refine HT.out.mono ?_; rintro e w1 ⟨A, c, ok, rfl, hr, hrd, hu, hA⟩; have HR := Aside0.mk hr; have HRD := Aside0.mk hrd; have HU := Aside0.mk hu; clear hr hrd hu hA))
  have hl' : (b.length : Int) ≤ 8 := by omega
  go_loop [4, 18] (fun v4 v18 => ∃ (k : Nat) (x : Int), k ≤ b.length ∧ v18 = .int .i64 k ∧ v4 = .int .u64 x ∧ Aside0 (x = num (b.take k))) (fun _ v => b.length - (intOf v).toNat)
  case atStart => exact ⟨0, 0, by omega, rfl, rfl, ⟨rfl⟩⟩
  case round =>
    obtain ⟨k, x, hk, rfl, rfl, HX⟩ := hrel
    by_cases hlt : k < b.length
    · obtain ⟨ad, e0, hc0⟩ := RB.cell HR.out k hlt
      subst e0
      have hc := HBB.out.at_ (k : Int)
      have hx : 0 ≤ x ∧ x < 72057594037927936 := by
        have hlk : (b.take k).length = k := by rw [List.length_take]; omega
        have := num_bound k (b.take k) hlk (HBB.out.take k)
        rw [← HX.out] at this
        have h7 : (256 : Int) ^ k ≤ 256 ^ 7 := by
          have : (256 ^ k : Nat) ≤ 256 ^ 7 := Nat.pow_le_pow_right (by decide) (by omega)
          exact_mod_cast this
        have h8 : (256 : Int) ^ 7 = 72057594037927936 := by decide
        omega
      have hor := or_low x (rd b k) hc.1 hc.2 hx.1 hx.2
      have HN := Aside0.mk (num_take b k hlt)
      obtain ⟨hc1, hc2⟩ := hc
      obtain ⟨hx0, hx1⟩ := hx
      have HX1 := Aside0.mk hx1
      go_wp2
      go_round
      case rel => exact ⟨k + 1, _, by omega, by go_num, rfl, ⟨by rw [HN.out, ← HX.out]⟩⟩
      case measure => simp [intOf]; omega
    · have Hk : Aside0 (k = b.length) := ⟨by omega⟩
      go_wp2
      go_ret
      refine ⟨?_, by rw [HE.out.2]; exact HRD.out, HU.out⟩
      rw [HE.out.1, HX.out, Hk.out, List.take_length]; rfl

theorem pow256 (a b : Nat) (h : a ≤ b) : (256 : Int) ^ a ≤ 256 ^ b := by
  have h1 := Int.ofNat_le.2 (Nat.pow_le_pow_right (n := 256) (by decide) h)
  rw [Int.natCast_pow, Int.natCast_pow] at h1
  exact h1
theorem rN_bound (n : Nat) (s : Rst) (h : Bytes s.1) (hn : n ≤ 8) : 0 ≤ (rN n s).1 ∧ (rN n s).1 < 18446744073709551616 := by
  have h1 := num_bound _ (tk n s).1 rfl (tk_bytes n s h)
  have hp : (256 : Int) ^ (tk n s).1.length ≤ 256 ^ 8 := pow256 _ _ (Nat.le_trans (tk_len n s) hn)
  have h8 : (256 : Int) ^ 8 = 18446744073709551616 := by decide
  show 0 ≤ num _ ∧ num _ < _
  omega
theorem rN_bound4 (s : Rst) (h : Bytes s.1) : 0 ≤ (rN 4 s).1 ∧ (rN 4 s).1 < 4294967296 := by
  have h1 := num_bound _ (tk 4 s).1 rfl (tk_bytes 4 s h)
  have hp : (256 : Int) ^ (tk 4 s).1.length ≤ 256 ^ 4 := pow256 _ _ (tk_len 4 s)
  have h8 : (256 : Int) ^ 4 = 4294967296 := by decide
  show 0 ≤ num _ ∧ num _ < _
  omega
theorem rN_bound1 (s : Rst) (h : Bytes s.1) : 0 ≤ (rN 1 s).1 ∧ (rN 1 s).1 < 256 := by
  have h1 := num_bound _ (tk 1 s).1 rfl (tk_bytes 1 s h)
  have hp : (256 : Int) ^ (tk 1 s).1.length ≤ 256 ^ 1 := pow256 _ _ (tk_len 1 s)
  show 0 ≤ num _ ∧ num _ < _
  omega

set_option maxRecDepth 100000 in
theorem rbyte_calls (g D : Nat) (s : Rst) (w : World) (h : RD w g D s) :
    Calls Try.prog 33 #[.pointer (some ⟨g, 0, none⟩)] w fun e w' => e = .returned (.int .u8 (rN 1 s).1) ∧ RD w' g D (rN 1 s).2 ∧ Upd (fun k => k = g) w w' := by
  have H := Aside0.mk (rnumber_calls g D s 1 w h)
  have hb := rN_bound1 s h.bytes
  have e1 : sized 1 = 1 := by decide
  rw [e1] at H
  generalize (rN 1 s) = t at *
  obtain ⟨x, s1⟩ := t
  obtain ⟨hb0, hb1⟩ := hb
  dsimp only at hb0 hb1 H
  clear h e1
  go_enter Try.func33, Try.ntmps33
  go_wp2_with (go_at_call 34; refine H.out.mono ?_; rintro e w1 ⟨rfl, hrd, hu⟩; have HRD := Aside0.mk hrd; have HU := Aside0.mk hu; clear hrd hu)
  go_ret
  exact ⟨rfl, HRD.out, HU.out⟩

set_option maxRecDepth 100000 in
theorem rint_calls (g D : Nat) (s : Rst) (w : World) (h : RD w g D s) :
    Calls Try.prog 35 #[.pointer (some ⟨g, 0, none⟩)] w fun e w' => e = .returned (.int .i64 (wrap64 (rN 8 s).1)) ∧ RD w' g D (rN 8 s).2 ∧ Upd (fun k => k = g) w w' := by
  have H := Aside0.mk (rnumber_calls g D s 8 w h)
  have e1 : sized 8 = 8 := by decide
  rw [e1] at H
  generalize (rN 8 s) = t at *
  obtain ⟨x, s1⟩ := t
  clear h e1
  go_enter Try.func35, Try.ntmps35
  go_wp2_with (go_at_call 34; refine H.out.mono ?_; rintro e w1 ⟨rfl, hrd, hu⟩; have HRD := Aside0.mk hrd; have HU := Aside0.mk hu; clear hrd hu)
  go_ret
  exact ⟨rfl, HRD.out, HU.out⟩
end Go.Proofs.Ytmdnokfmlbjbhaa

namespace Go.Proofs.Ytmdnokfmlbjbhaa
open Go.RowKit Go.Proofs.YtmdnokfmlbjbhaaW.PrintWords Go.Proofs.YtmdnokfmlbjbhaaW.PrintMore
set_option linter.unusedVariables false
set_option linter.unusedSimpArgs false

theorem RD.fails {w : World} {g D : Nat} {s : Rst} (h : RD w g D s) :
    Calls Try.prog 96 #[.pointer (some ⟨g, 0, none⟩)] w fun e w' => e = .returned (.tuple #[]) ∧ RD w' g D ([], true) ∧ Upd (fun k => k = g) w w' := by
  obtain ⟨A, c, h1, _⟩ := h
  exact rfail_calls g D ([], true) w _ _ h1
theorem upd2 {g : Nat} {w w1 w2 : World} (h : Upd (fun k => k = g) w w1) (k : Upd (fun k => k = g) w1 w2) : Upd (fun k => k = g) w w2 := h.trans' k (fun _ e => .inl e)

theorem tk_bytes2 (n : Nat) (s : Rst) (h : Bytes s.1) : Bytes (tk n s).2.1 := by
  unfold tk; split
  · exact Bytes.nil
  · exact h.drop n

set_option maxRecDepth 100000 in
theorem rcount_calls (g D : Nat) (s : Rst) (most : Int) (w : World) (h : RD w g D s) :
    Calls Try.prog 93 #[.pointer (some ⟨g, 0, none⟩), .int .i64 most] w fun e w' => e = .returned (.int .i64 (rCount most s).1) ∧ RD w' g D (rCount most s).2 ∧ Upd (fun k => k = g) w w' := by
  have H := Aside0.mk (rnumber_calls g D s 4 w h)
  have hb := rN_bound4 s h.bytes
  have e1 : sized 4 = 4 := by decide
  rw [e1] at H
  unfold rCount
  generalize (rN 4 s) = t at *
  obtain ⟨x, s1⟩ := t
  obtain ⟨hb0, hb1⟩ := hb
  dsimp only at hb0 hb1 H ⊢
  clear h e1
  by_cases hm : most < x
  · rw [if_pos hm]
    go_enter Try.func93, Try.ntmps93
    go_wp2_with (first | (go_at_call 34; refine H.out.mono ?_; rintro e w1 ⟨rfl, hrd, hu⟩; have HF := Aside0.mk hrd.fails; have HU := Aside0.mk hu; clear hrd hu) | (go_at_call 96; refine HF.out.mono ?_; rintro e w2 ⟨rfl, hrd, hu⟩; have HR := Aside0.mk hrd; have HU2 := Aside0.mk (upd2 HU.out hu); clear hrd hu))
    go_ret
    exact ⟨rfl, HR.out, HU2.out⟩
  · rw [if_neg hm]
    go_enter Try.func93, Try.ntmps93
    go_wp2_with (go_at_call 34; refine H.out.mono ?_; rintro e w1 ⟨rfl, hrd, hu⟩; have HR := Aside0.mk hrd; have HU := Aside0.mk hu; clear hrd hu)
    go_ret
    exact ⟨rfl, HR.out, HU.out⟩

theorem rCount_bound (most : Int) (s : Rst) (h : Bytes s.1) : 0 ≤ (rCount most s).1 ∧ (rCount most s).1 < 4294967296 := by
  unfold rCount; split
  · exact ⟨by decide, by decide⟩
  · exact rN_bound4 s h

set_option maxRecDepth 100000 in
theorem rbytes_calls (g D : Nat) (s : Rst) (most : Int) (w : World) (h : RD w g D s) :
    Calls Try.prog 30 #[.pointer (some ⟨g, 0, none⟩), .int .i64 most] w fun e w' => ∃ v, e = .returned v ∧ OB w' w.heap.size v (rBytes most s).1 ∧ RD w' g D (rBytes most s).2 ∧ Upd (fun k => k = g) w w' := by
  have HC := Aside0.mk (rcount_calls g D s most w h)
  have hb := rCount_bound most s h.bytes
  unfold rBytes
  generalize (rCount most s) = t at *
  obtain ⟨x, s1⟩ := t
  obtain ⟨hb0, hb1⟩ := hb
  dsimp only at hb0 hb1 HC ⊢
  obtain ⟨n, rfl⟩ := Int.eq_ofNat_of_zero_le hb0
  rw [Int.toNat_natCast]
  have HT := fun w1 (h1 : RD w1 g D s1) => take_calls g D n s1 w1 h1 (by omega)
  generalize htk : tk n s1 = t at *
  have Htk := Aside0.mk htk
  obtain ⟨b, s2⟩ := t
  have HTT := Aside0.mk HT
  clear HT htk
  dsimp only at HTT ⊢
  clear h hb0
  have HL : Aside0 (b.length ≤ n) := ⟨by have := tk_len n s1; rw [Htk.out] at this; exact this⟩
  go_enter Try.func30, Try.ntmps30
  go_wp2_with (first | (go_at_call 93; refine HC.out.mono ?_; rintro e w1 ⟨rfl, hrd, hu⟩; have HX := Aside0.mk (HTT.out w1 hrd); have HU := Aside0.mk hu; clear hrd hu) | (go_at_call 92; refine HX.out.mono ?_; rintro e w2 ⟨A, c, ok, rfl, hr, hrd, hu, hA⟩; have HCL := Aside0.mk (clone_calls A c b w2 hr (by have := HL.out; omega)); have HRD := Aside0.mk hrd; have HU2 := Aside0.mk (upd2 HU.out hu); clear hrd hu hr hA) | (go_at_call 91; refine HCL.out.mono ?_; rintro e w3 ⟨v, rfl, ho, hbl⟩; have HO := Aside0.mk (own_weaken ho HU2.out.size); have HRD3 := Aside0.mk (HRD.out.below hbl); have HU3 := Aside0.mk (HU2.out.trans' (S' := fun _ => False) (Upd.of_below hbl) (fun _ e => e.elim)); clear ho hbl))
  go_ret
  exact ⟨_, rfl, HO.out, HRD3.out, HU3.out⟩

set_option maxRecDepth 100000 in
theorem rflag_calls (g D : Nat) (s : Rst) (w : World) (h : RD w g D s) :
    Calls Try.prog 36 #[.pointer (some ⟨g, 0, none⟩)] w fun e w' => e = .returned (.bool (rFlag s).1) ∧ RD w' g D (rFlag s).2 ∧ Upd (fun k => k = g) w w' := by
  have H := Aside0.mk (rbyte_calls g D s w h)
  have hb := rN_bound1 s h.bytes
  unfold rFlag
  generalize (rN 1 s) = t at *
  obtain ⟨x, s1⟩ := t
  obtain ⟨hb0, hb1⟩ := hb
  dsimp only at hb0 hb1 H ⊢
  clear h
  by_cases hm : 1 < x
  · rw [if_pos hm]
    have hx1 : (x == 1) = false := beq_eq_false_iff_ne.2 (by omega)
    go_enter Try.func36, Try.ntmps36
    go_wp2_with (first | (go_at_call 33; refine H.out.mono ?_; rintro e w1 ⟨rfl, hrd, hu⟩; have HF := Aside0.mk hrd.fails; have HU := Aside0.mk hu; clear hrd hu) | (go_at_call 96; refine HF.out.mono ?_; rintro e w2 ⟨rfl, hrd, hu⟩; have HR := Aside0.mk hrd; have HU2 := Aside0.mk (upd2 HU.out hu); clear hrd hu))
    go_ret
    exact ⟨rfl, HR.out, HU2.out⟩
  · rw [if_neg hm]
    go_enter Try.func36, Try.ntmps36
    go_wp2_with (go_at_call 33; refine H.out.mono ?_; rintro e w1 ⟨rfl, hrd, hu⟩; have HR := Aside0.mk hrd; have HU := Aside0.mk hu; clear hrd hu)
    go_ret
    exact ⟨rfl, HR.out, HU.out⟩

set_option maxRecDepth 100000 in
theorem rleft_calls (g D : Nat) (s : Rst) (w : World) (h : RD w g D s) :
    Calls Try.prog 37 #[.pointer (some ⟨g, 0, none⟩)] w fun e w' => e = .returned (.int .i64 (s.1.length : Int)) ∧ w = w' := by
  obtain ⟨A, c, h1, h2, h3, h4, h6, h7⟩ := h
  have hc0 : w.cell? ⟨g, 0, none⟩ = some (.slice A s.1.length c) := blk_cell h1 0
  clear h1 h2 h3 h4 h6 h7
  go_enter Try.func37, Try.ntmps37
  go_wp2
  go_ret
  exact ⟨rfl, rfl⟩

set_option maxRecDepth 100000 in
theorem rend_calls (g D : Nat) (s : Rst) (w : World) (h : RD w g D s) :
    Calls Try.prog 38 #[.pointer (some ⟨g, 0, none⟩)] w fun e w' => e = .returned (.int .i64 (rEnd s)) ∧ w = w' := by
  obtain ⟨A, c, h1, h2, h3, h4, h6, h7⟩ := h
  obtain ⟨ys, wr⟩ := s
  dsimp only at h1 h7
  have hc0 : w.cell? ⟨g, 0, none⟩ = some (.slice A ys.length c) := blk_cell h1 0
  have hc1 : w.cell? ⟨g, 1, none⟩ = some (.bool wr) := blk_cell h1 1
  clear h1 h2 h3 h4 h6
  unfold rEnd
  cases wr with
  | true =>
    rw [if_pos (.inl rfl)]
    clear h7
    go_enter Try.func38, Try.ntmps38
    go_wp2
    go_ret
    exact ⟨rfl, rfl⟩
  | false =>
    clear h7
    by_cases hp : 0 < ys.length
    · rw [if_pos (.inr hp)]
      have hp' : (0 : Int) < (ys.length : Int) := by omega
      go_enter Try.func38, Try.ntmps38
      go_wp2
      go_ret
      exact ⟨rfl, rfl⟩
    · rw [if_neg (by simpa using hp)]
      have hp' : ¬ (0 : Int) < (ys.length : Int) := by omega
      have hz : ys.length = 0 := by omega
      go_enter Try.func38, Try.ntmps38
      go_wp2
      go_ret
      exact ⟨rfl, rfl⟩

set_option maxRecDepth 100000 in
theorem read_calls (A : Option Addr) (c : Nat) (xs : List Int) (w : World) (hr : RB w A xs) (hb : Bytes xs) (hl : xs.length ≤ 140737488355328) :
    Calls Try.prog 29 #[.slice A xs.length c] w fun e w' => ∃ g D, e = .returned (.pointer (some ⟨g, 0, none⟩)) ∧ w.heap.size ≤ g ∧ w.heap.size ≤ D ∧ RD w' g D (xs, false) ∧ Below w.heap.size w w' := by
  have H := Aside0.mk (clone_calls A c xs w hr hl)
  have HB := Aside0.mk hb
  clear hr hb
  go_enter Try.func29, Try.ntmps29
  go_wp2_with fail
  refine H.out.mono ?_
  rintro e w1 ⟨v, rfl, ho, hbl⟩
  obtain ⟨A1, c1, rfl, hr1, hc1⟩ := OB.slice ho
  have HO := Aside0.mk ho
  have HR1 := Aside0.mk hr1
  have HBL := Aside0.mk hbl
  clear ho hr1 hbl
  go_wp2
  go_ret
  refine ⟨w1.heap.size, (match A1 with | some ad => ad.block | none => w.heap.size), rfl, HBL.out.size, ?_, ?_, HBL.out.alloc HBL.out.size _⟩
  · cases A1 with
    | none => exact Nat.le_refl _
    | some ad => exact own_base HO.out _ rfl
  · refine ⟨A1, c1, by simpa using heap_alloc_new w1 _, RB.keep HR1.out ((Below.refl _ _).alloc (Nat.le_refl _) _), hc1, ?_, HB.out, fun h => by cases h⟩
    rintro ad rfl
    exact ⟨rfl, by have := own_lt HO.out ad.block rfl; dsimp only; omega⟩
end Go.Proofs.Ytmdnokfmlbjbhaa

namespace Go.Proofs.Ytmdnokfmlbjbhaa
open Go.RowKit Go.Proofs.YtmdnokfmlbjbhaaW.PrintWords
set_option linter.unusedVariables false
set_option linter.unusedSimpArgs false

attribute [local go_sem ↓] Go.wp_at_zero Go.wp_at_succ

/-- is there a sum behind, and is it right? -/
def sumOk (xs : List Int) : Prop := 4 ≤ xs.length ∧ Crc.U (Crc.sum (xs.take (xs.length - 4))) = num (xs.drop (xs.length - 4))
instance (xs : List Int) : Decidable (sumOk xs) := by unfold sumOk; infer_instance
def unw (xs : List Int) : List Int := if sumOk xs then xs.take (xs.length - 4) else []
def unwCode (xs : List Int) : Int := if sumOk xs then 0 else 3

theorem rN4_of (ys : List Int) (h : ys.length = 4) : (rN 4 (ys, false)).1 = num ys := by
  unfold rN tk
  rw [if_neg (by simp [h])]
  simp [← h]

set_option maxHeartbeats 1000000 in
set_option maxRecDepth 100000 in
theorem unwrap_calls (A : Option Addr) (c : Nat) (xs : List Int) (w : World) (hr : RB w A xs) (hb : Bytes xs) (hc : xs.length ≤ c) (hl : xs.length ≤ 140737488350000) :
    Calls Try.prog 46 #[.slice A xs.length c] w fun e w' => ∃ v, e = .returned (.tuple #[v, .int .i64 (unwCode xs)]) ∧ OB w' w.heap.size v (unw xs) ∧ Below w.heap.size w w' := by
  by_cases h4 : 4 ≤ xs.length
  · obtain ⟨n, hn⟩ : ∃ n, xs.length = n + 4 := ⟨xs.length - 4, by omega⟩
    have e4 : xs.length - 4 = n := by omega
    have hrn := RB.take hr n (by omega)
    obtain ⟨A', hcl, hdr, _⟩ := cut_l A xs.length c n (by omega)
    have hrd := hdr w xs hc hr
    rw [hn, show n + 4 - n = 4 from by omega] at hrd
    have hdl : (xs.drop n).length = 4 := by rw [List.length_drop]; omega
    have htl : (xs.take n).length = n := by rw [List.length_take]; omega
    have hS : Aside0 (∀ W, Aside0 (Below w.heap.size w W) → Calls Try.prog 26 #[.slice A n c] W fun e w' => e = .returned (.int .u32 (Crc.U (Crc.sum (xs.take n)))) ∧ Aside0 (Below w.heap.size w w')) := ⟨fun W h => by
      have := sum_calls A c (xs.take n) W (RB.of (RB.keep hrn h.out)) (hb.take n)
      rw [htl] at this
      exact this.mono fun _ _ ⟨he, hB⟩ => ⟨he, ⟨h.out.trans (hB.mono h.out.size)⟩⟩⟩
    have hR : Aside0 (∀ W, Aside0 (Below w.heap.size w W) → Calls Try.prog 29 #[.slice A' 4 (c - n)] W fun e w' => ∃ g D, e = .returned (.pointer (some ⟨g, 0, none⟩)) ∧ Aside0 (RD w' g D (xs.drop n, false) ∧ w.heap.size ≤ g) ∧ Aside0 (Below w.heap.size w w')) := ⟨fun W h => by
      have := read_calls A' (c - n) (xs.drop n) W (RB.of (RB.keep hrd h.out)) (hb.drop n) (by omega)
      rw [hdl] at this
      exact this.mono fun _ _ ⟨g, D, he, h1, h2, h3, hB⟩ => ⟨g, D, he, ⟨h3, Nat.le_trans h.out.size h1⟩, ⟨h.out.trans (hB.mono h.out.size)⟩⟩⟩
    have hN : Aside0 (∀ W g D, Aside0 (RD W g D (xs.drop n, false) ∧ w.heap.size ≤ g) → Aside0 (Below w.heap.size w W) → Calls Try.prog 34 #[.pointer (some ⟨g, 0, none⟩), .int .i64 4] W fun e w' => e = .returned (.int .u64 (num (xs.drop n))) ∧ Aside0 (Below w.heap.size w w')) := ⟨fun W g D h1 h => by
      have := rnumber_calls g D (xs.drop n, false) 4 W h1.out.1
      rw [show sized 4 = 4 from rfl, rN4_of _ hdl] at this
      exact this.mono fun _ _ ⟨he, _, hu⟩ => ⟨he, ⟨h.out.trans (hu.below h.out.size (fun k e => by rw [e]; exact h1.out.2))⟩⟩⟩
    have hnb := rN_bound4 (xs.drop n, false) (hb.drop n)
    rw [rN4_of _ hdl] at hnb
    have hcn := Aside0.mk (clone_calls A c (xs.take n))
    have HRN := Aside0.mk hrn
    have HTL := Aside0.mk htl
    have EW := Aside0.mk (Below.refl w.heap.size w)
    have EW' := Aside0.mk ((Below.refl w.heap.size w).drew)
    have hcut := cut_to (P := Try.prog) 22 5 .i64 Try.underlying22 (Option.map_eq_some_iff.1 info5').choose_spec.1 A xs.length c (n : Int) (by omega) (by omega) hc
    rw [Int.toNat_natCast] at hcut
    have HOK : Aside0 (sumOk xs ↔ Crc.U (Crc.sum (xs.take n)) = num (xs.drop n)) := ⟨by unfold sumOk; rw [e4]; exact ⟨fun h => h.2, fun h => ⟨h4, h⟩⟩⟩
    have HUN : Aside0 (unw xs = if sumOk xs then xs.take n else []) := ⟨by unfold unw; rw [e4]⟩
    have u0 := Crc.U_nonneg (Crc.sum (xs.take n))
    have u1 := Crc.U_lt (Crc.sum (xs.take n))
    generalize Crc.U (Crc.sum (xs.take n)) = s at *
    generalize num (xs.drop n) = t at *
    obtain ⟨t0, t1⟩ := hnb
    have HL := Aside0.mk hl
    rw [hn, show n + 4 - n = 4 from by omega] at hcl
    rw [hn] at hcut ⊢
    have q0 : (0 : Int) ≤ (n : Int) := by omega
    have q1 : (n : Int) ≤ (c : Int) := by omega
    have q2 : (n : Int) ≤ 140737488350000 := by omega
    have hwt : IntKind.u32.wrap t = t := by rw [IntKind.wrap_u32']; omega
    clear hr hb hrn hdr hrd hdl htl hn e4 h4 hc hl
    by_cases hst : s = t
    · have hne : (s != t) = false := by simp [hst]
      have HST := Aside0.mk hst
      clear hst
      have e1 : unwCode xs = 0 := by unfold unwCode; rw [if_pos (HOK.out.2 HST.out)]
      have e2 : unw xs = xs.take n := by rw [HUN.out, if_pos (HOK.out.2 HST.out)]
      rw [e1, e2]
      clear e1 e2
      go_enter Try.func46, Try.ntmps46
      go_wp2
      go_region_held3 (fun _ => True) (trivial) (first
        | (go_at_call 26; ((with_reducible refine (hS.out _ (by assumption)).mono ?_); rintro e w1 ⟨rfl, E1⟩))
        | (go_at_call 29; ((with_reducible refine (hR.out _ (by assumption)).mono ?_); rintro e w2 ⟨g, D, rfl, RD2, E2⟩))
        | (go_at_call 34; ((with_reducible refine (hN.out _ _ _ (by assumption) (by assumption)).mono ?_); rintro e w3 ⟨rfl, E3⟩)))
      have hfin := Aside0.mk (hcn.out _ (RB.of (RB.keep HRN.out E3.out)) (by have := HL.out; have := HTL.out; omega))
      rw [HTL.out] at hfin
      go_wp2_with (go_at_call 91; refine hfin.out.mono ?_; rintro e w4 ⟨v, rfl, ho, hbl⟩; have HO := Aside0.mk (own_weaken ho E3.out.size); have HBL := Aside0.mk (E3.out.trans (hbl.mono E3.out.size)); clear ho hbl)
      go_ret2
      exact ⟨_, rfl, HO.out, HBL.out⟩
    · have hne : (s != t) = true := by simp [hst]
      have HST := Aside0.mk hst
      clear hst
      have e1 : unwCode xs = 3 := by unfold unwCode; rw [if_neg (fun h => HST.out (HOK.out.1 h))]
      have e2 : unw xs = [] := by rw [HUN.out, if_neg (fun h => HST.out (HOK.out.1 h))]
      rw [e1, e2]
      clear e1 e2
      go_enter Try.func46, Try.ntmps46
      go_wp2
      go_region_held3 (fun _ => True) (trivial) (first
        | (go_at_call 26; ((with_reducible refine (hS.out _ (by assumption)).mono ?_); rintro e w1 ⟨rfl, E1⟩))
        | (go_at_call 29; ((with_reducible refine (hR.out _ (by assumption)).mono ?_); rintro e w2 ⟨g, D, rfl, RD2, E2⟩))
        | (go_at_call 34; ((with_reducible refine (hN.out _ _ _ (by assumption) (by assumption)).mono ?_); rintro e w3 ⟨rfl, E3⟩)))
      go_wp2
      go_ret2
      exact ⟨_, rfl, OB.nil _ _, E3.out⟩
  · have hn4 : ¬ sumOk xs := fun h => h4 h.1
    have e1 : unwCode xs = 3 := by unfold unwCode; rw [if_neg hn4]
    have e2 : unw xs = [] := by unfold unw; rw [if_neg hn4]
    rw [e1, e2]
    have g1 : (xs.length : Int) - 4 < 0 := by omega
    have g2 : (0 : Int) ≤ (xs.length : Int) := by omega
    have g3 : (xs.length : Int) ≤ 4 := by omega
    clear hr hb e1 e2 hn4 h4
    go_enter Try.func46, Try.ntmps46
    go_wp2
    go_quiet (fail)
    go_wp2
    go_ret2
    exact ⟨_, rfl, OB.nil _ _, by first | exact pw_below_drewN (Below.refl _ _) _ | exact (Below.refl _ _).drew⟩
end Go.Proofs.Ytmdnokfmlbjbhaa

namespace Go.Proofs.Ytmdnokfmlbjbhaa
open Go.RowKit Go.Proofs.YtmdnokfmlbjbhaaW.PrintWords

theorem pow_bytes (m : Nat) : (2 : Int) ^ (8 * m) = 256 ^ m := by rw [Int.pow_mul]; rfl
theorem num_beUpto (v : Int) (n : Nat) (h0 : 0 ≤ v) (h1 : v < 256 ^ n) : ∀ k, k ≤ n → num (beUpto v n k) = v / 256 ^ (n - k)
  | 0, _ => by
    show (0 : Int) = _
    rw [Nat.sub_zero, Int.ediv_eq_zero_of_lt h0 h1]
  | k + 1, hk => by
    rw [beUpto_succ, num_snoc, num_beUpto v n h0 h1 k (by omega), pow_bytes, show n - 1 - k = n - (k + 1) from by omega]
    have e : n - k = (n - (k + 1)) + 1 := by omega
    rw [e, Int.pow_succ, ← Int.ediv_ediv_of_nonneg (by exact Int.le_of_lt (Int.pow_pos (by decide)))]
    generalize v / 256 ^ (n - (k + 1)) = q
    omega
theorem num_be (v : Int) (n : Nat) (h0 : 0 ≤ v) (h1 : v < 256 ^ n) : num (be v n) = v := by
  have := num_beUpto v n h0 h1 n (Nat.le_refl _)
  rw [Nat.sub_self, Int.pow_zero, Int.ediv_one] at this
  exact this
theorem num_inj : ∀ (n : Nat) (a b : List Int), a.length = n → b.length = n → Bytes a → Bytes b → num a = num b → a = b
  | 0, a, b, ha, hb, _, _, _ => by rw [List.eq_nil_of_length_eq_zero ha, List.eq_nil_of_length_eq_zero hb]
  | n + 1, a, b, ha, hb, ba, bb, h => by
    rcases List.eq_nil_or_concat a with rfl | ⟨a', c, rfl⟩
    · cases ha
    · rcases List.eq_nil_or_concat b with rfl | ⟨b', d, rfl⟩
      · cases hb
      · rw [List.concat_eq_append] at *
        rw [List.concat_eq_append] at *
        have c0 := ba c (by simp); have d0 := bb d (by simp)
        rw [num_snoc, num_snoc] at h
        have hn : num a' = num b' := by omega
        have hcd : c = d := by omega
        rw [num_inj n a' b' (by simpa using ha) (by simpa using hb) (fun x hx => ba x (by simp [hx])) (fun x hx => bb x (by simp [hx])) hn, hcd]

theorem bstep_top (x : BitVec 32) : (Crc.bstep x).getLsbD 31 = x.getLsbD 0 := by
  unfold Crc.bstep
  rw [BitVec.getLsbD_xor, BitVec.getLsbD_ushiftRight]
  have h32 : x.getLsbD (1 + 31) = false := BitVec.getLsbD_of_ge x _ (by omega)
  rw [h32]
  cases x.getLsbD 0 <;> rfl
theorem bstep_zero (x : BitVec 32) (h : Crc.bstep x = 0#32) : x = 0#32 := by
  have h0 : x.getLsbD 0 = false := by rw [← bstep_top, h]; rfl
  rw [Crc.bstep_even x h0] at h
  apply BitVec.eq_of_getLsbD_eq; intro i hi
  rw [BitVec.getLsbD_zero]
  rcases Nat.eq_zero_or_pos i with rfl | hp
  · exact h0
  · have := congrArg (fun z : BitVec 32 => z.getLsbD (i - 1)) h
    simp only [BitVec.getLsbD_ushiftRight, BitVec.getLsbD_zero] at this
    rwa [show 1 + (i - 1) = i from by omega] at this
theorem bsteps_zero : ∀ (n : Nat) (x : BitVec 32), Crc.bsteps n x = 0#32 → x = 0#32
  | 0, _, h => h
  | n + 1, x, h => bsteps_zero n x (bstep_zero _ h)
theorem bsteps_inj (n : Nat) (x y : BitVec 32) (h : Crc.bsteps n x = Crc.bsteps n y) : x = y := by
  have : Crc.bsteps n (x ^^^ y) = 0#32 := by rw [Crc.bsteps_xor, h, BitVec.xor_self]
  have h2 := bsteps_zero n _ this
  have h3 : (x ^^^ y) ^^^ y = 0#32 ^^^ y := by rw [h2]
  rwa [BitVec.xor_assoc, BitVec.xor_self, BitVec.xor_zero, BitVec.zero_xor] at h3
theorem xor_cancel_right (a b c : BitVec 32) (h : a ^^^ c = b ^^^ c) : a = b := by
  have : (a ^^^ c) ^^^ c = (b ^^^ c) ^^^ c := by rw [h]
  rwa [BitVec.xor_assoc, BitVec.xor_self, BitVec.xor_zero, BitVec.xor_assoc, BitVec.xor_self, BitVec.xor_zero] at this
theorem byte_inj (s t : BitVec 32) (c : Int) (h : Crc.byte s c = Crc.byte t c) : s = t := xor_cancel_right _ _ _ (bsteps_inj 8 _ _ h)
theorem byte_inj_c (s : BitVec 32) (c d : Int) (c0 : 0 ≤ c) (c1 : c < 256) (d0 : 0 ≤ d) (d1 : d < 256) (h : Crc.byte s c = Crc.byte s d) : c = d := by
  have h2 := bsteps_inj 8 _ _ h
  rw [BitVec.xor_comm s, BitVec.xor_comm s] at h2
  have h3 := xor_cancel_right _ _ _ h2
  rw [← Crc.U_ofInt' c0 (by omega), ← Crc.U_ofInt' d0 (by omega), h3]
theorem fold_inj : ∀ (xs : List Int) (s t : BitVec 32), Crc.fold s xs = Crc.fold t xs → s = t
  | [], _, _, h => h
  | x :: xs, s, t, h => byte_inj s t x (fold_inj xs _ _ h)
theorem more_inj (s t : BitVec 32) (xs : List Int) (h : Crc.more s xs = Crc.more t xs) : s = t := by
  unfold Crc.more at h
  have h1 := congrArg (fun z : BitVec 32 => ~~~z) h
  simp only [BitVec.not_not] at h1
  have h2 := congrArg (fun z : BitVec 32 => ~~~z) (fold_inj xs _ _ h1)
  simpa only [BitVec.not_not] using h2
theorem not_inj {a b : BitVec 32} (h : ~~~a = ~~~b) : a = b := by
  have h1 := congrArg (fun z : BitVec 32 => ~~~z) h
  simpa only [BitVec.not_not] using h1
/-- one byte changed -/
theorem sum_set (xs : List Int) (hx : Bytes xs) (i : Nat) (hi : i < xs.length) (y : Int) (y0 : 0 ≤ y) (y1 : y < 256) (h : Crc.sum (xs.set i y) = Crc.sum xs) : y = rd xs i := by
  have e : xs = xs.take i ++ [rd xs i] ++ xs.drop (i + 1) := by rw [← take_succ_rd xs i hi, List.take_append_drop]
  have e2 : xs.set i y = xs.take i ++ [y] ++ xs.drop (i + 1) := by
    rw [List.set_eq_take_append_cons_drop, if_pos hi]; simp
  unfold Crc.sum Crc.more at h
  have h := not_inj h
  rw [e2] at h
  conv at h => rhs; rw [e]
  rw [Crc.fold_append _ _ (xs.drop (i + 1)), Crc.fold_append _ _ (xs.drop (i + 1))] at h
  have h := fold_inj _ _ _ h
  rw [fold_snoc, fold_snoc] at h
  exact byte_inj_c _ _ _ y0 y1 (hx.at_ i).1 (hx.at_ i).2 h

theorem wrapped_take (xs : List Int) : (wrapped xs).take ((wrapped xs).length - 4) = xs := by
  rw [wrapped_len, Nat.add_sub_cancel]; unfold wrapped; rw [List.take_left]
theorem wrapped_drop (xs : List Int) : (wrapped xs).drop ((wrapped xs).length - 4) = be (Crc.U (Crc.sum xs)) 4 := by
  rw [wrapped_len, Nat.add_sub_cancel]; unfold wrapped; rw [List.drop_left]
theorem num_sum (xs : List Int) : num (be (Crc.U (Crc.sum xs)) 4) = Crc.U (Crc.sum xs) := num_be _ 4 (Crc.U_nonneg _) (by have := Crc.U_lt (Crc.sum xs); rw [show (256 : Int) ^ 4 = 4294967296 from by decide]; exact this)
theorem wrapped_ok (xs : List Int) : sumOk (wrapped xs) := by
  refine ⟨by rw [wrapped_len]; omega, ?_⟩
  rw [wrapped_take, wrapped_drop, num_sum]
theorem unw_wrapped (xs : List Int) : unw (wrapped xs) = xs := by
  unfold unw; rw [if_pos (wrapped_ok xs), wrapped_take]
theorem unwCode_wrapped (xs : List Int) : unwCode (wrapped xs) = 0 := by
  unfold unwCode; rw [if_pos (wrapped_ok xs)]
/-- bytes with a sum that is right are what Wrap gives -/
theorem sumOk_wrapped (xs : List Int) (hb : Bytes xs) (h : sumOk xs) : xs = wrapped (unw xs) := by
  have hl := h.1
  have hu : unw xs = xs.take (xs.length - 4) := by unfold unw; rw [if_pos h]
  rw [hu]
  unfold wrapped
  have hd : xs.drop (xs.length - 4) = be (Crc.U (Crc.sum (xs.take (xs.length - 4)))) 4 :=
    num_inj 4 _ _ (by rw [List.length_drop]; omega) (be_len _ _) (hb.drop _) (be_bytes _ _) (by rw [num_sum]; exact h.2.symm)
  rw [← hd, List.take_append_drop]

theorem xor_u8_zero (a : Int) (h0 : 0 ≤ a) (h1 : a < 256) : bits BinOp.xor .u8 a 0 = a := by
  rw [u8_xor a 0 h0 h1 (by decide) (by decide)]; simp; omega
theorem xor_u8_same (a t : Int) (h0 : 0 ≤ a) (h1 : a < 256) (t0 : 0 ≤ t) (t1 : t < 256) (h : bits BinOp.xor .u8 a t = a) : t = 0 := by
  rw [u8_xor a t h0 h1 t0 t1] at h
  obtain ⟨A, rfl⟩ := Int.eq_ofNat_of_zero_le h0
  obtain ⟨T, rfl⟩ := Int.eq_ofNat_of_zero_le t0
  simp only [Int.toNat_natCast] at h
  have h2 : A ^^^ T = A := by omega
  have h3 : A ^^^ (A ^^^ T) = A ^^^ A := by rw [h2]
  rw [← Nat.xor_assoc, Nat.xor_self, Nat.zero_xor] at h3
  omega
theorem xor_u8_range (a t : Int) (h0 : 0 ≤ a) (h1 : a < 256) (t0 : 0 ≤ t) (t1 : t < 256) : 0 ≤ bits BinOp.xor .u8 a t ∧ bits BinOp.xor .u8 a t < 256 := by
  rw [u8_xor a t h0 h1 t0 t1]
  have : a.toNat ^^^ t.toNat < 2 ^ 8 := Nat.xor_lt_two_pow (by omega) (by omega)
  omega
theorem bytes_set {xs : List Int} (h : Bytes xs) (i : Nat) (y : Int) (y0 : 0 ≤ y) (y1 : y < 256) : Bytes (xs.set i y) := by
  intro x hx
  rcases List.mem_or_eq_of_mem_set hx with h1 | rfl
  · exact h x h1
  · exact ⟨y0, y1⟩
theorem set_rd (xs : List Int) (i : Nat) (h : i < xs.length) : xs.set i (rd xs i) = xs := by
  rw [rd_nat, List.getD_eq_getElem?_getD, List.getElem?_eq_getElem h]; exact List.set_getElem_self h

/-- bytes with their sum behind, one of which is changed: they are right just where nothing is changed -/
theorem turned_ok (xs : List Int) (hx : Bytes xs) (i : Nat) (hi : i < (wrapped xs).length) (y : Int) (y0 : 0 ≤ y) (y1 : y < 256) : sumOk ((wrapped xs).set i y) ↔ y = rd (wrapped xs) i := by
  constructor
  · rintro ⟨_, h⟩
    rw [List.length_set, wrapped_len, Nat.add_sub_cancel] at h
    have hbx := wrapped_bytes hx
    rcases Nat.lt_or_ge i xs.length with hl | hl
    · have e1 : ((wrapped xs).set i y).take xs.length = xs.set i y := by
        unfold wrapped; rw [List.set_append_left _ _ hl]; exact List.take_left' (by rw [List.length_set])
      have e2 : ((wrapped xs).set i y).drop xs.length = be (Crc.U (Crc.sum xs)) 4 := by
        unfold wrapped; rw [List.set_append_left _ _ hl]; exact List.drop_left' (by rw [List.length_set])
      rw [e1, e2, num_sum] at h
      have := sum_set xs hx i hl y y0 y1 (Crc.U_inj h)
      rw [this]
      unfold wrapped
      rw [rd_nat, rd_nat, List.getD_eq_getElem?_getD, List.getD_eq_getElem?_getD, List.getElem?_append_left hl]
    · have e1 : ((wrapped xs).set i y).take xs.length = xs := by
        unfold wrapped; rw [List.set_append_right _ _ hl, List.take_left]
      have e2 : ((wrapped xs).set i y).drop xs.length = (be (Crc.U (Crc.sum xs)) 4).set (i - xs.length) y := by
        unfold wrapped; rw [List.set_append_right _ _ hl, List.drop_left]
      rw [e1, e2] at h
      have hl4 : i - xs.length < (be (Crc.U (Crc.sum xs)) 4).length := by rw [be_len]; rw [wrapped_len] at hi; omega
      have := num_inj 4 (be (Crc.U (Crc.sum xs)) 4) ((be (Crc.U (Crc.sum xs)) 4).set (i - xs.length) y) (be_len _ _) (by rw [List.length_set, be_len]) (be_bytes _ _) (bytes_set (be_bytes _ _) _ _ y0 y1) (by rw [num_sum]; exact h)
      have h2 : y = ((be (Crc.U (Crc.sum xs)) 4).set (i - xs.length) y).getD (i - xs.length) 0 := by
        rw [List.getD_eq_getElem?_getD, List.getElem?_set_self hl4]; rfl
      rw [← this] at h2
      rw [h2]
      unfold wrapped
      rw [rd_nat, List.getD_eq_getElem?_getD, List.getD_eq_getElem?_getD, List.getElem?_append_right hl]
  · rintro rfl
    rw [set_rd _ _ hi]
    exact wrapped_ok xs
end Go.Proofs.Ytmdnokfmlbjbhaa

namespace Go.Proofs.Ytmdnokfmlbjbhaa
open Go.RowKit Go.Proofs.YtmdnokfmlbjbhaaW.PrintWords
set_option linter.unusedVariables false
set_option linter.unusedSimpArgs false

/-- a row of the call's own, that was v, is v' now -/
structure Puts (base : Nat) (w : World) (v : Value) (w' : World) (v' : Value) (xs : List Int) : Prop where
  own : OB w' base v' xs
  upd : Upd (fun k => v.ownBlock = some k) w w'
  same : v'.ownBlock = v.ownBlock ∨ ∃ b, v'.ownBlock = some b ∧ w.heap.size ≤ b
theorem Puts.refl {base : Nat} {w : World} {v : Value} {xs : List Int} (ho : OB w base v xs) : Puts base w v w v xs := ⟨ho, Upd.refl _ _, .inl rfl⟩
theorem Puts.trans {base : Nat} {w w1 w2 : World} {v v1 v2 : Value} {xs ys : List Int} (h : Puts base w v w1 v1 xs) (k : Puts base w1 v1 w2 v2 ys) : Puts base w v w2 v2 ys := by
  refine ⟨k.own, h.upd.trans' k.upd (fun i hi => ?_), ?_⟩
  · rcases h.same with e | ⟨b, e, hb⟩
    · exact .inl (by rw [← e]; exact hi)
    · rw [e] at hi; injection hi with hi; exact .inr (by omega)
  · rcases k.same with e | ⟨b, e, hb⟩
    · rw [e]; exact h.same
    · exact .inr ⟨b, e, Nat.le_trans h.upd.size hb⟩
theorem Puts.step {base : Nat} {w w1 W1 : World} {v v1 : Value} {xs : List Int} (hw : Below w.heap.size w w1) (o1 : OB W1 base v1 xs) (g1 : w1.grownBy W1 v.ownBlock) (s1 : v1.ownBlock = v.ownBlock ∨ ∃ b, v1.ownBlock = some b ∧ w1.heap.size ≤ b) : Puts base w v W1 v1 xs :=
  ⟨o1, (Upd.of_below hw).grown g1 (fun k hk => .inl hk), s1.imp id fun ⟨b, e, hb⟩ => ⟨b, e, Nat.le_trans hw.size hb⟩⟩
theorem Puts.below {base : Nat} {w w' : World} {v v' : Value} {xs : List Int} (h : Puts base w v w' v' xs) {B : Nat} (hB : B ≤ w.heap.size) (hv : ∀ k, v.ownBlock = some k → B ≤ k) : Below B w w' := h.upd.below hB hv

set_option maxHeartbeats 1000000 in
set_option maxRecDepth 100000 in
/-- tidelineref01.Put, at a size from 0 to 8 -/
theorem put_calls (base : Nat) (v : Value) (xs : List Int) (x : Int) (n : Nat) (hn : n ≤ 8) (w : World) (hx0 : 0 ≤ x) (hx1 : x < 18446744073709551616) (ho : OB w base v xs) (hb : base ≤ w.heap.size) (hl : xs.length + 8 ≤ 140737488355328) :
    Calls Try.prog 103 #[v, .int .u64 x, .int .i64 (n : Int)] w fun e w' => ∃ v', e = .returned v' ∧ Puts base w v w' v' (xs ++ be x n) := by
  have HP := Aside0.mk (Puts.refl ho)
  have HX := Aside0.mk hx1
  have hn8 : (n : Int) ≤ 8 := by omega
  have hn8' : ¬ (8 : Int) < (n : Int) := by omega
  have HL := Aside0.mk hl
  have HBS := Aside0.mk hb
  clear ho hx1 hl hb
  go_enter Try.func103, Try.ntmps103
  go_wp2
  go_loopw [0, 7] (fun v0 v7 wr => ∃ k : Nat, k ≤ n ∧ v7 = .int .i64 ((n : Int) - 1 - k) ∧ Aside0 (Puts base w v wr v0 (xs ++ beUpto x n k))) (fun _ v7 _ => (intOf v7 + 1).toNat)
  case atStart => exact ⟨0, by omega, by simp, ⟨by simpa [beUpto] using HP.out⟩⟩
  case round =>
    obtain ⟨k, hk, rfl, HW⟩ := hrel
    by_cases hlt : k < n
    · obtain ⟨j, hj⟩ : ∃ j : Nat, n - 1 - k = j := ⟨_, rfl⟩
      rw [show ((n : Int) - 1 - (k : Int)) = (j : Int) from by omega]
      have hj7 : (j : Int) ≤ 7 := by omega
      have hj0 : (0 : Int) ≤ (j : Int) := by omega
      have HJ := Aside0.mk hj
      have Hk' : Aside0 (k + 1 ≤ n) := ⟨hlt⟩
      clear hj hlt hk
      obtain ⟨wo, rfl⟩ : ∃ wo : World, wo = wr := ⟨_, rfl⟩
      go_wp2
      go_loop [8, 9] (fun v8 v9 => ∃ (q : Nat) (y : Int), q ≤ j ∧ v9 = .int .i64 q ∧ v8 = .int .u64 y ∧ Aside0 (y = x / 256 ^ q)) (fun _ v9 => j - (intOf v9).toNat)
      case atStart => exact ⟨0, x, by omega, rfl, rfl, ⟨by rw [Int.pow_zero, Int.ediv_one]⟩⟩
      case round =>
        obtain ⟨q, y, hq, rfl, rfl, HY⟩ := hrel
        have hy0 : 0 ≤ y := by rw [HY.out]; exact Int.ediv_nonneg hx0 (Int.le_of_lt (Int.pow_pos (by decide)))
        have HY1 : Aside0 (y < 18446744073709551616) := ⟨by
          rw [HY.out]
          have := Int.ediv_le_self (256 ^ q) hx0
          have := HX.out
          omega⟩
        by_cases hqj : q < j
        · have hqj' : (q : Int) < (j : Int) := by omega
          have hy1 := HY1.out
          go_wp2
          go_round
          case rel => exact ⟨q + 1, y / 256, by omega, by go_num, rfl, ⟨by rw [HY.out, Int.pow_succ, Int.ediv_ediv_of_nonneg (Int.le_of_lt (Int.pow_pos (by decide)))]⟩⟩
          case measure => simp [intOf]; omega
        · have hqj' : ¬ (q : Int) < (j : Int) := by omega
          have Hq : Aside0 (q = j) := ⟨by omega⟩
          have HR := Aside0.mk (C_one wo .u8 5 (y % 256))
          have B0 := Aside0.mk ((Below.refl wo.heap.size wo).alloc (Nat.le_refl _) (.cells #[.int .u8 (y % 256)] 5))
          have HO := Aside0.mk (HW.out.own.alloc (.cells #[.int .u8 (y % 256)] 5))
          have HS := Aside0.mk (Nat.le_trans HBS.out HW.out.upd.size)
          go_wp2_with (at_builtin; refine wpList_appB 31 rfl rfl (.tmp 26) (.tmp 30) rfl (v := u0) (xs := xs ++ beUpto x n k) (ys := [y % 256]) rfl rfl HO.out HR.out ?q1 ?q2 ?_; (case q1 => have := HS.out; simp; omega); (case q2 => have := HL.out; have := Hk'.out; rw [List.length_append, beUpto_len]; simp; omega); intro v1 W1 o1 g1 s1; have K1 := Aside0.mk (HW.out.trans (Puts.step B0.out o1 g1 s1)); clear o1 g1 s1)
          go_roundw
          case rel => exact ⟨k + 1, Hk'.out, by rw [Value.int.injEq]; exact ⟨rfl, by have := HJ.out; have := Hk'.out; omega⟩, ⟨by have := K1.out; rw [beUpto_succ, HJ.out, pow_bytes, ← List.append_assoc, ← Hq.out, ← HY.out]; exact this⟩⟩
          case measure => simp [intOf]
    · obtain rfl : n = k := by omega
      have h0 : ((n : Int) - 1 - (n : Int)) < 0 := by omega
      have h1 : ¬ (0 : Int) ≤ ((n : Int) - 1 - (n : Int)) := by omega
      go_wp2
      go_ret
      exact ⟨_, rfl, HW.out⟩
end Go.Proofs.Ytmdnokfmlbjbhaa

namespace Go.Proofs.Ytmdnokfmlbjbhaa
open Go.RowKit Go.Proofs.YtmdnokfmlbjbhaaW.PrintWords
set_option linter.unusedVariables false
set_option linter.unusedSimpArgs false

theorem U_mod2 (x : BitVec 32) : Crc.U x % 2 = if x.getLsbD 0 then 1 else 0 := by
  have h : x.getLsbD 0 = decide (x.toNat % 2 = 1) := by rw [BitVec.getLsbD, Nat.testBit_zero]
  unfold Crc.U
  rw [h]
  by_cases h1 : x.toNat % 2 = 1
  · rw [if_pos (by simpa using h1)]; omega
  · rw [if_neg (by simpa using h1)]; omega
theorem ref_step (x : BitVec 32) : (if (Crc.U x % 2 == 1) = true then bits BinOp.xor .u32 (Crc.U x / 2) 3988292384 else Crc.U x / 2) = Crc.U (Crc.bstep x) := by
  have h2 : Crc.U x / (2 : Int) = Crc.U (x >>> 1) := Crc.shr_U x 1
  rw [U_mod2, h2]
  unfold Crc.bstep
  cases x.getLsbD 0
  · simp
  · have := Crc.xor_U (x >>> 1) 0xedb88320#32
    rw [show Crc.U 0xedb88320#32 = 3988292384 from by decide] at this
    simpa using this
theorem U_not (x : BitVec 32) : 4294967295 - Crc.U x = Crc.U (~~~ x) := by
  unfold Crc.U; rw [BitVec.toNat_not]; have := x.isLt; omega

theorem U_ones : Crc.U (~~~ 0#32) = 4294967295 := by decide
attribute [local irreducible] Crc.U

set_option maxHeartbeats 1000000 in
set_option maxRecDepth 100000 in
theorem refsum_calls (A : Option Addr) (c : Nat) (xs : List Int) (w : World) (hr : RB w A xs) (hb : Bytes xs) :
    Calls Try.prog 48 #[.slice A xs.length c] w fun e w' => e = .returned (.int .u32 (Crc.U (Crc.sum xs))) ∧ w = w' := by
  have HR := Aside0.mk hr
  have HB := Aside0.mk hb
  have hmax := Kd.C_max hr
  have HM : Aside0 (Crc.U (Crc.sum xs) = Crc.U (~~~ Crc.fold (~~~ 0#32) xs)) := ⟨rfl⟩
  generalize Crc.U (Crc.sum xs) = res at *
  clear hr hb
  go_enter Try.func48, Try.ntmps48
  go_wp2
  go_loopw [3, 4] (fun v3 v4 wr => ∃ (k : Nat) (y : BitVec 32), k ≤ xs.length ∧ v4 = .int .i64 k ∧ v3 = .int .u32 (Crc.U y) ∧ Aside0 (y = Crc.fold (~~~ 0#32) (xs.take k)) ∧ Aside0 (w = wr)) (fun _ v _ => xs.length - (intOf v).toNat)
  case atStart => exact ⟨0, ~~~ 0#32, by omega, rfl, by rw [U_ones], ⟨rfl⟩, ⟨rfl⟩⟩
  case round =>
    obtain ⟨k, y, hk, rfl, rfl, HY, ⟨rfl⟩⟩ := hrel
    by_cases hlt : k < xs.length
    · have hbx := HB.out.at_ (k : Int)
      obtain ⟨y1, y2, e1, e2, e3⟩ := byte_step y (rd xs k) hbx.1 hbx.2
      have HE3 : Aside0 (Crc.bsteps 8 y1 = Crc.fold (~~~ 0#32) (xs.take (k + 1))) := ⟨by
        rw [fold_take _ xs k hlt, ← HY.out, ← e3, e2, ← Crc.bsteps_add]⟩
      clear e2 e3
      obtain ⟨ad, hA, hcx⟩ := RB.cell HR.out k hlt
      subst hA
      have b0 := Crc.U_lt y; have b0' := Crc.U_nonneg y
      obtain ⟨hb1, hb2⟩ := hbx
      go_wp2
      clear e1 hcx b0 b0' hb1 hb2
      go_loopw [3, 5] (fun v3 v5 wr => ∃ (j : Nat) (z : BitVec 32), j ≤ 8 ∧ v5 = .int .i64 j ∧ v3 = .int .u32 (Crc.U z) ∧ Aside0 (z = Crc.bsteps j y1) ∧ Aside0 (w = wr)) (fun _ v _ => 8 - (intOf v).toNat)
      case atStart => exact ⟨0, y1, by omega, rfl, rfl, ⟨rfl⟩, ⟨rfl⟩⟩
      case round =>
        obtain ⟨j, z, hj, rfl, rfl, HZ, ⟨rfl⟩⟩ := hrel
        by_cases hj8 : j < 8
        · have hs := ref_step z
          have Hz : Aside0 (Crc.bstep z = Crc.bsteps (j + 1) y1) := ⟨by rw [HZ.out]; rfl⟩
          have z0 := Crc.U_nonneg z; have z1 := Crc.U_lt z
          obtain ⟨hh, e2⟩ : ∃ hh, Crc.U z / 2 = hh := ⟨_, rfl⟩
          obtain ⟨mm, e3⟩ : ∃ mm, Crc.U z % 2 = mm := ⟨_, rfl⟩
          rw [e2, e3] at hs
          by_cases h1 : (mm == 1) = true
          · rw [if_pos h1] at hs
            have HS := Aside0.mk hs
            clear hs
            go_wp2
            go_roundw
            case rel => exact ⟨j + 1, Crc.bstep z, by omega, by go_num, by rw [← HS.out], Hz, ⟨by trivial⟩⟩
            case measure => simp [intOf]; omega
          · have h1' : (mm == 1) = false := by simpa using h1
            rw [if_neg h1] at hs
            have HS := Aside0.mk hs
            clear h1 hs
            go_wp2
            go_roundw
            case rel => exact ⟨j + 1, Crc.bstep z, by omega, by go_num, by rw [← HS.out, ← e2], Hz, ⟨by trivial⟩⟩
            case measure => simp [intOf]; omega
        · have Hj : Aside0 (j = 8) := ⟨by omega⟩
          go_wp2
          go_roundw
          case rel => exact ⟨k + 1, z, by omega, by go_num, rfl, ⟨by rw [HZ.out, Hj.out, HE3.out]⟩, ⟨by trivial⟩⟩
          case measure => simp [intOf]; omega
    · have Hk : Aside0 (k = xs.length) := ⟨by omega⟩
      have hn := U_not y
      have b0 := Crc.U_lt y; have b0' := Crc.U_nonneg y
      go_wp2
      go_ret
      refine ⟨?_, rfl⟩
      rw [HM.out, HY.out, Hk.out, List.take_length]; rfl

set_option maxRecDepth 100000 in
theorem refwrap_calls (A : Option Addr) (c : Nat) (xs : List Int) (w : World) (hr : RB w A xs) (hb : Bytes xs) (hl : xs.length ≤ 140737488350000) :
    Calls Try.prog 51 #[.slice A xs.length c] w fun e w' => ∃ v, e = .returned v ∧ OB w' w.heap.size v (wrapped xs) ∧ Below w.heap.size w w' := by
  have HR := Aside0.mk hr
  have a0 := Aside0.mk (OB.empty w _ (Nat.le_refl _))
  have b0 := Aside0.mk ((Below.refl w.heap.size w).alloc (Nat.le_refl _) (.cells #[] 5))
  have HS := Aside0.mk (fun W (h : Below w.heap.size w W) => refsum_calls A c xs W (RB.keep hr h) hb)
  have u0 := Crc.U_nonneg (Crc.sum xs)
  have HU1 := Aside0.mk (Crc.U_lt (Crc.sum xs))
  have HE : Aside0 (wrapped xs = xs ++ be (Crc.U (Crc.sum xs)) 4) := ⟨rfl⟩
  generalize wrapped xs = ws at *
  generalize Crc.U (Crc.sum xs) = s at *
  have hs1 : s < 4294967296 := HU1.out
  clear hr hb
  go_enter Try.func51, Try.ntmps51
  go_wp2_with (first
    | (at_builtin; refine wpList_appW 6 rfl rfl (.tmp 4) (.tmp 5) rfl w (.slice (some ⟨w.heap.size, 0, none⟩) 0 0) [] xs rfl rfl a0.out (RB.keep HR.out b0.out) b0.out (by simp; omega) ?_; intro v2 w2 o2 b2; rw [List.nil_append] at o2; have O2 := Aside0.mk o2; have D2 := Aside0.mk b2; have HP := Aside0.mk (put_calls w.heap.size v2 xs s 4 (by decide) w2 u0 (by have := HU1.out; omega) o2 b2.size (by omega)); clear o2 b2)
    | (go_at_call 48; refine (HS.out _ D2.out).mono ?_; rintro e w3 ⟨rfl, rfl⟩)
    | (go_at_call 103; refine HP.out.mono ?_; rintro e w4 ⟨v4, rfl, hp⟩; have B4 := Aside0.mk (D2.out.trans (hp.below D2.out.size (own_base O2.out))); have O4 := Aside0.mk hp.own; clear hp))
  go_ret
  exact ⟨_, rfl, HE.out ▸ O4.out, B4.out⟩

theorem cut_to_nat (A : Option Addr) (n c m : Nat) (hm : m ≤ n) (hc : n ≤ c) : ∀ W : World, (Instr.slice 22 (.slice A n c) none (some (.int .i64 (m : Int))) none).run Try.prog W = .ok (.slice A m c) W := by
  have h := cut_to (P := Try.prog) 22 5 .i64 Try.underlying22 (Option.map_eq_some_iff.1 info5').choose_spec.1 A n c (m : Int) (by omega) (by omega) hc
  rwa [Int.toNat_natCast] at h

set_option maxHeartbeats 1000000 in
set_option maxRecDepth 100000 in
theorem refunwrap_calls (A : Option Addr) (c : Nat) (xs : List Int) (w : World) (hr : RB w A xs) (hb : Bytes xs) (hc : xs.length ≤ c) (hl : xs.length ≤ 140737488350000) :
    Calls Try.prog 47 #[.slice A xs.length c] w fun e w' => ∃ v, e = .returned (.tuple #[v, .int .i64 (unwCode xs)]) ∧ OB w' w.heap.size v (unw xs) ∧ Below w.heap.size w w' := by
  by_cases h4 : 4 ≤ xs.length
  · obtain ⟨n, hn⟩ : ∃ n, xs.length = n + 4 := ⟨xs.length - 4, by omega⟩
    have e4 : xs.length - 4 = n := by omega
    have hrn := RB.take hr n (by omega)
    have htl : (xs.take n).length = n := by rw [List.length_take]; omega
    have hcut := cut_to_nat A xs.length c n (by omega) hc
    have hw := refwrap_calls A c (xs.take n) w (RB.of hrn) (hb.take n) (by omega)
    rw [htl] at hw
    have HW := Aside0.mk hw
    have HRN := Aside0.mk hrn
    have HTL := Aside0.mk htl
    have HOK : Aside0 (decide (wrapped (xs.take n) = xs) = true ↔ sumOk xs) := ⟨by
      rw [decide_eq_true_iff]
      constructor
      · intro h; rw [← h]; exact wrapped_ok _
      · intro h
        have h2 := sumOk_wrapped xs hb h
        have h3 : unw xs = xs.take n := by unfold unw; rw [if_pos h, e4]
        rw [h3] at h2; exact h2.symm⟩
    have HUN : Aside0 (unw xs = if sumOk xs then xs.take n else []) := ⟨by unfold unw; rw [e4]⟩
    have HR := Aside0.mk hr
    have hwl : (wrapped (xs.take n)).length = n + 4 := by rw [wrapped_len, htl]
    have HWL := Aside0.mk hwl
    rw [hn] at hcut ⊢
    have HN := Aside0.mk hn
    have q0 : (0 : Int) ≤ (n : Int) := by omega
    have q2 : (n : Int) ≤ 140737488350000 := by omega
    have a1 : Aside0 (∀ W : World, w.heap.size ≤ W.heap.size → OB (W.alloc (.cells #[] 5)) w.heap.size (.slice (some ⟨W.heap.size, 0, none⟩) 0 0) []) := ⟨fun W h => OB.empty W _ h⟩
    clear hr hb hrn htl hw h4 hc hl hn e4 hwl
    by_cases hok : sumOk xs
    · have e1 : unwCode xs = 0 := by unfold unwCode; rw [if_pos hok]
      have e2 : unw xs = xs.take n := by rw [HUN.out, if_pos hok]
      have HD := Aside0.mk (HOK.out.2 hok)
      rw [e1, e2]
      clear e1 e2 hok
      go_enter Try.func47, Try.ntmps47
      go_wp2_with (first
        | (go_at_call 51; refine HW.out.mono ?_; rintro e w2 ⟨v, rfl, ho, hB2⟩; obtain ⟨A2, c2, rfl, r2, _⟩ := OB.slice ho; have hs := same_calls A2 c2 (wrapped (xs.take n)) A c xs w2 r2 (RB.keep HR.out hB2); rw [HD.out, HWL.out, HN.out] at hs; have HS := Aside0.mk hs; have B2 := Aside0.mk hB2; rw [HWL.out]; clear ho hB2 hs r2)
        | (go_at_call 49; refine HS.out.mono ?_; rintro e w3 ⟨rfl, hd⟩; have B3 := Aside0.mk (B2.out.trans (hd.below.mono B2.out.size)); have a3 := Aside0.mk (a1.out w3 B3.out.size); have b3 := Aside0.mk (B3.out.alloc B3.out.size (.cells #[] 5)); have r3 := Aside0.mk (RB.keep HRN.out b3.out); clear hd)
        | (at_builtin; refine wpList_appW 23 rfl rfl (.tmp 19) (.tmp 22) rfl w (.slice (some ⟨w3.heap.size, 0, none⟩) 0 0) [] (xs.take n) (A := A) (c := c) rfl ?sq1 a3.out (RB.of r3.out) b3.out ?sq2 ?_; (case sq1 => rw [HTL.out]; rfl); (case sq2 => rw [HTL.out]; simp; omega); intro v4 w4 o4 b4; rw [List.nil_append] at o4; have O4 := Aside0.mk o4; have D4 := Aside0.mk b4; clear o4 b4))
      go_ret2
      exact ⟨_, rfl, O4.out, D4.out⟩
    · have e1 : unwCode xs = 3 := by unfold unwCode; rw [if_neg hok]
      have e2 : unw xs = [] := by rw [HUN.out, if_neg hok]
      have HD : Aside0 (decide (wrapped (xs.take n) = xs) = false) := ⟨by rw [← Bool.not_eq_true]; exact fun h => hok (HOK.out.1 h)⟩
      rw [e1, e2]
      clear e1 e2 hok
      go_enter Try.func47, Try.ntmps47
      go_wp2_with (first
        | (go_at_call 51; refine HW.out.mono ?_; rintro e w2 ⟨v, rfl, ho, hB2⟩; obtain ⟨A2, c2, rfl, r2, _⟩ := OB.slice ho; have hs := same_calls A2 c2 (wrapped (xs.take n)) A c xs w2 r2 (RB.keep HR.out hB2); rw [HD.out, HWL.out, HN.out] at hs; have HS := Aside0.mk hs; have B2 := Aside0.mk hB2; rw [HWL.out]; clear ho hB2 hs r2)
        | (go_at_call 49; refine HS.out.mono ?_; rintro e w3 ⟨rfl, hd⟩; have B3 := Aside0.mk (B2.out.trans (hd.below.mono B2.out.size)); clear hd))
      go_ret2
      exact ⟨_, rfl, OB.nil _ _, B3.out⟩
  · have hn4 : ¬ sumOk xs := fun h => h4 h.1
    have e1 : unwCode xs = 3 := by unfold unwCode; rw [if_neg hn4]
    have e2 : unw xs = [] := by unfold unw; rw [if_neg hn4]
    rw [e1, e2]
    have g1 : (xs.length : Int) - 4 < 0 := by omega
    have g2 : (0 : Int) ≤ (xs.length : Int) := by omega
    have g3 : (xs.length : Int) ≤ 4 := by omega
    clear hr hb e1 e2 hn4 h4
    go_enter Try.func47, Try.ntmps47
    go_wp2
    go_ret2
    exact ⟨_, rfl, OB.nil _ _, Below.refl _ _⟩
end Go.Proofs.Ytmdnokfmlbjbhaa

namespace Go.Proofs.Ytmdnokfmlbjbhaa
open Go.RowKit Go.Proofs.YtmdnokfmlbjbhaaW.PrintWords
set_option linter.unusedVariables false
set_option linter.unusedSimpArgs false

theorem drawn_below {w w' : World} (h : Drawn0 w w') : Below w.heap.size w w' := h.below
theorem and_ffff (n : Int) : ∃ m : Nat, bits BinOp.and .i64 n 65535 = (m : Int) ∧ m ≤ 65535 := by
  refine ⟨(BitVec.ofInt 64 n &&& 65535#64).toNat, ?_, ?_⟩
  · show IntKind.i64.wrap ((BitVec.ofInt 64 n &&& BitVec.ofInt 64 65535).toNat : Int) = _
    have h : (BitVec.ofInt 64 n &&& 65535#64).toNat ≤ 65535 := by
      rw [BitVec.toNat_and]; exact Nat.and_le_right
    rw [show BitVec.ofInt 64 65535 = 65535#64 from rfl, IntKind.wrap_i64]; omega
  · rw [BitVec.toNat_and]; exact Nat.and_le_right

theorem OB.some {w : World} {base : Nat} {v : Value} {xs : List Int} (h : OB w base v xs) (hp : 0 < xs.length) : ∃ g c, v = .slice (some ⟨g, 0, none⟩) xs.length c ∧ base ≤ g ∧ g < w.heap.size ∧ xs.length ≤ c := by
  rcases h.2 with ⟨_, h0⟩ | ⟨g, cap, cur, e, hb, hh, hnc, _⟩
  · omega
  · exact ⟨g, cap, e, hb, (Array.getElem?_eq_some_iff.1 hh).1, hnc⟩

theorem OB.slice_some {w : World} {base : Nat} {a : Addr} {n c : Nat} {xs : List Int} (h : OB w base (.slice (Option.some a) n c) xs) : RB w (Option.some a) xs := by
  obtain ⟨A, c', e, hr, _⟩ := OB.slice h
  injection e with e1 _ _
  rw [e1]; exact hr
theorem own_at' {W : World} {base g n cap : Nat} {e : TypeId} {k : IntKind} {xs : List Int} (h : W.ownsRow base e 1 (.slice (Option.some ⟨g, 0, none⟩) n cap) xs.length (nums k xs)) (i : Nat) (h1 : i < xs.length) :
    W.cell? ⟨g, i, none⟩ = Option.some (.int k (rd xs i)) ∧ W.frozen? ⟨g, i, none⟩ = false := by
  have hn : n = xs.length := by
    rcases h.2 with ⟨h', _⟩ | ⟨g', cap', cur, h', _⟩
    · cases h'
    · injection h'
  subst hn
  have := own_at h (i : Int) (by omega) (by omega)
  rwa [Int.toNat_natCast] at this

theorem own_store' {W : World} {base g n cap : Nat} {e : TypeId} {k : IntKind} {xs : List Int} (h : W.ownsRow base e 1 (.slice (Option.some ⟨g, 0, none⟩) n cap) xs.length (nums k xs)) (i : Nat) (x : Int) :
    (W.setCell ⟨g, i, none⟩ (.int k x)).ownsRow base e 1 (.slice (Option.some ⟨g, 0, none⟩) n cap) (xs.set i x).length (nums k (xs.set i x)) := by
  have hn : n = xs.length := by
    rcases h.2 with ⟨h', _⟩ | ⟨g', cap', cur, h', _⟩
    · cases h'
    · injection h'
  subst hn
  have := (own_store h (i : Int) x).1
  rw [Int.toNat_natCast] at this
  rw [List.length_set]
  exact this

set_option maxHeartbeats 1000000 in
set_option maxRecDepth 100000 in
theorem checkTurned_walk (A : Option Addr) (c : Nat) (xs : List Int) (at_ turn : Int) (w : World) (hr : RB w A xs) (hb : Bytes xs) (hl : xs.length ≤ 2000) (t0 : 0 ≤ turn) (t1 : turn < 256) :
    Calls Try.prog 9 #[.slice A xs.length c, .int .i64 at_, .int .u8 turn] w fun e w' => e = .returned (.bool true) ∧ Below w.heap.size w w' := by
  have HR := Aside0.mk hr
  have HB := Aside0.mk hb
  obtain ⟨m, hm, hm1⟩ := and_ffff at_
  obtain ⟨i, hi⟩ : ∃ i, m % (xs.length + 4) = i := ⟨_, rfl⟩
  have hilt : i < xs.length + 4 := by rw [← hi]; exact Nat.mod_lt _ (by omega)
  have hmi : (m : Int) % ((xs.length : Int) + 4) = (i : Int) := by rw [← hi, Int.natCast_emod]; rfl
  have hl' : (xs.length : Int) ≤ 2000 := by omega
  have hm1' : (m : Int) ≤ 65535 := by omega
  have q0 : (0 : Int) ≤ (i : Int) := by omega
  have q1 : (i : Int) < (xs.length : Int) + 4 := by omega
  have HI := Aside0.mk hilt
  have hl2 : ¬ (2000 : Int) < (xs.length : Int) := by omega
  have T0 := Aside0.mk t0
  have T1 := Aside0.mk t1
  clear hr hb hi hilt hl hm1 t0 t1
  go_enter Try.func9, Try.ntmps9
  go_wp2_with (first
    | (go_at_call 24; refine (speaks02_calls _).mono ?_; rintro e w1 ⟨rfl, hB1⟩; have B1 := Aside0.mk hB1; have HW := Aside0.mk (wrap_calls A c xs w1 (RB.keep HR.out hB1) HB.out (by omega)); clear hB1)
    | (go_at_call 50; refine HW.out.mono ?_; rintro e w2 ⟨v, rfl, ho, hB2⟩; have B2 := Aside0.mk (B1.out.trans (hB2.mono B1.out.size)); obtain ⟨g, cw, rfl, hg1, hg2, hcw⟩ := OB.some ho (by rw [wrapped_len]; omega); have hu := unwrap_calls _ cw (wrapped xs) w2 (OB.slice_some ho) (wrapped_bytes HB.out) hcw (by rw [wrapped_len]; omega); rw [unwCode_wrapped, unw_wrapped, wrapped_len] at hu; have HU := Aside0.mk hu; rw [wrapped_len] at hcw ⊢; have CW := Aside0.mk hcw; have HG := Aside0.mk (Nat.le_trans B1.out.size hg1); have HG2 := Aside0.mk hg2; have HO := Aside0.mk ho; clear hg1 hg2 ho hB2 hcw hu))
  refine HU.out.mono ?_
  rintro e w3 ⟨v3, rfl, ho3, hB3⟩
  obtain ⟨A3, c3, rfl, hr3, hc3⟩ := OB.slice ho3
  have B3 := Aside0.mk (B2.out.trans (hB3.mono B2.out.size))
  have HS := Aside0.mk (same_calls A3 c3 xs A c xs w3 hr3 (RB.keep HR.out B3.out))
  rw [decide_eq_true rfl] at HS
  have HO3 := Aside0.mk (own_move HO.out (fun k hk => hB3.block k (own_lt HO.out k hk)))
  have hB3s := Aside0.mk hB3.size
  clear ho3 hB3 hr3 hc3
  go_wp2_with (go_at_call 49; refine HS.out.mono ?_; rintro e w4 ⟨rfl, hd⟩; have B4 := Aside0.mk (B3.out.trans (hd.below.mono B3.out.size)); have HO4 := Aside0.mk (pw_own_below HO3.out hd.below); have S4 := Aside0.mk hd.below.size; have hcell := (own_at' HO4.out i (by rw [wrapped_len]; exact HI.out)).1; have hfro := (own_at' HO4.out i (by rw [wrapped_len]; exact HI.out)).2; clear hd)
  have hy := xor_u8_range _ turn ((wrapped_bytes HB.out).at_ i).1 ((wrapped_bytes HB.out).at_ i).2 T0.out T1.out
  have hs5 := own_store' HO4.out i (bits BinOp.xor IntKind.u8 (rd (wrapped xs) ↑i) turn)
  have B5 := Aside0.mk (B4.out.setCell (p := ⟨g, i, none⟩) HG.out (.int .u8 (bits BinOp.xor IntKind.u8 (rd (wrapped xs) ↑i) turn)))
  generalize hw5 : w4.setCell { block := g, off := i } (Value.int IntKind.u8 (bits BinOp.xor IntKind.u8 (rd (wrapped xs) ↑i) turn)) = w5 at *
  have hu := unwrap_calls _ cw ((wrapped xs).set i (bits BinOp.xor IntKind.u8 (rd (wrapped xs) ↑i) turn)) w5 (OB.slice_some hs5) (bytes_set (wrapped_bytes HB.out) _ _ hy.1 hy.2) (by rw [List.length_set, wrapped_len]; exact CW.out) (by rw [List.length_set, wrapped_len]; omega)
  rw [List.length_set, wrapped_len] at hu
  obtain ⟨z, hz, hz2⟩ : ∃ z, unwCode ((wrapped xs).set i (bits BinOp.xor IntKind.u8 (rd (wrapped xs) ↑i) turn)) = z ∧ (z == 0) = (turn == 0) := by
    refine ⟨_, rfl, ?_⟩
    have hok := turned_ok xs HB.out i (by rw [wrapped_len]; exact HI.out) _ hy.1 hy.2
    unfold unwCode
    by_cases ht : turn = 0
    · subst ht
      rw [if_pos (hok.2 (xor_u8_zero _ ((wrapped_bytes HB.out).at_ i).1 ((wrapped_bytes HB.out).at_ i).2))]
    · rw [if_neg (fun h => ht (xor_u8_same _ _ ((wrapped_bytes HB.out).at_ i).1 ((wrapped_bytes HB.out).at_ i).2 T0.out T1.out (hok.1 h)))]
      exact (beq_eq_false_iff_ne.2 ht).symm
  rw [hz] at hu
  have HU5 := Aside0.mk hu
  obtain ⟨b, hb1⟩ : ∃ b, (turn == 0) = b := ⟨_, rfl⟩
  rw [hb1] at hz2
  clear hw5 hs5 hu hz hy hcell hfro
  refine HU5.out.mono ?_
  rintro e w6 ⟨v6, rfl, ho6, hB6⟩
  have B6 := Aside0.mk (B5.out.trans (hB6.mono B5.out.size))
  clear ho6 hB6
  go_wp2
  go_ret
  refine ⟨?_, B6.out⟩
  simp

set_option maxRecDepth 100000 in
theorem checkTurned_all (A : Option Addr) (c : Nat) (xs : List Int) (at_ turn : Int) (w : World) (hr : RB w A xs) (hb : Bytes xs) (t0 : 0 ≤ turn) (t1 : turn < 256) :
    Calls Try.prog 9 #[.slice A xs.length c, .int .i64 at_, .int .u8 turn] w fun e w' => e = .returned (.bool true) ∧ Below w.heap.size w w' := by
  by_cases hl : xs.length ≤ 2000
  · exact checkTurned_walk A c xs at_ turn w hr hb hl t0 t1
  · clear hr hb
    have g : (2000 : Int) < (xs.length : Int) := by omega
    go_enter Try.func9, Try.ntmps9
    go_wp2_with (go_at_call 24; refine (speaks02_calls _).mono ?_; rintro e w1 ⟨rfl, hB1⟩)
    go_ret
    exact ⟨rfl, hB1⟩
end Go.Proofs.Ytmdnokfmlbjbhaa

namespace Go.Proofs.Ytmdnokfmlbjbhaa
open Go.RowKit Go.Proofs.YtmdnokfmlbjbhaaW.PrintWords
set_option linter.unusedVariables false
set_option linter.unusedSimpArgs false
attribute [local irreducible] Crc.U

/-- a contract that leaves all of w0 as it was, at any later world -/
theorem later {w0 : World} {f : FuncId} {args : Array Value} {v : Value} {W : World} (hw : Below w0.heap.size w0 W) (h : Calls Try.prog f args W fun e w' => e = .returned v ∧ Below W.heap.size W w') :
    Calls Try.prog f args W fun e w' => e = .returned v ∧ Aside0 (Below w0.heap.size w0 w') :=
  h.mono fun _ _ ⟨he, hB⟩ => ⟨he, ⟨hw.trans (hB.mono hw.size)⟩⟩

theorem same_self {w0 : World} (A0 : Option Addr) (c0 : Nat) (x : List Int) (A1 : Option Addr) (c1 : Nat) (w : World) (hw : Below w0.heap.size w0 w) (hx : RB w A0 x) (hy : RB w A1 x) :
    Calls Try.prog 49 #[.slice A0 x.length c0, .slice A1 x.length c1] w fun e w' => e = .returned (.bool true) ∧ Aside0 (Below w0.heap.size w0 w') :=
  (same_calls A0 c0 x A1 c1 x w hx hy).mono fun _ _ ⟨he, hd⟩ => ⟨by rw [he, decide_eq_true rfl], ⟨hw.trans (hd.below.mono hw.size)⟩⟩

set_option maxHeartbeats 1000000 in
set_option maxRecDepth 100000 in
theorem checkSums_walk (A : Option Addr) (c : Nat) (x : List Int) (A' : Option Addr) (c' : Nat) (y : List Int) (w : World) (hr : RB w A x) (hb : Bytes x) (hc : x.length ≤ c) (hr' : RB w A' y) (hb' : Bytes y) (hl : x.length ≤ 2000) (hl' : y.length ≤ 2000) :
    Calls Try.prog 8 #[.slice A x.length c, .slice A' y.length c'] w fun e w' => e = .returned (.bool true) ∧ Below w.heap.size w w' := by
  have R0 := Aside0.mk hr; have R1 := Aside0.mk hr'
  have B0 := Aside0.mk hb; have B1 := Aside0.mk hb'
  have HC := Aside0.mk hc
  have q0 : ¬ (2000 : Int) < (x.length : Int) := by omega
  have q1 : ¬ (2000 : Int) < (y.length : Int) := by omega
  have HL := Aside0.mk hl; have HL' := Aside0.mk hl'
  obtain ⟨xy, hxy⟩ : ∃ xy, xy = x ++ y := ⟨_, rfl⟩
  have HX := Aside0.mk hxy
  clear hr hr' hb hb' hl hl' hc hxy
  go_enter Try.func8, Try.ntmps8
  go_wp2_with (first
    | (go_at_call 24; refine (speaks02_calls _).mono ?_; rintro e w1 ⟨rfl, hB1⟩; have H0 := Aside0.mk (RB.keep R0.out hB1); have H1 := Aside0.mk (RB.keep R1.out hB1); have a0 := Aside0.mk (OB.empty w1 _ (Nat.le_refl _)); have b0 := Aside0.mk ((Below.refl w1.heap.size w1).alloc (Nat.le_refl _) (.cells #[] 5)))
    | (at_builtin; refine wpList_appW 22 rfl rfl (.tmp 20) (.tmp 21) rfl w1 (.slice (some ⟨w1.heap.size, 0, none⟩) 0 0) [] x rfl rfl a0.out (RB.keep H0.out b0.out) b0.out (by have := HL.out; simp; omega) ?_; intro v2 w2 o2 b2; rw [List.nil_append] at o2; have O2 := Aside0.mk o2; have D2 := Aside0.mk b2; clear o2 b2)
    | (at_builtin; refine wpList_appW 24 rfl rfl (.tmp 22) (.tmp 23) rfl w1 v2 x y rfl rfl O2.out (RB.keep H1.out D2.out) D2.out (by have := HL.out; have := HL'.out; omega) ?_; intro v3 w3 o3 b3; rw [← HX.out] at o3; obtain ⟨A3, c3, rfl, r3, _⟩ := OB.slice o3; have R3 := Aside0.mk r3; have D3 := Aside0.mk b3; have a3 := Aside0.mk (OB.empty w3 _ (Nat.le_refl _)); have b3 := Aside0.mk ((Below.refl w3.heap.size w3).alloc (Nat.le_refl _) (.cells #[] 5)); have H3 := Aside0.mk (RB.keep H0.out D3.out); clear o3 r3)
    | (at_builtin; refine wpList_appW 28 rfl rfl (.tmp 26) (.tmp 27) rfl w3 (.slice (some ⟨w3.heap.size, 0, none⟩) 0 0) [] x rfl rfl a3.out (RB.keep H3.out b3.out) b3.out (by have := HL.out; simp; omega) ?_; intro v4 w4 o4 b4; rw [List.nil_append] at o4; obtain ⟨A4, c4, rfl, r4, k4⟩ := OB.slice o4; have HU := Aside0.mk (unwrap_calls A4 c4 x w4 r4 B0.out k4 (by have := HL.out; omega)); have D4 := Aside0.mk b4; clear o4 r4 b4 k4))
  refine HU.out.mono ?_
  rintro e w5 ⟨v5, rfl, o5, b5⟩
  have D5 := Aside0.mk (D4.out.trans (b5.mono D4.out.size))
  have HRU := Aside0.mk (refunwrap_calls A c x w5 (RB.keep H3.out D5.out) B0.out HC.out (by have := HL.out; omega))
  have O5 := Aside0.mk o5
  clear o5 b5
  go_wp2_with fail
  refine HRU.out.mono ?_
  rintro e w6 ⟨v6, rfl, o6, b6⟩
  have D6 := Aside0.mk (D5.out.trans (b6.mono D5.out.size))
  obtain ⟨A5, c5, rfl, r5, _⟩ := OB.slice O5.out
  obtain ⟨A6, c6, rfl, r6, _⟩ := OB.slice o6
  have x6 := RB.keep H3.out D6.out
  have y6 := RB.keep (RB.keep H1.out D3.out) D6.out
  have z6 := RB.keep R3.out D6.out
  have u6 := RB.keep r5 b6
  have hs := Aside0.mk (fun W (h : Aside0 (Below w6.heap.size w6 W)) => later h.out (sum_calls A c x W (RB.keep x6 h.out) B0.out))
  have hrs := Aside0.mk (fun W (h : Aside0 (Below w6.heap.size w6 W)) => (refsum_calls A c x W (RB.keep x6 h.out) B0.out))
  have hrb := Aside0.mk (fun W (h : Aside0 (Below w6.heap.size w6 W)) => (refsum_calls A3 c3 xy W (RB.keep z6 h.out) (HX.out ▸ B0.out.append B1.out)))
  have hm := Aside0.mk (fun W (h : Aside0 (Below w6.heap.size w6 W)) => later h.out (more_calls (Crc.sum x) A' c' y W (RB.keep y6 h.out) B1.out))
  have hw := Aside0.mk (fun W (h : Aside0 (Below w6.heap.size w6 W)) => (wrap_calls A c x W (RB.keep x6 h.out) B0.out (by have := HL.out; omega)))
  have hrw := Aside0.mk (fun W (h : Aside0 (Below w6.heap.size w6 W)) => (refwrap_calls A c x W (RB.keep x6 h.out) B0.out (by have := HL.out; omega)))
  have hsu := Aside0.mk (fun W (h : Aside0 (Below w6.heap.size w6 W)) => (same_self A5 c5 (unw x) A6 c6 W h.out (RB.keep u6 h.out) (RB.keep r6 h.out)))
  have heq : Crc.U (Crc.sum xy) = Crc.U (Crc.more (Crc.sum x) y) := by rw [HX.out]; unfold Crc.sum; rw [Crc.more_append]
  have E6 := Aside0.mk (Below.refl w6.heap.size w6)
  have DD := Aside0.mk (hB1.trans ((D3.out.trans (D6.out.mono D3.out.size)).mono hB1.size))
  clear r5 o6 r6 x6 y6 z6 u6 b6
  go_wp2_with (first
    | (go_at_call 26; ((with_reducible refine (hs.out _ (by assumption)).mono ?_); rintro e w7 ⟨rfl, E7⟩))
    | (go_at_call 48; ((with_reducible refine (hrs.out _ (by assumption)).mono ?_); rintro e w7 ⟨rfl, rfl⟩))
    | (go_at_call 48; ((with_reducible refine (hrb.out _ (by assumption)).mono ?_); rintro e w7 ⟨rfl, rfl⟩))
    | (go_at_call 25; ((with_reducible refine (hm.out _ (by assumption)).mono ?_); rintro e w7 ⟨rfl, E8⟩)))
  have G8 := E8
  refine (hw.out _ G8).mono ?_
  rintro e w8 ⟨v8, rfl, o8, b8⟩
  obtain ⟨A8, c8, rfl, r8, _⟩ := OB.slice o8
  have D8 := Aside0.mk (G8.out.trans (b8.mono G8.out.size))
  clear o8 b8
  go_wp2_with fail
  refine (hrw.out _ D8).mono ?_
  rintro e w9 ⟨v9, rfl, o9, b9⟩
  obtain ⟨A9, c9, rfl, r9, _⟩ := OB.slice o9
  have D9 := Aside0.mk (D8.out.trans (b9.mono D8.out.size))
  have hsm := Aside0.mk (same_self A8 c8 (wrapped x) A9 c9 w9 D9.out (RB.keep r8 b9) r9)
  clear o9 b9 r8 r9 E7 E8 G8 E6
  go_wp2_with (first
    | (go_at_call 49; ((with_reducible refine hsm.out.mono ?_); rintro e w10 ⟨rfl, E10⟩))
    | (go_at_call 49; ((with_reducible refine (hsu.out _ E10).mono ?_); rintro e w11 ⟨rfl, E11⟩)))
  go_ret
  exact ⟨rfl, DD.out.trans (E11.out.mono DD.out.size)⟩

set_option maxRecDepth 100000 in
theorem checkSums_all (A : Option Addr) (c : Nat) (x : List Int) (A' : Option Addr) (c' : Nat) (y : List Int) (w : World) (hr : RB w A x) (hb : Bytes x) (hc : x.length ≤ c) (hr' : RB w A' y) (hb' : Bytes y) :
    Calls Try.prog 8 #[.slice A x.length c, .slice A' y.length c'] w fun e w' => e = .returned (.bool true) ∧ Below w.heap.size w w' := by
  by_cases h0 : x.length ≤ 2000
  · by_cases h1 : y.length ≤ 2000
    · exact checkSums_walk A c x A' c' y w hr hb hc hr' hb' h0 h1
    · clear hr hb hr' hb'
      have g0 : ¬ (2000 : Int) < (x.length : Int) := by omega
      have g1 : (2000 : Int) < (y.length : Int) := by omega
      go_enter Try.func8, Try.ntmps8
      go_wp2_with (go_at_call 24; refine (speaks02_calls _).mono ?_; rintro e w1 ⟨rfl, hB1⟩)
      go_ret
      exact ⟨rfl, hB1⟩
  · clear hr hb hr' hb'
    have g0 : (2000 : Int) < (x.length : Int) := by omega
    go_enter Try.func8, Try.ntmps8
    go_wp2_with (go_at_call 24; refine (speaks02_calls _).mono ?_; rintro e w1 ⟨rfl, hB1⟩)
    go_ret
    exact ⟨rfl, hB1⟩
end Go.Proofs.Ytmdnokfmlbjbhaa
