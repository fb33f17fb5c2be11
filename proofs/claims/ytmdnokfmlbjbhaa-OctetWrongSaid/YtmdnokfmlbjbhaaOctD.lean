/- The Reader of package octet: what it takes. -/
import Derived.Test.YtmdnokfmlbjbhaaOctC
namespace Go.Proofs.Ytmdnokfmlbjbhaa
open Go.RowKit Go.Proofs.YtmdnokfmlbjbhaaW.PrintWords Go.Proofs.YtmdnokfmlbjbhaaW.PrintMore
set_option linter.unusedVariables false
set_option linter.unusedSimpArgs false

/-! ### the plain machine: bytes that are left, and whether it has gone wrong -/
abbrev Rst := List Int × Bool
def tk (n : Nat) (s : Rst) : List Int × Rst := if s.2 = true ∨ s.1.length < n then ([], ([], true)) else (s.1.take n, (s.1.drop n, false))
def num (b : List Int) : Int := b.foldl (fun v c => v * 256 + c) 0
def rN (n : Nat) (s : Rst) : Int × Rst := (num (tk n s).1, (tk n s).2)
def rCount (most : Int) (s : Rst) : Int × Rst := if most < (rN 4 s).1 then (0, ([], true)) else rN 4 s
def rBytes (most : Int) (s : Rst) : List Int × Rst := tk (rCount most s).1.toNat (rCount most s).2
def rFlag (s : Rst) : Bool × Rst := if 1 < (rN 1 s).1 then (false, ([], true)) else ((rN 1 s).1 == 1, (rN 1 s).2)
def rEnd (s : Rst) : Int := if s.2 = true ∨ 0 < s.1.length then 3 else 0
def sized (m : Int) : Nat := if m < 0 then 0 else if 8 < m then 8 else m.toNat
theorem sized_eq (m : Int) : (if m < 0 then 0 else if 8 < m then 8 else m) = (sized m : Int) := by
  unfold sized; split
  · rfl
  · split
    · rfl
    · omega
theorem sized_le (m : Int) : sized m ≤ 8 := by unfold sized; split <;> (try split) <;> omega

theorem num_snoc (b : List Int) (c : Int) : num (b ++ [c]) = num b * 256 + c := by unfold num; rw [List.foldl_append]; rfl
theorem num_bound : ∀ (n : Nat) (b : List Int), b.length = n → Bytes b → 0 ≤ num b ∧ num b < 256 ^ n
  | 0, b, hl, _ => by rw [List.eq_nil_of_length_eq_zero hl]; exact ⟨by decide, by decide⟩
  | n + 1, b, hl, h => by
    rcases List.eq_nil_or_concat b with rfl | ⟨b', c, rfl⟩
    · cases hl
    · obtain ⟨h0, h1⟩ := num_bound n b' (by simpa using hl) (fun x hx => h x (by simp [hx]))
      obtain ⟨c0, c1⟩ := h c (by simp)
      rw [List.concat_eq_append, num_snoc, Int.pow_succ]
      generalize (256 : Int) ^ n = p at *
      omega

/-- the Reader at block g, whose bytes lie in block D -/
def RD (w : World) (g D : Nat) (s : Rst) : Prop :=
  ∃ A c, w.heap[g]? = some (.cells #[.slice A s.1.length c, .bool s.2] 141 (0, 0)) ∧ RB w A s.1 ∧ s.1.length ≤ c ∧ (∀ ad, A = some ad → ad.block = D ∧ D ≠ g) ∧ Bytes s.1 ∧ (s.2 = true → s.1 = [])
theorem RD.keep {w w1 : World} {g D : Nat} {s : Rst} {S : Nat → Prop} (h : RD w g D s) (u : Upd S w w1) (hg : ¬ S g) (hD : ¬ S D) : RD w1 g D s := by
  obtain ⟨A, c, h1, h2, h3, h4, h5⟩ := h
  refine ⟨A, c, u.at_ h1 hg, ?_, h3, h4, h5⟩
  rcases Nat.eq_zero_or_pos s.1.length with hz | hp
  · rw [List.eq_nil_of_length_eq_zero hz]; exact C_int.2 ⟨rfl, by simp, fun h => absurd h (by simp)⟩
  · obtain ⟨ad, e, hlt⟩ := C_lt h2 hp
    exact C_move h2 (fun ad' e' => u.block _ (by rw [e] at e'; injection e' with e'; rw [← e']; exact hlt) (by rw [(h4 ad' e').1]; exact hD))
theorem RD.below {w w1 : World} {g D : Nat} {s : Rst} (h : RD w g D s) (b : Below w.heap.size w w1) : RD w1 g D s :=
  h.keep (S := fun _ => False) (Upd.of_below b) (fun e => e) (fun e => e)
theorem RD.lt {w : World} {g D : Nat} {s : Rst} (h : RD w g D s) : g < w.heap.size := by obtain ⟨A, c, h1, _⟩ := h; exact blk_lt h1

/-- cuts of a row that is read -/
theorem cut_hm_any {P : Program} (t e : TypeId) {i : TypeInfo} (ht : P.underlying t = some (.slice e)) (hi : P.info? e = some i) (A : Option Addr) (n c m : Nat) (hm : m ≤ c) :
    ∀ W : World, (Instr.slice t (.slice A n c) none (some (.int .i64 (m : Int))) (some (.int .i64 (m : Int)))).run P W = .ok (.slice A m m) W := by
  intro W
  have hel : P.elem t = e := by simp [Program.elem, ht]
  have hu : P.underlying t = some (.slice (P.elem t)) := by rw [hel]; exact ht
  have ha : (A.map fun x => x.add 0) = A := by cases A <;> simp [Addr.add]
  rw [run_slice_hm W t A n c hu .i64 .i64 m m (by omega) (by omega) (by omega), hel]
  simp [sizeOf, typeInfo, hi, sliced, Result.andThen, ha]
theorem cut_hm (A : Option Addr) (n c m : Nat) (hm : m ≤ c) : ∀ W : World, (Instr.slice 22 (.slice A n c) none (some (.int .i64 (m : Int))) (some (.int .i64 (m : Int)))).run Try.prog W = .ok (.slice A m m) W := by
  obtain ⟨i0, hi, hzz⟩ := Option.map_eq_some_iff.1 info5'
  exact cut_hm_any 22 5 Try.underlying22 hi A n c m hm
theorem cut_l_any {P : Program} (t e : TypeId) {i : TypeInfo} (ht : P.underlying t = some (.slice e)) (hi : P.info? e = some i) (hsz : i.size = 1) (A : Option Addr) (n c m : Nat) (hm : m ≤ n) : ∃ A' : Option Addr, (∀ W : World, (Instr.slice t (.slice A n c) (some (.int .i64 (m : Int))) none none).run P W = .ok (.slice A' (n - m) (c - m)) W) ∧
    (∀ (k : IntKind) (w : World) (xs : List Int), n ≤ c → Kd.C (Kd.int k) w A n xs → Kd.C (Kd.int k) w A' (n - m) (xs.drop m)) ∧ ∀ ad, A' = some ad → ∃ ad0, A = some ad0 ∧ ad.block = ad0.block := by
  refine ⟨if c = m then A else A.map (·.add m), fun W => ?_, fun k w xs hc h => C_int.2 ((C_int.1 h).drop_ m hm hc), fun ad h => ?_⟩
  · have hel : P.elem t = e := by simp [Program.elem, ht]
    have hu : P.underlying t = some (.slice (P.elem t)) := by rw [hel]; exact ht
    rw [run_slice_l W t A n c hu .i64 (m : Int) (Int.natCast_nonneg _) (by omega), hel]
    simp [sizeOf, typeInfo, hi, hsz, sliced, Result.andThen]
  · split at h
    · exact ⟨ad, h, rfl⟩
    · cases A with
      | none => cases h
      | some a0 => exact ⟨a0, rfl, by injection h with h; rw [← h]; unfold Addr.add; split <;> rfl⟩
theorem cut_l (A : Option Addr) (n c m : Nat) (hm : m ≤ n) : ∃ A' : Option Addr, (∀ W : World, (Instr.slice 22 (.slice A n c) (some (.int .i64 (m : Int))) none none).run Try.prog W = .ok (.slice A' (n - m) (c - m)) W) ∧
    (∀ (w : World) (xs : List Int), n ≤ c → Kd.C (Kd.int .u8) w A n xs → Kd.C (Kd.int .u8) w A' (n - m) (xs.drop m)) ∧ ∀ ad, A' = some ad → ∃ ad0, A = some ad0 ∧ ad.block = ad0.block := by
  obtain ⟨i0, hi, hzz⟩ := Option.map_eq_some_iff.1 info5'
  simp only [Prod.mk.injEq] at hzz
  obtain ⟨A', h1, h2, h3⟩ := cut_l_any 22 5 Try.underlying22 hi hzz.2.1 A n c m hm
  exact ⟨A', h1, fun w xs => h2 .u8 w xs, h3⟩

set_option maxRecDepth 100000 in
theorem rfail_calls (g D : Nat) (s : Rst) (w : World) (c0 c1 : Value) (hc : w.heap[g]? = some (.cells #[c0, c1] 141 (0, 0))) :
    Calls Try.prog 96 #[.pointer (some ⟨g, 0, none⟩)] w fun e w' => e = .returned (.tuple #[]) ∧ RD w' g D ([], true) ∧ Upd (fun k => k = g) w w' := by
  have hc0 : w.cell? ⟨g, 0, none⟩ = some c0 := blk_cell hc 0
  have hc1 : w.cell? ⟨g, 1, none⟩ = some c1 := blk_cell hc 1
  have hf0 := blk_frozen hc 0
  have hf1 := blk_frozen hc 1
  have HC := Aside0.mk hc
  clear hc
  go_enter Try.func96, Try.ntmps96
  go_wp2
  go_end0
  refine ⟨rfl, ⟨none, 0, ?_, C_int.2 ⟨rfl, by simp, fun h => absurd h (by simp)⟩, by simp, (fun _ h => by cases h), Bytes.nil, fun _ => rfl⟩, ?_⟩
  · have := blk_set (blk_set HC.out 0 (.slice none 0 0)) 1 (.bool true)
    simpa using this
  · exact ((Upd.refl (fun k => k = g) w).setCell (p := ⟨g, 0, none⟩) (.inl rfl) _).setCell (p := ⟨g, 1, none⟩) (.inl rfl) _

set_option maxHeartbeats 400000 in
set_option maxRecDepth 100000 in
theorem take_calls (g D n : Nat) (s : Rst) (w : World) (h : RD w g D s) (hn : n ≤ 4294967296) :
    Calls Try.prog 92 #[.pointer (some ⟨g, 0, none⟩), .int .i64 (n : Int)] w fun e w' => ∃ A c ok, e = .returned (.tuple #[.slice A (tk n s).1.length c, .bool ok]) ∧ RB w' A (tk n s).1 ∧ RD w' g D (tk n s).2 ∧ Upd (fun k => k = g) w w' ∧ ∀ ad, A = some ad → ad.block = D := by
  obtain ⟨ys, wr⟩ := s
  obtain ⟨A, c, hb, hr, hc, hA, hy, hw⟩ := h
  dsimp only at hb hr hc hy hw
  have hc0 : w.cell? ⟨g, 0, none⟩ = some (.slice A ys.length c) := blk_cell hb 0
  have hc1 : w.cell? ⟨g, 1, none⟩ = some (.bool wr) := blk_cell hb 1
  have hf0 := blk_frozen hb 0
  have HF := Aside0.mk (rfail_calls g D ([], true) w _ _ hb)
  have HB := Aside0.mk hb
  have HR := Aside0.mk hr
  have HA := Aside0.mk hA
  have HY := Aside0.mk hy
  have hnil : RB w none [] := C_int.2 ⟨rfl, by simp, fun h => absurd h (by simp)⟩
  have hn' : (n : Int) ≤ 4294967296 := by omega
  by_cases hcase : wr = true ∨ ys.length < n
  · have e : tk n (ys, wr) = ([], ([], true)) := by unfold tk; rw [if_pos hcase]
    rw [e]
    have HE := Aside0.mk e
    clear hb hr hA hy e
    cases wr with
    | true =>
      go_enter Try.func92, Try.ntmps92
      go_wp2_with (go_at_call 96; refine HF.out.mono ?_; rintro e w1 ⟨rfl, hrd, hu⟩; have HRD := Aside0.mk hrd; have HU := Aside0.mk hu; clear hrd hu)
      go_ret2
      exact ⟨none, 0, false, rfl, C_int.2 ⟨rfl, by simp, fun h => absurd h (by simp)⟩, HRD.out, HU.out, fun _ h => by cases h⟩
    | false =>
      have hlt : ys.length < n := by simpa using hcase
      have hlt' : (ys.length : Int) < (n : Int) := by omega
      clear hcase
      go_enter Try.func92, Try.ntmps92
      go_wp2_with (go_at_call 96; refine HF.out.mono ?_; rintro e w1 ⟨rfl, hrd, hu⟩; have HRD := Aside0.mk hrd; have HU := Aside0.mk hu; clear hrd hu)
      go_ret2
      exact ⟨none, 0, false, rfl, C_int.2 ⟨rfl, by simp, fun h => absurd h (by simp)⟩, HRD.out, HU.out, fun _ h => by cases h⟩
  · have hwr : wr = false := by simpa using (not_or.1 hcase).1
    subst hwr
    have hle : n ≤ ys.length := by have := (not_or.1 hcase).2; omega
    have hle' : (n : Int) ≤ (ys.length : Int) := by omega
    have hlt' : ¬ (ys.length : Int) < (n : Int) := by omega
    have e : tk n (ys, false) = (ys.take n, (ys.drop n, false)) := by unfold tk; rw [if_neg hcase]
    rw [e]
    have h1 := cut_hm A ys.length c n (by omega)
    obtain ⟨A', h2, h3, h4⟩ := cut_l A ys.length c n hle
    have H3 := Aside0.mk h3
    have H4 := Aside0.mk h4
    have HC := Aside0.mk hc
    have HLE := Aside0.mk hle
    clear hb hr hA hy e hcase h3 h4 hw HF
    go_enter Try.func92, Try.ntmps92
    go_wp2
    go_region
    all_goals go_wp2
    all_goals go_ret2
    all_goals
      refine ⟨A, n, true, ?_, ?_, ?_, ?_, ?_⟩
    · rw [List.length_take, Nat.min_eq_left HLE.out]; rfl
    · have h := RB.take HR.out n HLE.out
      have hl : (ys.take n).length = n := by rw [List.length_take, Nat.min_eq_left HLE.out]
      rw [RB, hl]
      exact C_move h (fun ad e => Below.heap_setCell _ _ _ _ (by rw [(HA.out ad e).1]; exact (HA.out ad e).2))
    · have hl : (ys.drop n).length = ys.length - n := by rw [List.length_drop]
      refine ⟨A', c - n, ?_, ?_, ?_, ?_, HY.out.drop n, fun h => by cases h⟩
      · have := blk_set HB.out 0 (.slice A' (ys.length - n) (c - n))
        rw [hl]
        simp at this
        exact this
      · rw [RB, hl]
        refine C_move (H3.out w ys HC.out HR.out) (fun ad e => Below.heap_setCell _ _ _ _ ?_)
        obtain ⟨ad0, e0, eb⟩ := H4.out ad e
        rw [eb, (HA.out ad0 e0).1]; exact (HA.out ad0 e0).2
      · rw [hl]; have := HC.out; omega
      · intro ad e
        obtain ⟨ad0, e0, eb⟩ := H4.out ad e
        rw [eb, (HA.out ad0 e0).1]; exact ⟨rfl, (HA.out ad0 e0).2⟩
    · exact ((Upd.refl (fun k => k = g) w).setCell (p := ⟨g, 0, none⟩) (.inl rfl) _).drew
    · exact fun ad e => (HA.out ad e).1

theorem or_low (x c : Int) (h0 : 0 ≤ c) (h1 : c < 256) (hx0 : 0 ≤ x) (hx1 : x < 72057594037927936) : bits BinOp.or .u64 (x * 256) c = x * 256 + c := by
  have := bits_join .u64 64 (by decide) (fun n h0 h1 => by rw [IntKind.wrap_u64]; omega) 8 (x * 256) c (by omega) (by omega) (by omega) h0 (by omega) (by omega)
  exact this

theorem num_take (b : List Int) (k : Nat) (h : k < b.length) : num (b.take (k + 1)) = num (b.take k) * 256 + rd b k := by
  rw [take_succ_rd b k h, num_snoc]

theorem tk_len (n : Nat) (s : Rst) : (tk n s).1.length ≤ n := by
  unfold tk; split
  · simp
  · rw [List.length_take]; omega
theorem tk_bytes (n : Nat) (s : Rst) (h : Bytes s.1) : Bytes (tk n s).1 := by
  unfold tk; split
  · exact Bytes.nil
  · exact h.take n
theorem RD.bytes {w : World} {g D : Nat} {s : Rst} (h : RD w g D s) : Bytes s.1 := by obtain ⟨A, c, h1, h2, h3, h4, h6, h7⟩ := h; exact h6

set_option maxHeartbeats 400000 in
set_option maxRecDepth 100000 in
theorem rnumber_calls (g D : Nat) (s : Rst) (m : Int) (w : World) (h : RD w g D s) :
    Calls Try.prog 34 #[.pointer (some ⟨g, 0, none⟩), .int .i64 m] w fun e w' => e = .returned (.int .u64 (rN (sized m) s).1) ∧ RD w' g D (rN (sized m) s).2 ∧ Upd (fun k => k = g) w w' := by
  have hs := fun W => size_calls m W
  rw [sized_eq m] at hs
  have HS := Aside0.mk hs
  have HT := Aside0.mk (take_calls g D (sized m) s w h (by have := sized_le m; omega))
  have hb := tk_bytes (sized m) s h.bytes
  have hl := Nat.le_trans (tk_len (sized m) s) (sized_le m)
  have HE : Aside0 ((rN (sized m) s).1 = num (tk (sized m) s).1 ∧ (rN (sized m) s).2 = (tk (sized m) s).2) := ⟨⟨rfl, rfl⟩⟩
  generalize (rN (sized m) s).1 = res at *
  generalize (rN (sized m) s).2 = s2 at *
  generalize (tk (sized m) s) = t at *
  obtain ⟨b, s1⟩ := t
  dsimp only at HE HT hb hl
  have HBB := Aside0.mk hb
  generalize sized m = n at *
  clear h hs hb
  go_enter Try.func34, Try.ntmps34
  go_wp2_with (first | (go_at_call 95; refine (HS.out _).mono ?_; rintro e w1 ⟨rfl, rfl⟩) | (go_at_call 92; refine HT.out.mono ?_; rintro e w1 ⟨A, c, ok, rfl, hr, hrd, hu, hA⟩; have HR := Aside0.mk hr; have HRD := Aside0.mk hrd; have HU := Aside0.mk hu; clear hr hrd hu hA))
  have hl' : (b.length : Int) ≤ 8 := by omega
  go_loop [4, 18] (fun v4 v18 => ∃ (k : Nat) (x : Int), k ≤ b.length ∧ v18 = .int .i64 k ∧ v4 = .int .u64 x ∧ Aside0 (x = num (b.take k))) (fun _ v => b.length - (intOf v).toNat)
  case atStart => exact ⟨0, 0, by omega, rfl, rfl, ⟨rfl⟩⟩
  case round =>
    obtain ⟨k, x, hk, rfl, rfl, HX⟩ := hrel
    by_cases hlt : k < b.length
    · obtain ⟨ad, e0, hc0⟩ := RB.cell HR.out k hlt
      subst e0
      have hc := HBB.out.at_ (k : Int)
      have hx : 0 ≤ x ∧ x < 72057594037927936 := by
        have hlk : (b.take k).length = k := by rw [List.length_take]; omega
        have := num_bound k (b.take k) hlk (HBB.out.take k)
        rw [← HX.out] at this
        have h7 : (256 : Int) ^ k ≤ 256 ^ 7 := by
          have : (256 ^ k : Nat) ≤ 256 ^ 7 := Nat.pow_le_pow_right (by decide) (by omega)
          exact_mod_cast this
        have h8 : (256 : Int) ^ 7 = 72057594037927936 := by decide
        omega
      have hor := or_low x (rd b k) hc.1 hc.2 hx.1 hx.2
      have HN := Aside0.mk (num_take b k hlt)
      obtain ⟨hc1, hc2⟩ := hc
      obtain ⟨hx0, hx1⟩ := hx
      have HX1 := Aside0.mk hx1
      go_wp2
      go_round
      case rel => exact ⟨k + 1, _, by omega, by go_num, rfl, ⟨by rw [HN.out, ← HX.out]⟩⟩
      case measure => simp [intOf]; omega
    · have Hk : Aside0 (k = b.length) := ⟨by omega⟩
      go_wp2
      go_ret
      refine ⟨?_, by rw [HE.out.2]; exact HRD.out, HU.out⟩
      rw [HE.out.1, HX.out, Hk.out, List.take_length]; rfl

theorem pow256 (a b : Nat) (h : a ≤ b) : (256 : Int) ^ a ≤ 256 ^ b := by
  have h1 := Int.ofNat_le.2 (Nat.pow_le_pow_right (n := 256) (by decide) h)
  rw [Int.natCast_pow, Int.natCast_pow] at h1
  exact h1
theorem rN_bound (n : Nat) (s : Rst) (h : Bytes s.1) (hn : n ≤ 8) : 0 ≤ (rN n s).1 ∧ (rN n s).1 < 18446744073709551616 := by
  have h1 := num_bound _ (tk n s).1 rfl (tk_bytes n s h)
  have hp : (256 : Int) ^ (tk n s).1.length ≤ 256 ^ 8 := pow256 _ _ (Nat.le_trans (tk_len n s) hn)
  have h8 : (256 : Int) ^ 8 = 18446744073709551616 := by decide
  show 0 ≤ num _ ∧ num _ < _
  omega
theorem rN_bound4 (s : Rst) (h : Bytes s.1) : 0 ≤ (rN 4 s).1 ∧ (rN 4 s).1 < 4294967296 := by
  have h1 := num_bound _ (tk 4 s).1 rfl (tk_bytes 4 s h)
  have hp : (256 : Int) ^ (tk 4 s).1.length ≤ 256 ^ 4 := pow256 _ _ (tk_len 4 s)
  have h8 : (256 : Int) ^ 4 = 4294967296 := by decide
  show 0 ≤ num _ ∧ num _ < _
  omega
theorem rN_bound1 (s : Rst) (h : Bytes s.1) : 0 ≤ (rN 1 s).1 ∧ (rN 1 s).1 < 256 := by
  have h1 := num_bound _ (tk 1 s).1 rfl (tk_bytes 1 s h)
  have hp : (256 : Int) ^ (tk 1 s).1.length ≤ 256 ^ 1 := pow256 _ _ (tk_len 1 s)
  show 0 ≤ num _ ∧ num _ < _
  omega

set_option maxRecDepth 100000 in
theorem rbyte_calls (g D : Nat) (s : Rst) (w : World) (h : RD w g D s) :
    Calls Try.prog 33 #[.pointer (some ⟨g, 0, none⟩)] w fun e w' => e = .returned (.int .u8 (rN 1 s).1) ∧ RD w' g D (rN 1 s).2 ∧ Upd (fun k => k = g) w w' := by
  have H := Aside0.mk (rnumber_calls g D s 1 w h)
  have hb := rN_bound1 s h.bytes
  have e1 : sized 1 = 1 := by decide
  rw [e1] at H
  generalize (rN 1 s) = t at *
  obtain ⟨x, s1⟩ := t
  obtain ⟨hb0, hb1⟩ := hb
  dsimp only at hb0 hb1 H
  clear h e1
  go_enter Try.func33, Try.ntmps33
  go_wp2_with (go_at_call 34; refine H.out.mono ?_; rintro e w1 ⟨rfl, hrd, hu⟩; have HRD := Aside0.mk hrd; have HU := Aside0.mk hu; clear hrd hu)
  go_ret
  exact ⟨rfl, HRD.out, HU.out⟩

set_option maxRecDepth 100000 in
theorem rint_calls (g D : Nat) (s : Rst) (w : World) (h : RD w g D s) :
    Calls Try.prog 35 #[.pointer (some ⟨g, 0, none⟩)] w fun e w' => e = .returned (.int .i64 (wrap64 (rN 8 s).1)) ∧ RD w' g D (rN 8 s).2 ∧ Upd (fun k => k = g) w w' := by
  have H := Aside0.mk (rnumber_calls g D s 8 w h)
  have e1 : sized 8 = 8 := by decide
  rw [e1] at H
  generalize (rN 8 s) = t at *
  obtain ⟨x, s1⟩ := t
  clear h e1
  go_enter Try.func35, Try.ntmps35
  go_wp2_with (go_at_call 34; refine H.out.mono ?_; rintro e w1 ⟨rfl, hrd, hu⟩; have HRD := Aside0.mk hrd; have HU := Aside0.mk hu; clear hrd hu)
  go_ret
  exact ⟨rfl, HRD.out, HU.out⟩
end Go.Proofs.Ytmdnokfmlbjbhaa
