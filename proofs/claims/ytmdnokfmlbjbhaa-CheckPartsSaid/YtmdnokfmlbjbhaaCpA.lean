/- CheckParts: the walk. -/
import Derived.Test.YtmdnokfmlbjbhaaChkB
import Derived.Deep.DeepCutAuto
import Derived.Test.YtmdnokfmlbjbhaaCrc2
namespace Go.Proofs.Ytmdnokfmlbjbhaa
open Go.RowKit Go.Proofs.YtmdnokfmlbjbhaaW.PrintWords
set_option linter.unusedVariables false
set_option linter.unusedSimpArgs false

/-- k places of a row of n hold the Xor of two rows, the others 0 -/
def xorUpto (x y : List Int) (n k : Nat) : List Int := (List.range n).map fun j => if j < k then bits BinOp.xor .u8 (rd x j) (rd y j) else 0
theorem xorUpto_len (x y : List Int) (n k : Nat) : (xorUpto x y n k).length = n := by simp [xorUpto]
theorem xorUpto_zero (x y : List Int) (n : Nat) : xorUpto x y n 0 = List.replicate n 0 := by
  apply List.ext_getElem
  · simp [xorUpto]
  · intro j h1 h2; simp [xorUpto]
theorem xorUpto_succ (x y : List Int) (n k : Nat) (h : k < n) : (nums .u8 (xorUpto x y n k)).toArray.setIfInBounds k (.int .u8 (bits BinOp.xor .u8 (rd x k) (rd y k))) = (nums .u8 (xorUpto x y n (k + 1))).toArray := by
  apply Array.ext
  · simp [nums, xorUpto]
  · intro j h1 h2
    have hj : j < n := by simpa [nums, xorUpto] using h2
    rw [Array.getElem_setIfInBounds (by simpa [nums, xorUpto] using hj)]
    by_cases e : k = j
    · subst e; simp [nums, xorUpto]
    · rw [if_neg e]
      simp only [nums, xorUpto, List.getElem_toArray, List.getElem_map, List.getElem_range]
      by_cases h3 : j < k
      · rw [if_pos h3, if_pos (by omega)]
      · rw [if_neg h3, if_neg (by omega)]
theorem xorUpto_bytes (x y : List Int) (n k : Nat) (hx : Bytes x) (hy : Bytes y) : Bytes (xorUpto x y n k) := by
  intro v hv
  simp only [xorUpto, List.mem_map, List.mem_range] at hv
  obtain ⟨j, hj, rfl⟩ := hv
  split
  · have h1 := hx.at_ j; have h2 := hy.at_ j
    rw [u8_xor _ _ h1.1 h1.2 h2.1 h2.2]
    have : (rd x j).toNat ^^^ (rd y j).toNat < 2 ^ 8 := Nat.xor_lt_two_pow (by omega) (by omega)
    omega
  · omega
theorem made_zero (n : Nat) : madeCells #[Value.int .u8 0] n = (nums .u8 (List.replicate n 0)).toArray := by
  apply Array.ext
  · simp [madeCells, nums]
  · intro j h1 h2; simp [madeCells, nums, Nat.mod_one]
theorem C_block {W : World} {g : Nat} {xs : List Int} (h : W.heap[g]? = some (.cells (nums .u8 xs).toArray 5 (0, 0))) (hl : xs.length ≤ 9223372036854775807) : RB W (some ⟨g, 0, none⟩) xs :=
  C_part h .u8 0 xs hl fun j hj => by rw [Nat.zero_add]; simp [nums, List.getElem?_eq_getElem hj, List.getD_eq_getElem?_getD]

theorem two_new (w : World) (a b : Obj) : ((w.alloc a).alloc b).drew.heap[w.heap.size]? = some a ∧ ((w.alloc a).alloc b).drew.heap[w.heap.size + 1]? = some b :=
  ⟨(Below.heap_alloc (w.alloc a) b _ (by simp)).trans (heap_alloc_new w a), by have := heap_alloc_new (w.alloc a) b; rwa [show (w.alloc a).heap.size = w.heap.size + 1 from by simp] at this⟩

/-- calls of Sum and More on a row that is read in an elder world -/
theorem sum_later {w4 : World} {A : Option Addr} {c n : Nat} {xs : List Int} (hr : Kd.C (Kd.int .u8) w4 A n xs) (hb : Bytes xs) : ∀ W, Aside0 (Below w4.heap.size w4 W) →
    Calls Try.prog 26 #[.slice A n c] W fun e w' => e = .returned (.int .u32 (Crc.U (Crc.sum xs))) ∧ Aside0 (Below w4.heap.size w4 w') := fun W h => by
  have hl := hr.1; subst hl; exact (sum_calls A c xs W (RB.keep hr h.out) hb).mono fun _ _ ⟨he, hB⟩ => ⟨he, ⟨h.out.trans (hB.mono h.out.size)⟩⟩
theorem more_later {w4 : World} {A : Option Addr} {c : Nat} {xs : List Int} (hr : RB w4 A xs) (hb : Bytes xs) : ∀ W (s : BitVec 32), Aside0 (Below w4.heap.size w4 W) →
    Calls Try.prog 25 #[.int .u32 (Crc.U s), .slice A xs.length c] W fun e w' => e = .returned (.int .u32 (Crc.U (Crc.more s xs))) ∧ Aside0 (Below w4.heap.size w4 w') := fun W s h =>
  (more_calls s A c xs W (RB.keep hr h.out) hb).mono fun _ _ ⟨he, hB⟩ => ⟨he, ⟨h.out.trans (hB.mono h.out.size)⟩⟩

set_option maxHeartbeats 1000000 in
set_option maxRecDepth 100000 in
theorem checkParts_walk (A0 : Option Addr) (c0 : Nat) (x0 : List Int) (A1 : Option Addr) (c1 : Nat) (x1 : List Int) (A2 : Option Addr) (c2 : Nat) (x2 : List Int) (w : World)
    (r0 : Kd.C (Kd.int .u8) w A0 x0.length x0) (b0 : Bytes x0) (l0 : x0.length ≤ c0) (r1 : Kd.C (Kd.int .u8) w A1 x1.length x1) (b1 : Bytes x1) (l1 : x1.length ≤ c1) (r2 : Kd.C (Kd.int .u8) w A2 x2.length x2) (b2 : Bytes x2)
    (hl0 : x0.length ≤ 1000) (hl1 : x1.length ≤ 1000) (hl2 : x2.length ≤ 1000) :
    Calls Try.prog 4 #[.slice A0 x0.length c0, .slice A1 x1.length c1, .slice A2 x2.length c2] w fun e w' => e = .returned (.bool true) ∧ Below w.heap.size w w' := by
  have R0 := Aside0.mk r0; have R1 := Aside0.mk r1; have R2 := Aside0.mk r2
  have B0 := Aside0.mk b0; have B1 := Aside0.mk b1; have B2 := Aside0.mk b2
  clear r0 r1 r2 b0 b1 b2
  obtain ⟨xa, hxa⟩ : ∃ xa, xa = x0 ++ x1 ++ x2 := ⟨_, rfl⟩
  have HX := Aside0.mk hxa
  clear hxa
  obtain ⟨n, hn1, hn2, m1, m2, m3, m4⟩ : ∃ n : Nat, n ≤ x0.length ∧ n ≤ x1.length ∧ (if x1.length < x0.length then (x1.length : Int) else (x0.length : Int)) = (n : Int) ∧ (if x1.length < x0.length then Value.int .i64 (x1.length : Int) else Value.int .i64 (x0.length : Int)) = .int .i64 (n : Int) ∧ (if (x1.length : Int) < (x0.length : Int) then (x1.length : Int) else (x0.length : Int)) = (n : Int) ∧ (if (x1.length : Int) < (x0.length : Int) then Value.int .i64 (x1.length : Int) else Value.int .i64 (x0.length : Int)) = .int .i64 (n : Int) := by
    by_cases h : x1.length < x0.length
    · exact ⟨x1.length, by omega, by omega, by rw [if_pos h], by rw [if_pos h], by rw [if_pos (by omega)], by rw [if_pos (by omega)]⟩
    · exact ⟨x0.length, by omega, by omega, by rw [if_neg h], by rw [if_neg h], by rw [if_neg (by omega)], by rw [if_neg (by omega)]⟩
  go_enter Try.func4, Try.ntmps4
  go_wp2_with (first
    | (go_at_call 24; refine (speaks02_calls _).mono ?_; rintro e w1 ⟨rfl, hB1⟩; have H0 := Aside0.mk (RB.keep R0.out hB1); have H1 := Aside0.mk (RB.keep R1.out hB1); have H2 := Aside0.mk (RB.keep R2.out hB1); have a0 := Aside0.mk (OB.empty w1 _ (Nat.le_refl _)); have b0 := Aside0.mk ((Below.refl w1.heap.size w1).alloc (Nat.le_refl _) (.cells #[] 5)))
    | (at_builtin; refine wpList_appW 29 rfl rfl (.tmp 27) (.tmp 28) rfl w1 (.slice (some ⟨w1.heap.size, 0, none⟩) 0 0) [] x0 rfl rfl a0.out (RB.keep H0.out b0.out) b0.out (by simp; omega) ?_; intro v2 w2 o2 b2; rw [List.nil_append] at o2; have O2 := Aside0.mk o2; have D2 := Aside0.mk b2; clear o2 b2)
    | (at_builtin; refine wpList_appW 31 rfl rfl (.tmp 29) (.tmp 30) rfl w1 v2 x0 x1 rfl rfl O2.out (RB.keep H1.out D2.out) D2.out (by omega) ?_; intro v3 w3 o3 b3; have O3 := Aside0.mk o3; have D3 := Aside0.mk b3; clear o3 b3)
    | (at_builtin; refine wpList_appW 33 rfl rfl (.tmp 31) (.tmp 32) rfl w1 v3 (x0 ++ x1) x2 rfl rfl O3.out (RB.keep H2.out D3.out) D3.out (by simp; omega) ?_; intro v4 w4 o4 b4; rw [← HX.out] at o4; obtain ⟨A4, c4, rfl, r4, _⟩ := OB.slice o4; have O4 := Aside0.mk r4; have D4 := Aside0.mk b4; clear o4 b4 r4))
  have r40 := RB.keep H0.out D4.out
  have r41 := RB.keep H1.out D4.out
  have r42 := RB.keep H2.out D4.out
  have hs0 := Aside0.mk (@sum_later _ _ c0 _ _ r40 B0.out)
  have hs4 := Aside0.mk (@sum_later _ _ c4 _ xa O4.out (HX.out ▸ ((B0.out.append B1.out).append B2.out)))
  have hm1 := Aside0.mk (@more_later _ _ c1 _ r41 B1.out)
  have hm2 := Aside0.mk (@more_later _ _ c2 _ r42 B2.out)
  have hm0 : Aside0 (∀ W (s : BitVec 32), Aside0 (Below w4.heap.size w4 W) → Calls Try.prog 25 #[.int .u32 (Crc.U s), .slice none 0 0] W fun e w' => e = .returned (.int .u32 (Crc.U (Crc.more s []))) ∧ Aside0 (Below w4.heap.size w4 w')) := ⟨@more_later w4 none 0 [] (Kd.C_nil _ _) Bytes.nil⟩
  have heq : Crc.U (Crc.sum xa) = Crc.U (Crc.more (Crc.more (Crc.sum x0) x1) x2) := by
    rw [HX.out]; unfold Crc.sum; rw [Crc.more_append, Crc.more_append]
  have hen : Crc.U (Crc.more (Crc.sum x0) []) = Crc.U (Crc.sum x0) := by rw [Crc.more_nil]
  have E4 := Aside0.mk (Below.refl w4.heap.size w4)
  clear r40 r41 r42 a0 b0 O2 O3
  go_wp2_with (first
    | (go_at_call 26; ((with_reducible refine (hs0.out _ (by assumption)).mono ?_); rintro e w5 ⟨rfl, E5⟩))
    | (go_at_call 26; ((with_reducible refine (hs4.out _ (by assumption)).mono ?_); rintro e w5 ⟨rfl, E5⟩))
    | (go_at_call 25; ((with_reducible refine (hm1.out _ _ (by assumption)).mono ?_); rintro e w5 ⟨rfl, E5⟩))
    | (go_at_call 25; ((with_reducible refine (hm2.out _ _ (by assumption)).mono ?_); rintro e w5 ⟨rfl, E5⟩))
    | (go_at_call 25; ((with_reducible refine (hm0.out _ _ (by assumption)).mono ?_); rintro e w5 ⟨rfl, E5⟩)))
  clear m1 m2 m3 m4 hs0 hs4 hm1 hm2 hm0 heq hen
  have hmk : ∀ W : World, (Instr.makeSlice 22 (.int .i64 (n : Int)) (.int .i64 (n : Int))).run Try.prog W = .ok (.slice (some ⟨W.heap.size, 0, none⟩) n n) (W.alloc (.cells (madeCells #[.int .u8 0] n) 5)) :=
    print_make 22 5 .u8 1 Try.underlying22 info5' (by decide) n (by omega)
  rw [made_zero] at hmk
  go_cut [9, 10] (fun v9 v10 W => ∃ gx gz : Nat, v9 = .slice (some ⟨gx, 0, none⟩) n n ∧ v10 = .slice (some ⟨gz, 0, none⟩) n n ∧ gx ≠ gz ∧ w4.heap.size ≤ gx ∧ w4.heap.size ≤ gz ∧ W.heap[gx]? = some (.cells (nums .u8 (List.replicate n 0)).toArray 5 (0, 0)) ∧ W.heap[gz]? = some (.cells (nums .u8 (List.replicate n 0)).toArray 5 (0, 0)) ∧ Aside0 (Below w4.heap.size w4 W))
  case first =>
    have hz := E5.out.size
    go_region
    all_goals go_wp2
    all_goals go_meet
    all_goals
      case rel =>
        first
        | exact ⟨w5.heap.size, w5.heap.size + 1, rfl, rfl, by omega, by omega, by omega, (two_new _ _ _).1, (two_new _ _ _).2, ⟨((E5.out.alloc hz _).alloc (by simp; omega) _).drew⟩⟩
        | exact ⟨w5.heap.size + 1, w5.heap.size, rfl, rfl, by omega, by omega, by omega, (two_new _ _ _).2, (two_new _ _ _).1, ⟨((E5.out.alloc hz _).alloc (by simp; omega) _).drew⟩⟩
  case rest =>
    obtain ⟨gx, gz, rfl, rfl, hne, hgx, hgz, hbx, hbz, EC⟩ := hcut
    clear hmk
    rw [← xorUpto_zero x0 x1] at hbx
    go_wp2
    clear E5
    go_loopw [62] (fun v wr => ∃ k : Nat, k ≤ n ∧ v = .int .i64 k ∧ wr.heap[gx]? = some (.cells (nums .u8 (xorUpto x0 x1 n k)).toArray 5 (0, 0)) ∧ wr.heap[gz]? = some (.cells (nums .u8 (List.replicate n 0)).toArray 5 (0, 0)) ∧ Aside0 (Below w4.heap.size w4 wr)) (fun v _ => n - (intOf v).toNat)
    case atStart => exact ⟨0, by omega, rfl, hbx, hbz, EC⟩
    case round =>
      obtain ⟨k, hk, rfl, hbx, hbz, EC⟩ := hrel
      by_cases hlt : k < n
      · obtain ⟨ad0, e0, hc0⟩ := RB.cell (RB.keep (RB.keep H0.out D4.out) EC.out) k (by omega)
        obtain ⟨ad1, e1, hc1⟩ := RB.cell (RB.keep (RB.keep H1.out D4.out) EC.out) k (by omega)
        subst e0 e1
        have hx : wr.cell? ⟨gx, k, none⟩ = some (.int .u8 0) := by
          rw [blk_cell hbx k]; simp [nums, xorUpto, hlt]
        have hf := blk_frozen hbx k
        have hb1 := Aside0.mk (blk_set hbx k (.int .u8 (bits BinOp.xor .u8 (rd x0 k) (rd x1 k))))
        have hb2 := Aside0.mk ((Below.heap_setCell wr ⟨gx, k, none⟩ (.int .u8 (bits BinOp.xor .u8 (rd x0 k) (rd x1 k))) gz (Ne.symm hne)).trans hbz)
        have E2 := Aside0.mk (EC.out.setCell (p := ⟨gx, k, none⟩) hgx (.int .u8 (bits BinOp.xor .u8 (rd x0 k) (rd x1 k))))
        have HE := Aside0.mk (xorUpto_succ x0 x1 n k hlt)
        have g0 : (0 : Int) ≤ (k : Int) := by omega
        have g1 : (k : Int) < (n : Int) := by omega
        have g2 : (k : Int) < (x0.length : Int) := by omega
        have g3 : (k : Int) < (x1.length : Int) := by omega
        clear hbx hbz
        go_wp2
        go_region
        go_wp2
        go_roundw
        case rel => exact ⟨k + 1, by omega, by go_num, HE.out ▸ hb1.out, hb2.out, ⟨E2.out.drew⟩⟩
        case measure => simp [intOf]; omega
      · obtain rfl : n = k := by omega
        have EW := Aside0.mk (Below.refl wr.heap.size wr)
        have hs0 := Aside0.mk (@sum_later wr (some ⟨gx, 0, none⟩) n n _ (by have := C_block hbx (by rw [xorUpto_len]; omega); rwa [RB, xorUpto_len] at this) (xorUpto_bytes x0 x1 n n B0.out B1.out))
        have hs1 := Aside0.mk (@sum_later wr (some ⟨gz, 0, none⟩) n n _ (by have := C_block hbz (by simp; omega); rwa [RB, List.length_replicate] at this) (fun x hx => by rw [List.eq_of_mem_replicate hx]; omega))
        have hs2 := Aside0.mk (@sum_later wr A0 c0 n _ (RB.take (RB.keep (RB.keep H0.out D4.out) EC.out) n hn1) (B0.out.take n))
        have hs3 := Aside0.mk (@sum_later wr A1 c1 n _ (RB.take (RB.keep (RB.keep H1.out D4.out) EC.out) n hn2) (B1.out.take n))
        have hx1 : bits BinOp.xor .u32 (Crc.U (Crc.sum (xorUpto x0 x1 n n))) (Crc.U (Crc.sum (List.replicate n 0))) = Crc.U (Crc.sum (x0.take n) ^^^ Crc.sum (x1.take n)) := by
          have e : xorUpto x0 x1 n n = (List.range n).map fun j : Nat => bits BinOp.xor .u8 (rd x0 j) (rd x1 j) := by
            unfold xorUpto; exact List.map_congr_left fun j hj => if_pos (List.mem_range.1 hj)
          rw [Crc.xor_U, e, sum_xor x0 x1 B0.out B1.out n hn1 hn2]
        have hx2 : bits BinOp.xor .u32 (Crc.U (Crc.sum (x0.take n))) (Crc.U (Crc.sum (x1.take n))) = Crc.U (Crc.sum (x0.take n) ^^^ Crc.sum (x1.take n)) := Crc.xor_U _ _
        have q0 : (0 : Int) ≤ (n : Int) := by omega
        have q1 : (n : Int) ≤ (c0 : Int) := by omega
        have q2 : (n : Int) ≤ (c1 : Int) := by omega
        have EW' := Aside0.mk ((Below.refl wr.heap.size wr).drew)
        clear hbx hbz
        go_wp2
        go_region_with (first
          | (go_at_call 26; ((with_reducible refine (hs0.out _ (by assumption)).mono ?_); rintro e w5 ⟨rfl, E5⟩))
          | (go_at_call 26; ((with_reducible refine (hs1.out _ (by assumption)).mono ?_); rintro e w5 ⟨rfl, E5⟩))
          | (go_at_call 26; ((with_reducible refine (hs2.out _ (by assumption)).mono ?_); rintro e w5 ⟨rfl, E5⟩))
          | (go_at_call 26; ((with_reducible refine (hs3.out _ (by assumption)).mono ?_); rintro e w5 ⟨rfl, E5⟩)))
        have hfin := Aside0.mk (hB1.trans ((D4.out.trans ((EC.out.trans (E5.out.mono EC.out.size)).mono D4.out.size)).mono hB1.size))
        go_wp2
        go_ret
        exact ⟨rfl, hfin.out⟩

set_option maxHeartbeats 1000000 in
set_option maxRecDepth 100000 in
theorem checkParts_all (A0 : Option Addr) (c0 : Nat) (x0 : List Int) (A1 : Option Addr) (c1 : Nat) (x1 : List Int) (A2 : Option Addr) (c2 : Nat) (x2 : List Int) (w : World)
    (r0 : Kd.C (Kd.int .u8) w A0 x0.length x0) (b0 : Bytes x0) (l0 : x0.length ≤ c0) (r1 : Kd.C (Kd.int .u8) w A1 x1.length x1) (b1 : Bytes x1) (l1 : x1.length ≤ c1) (r2 : Kd.C (Kd.int .u8) w A2 x2.length x2) (b2 : Bytes x2) :
    Calls Try.prog 4 #[.slice A0 x0.length c0, .slice A1 x1.length c1, .slice A2 x2.length c2] w fun e w' => e = .returned (.bool true) ∧ Below w.heap.size w w' := by
  by_cases h0 : x0.length ≤ 1000
  · by_cases h1 : x1.length ≤ 1000
    · by_cases h2 : x2.length ≤ 1000
      · exact checkParts_walk A0 c0 x0 A1 c1 x1 A2 c2 x2 w r0 b0 l0 r1 b1 l1 r2 b2 h0 h1 h2
      · clear r0 r1 r2 b0 b1 b2
        have g : (1000 : Int) < (x2.length : Int) := by omega
        have g0 : ¬ (1000 : Int) < (x0.length : Int) := by omega
        have g1 : ¬ (1000 : Int) < (x1.length : Int) := by omega
        go_enter Try.func4, Try.ntmps4
        go_wp2_with (go_at_call 24; refine (speaks02_calls _).mono ?_; rintro e w1 ⟨rfl, hB1⟩)
        go_ret
        exact ⟨rfl, hB1⟩
    · clear r0 r1 r2 b0 b1 b2
      have g : (1000 : Int) < (x1.length : Int) := by omega
      have g0 : ¬ (1000 : Int) < (x0.length : Int) := by omega
      go_enter Try.func4, Try.ntmps4
      go_wp2_with (go_at_call 24; refine (speaks02_calls _).mono ?_; rintro e w1 ⟨rfl, hB1⟩)
      go_ret
      exact ⟨rfl, hB1⟩
  · clear r0 r1 r2 b0 b1 b2
    have g : (1000 : Int) < (x0.length : Int) := by omega
    go_enter Try.func4, Try.ntmps4
    go_wp2_with (go_at_call 24; refine (speaks02_calls _).mono ?_; rintro e w1 ⟨rfl, hB1⟩)
    go_ret
    exact ⟨rfl, hB1⟩

end Go.Proofs.Ytmdnokfmlbjbhaa
