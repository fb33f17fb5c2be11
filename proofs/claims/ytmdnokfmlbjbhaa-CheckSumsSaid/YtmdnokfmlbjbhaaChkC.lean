/- slices.Grow of nothing, slices.Concat of two rows of bytes, check.Wrap. -/
import Derived.Test.YtmdnokfmlbjbhaaOctC
import Derived.Test.YtmdnokfmlbjbhaaChkB
import Derived.Test.YtmdnokfmlbjbhaaWZeros
namespace Go.Proofs.Ytmdnokfmlbjbhaa
open Go.RowKit Go.Proofs.YtmdnokfmlbjbhaaW.PrintWords
set_option linter.unusedVariables false
set_option linter.unusedSimpArgs false

/-- append(s, make([]byte, m)...) -/
theorem wpList_appZ {ops : Array Oper} {rest : List Oper} {o : Oper} {a : Act} {Q : Exit → Act → World → Prop} {W : World} (N : Tmp) (hd : o.dst = some N) (hgd : o.guard = none) (s x : Operand)
    (ho : o.op = .call { callee := .builtin .append, args := #[s, x], argTypes := #[22, 3] })
    {base : Nat} {v : Value} {xs : List Int} {m : Nat} (hs : a.eval s = v) (hx : a.eval x = .int .i64 (m : Int))
    (HO : OB W base v xs) (hbase : base ≤ W.heap.size) (hl : xs.length + m ≤ 140737488355328)
    (h : ∀ v1 W1, W1.ownsRow base 5 1 v1 (xs.length + m) (nums .u8 (xs ++ List.replicate m 0)) → W.grownBy W1 v.ownBlock → wpList Try.prog ops Q rest (a.put (some N) v1) W1) :
    wpList Try.prog ops Q (o :: rest) a W := by
  obtain ⟨i0, hi, hzz⟩ := Option.map_eq_some_iff.1 info5'
  simp only [Prod.mk.injEq] at hzz
  obtain ⟨hz0, hz1, hz2⟩ := hzz
  have hzc : (Builtin.zeroCells (Value.cells (.int .u8 0)) m).toList = nums .u8 (List.replicate m 0) := by
    simp [Builtin.zeroCells, Value.cells, nums, Nat.mod_one]
    apply List.ext_getElem
    · simp
    · intro j h1 h2; simp
  obtain ⟨v1, w1, hr, h1, hg, _⟩ := run_append_zeros (P := Try.prog) W base 22 3 o.type 5 i0 (.int .u8 0) 1 1 Try.underlying22 (k := .i64) Try.underlying3 hi hz0 hz1 hz2 rfl (by omega) (by omega) v xs.length (nums .u8 xs) HO .i64 m
    (by rw [hzc]; intro u hu; simp only [nums, List.mem_map] at hu; obtain ⟨q, _, rfl⟩ := hu; rfl) (by omega) hbase
  rw [hzc, ← nums_append] at h1
  rw [← hd] at h
  refine wpList_plain hgd fun K hK => ?_
  unfold Oper.wp execOp
  simp only [ho, resolve, invoke, builtin, Sem.run_bind, Sem.run_pure, Result.andThen_ok, List.map_toArray, List.map_cons, List.map_nil, hs, hx, hr]
  exact hK _ _ (h v1 w1 h1 hg)

theorem own_cap {w : World} {base n c size : Nat} {e : TypeId} {A : Option Addr} {xs : List Value} (h : w.ownsRow base e size (.slice A n c) n xs) : n ≤ c := by
  rcases h.2 with ⟨he, h0⟩ | ⟨g, cap, cur, he, hb, hh, hnc, _⟩
  · omega
  · injection he with _ _ hc; omega

set_option maxRecDepth 100000 in
theorem grow_calls (n : Nat) (w : World) (hl : n ≤ 140737488355328) :
    Calls Try.prog 139 #[.slice none 0 0, .int .i64 (n : Int)] w fun e w' => ∃ v, e = .returned v ∧ OB w' w.heap.size v [] ∧ Below w.heap.size w w' := by
  obtain ⟨i0, hi, hzz⟩ := Option.map_eq_some_iff.1 info5'
  have hcut1 := cut_to (P := Try.prog) 22 5 .i64 Try.underlying22 hi none 0 0 0 (by omega) (by omega) (by omega)
  have HI := Aside0.mk hi
  clear hi hzz
  by_cases h0 : n = 0
  · subst h0
    go_enter Try.func139, Try.ntmps139
    go_wp2
    go_ret
    exact ⟨_, rfl, OB.nil _ _, Below.refl _ _⟩
  · have hp : (0 : Int) < (n : Int) := by omega
    have hp0 : ¬ (n : Int) < 0 := by omega
    have HO := Aside0.mk (OB.nil w w.heap.size)
    go_enter Try.func139, Try.ntmps139
    go_wp2_with (at_builtin; refine wpList_appZ 22 rfl rfl (.tmp 20) (.tmp 21) rfl (v := .slice none 0 0) (xs := []) (m := n) rfl rfl HO.out (Nat.le_refl _) (by simpa using hl) ?_; intro v1 W1 o1 g1; rw [List.nil_append, show (([] : List Int).length + n) = n from by simp] at o1; obtain ⟨A1, c1, rfl⟩ := own_slice o1; have O1 := Aside0.mk (own_take o1 (Nat.zero_le _)); have hcut2 := cut_to (P := Try.prog) 22 5 .i64 Try.underlying22 HI.out A1 n c1 0 (by omega) (by omega) (own_cap o1); have G1 := Aside0.mk ((Below.refl w.heap.size w).grown g1 (Nat.le_refl _) (by simp [Value.ownBlock])); clear o1 g1)
    go_ret
    exact ⟨.slice A1 0 c1, rfl, by simpa [OB, nums] using O1.out, G1.out⟩

/-- slices.Concat of two -/
theorem concat2_calls (h n0 c0 n1 c1 : Nat) (A0 A1 : Option Addr) (fr : Nat × Nat) (x0 x1 : List Int) (w : World) (hb : w.heap[h]? = some (.cells #[.slice A0 n0 c0, .slice A1 n1 c1] 22 fr))
    (h0 : Kd.C (Kd.int .u8) w A0 n0 x0) (h1 : Kd.C (Kd.int .u8) w A1 n1 x1) (hl : n0 + n1 ≤ 140737488355328) :
    Calls Try.prog 102 #[.slice (some ⟨h, 0, none⟩) 2 2] w fun e w' => ∃ v, e = .returned v ∧ OB w' w.heap.size v (x0 ++ x1) ∧ Below w.heap.size w w' := by
  have l0 := h0.1; have l1 := h1.1
  subst l0 l1
  have hc0 : w.cell? ⟨h, 0, none⟩ = some (.slice A0 x0.length c0) := by rw [cell_of_row w h 0 _ 22 fr hb]; rfl
  have hc1 : w.cell? ⟨h, 1, none⟩ = some (.slice A1 x1.length c1) := by rw [cell_of_row w h 1 _ 22 fr hb]; rfl
  have HB := Aside0.mk hb
  have H0 := Aside0.mk h0
  have H1 := Aside0.mk h1
  have HL := Aside0.mk hl
  have b0 : (x0.length : Int) ≤ 140737488355328 := by omega
  have b1 : (x0.length : Int) + (x1.length : Int) ≤ 140737488355328 := by omega
  clear hb h0 h1 hl
  go_enter Try.func102, Try.ntmps102
  go_wp2

  go_loop [3, 11] (fun v3 v11 => (v11 = .int .i64 0 ∧ v3 = .int .i64 0) ∨ (v11 = .int .i64 1 ∧ v3 = .int .i64 (x0.length : Int)) ∨ (v11 = .int .i64 2 ∧ v3 = .int .i64 ((x0.length : Int) + (x1.length : Int)))) (fun _ v => 2 - (intOf v).toNat)
  case atStart => exact .inl ⟨rfl, rfl⟩
  case round =>
    rcases hrel with ⟨rfl, rfl⟩ | ⟨rfl, rfl⟩ | ⟨rfl, rfl⟩
    · go_wp2
      go_round
      case rel => exact .inr (.inl ⟨rfl, rfl⟩)
      case measure => simp [intOf]
    · go_wp2
      go_round
      case rel => exact .inr (.inr ⟨rfl, rfl⟩)
      case measure => simp [intOf]
    · have HG := Aside0.mk (grow_calls (x0.length + x1.length) w HL.out)
      have hcast : ((x0.length + x1.length : Nat) : Int) = (x0.length : Int) + (x1.length : Int) := by omega
      rw [hcast] at HG
      have hh : h < w.heap.size := blk_lt HB.out
      go_wp2_with (go_at_call 139; refine HG.out.mono ?_; rintro e w1 ⟨v1, rfl, o1, b1'⟩; have O1 := Aside0.mk o1; have B1 := Aside0.mk b1'; clear o1 b1')
      clear hc0 hc1
      go_loopw [6, 27] (fun v6 v27 wr => Aside0 (Below w.heap.size w wr) ∧ ((v27 = .int .i64 0 ∧ Aside0 (OB wr w.heap.size v6 [])) ∨ (v27 = .int .i64 1 ∧ Aside0 (OB wr w.heap.size v6 x0)) ∨ (v27 = .int .i64 2 ∧ Aside0 (OB wr w.heap.size v6 (x0 ++ x1))))) (fun _ v _ => 2 - (intOf v).toNat)
      case atStart => exact ⟨B1, .inl ⟨rfl, O1⟩⟩
      case round =>
        obtain ⟨BW, hrel⟩ := hrel
        have hc0 : wr.cell? ⟨h, 0, none⟩ = some (.slice A0 x0.length c0) := by rw [BW.out.cell (p := ⟨h, 0, none⟩) hh, cell_of_row w h 0 _ 22 fr HB.out]; rfl
        have hc1 : wr.cell? ⟨h, 1, none⟩ = some (.slice A1 x1.length c1) := by rw [BW.out.cell (p := ⟨h, 1, none⟩) hh, cell_of_row w h 1 _ 22 fr HB.out]; rfl
        rcases hrel with ⟨rfl, O2⟩ | ⟨rfl, O2⟩ | ⟨rfl, O2⟩
        · go_wp2_with (at_builtin; refine wpList_appW 33 rfl rfl (.tmp 31) (.tmp 32) rfl w u6 [] x0 rfl rfl O2.out (RB.keep H0.out BW.out) BW.out (by simp; omega) ?_; intro v3 w3 o3 b3; rw [List.nil_append] at o3; have O3 := Aside0.mk o3; have B3 := Aside0.mk b3; clear o3 b3)
          go_roundw
          case rel => exact ⟨B3, .inr (.inl ⟨rfl, O3⟩)⟩
          case measure => simp [intOf]
        · go_wp2_with (at_builtin; refine wpList_appW 33 rfl rfl (.tmp 31) (.tmp 32) rfl w u6 x0 x1 rfl rfl O2.out (RB.keep H1.out BW.out) BW.out (by omega) ?_; intro v3 w3 o3 b3; have O3 := Aside0.mk o3; have B3 := Aside0.mk b3; clear o3 b3)
          go_roundw
          case rel => exact ⟨B3, .inr (.inr ⟨rfl, O3⟩)⟩
          case measure => simp [intOf]
        · go_wp2
          go_ret
          exact ⟨_, rfl, O2.out, BW.out⟩
end Go.Proofs.Ytmdnokfmlbjbhaa
