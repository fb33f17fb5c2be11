/- append as a step of a drawn region; a cut of a row from a place to another one. -/
import Derived.Test.YtmdnokfmlbjbhaaGnA
import Derived.Deep.AppendLies
namespace Go.Proofs.Ytmdnokfmlbjbhaa
open Go.RowKit Go.Proofs.YtmdnokfmlbjbhaaW.PrintWords
set_option linter.unusedVariables false
set_option linter.unusedSimpArgs false

/-- append(v, ys...) of whole numbers: the run -/
theorem run_appW (t e : TypeId) (k : IntKind) (bytes : Nat) (ht : Try.prog.underlying t = some (.slice e)) (hinfo : (Try.prog.info? e).map (fun i => (i.zero, i.size, i.bytes)) = some (some (.int k 0), 1, bytes)) (hb0 : 0 < bytes)
    (ty : TypeId) (W : World) (base : Nat) (v : Value) (xs ys : List Int) (A : Option Addr) (c : Nat) (HO : W.ownsRow base e 1 v xs.length (nums k xs)) (HR : Kd.C (Kd.int k) W A ys.length ys) (hbase : base ≤ W.heap.size) (hl : (xs.length + ys.length) * bytes ≤ 140737488355328) :
    ∃ A1 c1 W1, (Builtin.append_ #[t, t] ty #[v, .slice A ys.length c]).run Try.prog W = .ok (.slice A1 (xs ++ ys).length c1) W1 ∧ W1.ownsRow base e 1 (.slice A1 (xs ++ ys).length c1) (xs ++ ys).length (nums k (xs ++ ys)) ∧ W.grownBy W1 v.ownBlock := by
  obtain ⟨i0, hi, hzz⟩ := Option.map_eq_some_iff.1 hinfo
  simp only [Prod.mk.injEq] at hzz
  obtain ⟨hz0, hz1, hz2⟩ := hzz
  have hlen : xs.length + ys.length ≤ 140737488355328 := Nat.le_trans (Nat.le_mul_of_pos_right _ hb0) hl
  rcases Nat.eq_zero_or_pos ys.length with hy | hy
  · obtain rfl : ys = [] := List.eq_nil_of_length_eq_zero hy
    rw [List.append_nil]
    rcases HO.2 with ⟨rfl, hn⟩ | ⟨g, cap, cur, rfl, _, _, hnc, _⟩
    · refine ⟨none, 0, W, ?_, by rw [hn]; simpa [hn] using HO, World.grownBy.refl W _⟩
      cases A <;> simp [Builtin.append_, run_underlying ht, sizeOf, typeInfo, hi, Builtin.lenOf, Builtin.firstCells, hn, loadCells, loadCellsFrom, storeCells]
    · refine ⟨_, _, W, ?_, HO, World.grownBy.refl W _⟩
      cases A <;> simp [Builtin.append_, run_underlying ht, sizeOf, typeInfo, hi, Builtin.lenOf, Builtin.firstCells, hnc, loadCells, loadCellsFrom, storeCells]
  · obtain ⟨h1, h2, h3⟩ := C_int.1 HR
    obtain ⟨ad, rfl, hc⟩ := h3 hy
    have hcells : ∀ j u, (nums k ys)[j]? = some u → W.cell? (ad.add j) = some u := by
      intro j u hu
      have hj : j < ys.length := by
        rcases Nat.lt_or_ge j ys.length with h | h
        · exact h
        · simp [nums, List.getElem?_eq_none h] at hu
      have := hc j hj
      simp [nums, List.getElem?_eq_getElem hj] at hu
      subst hu
      rw [this]
      simp [List.getD_eq_getElem?_getD, List.getElem?_eq_getElem hj]
    obtain ⟨v1, w1, hr, h2, h3, _, h5⟩ := run_append_own_at (P := Try.prog) W base t ty e i0 (.int k 0) 1 bytes ht hi hz0 hz1 hz2 rfl (by omega) v xs.length (nums k xs) HO ad ys.length c (nums k ys) (by simp [nums]) hcells
      (by intro u hu; simp only [nums, List.mem_map] at hu; obtain ⟨q, _, rfl⟩ := hu; rfl) (by simp only [maxLen]; omega) hl hbase
    have h2' : w1.ownsRow base e 1 v1 (xs ++ ys).length (nums k (xs ++ ys)) := by simpa [nums] using h2
    obtain ⟨g, cap, e1, _⟩ := World.ownsRow.form h2' (by rw [List.length_append]; omega)
    subst e1
    exact ⟨_, _, w1, hr, h2', h3⟩
/-- the same at a step of a region that draws, of bytes -/
theorem step_appB {W : World} {ops : Array Oper} {o : Oper} {a : Act} {K : Act → World → Prop} {Q : Exit → Act → World → Prop} {E : Prop} (hgd : o.guard = none) (s x : Operand)
    (ho : o.op = .call { callee := .builtin .append, args := #[s, x], argTypes := #[22, 22] })
    (base : Nat) (v : Value) (xs ys : List Int) (A : Option Addr) (c : Nat) (hs : a.eval s = v) (hx : a.eval x = .slice A ys.length c) (HO : OB W base v xs) (HR : RB W A ys) (hbase : base ≤ W.heap.size) (hl : xs.length + ys.length ≤ 140737488355328)
    (h : ∀ A1 c1 W1, OB W1 base (.slice A1 (xs ++ ys).length c1) (xs ++ ys) → W.grownBy W1 v.ownBlock → K (a.put o.dst (.slice A1 (xs ++ ys).length c1)) W1) :
    if Region.wanted o (yielded ops a.tmps) = true then Oper.wp Try.prog o a W K Q else E := by
  have hw : Region.wanted o (yielded ops a.tmps) = true := by simp [Region.wanted, hgd]
  rw [if_pos hw]
  obtain ⟨A1, c1, W1, hr, ho1, hg1⟩ := run_appW 22 5 .u8 1 Try.underlying22 info5' (by decide) o.type W base v xs ys A c HO HR hbase (by omega)
  unfold Oper.wp execOp
  simp only [ho, resolve, invoke, builtin, Sem.run_bind, Sem.run_pure, Result.andThen_ok, List.map_toArray, List.map_cons, List.map_nil, hs, hx, hr]
  exact h _ _ _ ho1 hg1
/-- a cut from a place to another one -/
theorem cut_lh (A : Option Addr) (n c lo hi : Nat) (h1 : lo ≤ hi) (h2 : hi ≤ n) (hn : n ≤ c) : ∃ A' : Option Addr, (∀ W : World, (Instr.slice 22 (.slice A n c) (some (.int .i64 (lo : Int))) (some (.int .i64 (hi : Int))) none).run Try.prog W = .ok (.slice A' (hi - lo) (c - lo)) W) ∧
    (∀ (w : World) (xs : List Int), Kd.C (Kd.int .u8) w A n xs → Kd.C (Kd.int .u8) w A' (hi - lo) ((xs.drop lo).take (hi - lo))) := by
  obtain ⟨i0, hi0, hzz⟩ := Option.map_eq_some_iff.1 info5'
  simp only [Prod.mk.injEq] at hzz
  have hsz := hzz.2.1
  refine ⟨if c = lo then A else A.map (·.add lo), fun W => ?_, fun w xs h => C_int.2 (((C_int.1 h).drop_ lo (by omega) hn).take_ (hi - lo) (by omega))⟩
  have hel : Try.prog.elem 22 = 5 := by simp [Program.elem, Try.underlying22]
  have hu : Try.prog.underlying 22 = some (.slice (Try.prog.elem 22)) := by rw [hel]; exact Try.underlying22
  rw [run_slice_lh W 22 A n c hu .i64 .i64 (lo : Int) (hi : Int) (Int.natCast_nonneg _) (by omega) (by omega), hel]
  simp [sizeOf, typeInfo, hi0, hsz, sliced, Result.andThen]
end Go.Proofs.Ytmdnokfmlbjbhaa
