/- Contracts of package check's inner functions: the table of nibbles, the sum of more bytes. -/
import Derived.Test.YtmdnokfmlbjbhaaBase
import Derived.Test.YtmdnokfmlbjbhaaCrc
namespace Go.Proofs.Ytmdnokfmlbjbhaa
open Go.RowKit Go.Proofs.YtmdnokfmlbjbhaaW.PrintWords
set_option linter.unusedVariables false
set_option linter.unusedSimpArgs false

def nib (i k : Nat) : Int := Crc.U (Crc.bsteps k (BitVec.ofNat 32 i))
def ntab (i : Nat) : Array Value := ((List.range 16).map fun j => Value.int .u32 (if j < i then nib j 4 else 0)).toArray

theorem ntab_size (i : Nat) : (ntab i).size = 16 := by simp [ntab]
theorem ntab_get (i j : Nat) (h : j < 16) : (ntab i)[j]? = some (.int .u32 (if j < i then nib j 4 else 0)) := by
  simp [ntab, h]
theorem ntab_get16 (j : Nat) (h : j < 16) : (ntab 16)[j]? = some (.int .u32 (nib j 4)) := by
  rw [ntab_get 16 j h, if_pos h]
theorem ntab_zero : ntab 0 = #[.int .u32 0, .int .u32 0, .int .u32 0, .int .u32 0, .int .u32 0, .int .u32 0, .int .u32 0, .int .u32 0, .int .u32 0, .int .u32 0, .int .u32 0, .int .u32 0, .int .u32 0, .int .u32 0, .int .u32 0, .int .u32 0] := by
  rfl
theorem ntab_succ (i : Nat) (h : i < 16) : (ntab i).setIfInBounds i (.int .u32 (nib i 4)) = ntab (i + 1) := by
  apply Array.ext_getElem?
  intro j
  rw [Array.getElem?_setIfInBounds]
  by_cases hj : j < 16
  · rw [ntab_get _ _ hj, ntab_get _ _ hj]
    by_cases e : i = j
    · subst e; simp [ntab_size, h]
    · simp [e]
      by_cases h1 : j < i
      · rw [if_pos h1, if_pos (by omega)]
      · rw [if_neg h1, if_neg (by omega)]
  · have e : i ≠ j := by omega
    rw [if_neg e, Array.getElem?_eq_none (by rw [ntab_size]; omega), Array.getElem?_eq_none (by rw [ntab_size]; omega)]
theorem nib_zero (i : Nat) (h : i < 16) : (i : Int) = nib i 0 := by
  unfold nib; simp only [Crc.bsteps]; unfold Crc.U; rw [BitVec.toNat_ofNat]; omega
theorem nib_succ (i k : Nat) : Crc.nstep (nib i k) = nib i (k + 1) := by
  unfold nib; rw [Crc.nstep_U]; rfl
theorem nib_range (i k : Nat) : 0 ≤ nib i k ∧ nib i k < 4294967296 := ⟨Crc.U_nonneg _, Crc.U_lt _⟩

theorem below_setRow {B : Nat} {w : World} {g : Nat} (h : B ≤ g) (cs : Array Value) : Below B w (w.setRow g cs) := by
  unfold World.setRow
  exact ⟨rfl, rfl, rfl, by simp, fun k hk => by simp only [Array.getElem?_modify]; rw [if_neg (by omega)]⟩
theorem info136 : (Try.prog.info? 136).map (·.size) = some (ntab 16).size := by rw [ntab_size]; kernel_rfl
theorem ntab_one : (ntab 16).all (·.oneCell') = true := by kernel_rfl

set_option maxHeartbeats 400000 in
set_option maxRecDepth 100000 in
theorem nibbles_calls (w : World) :
    Calls Try.prog 89 #[] w
      fun e w' => e = .returned (.agg (ntab 16)) ∧ Below w.heap.size w w' := by
  go_enter Try.func89, Try.ntmps89
  go_wp2
  go_loopw [2] (fun v wr => ∃ i : Nat, i ≤ 16 ∧ v = .int .i64 i ∧ wr.heap[w.heap.size]? = some (.cells (ntab i) 136 (0, 0)) ∧ Below w.heap.size w wr) (fun v _ => 16 - (intOf v).toNat)
  case atStart =>
    refine ⟨0, by omega, rfl, ?_, (Below.refl _ _).alloc (Nat.le_refl _) _⟩
    rw [ntab_zero]; exact heap_alloc_new _ _
  case round =>
    obtain ⟨i, hi, rfl, hb, hB⟩ := hrel
    by_cases hlt : i < 16
    · have hc := (blk_cell hb i).trans (ntab_get i i hlt)
      have hf := blk_frozen hb i
      have h0 : (0 : Int) ≤ i := by omega
      have h1 : (i : Int) < 16 := by omega
      go_wp2
      have hlt2 := blk_lt hb
      have hb1 := blk_set hb i (.int .u32 (i : Int))
      have hB1 := hB.setCell (p := ⟨w.heap.size, i, none⟩) (Nat.le_refl _) (.int .u32 (i : Int))
      clear hc hf; obtain ⟨wo, rfl⟩ : ∃ wo : World, wo = wr := ⟨_, rfl⟩
      generalize wo.setCell { block := w.heap.size, off := i } (Value.int IntKind.u32 ↑i) = w1 at *
      go_loopw [9] (fun v w2 => ∃ k : Nat, k ≤ 4 ∧ v = .int .i64 k ∧ w2.heap[w.heap.size]? = some (.cells ((ntab i).setIfInBounds i (.int .u32 (nib i k))) 136 (0, 0)) ∧ Below w.heap.size w w2) (fun v _ => 4 - (intOf v).toNat)
      case atStart => exact ⟨0, by omega, rfl, by rw [← nib_zero i hlt]; exact hb1, hB1⟩
      case round =>
        obtain ⟨k, hk, rfl, hb2, hB2⟩ := hrel
        by_cases hlt' : k < 4
        · go_wp2
          have hc : wr.cell? ⟨w.heap.size, i, none⟩ = some (.int .u32 (nib i k)) := by rw [blk_cell hb2 i]; simp [ntab_size, hlt]
          have hf := blk_frozen hb2 i
          have Hn := Lib.hid (nib_succ i k)
          have hx := nib_range i k
          generalize nib i k = x at *
          obtain ⟨hx0, hx1⟩ := hx
          have hb3 := blk_set hb2 i (.int .u32 (nib i (k + 1)))
          have Hb3 := Lib.hid hb3
          clear hb3 hb2
          go_region
          go_wp2
          refine ⟨⟨k + 1, by omega, by go_num, ?_, ?_⟩, by simp [intOf]; omega⟩
          · have := Hb3.out
            rw [← Hn.out] at this
            simp only [Array.setIfInBounds_setIfInBounds] at this
            rw [← Hn.out]
            exact this
          · exact (hB2.setCell (p := ⟨w.heap.size, i, none⟩) (Nat.le_refl _) _).drew
        · have hk4 : k = 4 := by omega
          subst hk4
          rw [ntab_succ i hlt] at hb2
          go_wp2
          go_roundw
          case rel => exact ⟨i + 1, by omega, by go_num, hb2, hB2⟩
          case measure => simp [intOf]; omega
    · have hi16 : i = 16 := by omega
      subst hi16
      go_wp2_with (first | (refine wpList_load_row rfl 136 _ rfl w.heap.size rfl 136 (ntab 16) (0, 0) _ hb Try.underlying136 rfl info136 ?_) | (refine wpList_store_row rfl 136 _ _ rfl w.heap.size (ntab 16) rfl rfl 136 (ntab 16) hb info136 rfl ntab_one ?_))
      have hb' := setRow_heap wr w.heap.size (ntab 16) (ntab 16) 136 (0, 0) hb
      exact bodyPost_ret (results_cell_row rfl _ _ w.heap.size 136 (ntab 16) (0, 0) _ rfl hb' Try.underlying136 rfl info136) rfl ⟨rfl, hB.trans (below_setRow (Nat.le_refl _) _)⟩
end Go.Proofs.Ytmdnokfmlbjbhaa
