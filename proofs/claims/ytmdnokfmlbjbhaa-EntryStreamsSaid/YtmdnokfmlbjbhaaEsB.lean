/- EntryStreams: the function that reads the log. -/
import Derived.Test.YtmdnokfmlbjbhaaEsA
namespace Go.Proofs.Ytmdnokfmlbjbhaa
open Go.RowKit Go.Shelf Go.Maps Go.Proofs.YtmdnokfmlbjbhaaW.PrintWords
set_option linter.unusedVariables false
set_option linter.unusedSimpArgs false

set_option maxRecDepth 100000 in
theorem read67_calls (bl g n cap i : Nat) (x : Ev0) (W : World) (hi : i < n) (hn : n ≤ 200) (hc : n ≤ cap) (hbox : W.heap[bl]? = some (.cells #[.slice (some ⟨g, 0, none⟩) n cap] 96 (0, 0)))
    (hx : ∀ j, j < 7 → W.cell? ⟨g, i * 7 + j, none⟩ = (ev0Cells x)[j]?) :
    Calls Try.prog 67 #[.int .i64 (i : Int), .pointer (some ⟨bl, 0, none⟩)] W fun e w' => e = .returned (.tuple #[.agg (ev0Cells x), .bool true]) ∧ Below W.heap.size W w' := by
  have hb := blk_cell hbox 0
  have hb' : W.cell? ⟨bl, 0, none⟩ = some (.slice (some ⟨g, 0, none⟩) n cap) := hb
  have x0 : W.cell? ⟨g, i * 7, none⟩ = some (.int .i64 x.kind) := hx 0 (by decide)
  have x1 : W.cell? ⟨g, i * 7 + 1, none⟩ = some (.int .i64 0) := hx 1 (by decide)
  have x2 : W.cell? ⟨g, i * 7 + 2, none⟩ = some (.int .i64 0) := hx 2 (by decide)
  have x3 : W.cell? ⟨g, i * 7 + 3, none⟩ = some (.int .i64 0) := hx 3 (by decide)
  have x4 : W.cell? ⟨g, i * 7 + 4, none⟩ = some (.int .i64 x.stream) := hx 4 (by decide)
  have x5 : W.cell? ⟨g, i * 7 + 5, none⟩ = some (.int .i64 x.back) := hx 5 (by decide)
  have x6 : W.cell? ⟨g, i * 7 + 6, none⟩ = some (.slice none 0 0) := hx 6 (by decide)
  have al : ∀ {a : Addr} {v : Value}, W.cell? a = some v → ∀ o, (W.alloc o).cell? a = some v := fun h o => cell_later ((Below.refl _ W).alloc (Nat.le_refl _) o) h
  have hb2 := al hb'
  have w0 := al x0
  have w1 := al x1
  have w2 := al x2
  have w3 := al x3
  have w4 := al x4
  have w5 := al x5
  have w6 := al x6
  clear al hb' x0 x1 x2 x3 x4 x5 x6
  have h1 : (i : Int) < (n : Int) := by omega
  have h2 : ¬ (n : Int) ≤ (i : Int) := by omega
  clear hb hbox hx
  go_enter Try.func67, Try.ntmps67
  go_wp2
  have h7 := heap_alloc_new W (.cells (ev0Cells x) 89)
  obtain ⟨z0, z1, z2, z3, z4, z5, z6⟩ := cells7 h7
  refine bodyPost_ret (v := .tuple #[.agg (ev0Cells x), .bool true]) (by unfold ev0Cells at z0 z1 z2 z3 z4 z5 z6 ⊢; simp [results, Try.results67, go_sem, z0, z1, z2, z3, z4, z5, z6]) rfl ?_
  exact ⟨rfl, (Below.refl _ _).alloc (Nat.le_refl _) _⟩
end Go.Proofs.Ytmdnokfmlbjbhaa
