/- law07's example. -/
import Derived.Test.YtmdnokfmlbjbhaaEnW
namespace Go.Proofs.Ytmdnokfmlbjbhaa
open Go.RowKit Go.Shelf Go.Proofs.YtmdnokfmlbjbhaaW.PrintWords
set_option linter.unusedVariables false
set_option linter.unusedSimpArgs false
attribute [local go_sem] Oper.semAt_some

theorem walk_stops (n : Nat) (hn : 1 ≤ n) (ba bf : Nat) (fr : FuncId) (caps : Array Value) (at0 : Int) (L : List Ev0) (S : Nat → Prop) (w : World)
    (heg : ∀ args w, (callFunc fr args).run Try.prog w = .ok (.enter fr args) w) (hL : Chain at0 L) (hSb : ∀ k, S k → k < w.heap.size ∧ k ≠ ba ∧ k ≠ bf)
    (hba : w.heap[ba]? = some (.cells #[.int .i64 at0] 3 (0, 0))) (hbf : w.heap[bf]? = some (.cells #[.func (.func fr) #[] caps] 99 (0, 0)))
    (hread : ∀ x ∈ L, ∀ W, Kq S w W → Calls Try.prog fr (#[.int .i64 x.at_] ++ caps) W fun e w' => e = .returned (.tuple #[.agg (ev0Cells x), .bool true]) ∧ Below W.heap.size W w') :
    SeqStopsK Fence.wide n Try.prog 120 #[.pointer (some ⟨ba, 0, none⟩), .pointer (some ⟨bf, 0, none⟩)] (fun x : Ev0 => #[.int .i64 x.at_, .agg (ev0Cells x)]) (Kq S) (fun ys => ys = L) (fun pre => pre <+: L) L.length w := fun l J Jx W hB hJ _ hY h0 =>
  walk_in n hn l ba bf fr caps at0 L S J Jx w W heg hJ (Kq.below hB) hL hSb hba hbf hread hY h0

theorem read1_calls (a : Int) (w : World) : Calls Try.prog 115 #[.int .i64 a] w fun e w' => e = .returned (.tuple #[.agg #[.int .i64 0, .int .i64 0, .int .i64 0, .int .i64 0, .int .i64 0, .int .i64 0, .slice none 0 0], .bool true]) ∧ Below w.heap.size w w' := by
  go_enter Try.func115, Try.ntmps115
  go_wp2
  have h := heap_alloc_new w (.cells #[.int .i64 0, .int .i64 0, .int .i64 0, .int .i64 0, .int .i64 0, .int .i64 0, .slice none 0 0] 89)
  obtain ⟨z0, z1, z2, z3, z4, z5, z6⟩ := cells7 h
  refine bodyPost_ret (v := .tuple #[.agg #[.int .i64 0, .int .i64 0, .int .i64 0, .int .i64 0, .int .i64 0, .int .i64 0, .slice none 0 0], .bool true]) (by simp [results, Try.results115, go_sem, z0, z1, z2, z3, z4, z5, z6]) rfl ?_
  exact ⟨rfl, (Below.refl _ _).alloc (Nat.le_refl _) _⟩
theorem read2_calls (a : Int) (w : World) : Calls Try.prog 116 #[.int .i64 a] w fun e w' => e = .returned (.tuple #[.agg #[.int .i64 0, .int .i64 0, .int .i64 0, .int .i64 0, .int .i64 0, .int .i64 (-1), .slice none 0 0], .bool true]) ∧ Below w.heap.size w w' := by
  go_enter Try.func116, Try.ntmps116
  go_wp2
  have h := heap_alloc_new w (.cells #[.int .i64 0, .int .i64 0, .int .i64 0, .int .i64 0, .int .i64 0, .int .i64 (-1), .slice none 0 0] 89)
  obtain ⟨z0, z1, z2, z3, z4, z5, z6⟩ := cells7 h
  refine bodyPost_ret (v := .tuple #[.agg #[.int .i64 0, .int .i64 0, .int .i64 0, .int .i64 0, .int .i64 0, .int .i64 (-1), .slice none 0 0], .bool true]) (by simp [results, Try.results116, go_sem, z0, z1, z2, z3, z4, z5, z6]) rfl ?_
  exact ⟨rfl, (Below.refl _ _).alloc (Nat.le_refl _) _⟩

def entS : Ent := ⟨1, 0, 0, 0, 0, -1, [7]⟩
theorem entS_ok : EOk entS := by decide
theorem entS_dec : edec (wrapped (ebytes entS)) = (entS, 0) := by decide +kernel

set_option maxHeartbeats 4000000 in
set_option maxRecDepth 100000 in
theorem speaks07_calls (w : World) : Calls Try.prog 62 #[] w fun e w' => e = .returned (.bool true) ∧ Below w.heap.size w w' := by
  have h0 := heap_alloc_new w (.cells #[.int .u8 7] 5)
  have R0 : RB (w.alloc (.cells #[.int .u8 7] 5)) (some ⟨w.heap.size, 0, none⟩) [7] := C_one w .u8 5 7
  have b0 := (Below.refl w.heap.size w).alloc (Nat.le_refl _) (.cells #[.int .u8 7] 5)
  have HE := Aside0.mk (eenc_calls entS (some ⟨w.heap.size, 0, none⟩) 1 _ R0 (Nat.le_refl _) (by intro x hx; rw [List.mem_singleton.1 hx]; decide) entS_ok)
  obtain ⟨eb, heb⟩ : ∃ eb, eb = wrapped (ebytes entS) := ⟨_, rfl⟩
  have hdec := entS_dec
  rw [← heb] at hdec HE
  have HBB : Aside0 (Bytes eb ∧ eb.length = 31) := ⟨by rw [heb]; exact ⟨wrapped_bytes (ebytes_bytes (by intro x hx; rw [List.mem_singleton.1 hx]; decide)), by rw [wrapped_len, ebytes_len]; rfl⟩⟩
  have HDEC := Aside0.mk hdec
  have B0 := Aside0.mk b0
  clear h0 R0 b0 heb hdec
  refine (callsIn_wide (n := 5)).1 ?_
  refine callsIn_of_wp_marks Try.func62 rfl trivial ?_ rfl
  simp only [Try.ntmps62, List.size_toArray, List.length_cons, List.length_nil, Nat.reduceAdd, Nat.reduceSub, Array.replicate_succ, Array.replicate_zero, List.push_toArray, List.append_toArray, List.nil_append, List.cons_append]
  gi_wp2_with (fail)
  refine ⟨trivial, ?_⟩
  refine (callsIn_wide.2 HE.out).mono ?_
  rintro e w1 ⟨v1, rfl, o1, b1⟩
  obtain ⟨A1, c1, rfl, r1, l1⟩ := OB.slice o1
  have B1 : Aside0 (Below w.heap.size w w1) := ⟨B0.out.trans (b1.mono B0.out.size)⟩
  have hde := edec_calls A1 c1 eb w1 r1 HBB.out.1 l1 (by have := HBB.out.2; omega)
  rw [HDEC.out] at hde
  have HD := Aside0.mk hde
  clear o1 r1 b1 HE hde
  gi_wp2_with (fail)
  refine ⟨trivial, ?_⟩
  refine (callsIn_wide.2 HD.out).mono ?_
  rintro e w2 ⟨A2, c2, rfl, r2, l2, b2⟩
  have hs2 : entS.pay.length = 1 := rfl
  have e0 : entS.kind = 1 := rfl
  have e1 : entS.client = 0 := rfl
  have e2 : entS.birth = 0 := rfl
  have e3 : entS.number = 0 := rfl
  have e4 : entS.stream = 0 := rfl
  have e5 : entS.back = -1 := rfl
  rw [hs2, e0, e1, e2, e3, e4, e5]
  have B2 : Aside0 (Below w.heap.size w w2) := ⟨B1.out.trans (b2.mono B1.out.size)⟩
  clear r2 b2 HD hs2 e0 e1 e2 e3 e4 e5 HDEC HBB
  gi_wp2_with (fail)
  refine ⟨trivial, ?_⟩
  obtain ⟨w3, hw3⟩ : ∃ w3, Aside0 (w3 = (w2.alloc (.cells #[.int .i64 1, .int .i64 0, .int .i64 0, .int .i64 0, .int .i64 0, .int .i64 (-1), .slice A2 1 c2] 89)).alloc (.cells #[.int .i64 0] 3)) := ⟨_, ⟨rfl⟩⟩
  rw [← hw3.out]
  refine (callsIn_wide.2 (walkmake_calls (-1) 115 #[] w3)).mono ?_
  rintro e w4 ⟨rfl, h4⟩
  have H4 := Aside0.mk h4
  clear h4
  have b34 : Below w3.heap.size w3 w4 := by rw [H4.out]; exact ((Below.refl _ w3).alloc (Nat.le_refl _) _).alloc (by simp only [World.size_alloc]; omega) _
  have hba : w4.heap[w3.heap.size]? = some (.cells #[.int .i64 (-1)] 3 (0, 0)) := by rw [H4.out]; exact (Below.heap_alloc _ _ _ (by simp only [World.size_alloc]; omega)).trans (heap_alloc_new w3 _)
  have hbf : w4.heap[w3.heap.size + 1]? = some (.cells #[.func (.func 115) #[] #[]] 99 (0, 0)) := by
    have q := heap_alloc_new (w3.alloc (.cells #[.int .i64 (-1)] 3)) (.cells #[.func (.func 115) #[] #[]] 99)
    rw [World.size_alloc] at q
    rw [H4.out]; exact q
  have HST := Aside0.mk (walk_stops 4 (by omega) w3.heap.size (w3.heap.size + 1) 115 #[] (-1) [] (fun _ => False) w4 (fun _ _ => by simp [go_sem, enters_of Try.func115 (by kernel_rfl) rfl]) (by show (-1:Int) < 0; decide) (fun _ h => h.elim) hba hbf (fun _ h => by cases h))
  clear hba hbf
  gi_wp2_with (fail)
  have hcn3 : w3.heap[w2.heap.size + 1]? = some (.cells #[.int .i64 0] 3 (0, 0)) := by
    have q := heap_alloc_new (w2.alloc (.cells #[.int .i64 1, .int .i64 0, .int .i64 0, .int .i64 0, .int .i64 0, .int .i64 (-1), .slice A2 1 c2] 89)) (.cells #[.int .i64 0] 3)
    rw [World.size_alloc] at q
    rw [hw3.out]; exact q
  have hce3 : w3.heap[w2.heap.size]? = some (.cells #[.int .i64 1, .int .i64 0, .int .i64 0, .int .i64 0, .int .i64 0, .int .i64 (-1), .slice A2 1 c2] 89 (0, 0)) := by
    rw [hw3.out]; exact (Below.heap_alloc _ _ _ (by simp only [World.size_alloc]; omega)).trans (heap_alloc_new w2 _)
  have B3 : Aside0 (Below w.heap.size w w3) := ⟨by rw [hw3.out]; exact (B2.out.alloc B2.out.size _).alloc (by simp only [World.size_alloc]; have := B2.out.size; omega) _⟩
  have hs3 : w3.heap.size = w2.heap.size + 2 := by rw [hw3.out]; simp only [World.size_alloc]
  have hcn4 := Aside0.mk ((b34.block _ (by omega)).trans hcn3)
  have hce4 := Aside0.mk ((b34.block _ (by omega)).trans hce3)
  have B4 : Aside0 (Below w.heap.size w w4) := ⟨B3.out.trans (b34.mono B3.out.size)⟩
  have hs4 : Aside0 (w2.heap.size + 2 ≤ w4.heap.size) := ⟨by have := b34.size; omega⟩
  clear hcn3 hce3 b34
  refine' wpIn_rangeFunc_ownF (α := Ev0) rfl (by omega) (gf := 120) (lb := #[.pointer (some ⟨w3.heap.size, 0, none⟩), .pointer (some ⟨w3.heap.size + 1, 0, none⟩)]) rfl trivial (enters_of Try.func120 (by kernel_rfl) rfl)
    HST.out (Kq.trans) (fun W l o o' hl h hc hw => Kq.put (w := w4) W l o o' hl h hc hw) (Below.refl _ _) (fun _ => rfl)
    (fun _ W => Below w4.heap.size w4 W) (fun _ _ _ => False) (ownFrom_below (Nat.le_refl _) (Nat.le_refl _)) (fun _ _ _ _ _ hs _ _ => hs) (Below.refl _ _) _ ?assign ?body ?done ?stop
  case assign =>
    intro l x W K hK
    gi_wp2
    exact hK
  case body =>
    rintro l pre x W _ h
    exact absurd h (Nat.not_lt_zero _)
  case stop =>
    rintro Dd c pre W _ _ h _
    exact h.elim
  case done =>
    rintro D1 ys w5 hD1 rfl hB5 hK5
    have HD5 := Aside0.mk hK5
    have HB5 := Aside0.mk hB5
    have HD1 := Aside0.mk hD1
    clear hK5 hB5 HST H4 hD1
    gi_wp2_with (fail)
    refine ⟨trivial, ?_⟩
    refine (callsIn_wide.2 (walkmake_calls 3 116 #[] w5)).mono ?_
    rintro e w6 ⟨rfl, h6⟩
    have H6 := Aside0.mk h6
    clear h6
    have b56 : Below w5.heap.size w5 w6 := by rw [H6.out]; exact ((Below.refl _ w5).alloc (Nat.le_refl _) _).alloc (by simp only [World.size_alloc]; omega) _
    have hba : w6.heap[w5.heap.size]? = some (.cells #[.int .i64 3] 3 (0, 0)) := by rw [H6.out]; exact (Below.heap_alloc _ _ _ (by simp only [World.size_alloc]; omega)).trans (heap_alloc_new w5 _)
    have hbf : w6.heap[w5.heap.size + 1]? = some (.cells #[.func (.func 116) #[] #[]] 99 (0, 0)) := by
      have q := heap_alloc_new (w5.alloc (.cells #[.int .i64 3] 3)) (.cells #[.func (.func 116) #[] #[]] 99)
      rw [World.size_alloc] at q
      rw [H6.out]; exact q
    have hs45 := HB5.out.size
    have hs24 := hs4.out
    have hs56 : w6.heap.size = w5.heap.size + 2 := by rw [H6.out]; simp only [World.size_alloc]
    have HST2 := Aside0.mk (walk_stops 4 (by omega) w5.heap.size (w5.heap.size + 1) 116 #[] 3 [⟨3, 0, 0, -1⟩] (fun k => k = w2.heap.size + 1) w6 (fun _ _ => by simp [go_sem, enters_of Try.func116 (by kernel_rfl) rfl]) (by refine ⟨rfl, by decide, by decide, ?_⟩; show (-1:Int) < 0; decide) (fun _ h => by subst h; omega) hba hbf
      (fun x h W _ => by obtain rfl := List.mem_singleton.1 h; exact read2_calls 3 W))
    have hcn6 : w6.heap[w2.heap.size + 1]? = some (.cells #[.int .i64 0] 3 (0, 0)) := (b56.block _ (by omega)).trans ((HB5.out.block _ (by omega)).trans hcn4.out)
    have hce6 := Aside0.mk ((b56.block _ (by omega)).trans ((HB5.out.block _ (by omega)).trans hce4.out))
    have HD6 := Aside0.mk ((b56.block _ (Array.getElem?_eq_some_iff.1 HD5.out).1).trans HD5.out)
    have hD1lt := Aside0.mk (Array.getElem?_eq_some_iff.1 HD5.out).1
    clear hba hbf
    gi_wp2_with (fail)
    refine' wpIn_rangeFunc_ownF (α := Ev0) rfl (by omega) (gf := 120) (lb := #[.pointer (some ⟨w5.heap.size, 0, none⟩), .pointer (some ⟨w5.heap.size + 1, 0, none⟩)]) rfl trivial (enters_of Try.func120 (by kernel_rfl) rfl)
      HST2.out (Kq.trans) (fun W l o o' hl h hc hw => Kq.put (w := w6) W l o o' hl h hc hw) (Below.refl _ _) (fun _ => rfl)
      (fun pre W => (W.cell? ⟨w2.heap.size + 1, 0, none⟩ = some (.int .i64 pre.length) ∧ W.frozen? ⟨w2.heap.size + 1, 0, none⟩ = false) ∧ Upd (fun k => k = w2.heap.size + 1) w6 W) (fun _ _ _ => False)
      (OwnFrom.and (Own.from (fun s A B row hs hg hr => ⟨cell_kept hs.1 hg hr, (frozen_kept hs.1 hg hr).trans hs.2⟩) _) (fun s A B row hs hg hr => hs.grown hg (fun k e => .inr (hr k e).1))) (fun _ _ _ _ _ hs _ _ => hs) ⟨⟨blk_cell hcn6 0, blk_frozen hcn6 0⟩, Upd.refl _ _⟩ _ ?assign ?body ?done ?stop
    case assign =>
      intro l x W K hK
      gi_wp2
      exact hK
    case stop =>
      rintro Dd c pre W _ _ h _
      exact h.elim
    case body =>
      rintro l pre x W ⟨⟨hc, hf⟩, hU⟩ hlt
      obtain rfl : pre = [] := by cases pre with
        | nil => rfl
        | cons a r => simp at hlt
      have hc0 : W.cell? ⟨w2.heap.size + 1, 0, none⟩ = some (.int .i64 0) := hc
      clear hc
      gi_wp2
      exact ⟨KeepsOthers.setCell _ _ _, ⟨by simp [World.setCell], fun k cs t fr hn hh => (Below.heap_setCell _ _ _ _ hn).trans hh⟩, ⟨World.cell?_setCell_same' _ _ _ (by rw [hc0]; rfl), by rw [World.frozen?_setCell]; exact hf⟩, hU.setCell (.inl rfl) _⟩
    case done =>
      rintro D2 ys w7 hD2 rfl ⟨⟨hc, hf⟩, hU⟩ hK7
      have ce : w7.cell? ⟨w2.heap.size, 6, none⟩ = some (.slice A2 1 c2) := blk_cell (hU.at_ hce6.out (by omega)) 6
      have hK1 := Aside0.mk (hU.at_ HD6.out (by have := HD1.out; omega))
      have hc' : w7.cell? ⟨w2.heap.size + 1, 0, none⟩ = some (.int .i64 1) := hc
      have HU := Aside0.mk hU
      have HK7 := Aside0.mk hK7
      clear hc hf hU hK7 HST2
      gi_wp2
      have hne : D1 ≠ D2 := by have := hD1lt.out; omega
      refine ⟨by simp, .inl ⟨_, _, rfl, run_takeDeferred HK7.out, ?_⟩⟩
      refine ⟨by simp, .inl ⟨_, _, rfl, run_takeDeferred ((World.putObj_heap_other hne).trans hK1.out), ?_⟩⟩
      refine ⟨_, results_tmp rfl _ _ _, rfl, ?_⟩
      have b0 := B4.out.size
      have b1 := HD1.out
      have B5 : Below w.heap.size w w5 := B4.out.trans (HB5.out.mono B4.out.size)
      have B6 : Below w.heap.size w w6 := B5.trans (b56.mono B5.size)
      have hs2 := B2.out.size
      have B7 : Below w.heap.size w w7 := B6.trans (HU.out.below B6.size (fun k e => by subst e; omega))
      exact (B7.grown (grownBy_putObj' w7 D2 (.deferred none)) B7.size (fun k e => by cases e; omega)).grown (grownBy_putObj' _ D1 (.deferred none)) (by simp [World.putObj]; exact B7.size) (fun k e => by cases e; omega)
end Go.Proofs.Ytmdnokfmlbjbhaa
