/- EntryStreams: what lies in memory. -/
import Derived.Test.YtmdnokfmlbjbhaaEsB
import Derived.Test.YtmdnokfmlbjbhaaApA
namespace Go.Proofs.Ytmdnokfmlbjbhaa
open Go.RowKit Go.Shelf Go.Maps Go.Proofs.YtmdnokfmlbjbhaaW.PrintWords
set_option linter.unusedVariables false
set_option linter.unusedSimpArgs false
attribute [local go_sem] Oper.semAt_some

/-- append of ints inside a fence -/
theorem wpListIn_appI {F : Fence} {nF : Nat} {ops : Array Oper} {rest : List Oper} {o : Oper} {a : Act} {Q : Exit → Act → World → Prop} {W : World} (hgd : o.guard = none) (s x : Operand)
    (ho : o.op = .call { callee := .builtin .append, args := #[s, x], argTypes := #[58, 58] })
    (base : Nat) (v : Value) (xs ys : List Int) (A : Option Addr) (c : Nat) (hs : a.eval s = v) (hx : a.eval x = .slice A ys.length c) (HO : OI W base v xs) (HR : RI W A ys) (hbase : base ≤ W.heap.size) (hl : (xs.length + ys.length) * 8 ≤ 140737488355328)
    (h : ∀ A1 c1 W1, OI W1 base (.slice A1 (xs ++ ys).length c1) (xs ++ ys) → W.grownBy W1 v.ownBlock → wpListIn F nF Try.prog ops Q rest (a.put o.dst (.slice A1 (xs ++ ys).length c1)) W1) :
    wpListIn F nF Try.prog ops Q (o :: rest) a W := by
  refine wpListIn_plain hgd fun K hK => ?_
  obtain ⟨A1, c1, W1, hr, h2, h3⟩ := run_appW 58 3 .i64 8 Try.underlying58 info3' (by decide) o.type W base v xs ys A c HO HR hbase hl
  unfold Oper.wpIn
  refine ⟨by simp [Oper.about, ho, resolve, Target.leads, Sem.run_pure], ?_⟩
  rw [Oper.semAt_plain F _ _ (by rw [ho]; intro c hc'; cases hc')]
  simp only [execOp, ho, resolve, invoke, builtin, Sem.run_bind, Sem.run_pure, Result.andThen_ok, List.map_toArray, List.map_cons, List.map_nil, hs, hx, hr]
  exact hK _ _ (h A1 c1 W1 h2 h3)
/-- m[k] = v inside a fence -/
theorem wpListIn_imap {F : Fence} {nF : Nat} {ops : Array Oper} {rest : List Oper} {o : Oper} {a : Act} {Q : Exit → Act → World → Prop} {W : World} (hgd : o.guard = none) (m x v : Operand) (ho : o.op = Op.mapUpdate 97 m x v)
    (b : Nat) (L : List (Int × Int)) (k y : Int) (hm : a.eval m = .map (some b)) (hx : a.eval x = .int .i64 k) (hv : a.eval v = .int .i64 y) (hI : IMap W b L)
    (hk : -9223372036854775808 ≤ k ∧ k ≤ 9223372036854775807) (hy : -9223372036854775808 ≤ y ∧ y ≤ 9223372036854775807) (hn : L.length < 9223372036854775807)
    (h : ∀ W1, IMap W1 b (L ++ [(k, y)]) → W.grownBy W1 (some b) → wpListIn F nF Try.prog ops Q rest (a.put o.dst undef) W1) :
    wpListIn F nF Try.prog ops Q (o :: rest) a W := by
  refine wpListIn_plain hgd fun K hK => ?_
  obtain ⟨W1, hr, h2, h3⟩ := hI.store k y hk hy hn
  unfold Oper.wpIn
  refine ⟨by simp [Oper.about, ho], ?_⟩
  rw [Oper.semAt_plain F _ _ (by rw [ho]; intro c hc'; cases hc')]
  simp [execOp, ho, hm, hx, hv, hr, Result.andThen]
  exact hK _ _ (h W1 h2 h3)

theorem and7 (n : Int) : 0 ≤ bits BinOp.and .i64 n 7 ∧ bits BinOp.and .i64 n 7 ≤ 7 := by
  have e : bits BinOp.and .i64 n 7 = ((BitVec.ofInt 64 n &&& 7#64).toNat : Int) := by
    show IntKind.i64.wrap ((BitVec.ofInt 64 n &&& BitVec.ofInt 64 7).toNat : Int) = _
    have h : (BitVec.ofInt 64 n &&& 7#64).toNat ≤ 7 := by
      rw [BitVec.toNat_and]; exact Nat.and_le_right
    rw [show BitVec.ofInt 64 7 = 7#64 from rfl]
    exact IntWalk.i64_in _ (by omega)
  have h : (BitVec.ofInt 64 n &&& 7#64).toNat ≤ 7 := by
    rw [BitVec.toNat_and]; exact Nat.and_le_right
  omega

/-- what lies in memory when km puts, kl entries and kw wanted ones have been made; N: the heap's size ahead of them -/
structure ES (w1 : World) (ss : List Int) (q : Int) (km kl kw : Nat) (vl vw : Value) (W : World) : Prop where
  bel : Below w1.heap.size w1 W
  size : w1.heap.size + 5 ≤ W.heap.size
  map : IMap W (w1.heap.size + 1) (putsOf ss km)
  lbox : W.heap[w1.heap.size + 2]? = some (.cells #[vl] 96 (0, 0))
  log : W.ownsRow w1.heap.size 89 7 vl kl (logOf ss kl)
  wbox : W.heap[w1.heap.size + 4]? = some (.cells #[vw] 58 (0, 0))
  want : OI W w1.heap.size vw (wantOf ss q kw)
theorem IMap.blk {W : World} {b : Nat} {L : List (Int × Int)} (h : IMap W b L) {cs : Array Value} {t : TypeId} {fr : Nat × Nat} : W.heap[b]? ≠ some (.cells cs t fr) := by
  obtain ⟨es, clock, h1, h2⟩ := h
  rw [h1]; intro e; cases e
theorem own_not {W : World} {base n b : Nat} {e : TypeId} {size : Nat} {v : Value} {xs : List Value} (h : W.ownsRow base e size v n xs) (hb : ∀ cs, W.heap[b]? ≠ some (.cells cs e (0, 0))) : some b ≠ v.ownBlock := fun hk => by
  obtain ⟨cells, hc⟩ := own_typed h b hk.symm
  exact hb cells hc
/-- a step that turns one block but the five -/
theorem ES.grown {w1 W W' : World} {ss : List Int} {q : Int} {km kl kw : Nat} {vl vw : Value} {row : Option Nat} (h : ES w1 ss q km kl kw vl vw W) (hg : W.grownBy W' row) (hr : ∀ k, row = some k → w1.heap.size ≤ k)
    (h1 : some (w1.heap.size + 1) ≠ row) (h2 : some (w1.heap.size + 2) ≠ row) (h4 : some (w1.heap.size + 4) ≠ row) (hl : vl.ownBlock = none ∨ vl.ownBlock ≠ row) (hw : vw.ownBlock = none ∨ vw.ownBlock ≠ row) : ES w1 ss q km kl kw vl vw W' :=
  ⟨h.bel.grown hg h.bel.size hr, Nat.le_trans h.size hg.size, h.map.kept hg h1, blk_grown h.lbox hg h2, h.log.kept hg hl, blk_grown h.wbox hg h4, h.want.kept hg hw⟩
theorem ES.alloc {w1 W : World} {ss : List Int} {q : Int} {km kl kw : Nat} {vl vw : Value} (h : ES w1 ss q km kl kw vl vw W) (o : Obj) : ES w1 ss q km kl kw vl vw (W.alloc o) :=
  h.grown (World.grownBy_alloc W o none) (fun k e => by cases e) (by simp) (by simp) (by simp) (by cases vl.ownBlock <;> simp) (by cases vw.ownBlock <;> simp)
theorem ES.start (w1 : World) (ss : List Int) (q : Int) : ES w1 ss q 0 0 0 (.slice (some ⟨w1.heap.size, 0, none⟩) 0 0) (.slice (some ⟨w1.heap.size + 3, 0, none⟩) 0 0)
    (((((w1.alloc (.cells #[] 89)).alloc (.map #[] 0)).alloc (.cells #[.slice (some ⟨w1.heap.size, 0, none⟩) 0 0] 96)).alloc (.cells #[] 3)).alloc (.cells #[.slice (some ⟨w1.heap.size + 3, 0, none⟩) 0 0] 58)) := by
  obtain ⟨a, ha⟩ : ∃ a, a = w1.alloc (.cells #[] 89) := ⟨_, rfl⟩
  have sa : a.heap.size = w1.heap.size + 1 := by rw [ha]; simp only [World.size_alloc]
  have ba : Below w1.heap.size w1 a := by rw [ha]; exact (Below.refl _ _).alloc (Nat.le_refl _) _
  have oa : a.ownsRow w1.heap.size 89 7 (.slice (some ⟨w1.heap.size, 0, none⟩) 0 0) 0 (logOf ss 0) := by rw [ha]; exact World.ownsRow_made w1 #[] 0 (Nat.le_refl _) (by simp [maxLen]) (by simp)
  rw [← ha]
  obtain ⟨b, hb⟩ : ∃ b, b = a.alloc (.map #[] 0) := ⟨_, rfl⟩
  have sb : b.heap.size = w1.heap.size + 2 := by rw [hb]; simp only [World.size_alloc]; omega
  have bb : Below w1.heap.size w1 b := by rw [hb]; exact ba.alloc ba.size _
  have ob := oa.alloc (.map #[] 0)
  have mb : IMap b (w1.heap.size + 1) (putsOf ss 0) := by rw [hb, ← sa]; exact IMap.made a
  rw [← hb] at ob ⊢
  obtain ⟨c, hc⟩ : ∃ c, c = b.alloc (.cells #[.slice (some ⟨w1.heap.size, 0, none⟩) 0 0] 96) := ⟨_, rfl⟩
  have sc : c.heap.size = w1.heap.size + 3 := by rw [hc]; simp only [World.size_alloc]; omega
  have bc : Below w1.heap.size w1 c := by rw [hc]; exact bb.alloc bb.size _
  have oc := ob.alloc (.cells #[.slice (some ⟨w1.heap.size, 0, none⟩) 0 0] 96)
  have mc : IMap c (w1.heap.size + 1) (putsOf ss 0) := by rw [hc]; exact mb.kept (World.grownBy_alloc b _ none) (by simp)
  have lc : c.heap[w1.heap.size + 2]? = some (.cells #[.slice (some ⟨w1.heap.size, 0, none⟩) 0 0] 96 (0, 0)) := by rw [hc, ← sb]; exact heap_alloc_new b _
  rw [← hc] at oc ⊢
  obtain ⟨d, hd⟩ : ∃ d, d = c.alloc (.cells #[] 3) := ⟨_, rfl⟩
  have sd : d.heap.size = w1.heap.size + 4 := by rw [hd]; simp only [World.size_alloc]; omega
  have bd : Below w1.heap.size w1 d := by rw [hd]; exact bc.alloc bc.size _
  have od := oc.alloc (.cells #[] 3)
  have md : IMap d (w1.heap.size + 1) (putsOf ss 0) := by rw [hd]; exact mc.kept (World.grownBy_alloc c _ none) (by simp)
  have ld : d.heap[w1.heap.size + 2]? = some (.cells #[.slice (some ⟨w1.heap.size, 0, none⟩) 0 0] 96 (0, 0)) := by rw [hd]; exact (Below.heap_alloc _ _ _ (by omega)).trans lc
  have wd : OI d w1.heap.size (.slice (some ⟨w1.heap.size + 3, 0, none⟩) 0 0) (wantOf ss q 0) := by rw [hd, ← sc]; exact OI.empty c w1.heap.size (by omega)
  rw [← hd] at od ⊢
  refine ⟨bd.alloc bd.size _, by simp only [World.size_alloc]; omega, md.kept (World.grownBy_alloc d _ none) (by simp), (Below.heap_alloc _ _ _ (by omega)).trans ld, od.alloc _, by rw [← sd]; exact heap_alloc_new d _, wd.alloc _⟩
/-- the log's row has grown, and its box -/
theorem ES.logged {w1 W W' : World} {ss : List Int} {q : Int} {km kl kw : Nat} {vl vw v' : Value} (h : ES w1 ss q km kl kw vl vw W) (hg : W.grownBy W' vl.ownBlock) (ho : W'.ownsRow w1.heap.size 89 7 v' (kl + 1) (logOf ss (kl + 1))) (hat : v'.ownBlock = vl.ownBlock ∨ v'.ownBlock = some W.heap.size) :
    ES w1 ss q km (kl + 1) kw v' vw (W'.setCell ⟨w1.heap.size + 2, 0, none⟩ v') := by
  have hl1 : some (w1.heap.size + 1) ≠ vl.ownBlock := own_not h.log (fun cs => h.map.blk)
  have hl2 : some (w1.heap.size + 2) ≠ vl.ownBlock := own_ne h.log h.lbox (by decide)
  have hl4 : some (w1.heap.size + 4) ≠ vl.ownBlock := own_ne h.log h.wbox (by decide)
  have hw := own_type_ne h.want h.log (by decide)
  have b' := h.bel.grown hg h.bel.size (fun k e => own_base h.log k e)
  have m' := h.map.kept hg hl1
  have x' := blk_grown h.lbox hg hl2
  have w' := blk_grown h.wbox hg hl4
  have o' := h.want.kept hg hw
  have s' := hg.size
  have hs := h.size
  have g' : W'.grownBy (W'.setCell ⟨w1.heap.size + 2, 0, none⟩ v') (some (w1.heap.size + 2)) := grownBy_setCell' _ _ _
  have hv2 : some (w1.heap.size + 2) ≠ v'.ownBlock := own_ne ho x' (by decide)
  have hw2 : some (w1.heap.size + 2) ≠ vw.ownBlock := own_ne o' x' (by decide)
  refine ⟨b'.setCell (p := ⟨w1.heap.size + 2, 0, none⟩) (Nat.le_add_right _ _) _, by simp only [World.setCell, Array.size_modify] at *; omega, m'.kept g' (by simp), ?_, ho.kept g' (.inr (fun e => hv2 e.symm)), blk_grown w' g' (by simp), o'.kept g' (.inr (fun e => hw2 e.symm))⟩
  have := blk_set x' 0 v'
  simpa using this
/-- the map has been put into -/
theorem ES.put {w1 W W' : World} {ss : List Int} {q : Int} {km kl kw : Nat} {vl vw : Value} (h : ES w1 ss q km kl kw vl vw W) (hm : IMap W' (w1.heap.size + 1) (putsOf ss (km + 1))) (hg : W.grownBy W' (some (w1.heap.size + 1))) : ES w1 ss q (km + 1) kl kw vl vw W' := by
  have hl1 : some (w1.heap.size + 1) ≠ vl.ownBlock := own_not h.log (fun cs => h.map.blk)
  have hw1 : some (w1.heap.size + 1) ≠ vw.ownBlock := own_not h.want (fun cs => h.map.blk)
  exact ⟨h.bel.grown hg h.bel.size (fun k e => by injection e with e; omega), Nat.le_trans h.size hg.size, hm, blk_grown h.lbox hg (by simp), h.log.kept hg (.inr (fun e => hl1 e.symm)), blk_grown h.wbox hg (by simp), h.want.kept hg (.inr (fun e => hw1 e.symm))⟩
/-- the wanted ones are another row, and its box -/
theorem ES.wanted {w1 W W' : World} {ss : List Int} {q : Int} {km kl kw : Nat} {vl vw v' : Value} {g : Nat} (h : ES w1 ss q km kl kw vl vw W) (hn : W.heap.size = g + 1) (hg5 : w1.heap.size + 5 ≤ g) (hgt : ∃ cs, W.heap[g]? = some (.cells cs 3 (0, 0))) (hvg : vw.ownBlock ≠ some g) (hg : W.grownBy W' (some g)) (ho : OI W' w1.heap.size v' (wantOf ss q (kw + 1))) :
    ES w1 ss q km kl (kw + 1) vl v' (W'.setCell ⟨w1.heap.size + 4, 0, none⟩ v') := by
  obtain ⟨cs, hcs⟩ := hgt
  have hlg : some g ≠ vl.ownBlock := own_ne h.log hcs (by decide)
  have b' := h.bel.grown hg h.bel.size (fun k e => by injection e with e; omega)
  have m' := h.map.kept hg (by simp; omega)
  have x' := blk_grown h.lbox hg (by simp; omega)
  have w' := blk_grown h.wbox hg (by simp; omega)
  have l' := h.log.kept hg (.inr (fun e => hlg e.symm))
  have s' := hg.size
  have hs := h.size
  have g' : W'.grownBy (W'.setCell ⟨w1.heap.size + 4, 0, none⟩ v') (some (w1.heap.size + 4)) := grownBy_setCell' _ _ _
  have hv4 : some (w1.heap.size + 4) ≠ v'.ownBlock := own_ne ho w' (by decide)
  have hl4 : some (w1.heap.size + 4) ≠ vl.ownBlock := own_ne l' w' (by decide)
  refine ⟨b'.setCell (p := ⟨w1.heap.size + 4, 0, none⟩) (Nat.le_add_right _ _) _, by simp only [World.setCell, Array.size_modify] at *; omega, m'.kept g' (by simp), blk_grown x' g' (by simp), l'.kept g' (.inr (fun e => hl4 e.symm)), ?_, ho.kept g' (.inr (fun e => hv4 e.symm))⟩
  have := blk_set w' 0 v'
  simpa using this
theorem ES.skip {w1 W : World} {ss : List Int} {q : Int} {km kl kw : Nat} {vl vw : Value} (h : ES w1 ss q km kl kw vl vw W) (hq : ¬ ss.getD kw 0 = q) : ES w1 ss q km kl (kw + 1) vl vw W :=
  ⟨h.bel, h.size, h.map, h.lbox, h.log, h.wbox, by rw [wantOf_no hq]; exact h.want⟩
theorem read_kept {w1 W0 w6 : World} {ss : List Int} {q : Int} {n : Nat} {vl vw : Value} (hE : ES w1 ss q n n n vl vw W0) (hn : n ≤ 200) (hb : Below W0.heap.size W0 w6) (kb : Nat) (hkb : W0.heap.size ≤ kb) :
    ∀ x ∈ entsOf ss q n, ∀ W, Kq (fun k => k = kb) w6 W → Calls Try.prog 67 (#[.int .i64 x.at_] ++ #[.pointer (some ⟨w1.heap.size + 1 + 1, 0, none⟩)]) W fun e w' => e = .returned (.tuple #[.agg (ev0Cells x), .bool true]) ∧ Below W.heap.size W w' := by
  intro x hx W hK
  obtain ⟨i, hi, rfl, _⟩ := ents_at ss q n x hx
  have hs := hE.size
  have l6 := (hb.block _ (blk_lt hE.lbox)).trans hE.lbox
  have lW := hK.2 _ _ _ _ (by omega) l6
  rcases hE.log.2 with ⟨_, h0⟩ | ⟨g, cap, cur, rfl, hg, hh, hnc, _⟩
  · omega
  · have hgl := blk_lt hh
    have h6 := (hb.block _ hgl).trans hh
    have hW := hK.2 _ _ _ _ (by omega) h6
    have hown : W.ownsRow w1.heap.size 89 7 (.slice (some ⟨g, 0, none⟩) n cap) n (logOf ss n) := own_move hE.log (fun k hk => by
      obtain rfl : g = k := by injection hk
      exact hW.trans hh.symm)
    refine read67_calls _ g n cap i (entOf ss i) W hi hn hnc lW (fun j hj => ?_)
    have hat := logOf_at ss i j hj n hi
    have hex : ∃ u, (ev0Cells (entOf ss i))[j]? = some u := ⟨_, Array.getElem?_eq_getElem (show j < (ev0Cells (entOf ss i)).size from hj)⟩
    obtain ⟨u, hu⟩ := hex
    rw [hu] at hat ⊢
    have hc := World.ownsRow.cells hown (g := g) rfl (7 * i + j) u hat
    have hadd : (⟨g, 0, none⟩ : Addr).add (7 * i + j) = ⟨g, i * 7 + j, none⟩ := by
      unfold Addr.add
      split
      · simp_all
      · simp; omega
    rw [hadd] at hc
    exact hc
theorem pre_next {ss : List Int} {q : Int} {n : Nat} {pre : List Ev0} {x : Ev0} (h : pre ++ [x] <+: entsOf ss q n) : (wantOf ss q n).getD pre.length 0 = x.at_ ∧ x.stream = q := by
  obtain ⟨t, ht⟩ := h
  refine ⟨?_, ?_⟩
  · unfold wantOf; rw [← ht]; simp [List.getD_eq_getElem?_getD]
  · have hm : x ∈ entsOf ss q n := by rw [← ht]; simp
    obtain ⟨i, _, _, h2⟩ := ents_at ss q n x hm
    exact h2
end Go.Proofs.Ytmdnokfmlbjbhaa
