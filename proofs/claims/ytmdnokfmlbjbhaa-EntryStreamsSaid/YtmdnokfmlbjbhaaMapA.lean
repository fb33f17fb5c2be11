/- Sets of ints as maps of the call's own: look-up, store; appends of ints beside them. -/
import Derived.Test.YtmdnokfmlbjbhaaM3
import Derived.Maps.OwnSet
import Derived.Maps.OwnOps
import Derived.Maps.Views
namespace Go.Proofs.Ytmdnokfmlbjbhaa
open Go.RowKit Go.Maps Go.Proofs.YtmdnokfmlbjbhaaW.PrintWords
set_option linter.unusedVariables false
set_option linter.unusedSimpArgs false

theorem keys3 : Keyed Try.prog 3 := int_keyed Try.underlying3
def i64L (x : Int) : Lit := .int .i64 x
def setD (L : List Int) : DataW Unit := setOf (.lit (.bool true)) (L.map i64L)
/-- the map at block b is the set of L, each entered once -/
def Seen (w : World) (b : Nat) (L : List Int) : Prop := w.ownsMap Try.prog 3 (plainElem (H := Unit) Try.prog 4) b L.length (setD L)

theorem plainElem_bool_inv {P : Program} {e : TypeId} (he : P.underlying e = some .bool) {v : Value} {z : DataW Unit × List MemPlace} (h : plainElem P e v = some z) : ∃ a, v = .bool a ∧ z = (.lit (.bool a), []) := by
  unfold plainElem at h
  rw [he] at h
  cases v <;> simp at h
  exact ⟨_, rfl, h.symm⟩
theorem i64L_wf {x : Int} (h : -9223372036854775808 ≤ x ∧ x ≤ 9223372036854775807) : (Lit.int .i64 x).wf = true := by
  simpa [Lit.wf, IntKind.min, IntKind.max, IntKind.bits, IntKind.signed] using h
theorem isKey (x : Int) : WideAt.IsKeyLit (i64L x) := trivial
theorem i64L_inj {x y : Int} (h : i64L x = i64L y) : x = y := by unfold i64L at h; injection h
theorem isMap_setD (L : List Int) : IsMap (setD L) := (tidy_setOf _ _ (fun x hx => by obtain ⟨y, _, rfl⟩ := List.mem_map.1 hx; exact isKey y)).isMap
theorem setD_snoc (L : List Int) (x : Int) : setD (L ++ [x]) = (setD L).put (i64L x) (.lit (.bool true)) := by
  unfold setD; rw [List.map_append, List.map_cons, List.map_nil, setOf_snoc]
theorem atKey_fold (x : Int) (z : DataW Unit) : ∀ (L : List Int) (m : DataW Unit), IsMap m → ((L.map i64L).foldl (fun m x => m.put x (.lit (.bool true))) m).atKey (i64L x) z = if x ∈ L then .lit (.bool true) else m.atKey (i64L x) z
  | [], m, hm => by simp
  | y :: L, m, hm => by
    rw [List.map_cons, List.foldl_cons, atKey_fold x z L _ (hm.put _ _)]
    by_cases h1 : x ∈ L
    · rw [if_pos h1, if_pos (List.mem_cons_of_mem _ h1)]
    · rw [if_neg h1]
      by_cases h2 : x = y
      · subst h2
        rw [if_pos (List.mem_cons_self ..), atKey_put_same hm (isKey x)]
      · rw [if_neg (by simp [h1, h2]), atKey_put_other (fun e => h2 (i64L_inj e))]
theorem atKey_setD (L : List Int) (x : Int) : (setD L).atKey (i64L x) (.lit (.bool false)) = .lit (.bool (decide (x ∈ L))) := by
  have := atKey_fold x (.lit (.bool false)) L (.map []) isMap_empty
  unfold setD setOf
  rw [this]
  by_cases h : x ∈ L
  · rw [if_pos h, decide_eq_true h]
  · rw [if_neg h, decide_eq_false h]; rfl

theorem Seen.made (w : World) : Seen (w.alloc (.map #[] 0)) w.heap.size [] := World.ownsMap_made w _ _ _
theorem Seen.kept {w w' : World} {b : Nat} {L : List Int} {row : Option Nat} (h : Seen w b L) (hg : w.grownBy w' row) (hne : some b ≠ row) : Seen w' b L := World.ownsMap.kept h hg hne
theorem Seen.lt {w : World} {b : Nat} {L : List Int} (h : Seen w b L) : b < w.heap.size := World.ownsMap.lt h
theorem Seen.moved {w w' : World} {b : Nat} {L : List Int} (h : Seen w b L) (hb : w'.heap[b]? = w.heap[b]?) : Seen w' b L := by
  obtain ⟨es, clock, h1, h2⟩ := h
  exact ⟨es, clock, hb.trans h1, h2⟩
theorem Seen.below {w w' : World} {b : Nat} {L : List Int} (h : Seen w b L) (hB : Below w.heap.size w w') : Seen w' b L := h.moved (hB.block b h.lt)

set_option maxRecDepth 100000 in
/-- seen[x] -/
theorem Seen.look {w : World} {b : Nat} {L : List Int} (h : Seen w b L) (x : Int) (hx : -9223372036854775808 ≤ x ∧ x ≤ 9223372036854775807) :
    (Instr.lookup 63 (.map (some b)) (.int .i64 x) false).run Try.prog w = .ok (.bool (decide (x ∈ L))) w := by
  obtain ⟨v, ps, hrun, hv⟩ := World.ownsMap.lookup h keys3 Try.underlying63 (z := .bool false) (zd := .lit (.bool false)) (zp := []) (by kernel_rfl) (plainElem_bool Try.underlying4 false) (keyOf_int_mk Try.underlying3 (i64L_wf hx))
  obtain ⟨c, rfl, hc⟩ := plainElem_bool_inv Try.underlying4 hv
  rw [hrun]
  have h1 := atKey_setD L x
  have h2 : (setD L).atKey (i64L x) (.lit (.bool false)) = .lit (.bool c) := congrArg Prod.fst hc
  rw [h1] at h2
  injection h2 with h2
  injection h2 with h2
  rw [h2]
set_option maxRecDepth 100000 in
/-- seen[x] = true -/
theorem Seen.store {w : World} {b : Nat} {L : List Int} (h : Seen w b L) (x : Int) (hx : -9223372036854775808 ≤ x ∧ x ≤ 9223372036854775807) (hn : L.length < 9223372036854775807) :
    ∃ w', (Instr.mapUpdate 63 (.map (some b)) (.int .i64 x) (.bool true)).run Try.prog w = .ok () w' ∧ Seen w' b (L ++ [x]) ∧ w.grownBy w' (some b) := by
  obtain ⟨w', h1, h2, h3⟩ := World.ownsMap.update h keys3 Try.underlying63 (by unfold maxLen; omega) (keyOf_int_mk Try.underlying3 (i64L_wf hx)) (plainElem_bool Try.underlying4 true)
  refine ⟨w', h1, ?_, h3⟩
  unfold Seen
  rw [setD_snoc, List.length_append]
  exact h2
theorem wpList_seen {ops : Array Oper} {rest : List Oper} {o : Oper} {a : Act} {Q : Exit → Act → World → Prop} {w : World} (hg : o.guard = none) (m x v : Operand) (hop : o.op = Op.mapUpdate 63 m x v)
    (b : Nat) (L : List Int) (y : Int) (hm : a.eval m = .map (some b)) (hown : Seen w b L) (hx : a.eval x = .int .i64 y) (hv : a.eval v = .bool true) (hy : -9223372036854775808 ≤ y ∧ y ≤ 9223372036854775807) (hn : L.length < 9223372036854775807)
    (hK : ∀ w', Seen w' b (L ++ [y]) → w.grownBy w' (some b) → wpList Try.prog ops Q rest (a.put o.dst undef) w') : wpList Try.prog ops Q (o :: rest) a w := by
  refine wpList_plain hg fun K' hK' => ?_
  obtain ⟨w', hrun, r1, r2⟩ := hown.store y hy hn
  unfold Oper.wp
  simp [execOp, hop, hm, hx, hv, hrun, Result.andThen]
  exact hK' _ _ (hK w' r1 r2)

/-- append(s, x...) of ints; the row is the call's own from base on -/
theorem wpList_appIG {ops : Array Oper} {rest : List Oper} {o : Oper} {a : Act} {Q : Exit → Act → World → Prop} {W : World} (N : Tmp) (hd : o.dst = some N) (hgd : o.guard = none) (s x : Operand)
    (ho : o.op = .call { callee := .builtin .append, args := #[s, x], argTypes := #[58, 58] })
    (base : Nat) (v : Value) (xs ys : List Int) {A : Option Addr} {c : Nat} (hs : a.eval s = v) (hx : a.eval x = .slice A ys.length c)
    (HO : OI W base v xs) (HR : RI W A ys) (hbase : base ≤ W.heap.size) (hl : (xs.length + ys.length) * 8 ≤ 140737488355328)
    (h : ∀ v1 W1, OI W1 base v1 (xs ++ ys) → W.grownBy W1 v.ownBlock → (v1.ownBlock = v.ownBlock ∨ ∃ b, v1.ownBlock = some b ∧ W.heap.size ≤ b) → wpList Try.prog ops Q rest (a.put (some N) v1) W1) :
    wpList Try.prog ops Q (o :: rest) a W := by
  rw [← hd] at h
  exact print_append_row (w0 := W) base hgd s x 58 3 .i64 8 ho Try.underlying58 info3' (by decide) v xs ys A ys.length c hs hx HO (C_int.1 HR) (Below.refl _ _) hbase (by omega) fun v1 w1 h1 h2 h3 h4 => h v1 w1 h1 h3 h4
end Go.Proofs.Ytmdnokfmlbjbhaa
