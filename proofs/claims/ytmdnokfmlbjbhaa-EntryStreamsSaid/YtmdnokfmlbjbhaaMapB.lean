/- A map from ints to ints of the call's own: look-up, store. -/
import Derived.Test.YtmdnokfmlbjbhaaMapA
import Derived.Maps.OwnIn
namespace Go.Proofs.Ytmdnokfmlbjbhaa
open Go.RowKit Go.Maps Go.Proofs.YtmdnokfmlbjbhaaW.PrintWords
set_option linter.unusedVariables false
set_option linter.unusedSimpArgs false

def litI (v : Int) : DataW Unit := .lit (.int .i64 v)
def putF (m : DataW Unit) (p : Int × Int) : DataW Unit := m.put (i64L p.1) (litI p.2)
def putD (L : List (Int × Int)) : DataW Unit := L.foldl putF (.map [])
def lastF (k : Int) (o : Option Int) (p : Int × Int) : Option Int := if p.1 = k then some p.2 else o
/-- what was put last under a key -/
def lastOf (L : List (Int × Int)) (k : Int) : Option Int := L.foldl (lastF k) none
theorem lastOf_snoc (L : List (Int × Int)) (p : Int × Int) (k : Int) : lastOf (L ++ [p]) k = if p.1 = k then some p.2 else lastOf L k := by
  unfold lastOf; rw [List.foldl_append]; rfl
theorem putD_snoc (L : List (Int × Int)) (p : Int × Int) : putD (L ++ [p]) = (putD L).put (i64L p.1) (litI p.2) := by
  unfold putD; rw [List.foldl_append]; rfl
theorem at_fold (k : Int) (z : DataW Unit) : ∀ (L : List (Int × Int)) (m : DataW Unit) (o : Option Int), IsMap m → m.atKey (i64L k) z = (o.map litI).getD z → has m (i64L k) = o.isSome →
    (L.foldl putF m).atKey (i64L k) z = ((L.foldl (lastF k) o).map litI).getD z ∧ has (L.foldl putF m) (i64L k) = (L.foldl (lastF k) o).isSome
  | [], m, o, hm, h1, h2 => ⟨h1, h2⟩
  | p :: L, m, o, hm, h1, h2 => by
    rw [List.foldl_cons, List.foldl_cons]
    refine at_fold k z L _ _ (hm.put _ _) ?_ ?_
    · unfold putF lastF
      by_cases h : p.1 = k
      · rw [if_pos h, h, atKey_put_same hm (isKey k)]; rfl
      · rw [if_neg h, atKey_put_other (fun e => h (i64L_inj e).symm), h1]
    · unfold putF lastF
      by_cases h : p.1 = k
      · rw [if_pos h, h, has_put_same hm (isKey k)]; rfl
      · rw [if_neg h, has_put_other (fun e => h (i64L_inj e).symm), h2]
theorem at_putD (L : List (Int × Int)) (k : Int) (z : DataW Unit) : (putD L).atKey (i64L k) z = ((lastOf L k).map litI).getD z ∧ has (putD L) (i64L k) = (lastOf L k).isSome :=
  at_fold k z L (.map []) none isMap_empty rfl rfl

/-- the map at block b is what came of these puts -/
def IMap (w : World) (b : Nat) (L : List (Int × Int)) : Prop := w.ownsMap Try.prog 3 (plainElem (H := Unit) Try.prog 3) b L.length (putD L)
theorem IMap.made (w : World) : IMap (w.alloc (.map #[] 0)) w.heap.size [] := World.ownsMap_made w _ _ _
theorem IMap.kept {w w' : World} {b : Nat} {L : List (Int × Int)} {row : Option Nat} (h : IMap w b L) (hg : w.grownBy w' row) (hne : some b ≠ row) : IMap w' b L := World.ownsMap.kept h hg hne
theorem IMap.lt {w : World} {b : Nat} {L : List (Int × Int)} (h : IMap w b L) : b < w.heap.size := World.ownsMap.lt h
theorem IMap.moved {w w' : World} {b : Nat} {L : List (Int × Int)} (h : IMap w b L) (hb : w'.heap[b]? = w.heap[b]?) : IMap w' b L := by
  obtain ⟨es, clock, h1, h2⟩ := h
  exact ⟨es, clock, hb.trans h1, h2⟩
set_option maxRecDepth 100000 in
/-- v, ok := m[k] -/
theorem IMap.look {w : World} {b : Nat} {L : List (Int × Int)} (h : IMap w b L) (x : Int) (hx : -9223372036854775808 ≤ x ∧ x ≤ 9223372036854775807) :
    (Instr.lookup 97 (.map (some b)) (.int .i64 x) true).run Try.prog w = .ok (.tuple #[.int .i64 ((lastOf L x).getD 0), .bool (lastOf L x).isSome]) w := by
  obtain ⟨v, ps, hrun, hv⟩ := World.ownsMap.look_ok h keys3 Try.underlying97 (z := .int .i64 0) (zd := litI 0) (zp := []) (by kernel_rfl) (plainElem_int Try.underlying3 (by decide)) (keyOf_int_mk Try.underlying3 (i64L_wf hx))
  obtain ⟨c, rfl, hc, hw⟩ := plainElem_int_inv Try.underlying3 hv
  have h1 := at_putD L x (litI 0)
  have h2 : (putD L).atKey (i64L x) (litI 0) = .lit (.int .i64 c) := congrArg Prod.fst hc
  rw [h1.1] at h2
  have h3 : c = (lastOf L x).getD 0 := by
    cases hl : lastOf L x with
    | none => rw [hl] at h2; unfold litI at h2; simp at h2; exact h2.symm
    | some v => rw [hl] at h2; unfold litI at h2; simp at h2; exact h2.symm
  have h4 : has (putD L) (Lit.int .i64 x) = (lastOf L x).isSome := h1.2
  rw [hrun, h4, h3]
set_option maxRecDepth 100000 in
/-- m[k] = v -/
theorem IMap.store {w : World} {b : Nat} {L : List (Int × Int)} (h : IMap w b L) (x y : Int) (hx : -9223372036854775808 ≤ x ∧ x ≤ 9223372036854775807) (hy : -9223372036854775808 ≤ y ∧ y ≤ 9223372036854775807) (hn : L.length < 9223372036854775807) :
    ∃ w', (Instr.mapUpdate 97 (.map (some b)) (.int .i64 x) (.int .i64 y)).run Try.prog w = .ok () w' ∧ IMap w' b (L ++ [(x, y)]) ∧ w.grownBy w' (some b) := by
  obtain ⟨w', h1, h2, h3⟩ := World.ownsMap.update h keys3 Try.underlying97 (by unfold maxLen; omega) (keyOf_int_mk Try.underlying3 (i64L_wf hx)) (plainElem_int Try.underlying3 (i64L_wf hy))
  refine ⟨w', h1, ?_, h3⟩
  unfold IMap
  rw [putD_snoc, List.length_append]
  exact h2
end Go.Proofs.Ytmdnokfmlbjbhaa
