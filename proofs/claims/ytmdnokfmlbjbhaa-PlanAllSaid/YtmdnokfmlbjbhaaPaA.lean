/- PlanAll: the plain law: a first plan's chains in turn are all units, each once. -/
import Derived.Test.YtmdnokfmlbjbhaaPlI
import Derived.Test.YtmdnokfmlbjbhaaPPlanAllx2
namespace Go.Proofs.Ytmdnokfmlbjbhaa
open Go.RowKit Go.Proofs.YtmdnokfmlbjbhaaW.PrintWords
set_option linter.unusedVariables false
set_option linter.unusedSimpArgs false

/-- the chain at an address whose rest is r -/
def chainAt (u c r : Nat) : List Int := (chainsOf u c).getD (r % c) []
/-- the units of i addresses one behind the other -/
def allOf (u c r i : Nat) : List Int := ((List.range i).map fun j => chainAt u c (r + j)).flatten
theorem allOf_succ (u c r i : Nat) : allOf u c r (i + 1) = allOf u c r i ++ chainAt u c (r + i) := by
  unfold allOf; rw [List.range_succ, List.map_append, List.flatten_append]; simp
theorem all_fin : ∀ u : Fin 8, ∀ c : Fin 8, ∀ r : Fin 8, 1 ≤ u.val → 1 ≤ c.val → c.val ≤ u.val → r.val < c.val →
    (allOf u.val c.val r.val c.val).Nodup ∧ (∀ x ∈ allOf u.val c.val r.val c.val, 0 ≤ x ∧ x < (u.val : Int)) ∧ (allOf u.val c.val r.val c.val).length = u.val ∧
    (chainsOf u.val c.val).map (fun l => l.filter (fun x => decide (x ∈ allOf u.val c.val r.val c.val))) = chainsOf u.val c.val ∧
    PPlanAll.tidelineref11_SameInts.f 20 (chainAt u.val c.val r.val) (chainAt u.val c.val r.val) = some true := by
  decide +kernel
theorem same_fin : ∀ u : Fin 8, ∀ c : Fin 8, 1 ≤ u.val → 1 ≤ c.val → c.val ≤ u.val →
    PPlanAll.tidelineref11_Same.f 20 0 (chainsOf u.val c.val) 0 (chainsOf u.val c.val) = some true ∧ ∀ x ∈ chainsOf u.val c.val, x ≠ [] := by
  decide +kernel
theorem all_ok {u c r : Nat} (h : okUC u c) (hr : r < c) : (allOf u c r c).Nodup ∧ (∀ x ∈ allOf u c r c, 0 ≤ x ∧ x < (u : Int)) ∧ (allOf u c r c).length = u ∧ (chainsOf u c).map (stay (allOf u c r c)) = chainsOf u c ∧
    PPlanAll.tidelineref11_SameInts.f 20 (chainAt u c r) (chainAt u c r) = some true := by
  have h1 := h.1; have h2 := h.2.1; have h3 := h.2.2.1; have h4 := h.2.2.2
  exact all_fin ⟨u, by omega⟩ ⟨c, by omega⟩ ⟨r, by omega⟩ (by simp; omega) (by simp; omega) (by simp; omega) hr
theorem same_ok {u c : Nat} (h : okUC u c) : PPlanAll.tidelineref11_Same.f 20 0 (chainsOf u c) 0 (chainsOf u c) = some true ∧ ∀ x ∈ chainsOf u c, x ≠ [] := by
  have h1 := h.1; have h2 := h.2.1; have h3 := h.2.2.1; have h4 := h.2.2.2
  exact same_fin ⟨u, by omega⟩ ⟨c, by omega⟩ (by simp; omega) (by simp; omega) (by simp; omega)
theorem place_first {u c : Nat} (h : okUC u c) (n i : Nat) : placeOf 0 (chainsOf u c) ((n : Int) + (i : Int)) = chainAt u c (n % c + i) := by
  obtain ⟨hp, hl⟩ := (first_ok h).2
  unfold placeOf chainAt
  rw [if_pos ⟨hp, by omega⟩, hl]
  congr 1
  have : ((n : Int) + (i : Int)) % (c : Int) = (((n + i) % c : Nat) : Int) := by rw [Int.natCast_emod, Int.natCast_add]
  rw [this, Int.toNat_natCast, Nat.mod_add_mod]
theorem chainAt_mod (u c r : Nat) : chainAt u c (r + c) = chainAt u c r := by unfold chainAt; rw [Nat.add_mod_right]
/-- what has not come yet is not among what has -/
theorem all_new {u c r i j : Nat} (h : okUC u c) (hr : r < c) (hi : i < c) (hj : j < (chainAt u c (r + i)).length) :
    rd (chainAt u c (r + i)) j ∉ allOf u c r i ++ (chainAt u c (r + i)).take j ∧ 0 ≤ rd (chainAt u c (r + i)) j ∧ rd (chainAt u c (r + i)) j < (u : Int) ∧ (allOf u c r i ++ (chainAt u c (r + i)).take j).length < u := by
  obtain ⟨hn, hm, hl, -, -⟩ := all_ok h hr
  have hsplit : ∃ tail, allOf u c r c = (allOf u c r i ++ (chainAt u c (r + i)).take j) ++ rd (chainAt u c (r + i)) j :: tail := by
    have h1 : ∀ k, i + 1 ≤ k → ∃ t, allOf u c r k = allOf u c r (i + 1) ++ t := by
      intro k hk
      induction k with
      | zero => omega
      | succ k ih =>
        rcases Nat.lt_or_ge k (i + 1) with h' | h'
        · have : k = i := by omega
          subst this; exact ⟨[], by simp⟩
        · obtain ⟨t, ht⟩ := ih h'
          exact ⟨t ++ chainAt u c (r + k), by rw [allOf_succ, ht, List.append_assoc]⟩
    obtain ⟨t, ht⟩ := h1 c hi
    refine ⟨(chainAt u c (r + i)).drop (j + 1) ++ t, ?_⟩
    rw [ht, allOf_succ]
    conv => lhs; rw [← List.take_append_drop (j + 1) (chainAt u c (r + i)), take_succ_rd _ j hj]
    simp
  obtain ⟨tail, ht⟩ := hsplit
  refine ⟨fun hin => ?_, ?_, ?_, ?_⟩
  · rw [ht, List.nodup_append] at hn
    exact hn.2.2 _ hin _ (List.mem_cons_self ..) rfl
  · exact (hm _ (by rw [ht]; simp)).1
  · exact (hm _ (by rw [ht]; simp)).2
  · have := congrArg List.length ht
    rw [hl, List.length_append, List.length_cons] at this
    omega
theorem next_all {u c r : Nat} (h : okUC u c) (hr : r < c) : nextOf 0 (chainsOf u c) (allOf u c r c) = (1, chainsOf u c, 0) := by
  obtain ⟨hp, hl⟩ := (first_ok h).2
  obtain ⟨-, -, -, hs, -⟩ := all_ok h hr
  obtain ⟨-, hne⟩ := same_ok h
  unfold nextOf
  rw [if_neg (by rintro (h1 | h1); exact h1 hp; cases h1), if_neg, hs]
  · rfl
  · rintro ⟨x, hx, e⟩
    have hmap : ∀ y ∈ chainsOf u c, stay (allOf u c r c) y = y := by
      have := List.map_inj_left.1 (show (chainsOf u c).map (stay (allOf u c r c)) = (chainsOf u c).map id from by rw [hs, List.map_id])
      exact this
    exact hne x hx ((hmap x hx).symm.trans e)
end Go.Proofs.Ytmdnokfmlbjbhaa
