/- PlanShrinks: the plain law: the units that stay are found, in their order. -/
import Derived.Test.YtmdnokfmlbjbhaaPlH
namespace Go.Proofs.Ytmdnokfmlbjbhaa
open Go.RowKit Go.Proofs.YtmdnokfmlbjbhaaW.PrintWords
set_option linter.unusedVariables false
set_option linter.unusedSimpArgs false

theorem stay_split (l a : List Int) (j : Nat) : stay l a = stay l (a.take j) ++ stay l (a.drop j) := by
  unfold stay; rw [← List.filter_append, List.take_append_drop]
theorem greedy_hit {l a : List Int} {j k : Nat} (hj : j < a.length) (h : (stay l (a.take j)).length ≤ k) : (stay l (a.take (j + 1))).length ≤ k + 1 := by
  rw [stay_snoc l a j hj, List.length_append]
  split <;> simp <;> omega
theorem greedy_miss {l a : List Int} {j k : Nat} (hj : j < a.length) (h : (stay l (a.take j)).length ≤ k) (hn : ¬ (k < (stay l a).length ∧ rd (stay l a) k = rd a j)) : (stay l (a.take (j + 1))).length ≤ k := by
  have hs := stay_snoc l a j hj
  by_cases hm : rd a j ∈ l
  · rw [if_pos hm] at hs
    rcases Nat.lt_or_ge (stay l (a.take j)).length k with hlt | hge
    · rw [hs, List.length_append]; simp; omega
    · have hk : k = (stay l (a.take j)).length := by omega
      exfalso
      apply hn
      have hb := stay_split l a (j + 1)
      rw [hs] at hb
      rw [hb]
      refine ⟨by rw [hk]; simp, ?_⟩
      rw [rd_nat, List.getD_eq_getElem?_getD, List.append_assoc, List.getElem?_append_right (by omega), hk, Nat.sub_self]
      rfl
  · rw [if_neg hm, List.append_nil] at hs
    rw [hs]; exact h
theorem greedy_end {l a : List Int} {k : Nat} (h : (stay l (a.take a.length)).length ≤ k) (h1 : k ≤ (stay l a).length) : k = (stay l a).length := by
  rw [List.take_length] at h; omega
theorem placeOf_map {e e' at_ : Int} {cs : List (List Int)} {l : List Int} (h : PR e cs) (h' : PR e' (cs.map (stay l))) (h0 : 0 ≤ at_) : placeOf e' (cs.map (stay l)) at_ = stay l (placeOf e cs at_) := by
  unfold placeOf
  rw [if_pos ⟨h', h0⟩, if_pos ⟨h, h0⟩, List.length_map, List.getD_eq_getElem?_getD, List.getD_eq_getElem?_getD, List.getElem?_map]
  have hl : 0 < cs.length := h.1.2.2.1
  cases hx : cs[(at_ % (cs.length : Int)).toNat]? with
  | none => rfl
  | some x => rfl
theorem flatten_stay (l : List Int) (cs : List (List Int)) : (cs.map (stay l)).flatten = stay l cs.flatten := by
  unfold stay
  induction cs with
  | nil => rfl
  | cons c cs ih => rw [List.map_cons, List.flatten_cons, List.flatten_cons, List.filter_append, ih]
/-- the next plan may be -/
theorem PR_next {e : Int} {cs : List (List Int)} {l : List Int} (h : PR e cs) (he : e ≠ 2147483647) (hs : ∀ c ∈ cs, stay l c ≠ []) : PR (e + 1) (cs.map (stay l)) := by
  obtain ⟨⟨h1, h2, h3, h4⟩, h5, h6, h7⟩ := h
  refine ⟨⟨by omega, by omega, by rw [List.length_map]; exact h3, by rw [List.length_map]; exact h4⟩, fun c hc => ?_, fun n hn => ?_, ?_⟩
  · obtain ⟨c', hc', rfl⟩ := List.mem_map.1 hc
    exact hs c' hc'
  · rw [flatten_stay] at hn
    exact h6 n (List.mem_filter.1 hn).1
  · rw [flatten_stay]
    exact h7.filter _
end Go.Proofs.Ytmdnokfmlbjbhaa
