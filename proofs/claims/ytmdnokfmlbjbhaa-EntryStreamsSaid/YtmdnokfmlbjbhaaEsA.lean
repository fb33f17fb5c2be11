/- Streams of entries: which entries they come to; the plain law. -/
import Derived.Test.YtmdnokfmlbjbhaaEnS
import Derived.Test.YtmdnokfmlbjbhaaMapB
namespace Go.Proofs.Ytmdnokfmlbjbhaa
open Go.RowKit Go.Shelf Go.Maps Go.Proofs.YtmdnokfmlbjbhaaW.PrintWords
set_option linter.unusedVariables false
set_option linter.unusedSimpArgs false

/-- what was put into the map behind k streams -/
def putsOf (ss : List Int) : Nat → List (Int × Int)
  | 0 => []
  | k + 1 => putsOf ss k ++ [(ss.getD k 0, (k : Int))]
/-- where the one ahead stands -/
def backOf (ss : List Int) (k : Nat) : Int := (lastOf (putsOf ss k) (ss.getD k 0)).getD (-1)
def entOf (ss : List Int) (k : Nat) : Ev0 := ⟨(k : Int), 1, ss.getD k 0, backOf ss k⟩
/-- the entries of a stream, the last first -/
def entsOf (ss : List Int) (q : Int) : Nat → List Ev0
  | 0 => []
  | k + 1 => if ss.getD k 0 = q then entOf ss k :: entsOf ss q k else entsOf ss q k
def wantOf (ss : List Int) (q : Int) (k : Nat) : List Int := (entsOf ss q k).map (·.at_)
theorem wantOf_yes {ss : List Int} {q : Int} {k : Nat} (h : ss.getD k 0 = q) : wantOf ss q (k + 1) = (k : Int) :: wantOf ss q k := by
  unfold wantOf; rw [entsOf, if_pos h]; rfl
theorem wantOf_no {ss : List Int} {q : Int} {k : Nat} (h : ¬ ss.getD k 0 = q) : wantOf ss q (k + 1) = wantOf ss q k := by
  unfold wantOf; rw [entsOf, if_neg h]
theorem putsOf_len (ss : List Int) : ∀ k, (putsOf ss k).length = k
  | 0 => rfl
  | k + 1 => by rw [putsOf, List.length_append, putsOf_len ss k]; rfl
theorem lastOf_bd (ss : List Int) (q : Int) : ∀ k v, lastOf (putsOf ss k) q = some v → 0 ≤ v ∧ v < (k : Int)
  | 0, v, h => by simp [putsOf, lastOf] at h
  | k + 1, v, h => by
    rw [putsOf, lastOf_snoc] at h
    split at h
    · injection h with h; omega
    · have := lastOf_bd ss q k v h; omega
theorem backOf_bd (ss : List Int) (k : Nat) : -1 ≤ backOf ss k ∧ backOf ss k < (k : Int) := by
  unfold backOf
  cases h : lastOf (putsOf ss k) (ss.getD k 0) with
  | none => simp only [Option.getD_none]; omega
  | some v => have := lastOf_bd ss _ k v h; simp only [Option.getD_some]; omega
theorem wantOf_len (ss : List Int) (q : Int) : ∀ k, (entsOf ss q k).length ≤ k
  | 0 => Nat.le_refl _
  | k + 1 => by
    have := wantOf_len ss q k
    rw [entsOf]; split
    · rw [List.length_cons]; omega
    · omega
/-- the entries hang together -/
theorem chain_ents (ss : List Int) (q : Int) : ∀ k, Chain ((lastOf (putsOf ss k) q).getD (-1)) (entsOf ss q k)
  | 0 => by show (-1 : Int) < 0; decide
  | k + 1 => by
    rw [putsOf, lastOf_snoc, entsOf]
    by_cases h : ss.getD k 0 = q
    · rw [if_pos h, if_pos h]
      have hb := backOf_bd ss k
      refine ⟨rfl, by simp, hb.2, ?_⟩
      have := chain_ents ss q k
      rw [← h] at this ⊢
      exact this
    · rw [if_neg h, if_neg h]
      exact chain_ents ss q k
/-- each stands where it says -/
theorem ents_at (ss : List Int) (q : Int) : ∀ k x, x ∈ entsOf ss q k → ∃ i, i < k ∧ x = entOf ss i ∧ x.stream = q
  | 0, x, h => by cases h
  | k + 1, x, h => by
    rw [entsOf] at h
    split at h
    · rename_i hq
      rcases List.mem_cons.1 h with rfl | h
      · exact ⟨k, by omega, rfl, hq⟩
      · obtain ⟨i, h1, h2⟩ := ents_at ss q k x h; exact ⟨i, by omega, h2⟩
    · obtain ⟨i, h1, h2⟩ := ents_at ss q k x h; exact ⟨i, by omega, h2⟩
/-- the log's cells -/
def logOf (ss : List Int) : Nat → List Value
  | 0 => []
  | k + 1 => logOf ss k ++ (ev0Cells (entOf ss k)).toList
theorem logOf_len (ss : List Int) : ∀ k, (logOf ss k).length = 7 * k
  | 0 => rfl
  | k + 1 => by rw [logOf, List.length_append, logOf_len ss k]; simp [ev0Cells]; omega
theorem logOf_at (ss : List Int) (i j : Nat) (hj : j < 7) : ∀ k, i < k → (logOf ss k)[7 * i + j]? = (ev0Cells (entOf ss i))[j]?
  | 0, h => by omega
  | k + 1, h => by
    rw [logOf]
    by_cases h1 : i < k
    · rw [List.getElem?_append_left (by rw [logOf_len]; omega)]
      exact logOf_at ss i j hj k h1
    · obtain rfl : i = k := by omega
      rw [List.getElem?_append_right (by rw [logOf_len]; omega), logOf_len, show 7 * i + j - 7 * i = j from by omega]
      simp
end Go.Proofs.Ytmdnokfmlbjbhaa
