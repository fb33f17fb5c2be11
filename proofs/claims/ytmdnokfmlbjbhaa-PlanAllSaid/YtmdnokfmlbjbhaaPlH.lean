/- plan.First: what it computes; law11's example. -/
import Derived.Test.YtmdnokfmlbjbhaaPlG
import Derived.Test.YtmdnokfmlbjbhaaPPlanShrinksx1
namespace Go.Proofs.Ytmdnokfmlbjbhaa
open Go.RowKit Go.Proofs.YtmdnokfmlbjbhaaW.PrintWords
open Go.Proofs.Ytmdnokfmlbjbhaa.PPlanShrinks
set_option linter.unusedVariables false
set_option linter.unusedSimpArgs false

def chainsOf (u c : Nat) : List (List Int) := (List.range c).map fun i => ((List.range u).filter fun n => n % c = i).map Int.ofNat
def okUC (u c : Int) : Prop := 1 ≤ u ∧ u ≤ 7 ∧ 1 ≤ c ∧ c ≤ u
theorem first_fin : ∀ u : Fin 8, ∀ c : Fin 8, 1 ≤ u.val → 1 ≤ c.val → c.val ≤ u.val → plan_First.f 20 (u.val : Int) (c.val : Int) = some (0, chainsOf u.val c.val, 0) ∧ PR 0 (chainsOf u.val c.val) ∧ (chainsOf u.val c.val).length = c.val := by
  decide +kernel
theorem first_ok {u c : Nat} (h : okUC u c) : plan_First.f 20 (u : Int) (c : Int) = some (0, chainsOf u c, 0) ∧ PR 0 (chainsOf u c) ∧ (chainsOf u c).length = c :=
  first_fin ⟨u, by have := h.2.1; omega⟩ ⟨c, by have := h.2.1; have := h.2.2.2; omega⟩ (by have := h.1; simp; omega) (by have := h.2.2.1; simp; omega) (by have := h.2.2.2; simp; omega)
theorem first_no {u c : Int} (h : ¬ okUC u c) : plan_First.f 20 u c = some (0, [], 1) := by
  unfold plan_First.f
  by_cases h1 : u < 1
  · rw [if_pos h1]; rfl
  · rw [if_neg h1]
    by_cases h2 : u > 7
    · rw [if_pos h2]; rfl
    · rw [if_neg h2]
      by_cases h3 : c < 1
      · rw [if_pos h3]; rfl
      · rw [if_neg h3]
        have : decide (c > u) = true := decide_eq_true (by unfold okUC at h; omega)
        rw [this]; rfl
theorem speaks11_ok : tidelinelaw11_speaks.f 20 = some true := by decide +kernel
theorem speaks11_calls (w : World) : Calls Try.prog 39 #[] w fun e w' => e = .returned (.bool true) ∧ Below w.heap.size w w' :=
  tidelinelaw11_speaks.calls 20 true w speaks11_ok
theorem first_calls {u c : Int} {cs : List (List Int)} {k : Int} (h : plan_First.f 20 u c = some (0, cs, k)) (w : World) :
    Calls Try.prog 40 #[.int .i64 u, .int .i64 c] w fun e w' => ∃ L cap, e = .returned (.tuple #[.agg #[.int .i64 0, .slice L cs.length cap], .int .i64 k]) ∧ RL w' L cs ∧ cs.length ≤ cap ∧ Below w.heap.size w w' :=
  (plan_First.calls 20 u c 0 cs k w h).mono fun _ _ ⟨v, he, hs, hb⟩ => by
    obtain ⟨L, cap, rfl, hc, hr⟩ := Kd.S_reads hs
    exact ⟨L, cap, he, hr, hc, hb⟩
end Go.Proofs.Ytmdnokfmlbjbhaa
