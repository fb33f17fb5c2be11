/- A plan as an argument. -/
import Derived.Test.YtmdnokfmlbjbhaaPtE
namespace Go.Proofs.Ytmdnokfmlbjbhaa
open Go.RowKit Go.Proofs.YtmdnokfmlbjbhaaW.PrintWords
noncomputable def KPlan : Kd (Int × List (List Int)) := Kd.pair (Kd.int .i64) (Kd.slice 58 (Kd.slice 3 (Kd.int .i64)))
theorem tr_plan : TR KPlan (fun p => Wf p.1) 55 :=
  (TR.struct Try.underlying55 (.cons (tr_i64 Try.underlying3) (by kernel_rfl) rfl (.one tr_intss (by kernel_rfl) rfl (by kernel_rfl)))).imp fun _ h => h.1
theorem plan_cells {w : World} {p : Int × List (List Int)} {cs : List Value} (h : KPlan.K w p cs) : ∃ A c, RL w A p.2 ∧ p.2.length ≤ c ∧ cs = [.int .i64 p.1, .slice A p.2.length c] := by
  obtain ⟨_, _, rfl, rfl, A, c, rfl, h1, h2⟩ := h
  exact ⟨A, c, h2, h1, rfl⟩
end Go.Proofs.Ytmdnokfmlbjbhaa
