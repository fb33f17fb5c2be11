/- PlanTold: any first plan, which plans may be, where any address lies, any next plan, and a plan's bytes, are told exactly: true for every input; no condition. -/
import Derived.Test.YtmdnokfmlbjbhaaRows
import Derived.Test.YtmdnokfmlbjbhaaPtF
import Derived.WalkKit
import Derived.ProofKit
import Derived.OpenShut
import Derived.ShutString
import Derived.ChangeOld
import Derived.Below
namespace Go.Proofs.Ytmdnokfmlbjbhaa.planTold
open Go.ChangeShapes Go.WideShapes Go.ChangeAt Go.RowKit
open Go.ChangeMaps (open_string shut_string)
set_option linter.unusedVariables false

theorem own : ownKnob Try.prog.godebug = none := by kernel_rfl
theorem laidOut : laidOutB Try.prog = true := by kernel_rfl

set_option maxRecDepth 100000 in
theorem lifted (os : Os) (started : os.Started) (H : Type) (enc : TypeId × Value → H) :
    ReturnsInHanded {} Try.checked os 11 .any (Rows.planToldSpec.pre6 enc Try.prog Try.f11 Rows.planToldRow.domain false) (Rows.planToldSpec.post enc Try.prog Try.f11 false true false false) := by
  refine returnsInHanded_of_change (C := Try.checked) own started (by kernel_rfl) Try.func11
    (ChangeSpec.witness6 (enc := enc) (C := Try.checked) false ⟨#[], #[.int .i64 0, .int .i64 0, .agg #[.int .i64 0, .slice none 0 0], .int .i64 0, .slice none 0 0], []⟩ 8 (by kernel_rfl) (by kernel_rfl) (by kernel_rfl) (by kernel_rfl)) ?_
  intro W base args ds gs before hval0 hW hcnd _
  have hval : ∀ (j : Nat) t v, Try.f11.params[j]? = some t → args[j]? = some v → Value.okWide Try.prog W .any base t v := hval0
  have hW' := hW
  obtain ⟨p, q, hA0, hV, rfl, hfz, hnd⟩ := hW
  have hA : DataW.TrodAll enc Try.prog W 0 (fun _ => true) true Try.f11.params.toList args.toList ds p := hA0
  rw [Try.params11] at hA hval
  obtain ⟨v0, vs0, d0, ds0, p0, q0, hargs, rfl, rfl, h0, r0⟩ := trodAll_cons hA
  obtain ⟨v1, vs1, d1, ds1, p1, q1, rfl, rfl, rfl, h1, r1⟩ := trodAll_cons r0
  obtain ⟨v2, vs2, d2, ds2, p2, q2, rfl, rfl, rfl, h2, r2⟩ := trodAll_cons r1
  obtain ⟨v3, vs3, d3, ds3, p3, q3, rfl, rfl, rfl, h3, r3⟩ := trodAll_cons r2
  obtain ⟨v4, vs4, d4, ds4, p4, q4, rfl, rfl, rfl, h4, r4⟩ := trodAll_cons r3
  obtain ⟨rfl, rfl, rfl⟩ := trodAll_nil r4
  obtain rfl : args = #[v0, v1, v2, v3, v4] := by cases args; simp_all
  obtain ⟨rfl, rfl⟩ := trodVars_none hV
  obtain ⟨n0, rfl⟩ := okWide_int Try.underlying3 (hval 0 3 v0 rfl rfl)
  have k0 := h0
  have lt0 : ∀ x ∈ p0, x.block < W.heap.size := by obtain ⟨m, hm⟩ := k0; exact DataW.trod_lt m _ _ _ hm
  have wf0 : Wf n0 := by obtain ⟨y, hy, ky⟩ := TR.opened (tr_i64 Try.underlying3) h0; obtain rfl : n0 = y := (by simpa [Value.cells, Go.Proofs.YtmdnokfmlbjbhaaW.PrintWords.Kd.int, Go.Proofs.YtmdnokfmlbjbhaaW.PrintWords.Kd.scalar] using ky); exact hy
  obtain ⟨n1, rfl⟩ := okWide_int Try.underlying3 (hval 1 3 v1 rfl rfl)
  have k1 := h1
  have lt1 : ∀ x ∈ p1, x.block < W.heap.size := by obtain ⟨m, hm⟩ := k1; exact DataW.trod_lt m _ _ _ hm
  have wf1 : Wf n1 := by obtain ⟨y, hy, ky⟩ := TR.opened (tr_i64 Try.underlying3) h1; obtain rfl : n1 = y := (by simpa [Value.cells, Go.Proofs.YtmdnokfmlbjbhaaW.PrintWords.Kd.int, Go.Proofs.YtmdnokfmlbjbhaaW.PrintWords.Kd.scalar] using ky); exact hy
  obtain ⟨cs2, rfl, sz2⟩ := okWide_struct Try.underlying55 (hval 2 55 v2 rfl rfl)
  have k2 := h2
  have lt2 : ∀ x ∈ p2, x.block < W.heap.size := by obtain ⟨m, hm⟩ := k2; exact DataW.trod_lt m _ _ _ hm
  obtain ⟨y2, ok2, K2⟩ := TR.opened tr_plan h2
  obtain ⟨A2, c2, rA2, lA2, hc2⟩ := plan_cells K2
  obtain rfl : cs2 = #[.int .i64 y2.1, .slice A2 y2.2.length c2] := by
    apply Array.ext'; simpa [Value.cells] using hc2
  obtain ⟨n3, rfl⟩ := okWide_int Try.underlying3 (hval 3 3 v3 rfl rfl)
  have k3 := h3
  have lt3 : ∀ x ∈ p3, x.block < W.heap.size := by obtain ⟨m, hm⟩ := k3; exact DataW.trod_lt m _ _ _ hm
  have wf3 : Wf n3 := by obtain ⟨y, hy, ky⟩ := TR.opened (tr_i64 Try.underlying3) h3; obtain rfl : n3 = y := (by simpa [Value.cells, Go.Proofs.YtmdnokfmlbjbhaaW.PrintWords.Kd.int, Go.Proofs.YtmdnokfmlbjbhaaW.PrintWords.Kd.scalar] using ky); exact hy
  obtain ⟨a4, len4, cap4, rfl⟩ := okWide_slice Try.underlying58 (hval 4 58 v4 rfl rfl)
  have k4 := h4
  have lt4 : ∀ x ∈ p4, x.block < W.heap.size := by obtain ⟨m, hm⟩ := k4; exact DataW.trod_lt m _ _ _ hm
  obtain ⟨x4, b4, A4, c4, he4, l4, rr4⟩ := TR.opened tr_ints h4
  obtain ⟨rfl, rfl, rfl⟩ : a4 = A4 ∧ len4 = x4.length ∧ cap4 = c4 := by simpa [Value.cells] using he4
  clear hA0 hval0
  refine (told_walk n0 n1 y2.1 A2 c2 y2.2 n3 a4 cap4 x4 W rA2 lA2 rr4 l4 wf0 wf1 ok2 wf3).mono fun e W' ⟨he, bel⟩ => ?_
  subst he
  exact ⟨_, rfl, _, _, _, [], _, [], hW', trodAll_mk1 (shut_bool Try.underlying4 _), (trodAll_cons_mk (Below.trod laidOut (by kernel_rfl) (of_decide_eq_true (by kernel_rfl)) k0 bel lt0) (trodAll_cons_mk (Below.trod laidOut (by kernel_rfl) (of_decide_eq_true (by kernel_rfl)) k1 bel lt1) (trodAll_cons_mk (Below.trod laidOut (by kernel_rfl) (of_decide_eq_true (by kernel_rfl)) k2 bel lt2) (trodAll_cons_mk (Below.trod laidOut (by kernel_rfl) (of_decide_eq_true (by kernel_rfl)) k3 bel lt3) (trodAll_cons_mk (Below.trod laidOut (by kernel_rfl) (of_decide_eq_true (by kernel_rfl)) k4 bel lt4) trodAll_mk0))))), rfl, bel.frame _, fun h => by cases h⟩

theorem over : Rows.planToldRow.holds Try.pinned (OpenSpec.ofChange Rows.planToldSpec) :=
  OpenClaim.holds_of_wide 11 Try.f11 rfl rfl rfl rfl rfl rfl rfl ⟨rfl, rfl, rfl, rfl, rfl⟩ rfl rfl rfl rfl rfl (by kernel_rfl) Try.func11 (by kernel_rfl)
    (of_decide_eq_true (by kernel_rfl)) (by unfold Func.isWrapper; first | (rw [if_pos (by decide +kernel)]; kernel_rfl) | (rw [if_neg (by decide +kernel)]; exact ⟨rfl, rfl⟩))
    (fun os started H enc _ => lifted os started H enc)

/-- ████ THE STATEMENT ████ -/
theorem proved : Rows.PlanToldSaid := over
#print axioms proved
end Go.Proofs.Ytmdnokfmlbjbhaa.planTold
