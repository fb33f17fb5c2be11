/- RpcReplies: the beginning of a reply, and whether a message answers another one, are told exactly: true for every input; no condition. -/
import Derived.Test.YtmdnokfmlbjbhaaRows
import Derived.Test.YtmdnokfmlbjbhaaRpD
import Derived.WalkKit
import Derived.ProofKit
import Derived.OpenShut
import Derived.ShutString
import Derived.ChangeOld
import Derived.Below
namespace Go.Proofs.Ytmdnokfmlbjbhaa.rpcReplies
open Go.ChangeShapes Go.WideShapes Go.ChangeAt Go.RowKit
open Go.ChangeMaps (open_string shut_string)
set_option linter.unusedVariables false

theorem own : ownKnob Try.prog.godebug = none := by kernel_rfl
theorem laidOut : laidOutB Try.prog = true := by kernel_rfl

set_option maxRecDepth 100000 in
theorem lifted (os : Os) (started : os.Started) (H : Type) (enc : TypeId × Value → H) :
    ReturnsInHanded {} Try.checked os 3 .any (Rows.rpcRepliesSpec.pre6 enc Try.prog Try.f3 Rows.rpcRepliesRow.domain false) (Rows.rpcRepliesSpec.post enc Try.prog Try.f3 false true false false) := by
  refine returnsInHanded_of_change (C := Try.checked) own started (by kernel_rfl) Try.func3
    (ChangeSpec.witness6 (enc := enc) (C := Try.checked) false ⟨#[], #[.agg #[.int .i64 0, .int .i64 0, .int .i64 0, .bool false, .int .i64 0, .int .i64 0, .int .i64 0, .int .i64 0, .slice none 0 0, .int .i64 0, .int .i64 0, .slice none 0 0, .int .i64 0, .int .i64 0, .int .i64 0, .int .i64 0], .agg #[.int .i64 0, .int .i64 0, .int .i64 0, .bool false, .int .i64 0, .int .i64 0, .int .i64 0, .int .i64 0, .slice none 0 0, .int .i64 0, .int .i64 0, .slice none 0 0, .int .i64 0, .int .i64 0, .int .i64 0, .int .i64 0], .int .i64 0], []⟩ 8 (by kernel_rfl) (by kernel_rfl) (by kernel_rfl) (by kernel_rfl)) ?_
  intro W base args ds gs before hval0 hW hcnd _
  have hval : ∀ (j : Nat) t v, Try.f3.params[j]? = some t → args[j]? = some v → Value.okWide Try.prog W .any base t v := hval0
  have hW' := hW
  obtain ⟨p, q, hA0, hV, rfl, hfz, hnd⟩ := hW
  have hA : DataW.TrodAll enc Try.prog W 0 (fun _ => true) true Try.f3.params.toList args.toList ds p := hA0
  rw [Try.params3] at hA hval
  obtain ⟨v0, vs0, d0, ds0, p0, q0, hargs, rfl, rfl, h0, r0⟩ := trodAll_cons hA
  obtain ⟨v1, vs1, d1, ds1, p1, q1, rfl, rfl, rfl, h1, r1⟩ := trodAll_cons r0
  obtain ⟨v2, vs2, d2, ds2, p2, q2, rfl, rfl, rfl, h2, r2⟩ := trodAll_cons r1
  obtain ⟨rfl, rfl, rfl⟩ := trodAll_nil r2
  obtain rfl : args = #[v0, v1, v2] := by cases args; simp_all
  obtain ⟨rfl, rfl⟩ := trodVars_none hV
  obtain ⟨cs0, rfl, sz0⟩ := okWide_struct Try.underlying29 (hval 0 29 v0 rfl rfl)
  have k0 := h0
  have lt0 : ∀ x ∈ p0, x.block < W.heap.size := by obtain ⟨m, hm⟩ := k0; exact DataW.trod_lt m _ _ _ hm
  obtain ⟨y0, ok0, K0⟩ := TR.opened tr_msg h0
  obtain ⟨A0, c0, B0, e0, rA0, lA0, rB0, lB0, hc0⟩ := msg_cells K0
  obtain rfl : cs0 = #[.int .i64 y0.from_, .int .i64 y0.to_, .int .i64 y0.number, .bool y0.reply, .int .i64 y0.kind, .int .i64 y0.epoch, .int .i64 y0.at_, .int .i64 y0.cell.what, .slice A0 y0.cell.data.length c0, .int .i64 y0.ballot.round, .int .i64 y0.ballot.who, .slice B0 y0.value.length e0, .int .i64 y0.err, .int .i64 y0.tail, .int .i64 y0.low, .int .i64 y0.back] := by
    apply Array.ext'; simpa [Value.cells] using hc0
  obtain ⟨cs1, rfl, sz1⟩ := okWide_struct Try.underlying29 (hval 1 29 v1 rfl rfl)
  have k1 := h1
  have lt1 : ∀ x ∈ p1, x.block < W.heap.size := by obtain ⟨m, hm⟩ := k1; exact DataW.trod_lt m _ _ _ hm
  obtain ⟨y1, ok1, K1⟩ := TR.opened tr_msg h1
  obtain ⟨A1, c1, B1, e1, rA1, lA1, rB1, lB1, hc1⟩ := msg_cells K1
  obtain rfl : cs1 = #[.int .i64 y1.from_, .int .i64 y1.to_, .int .i64 y1.number, .bool y1.reply, .int .i64 y1.kind, .int .i64 y1.epoch, .int .i64 y1.at_, .int .i64 y1.cell.what, .slice A1 y1.cell.data.length c1, .int .i64 y1.ballot.round, .int .i64 y1.ballot.who, .slice B1 y1.value.length e1, .int .i64 y1.err, .int .i64 y1.tail, .int .i64 y1.low, .int .i64 y1.back] := by
    apply Array.ext'; simpa [Value.cells] using hc1
  obtain ⟨n2, rfl⟩ := okWide_int Try.underlying27 (hval 2 27 v2 rfl rfl)
  have k2 := h2
  have lt2 : ∀ x ∈ p2, x.block < W.heap.size := by obtain ⟨m, hm⟩ := k2; exact DataW.trod_lt m _ _ _ hm
  have wf2 : Wf n2 := by obtain ⟨y, hy, ky⟩ := TR.opened (tr_i64 Try.underlying27) h2; obtain rfl : n2 = y := (by simpa [Value.cells, Go.Proofs.YtmdnokfmlbjbhaaW.PrintWords.Kd.int, Go.Proofs.YtmdnokfmlbjbhaaW.PrintWords.Kd.scalar] using ky); exact hy
  clear hA0 hval0
  refine (replies_walk y0.from_ y0.to_ y0.number y0.kind y0.epoch y0.at_ y0.cell.what y0.ballot.round y0.ballot.who y0.err y0.tail y0.low y0.back y0.reply (.slice A0 y0.cell.data.length c0) (.slice B0 y0.value.length e0) y1.from_ y1.to_ y1.number y1.kind y1.epoch y1.at_ y1.cell.what y1.ballot.round y1.ballot.who y1.err y1.tail y1.low y1.back y1.reply (.slice A1 y1.cell.data.length c1) (.slice B1 y1.value.length e1) n2 W).mono fun e W' ⟨he, bel⟩ => ?_
  subst he
  exact ⟨_, rfl, _, _, _, [], _, [], hW', trodAll_mk1 (shut_bool Try.underlying4 _), (trodAll_cons_mk (Below.trod laidOut (by kernel_rfl) (of_decide_eq_true (by kernel_rfl)) k0 bel lt0) (trodAll_cons_mk (Below.trod laidOut (by kernel_rfl) (of_decide_eq_true (by kernel_rfl)) k1 bel lt1) (trodAll_cons_mk (Below.trod laidOut (by kernel_rfl) (of_decide_eq_true (by kernel_rfl)) k2 bel lt2) trodAll_mk0))), rfl, bel.frame _, fun h => by cases h⟩

theorem over : Rows.rpcRepliesRow.holds Try.pinned (OpenSpec.ofChange Rows.rpcRepliesSpec) :=
  OpenClaim.holds_of_wide 3 Try.f3 rfl rfl rfl rfl rfl rfl rfl ⟨rfl, rfl, rfl, rfl, rfl⟩ rfl rfl rfl rfl rfl (by kernel_rfl) Try.func3 (by kernel_rfl)
    (of_decide_eq_true (by kernel_rfl)) (by unfold Func.isWrapper; first | (rw [if_pos (by decide +kernel)]; kernel_rfl) | (rw [if_neg (by decide +kernel)]; exact ⟨rfl, rfl⟩))
    (fun os started H enc _ => lifted os started H enc)

/-- ████ THE STATEMENT ████ -/
theorem proved : Rows.RpcRepliesSaid := over
#print axioms proved
end Go.Proofs.Ytmdnokfmlbjbhaa.rpcReplies
