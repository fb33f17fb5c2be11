/- Messages: replies, answers, and equal ones. -/
import Derived.Test.YtmdnokfmlbjbhaaM1
import Derived.Handy
namespace Go.Proofs.Ytmdnokfmlbjbhaa
open Go.RowKit Go.Proofs.YtmdnokfmlbjbhaaW.PrintWords
set_option linter.unusedVariables false
set_option linter.unusedSimpArgs false


set_option maxHeartbeats 400000 in
set_option maxRecDepth 100000 in
theorem reply_calls (mf mt mn mk me ma mw mo mh mx ml ms mb : Int) (mr : Bool) (mD mV : Value) (er : Int) (w : World) :
    Calls Try.prog 21 #[.agg #[.int .i64 mf, .int .i64 mt, .int .i64 mn, .bool mr, .int .i64 mk, .int .i64 me, .int .i64 ma, .int .i64 mw, mD, .int .i64 mo, .int .i64 mh, mV, .int .i64 mx, .int .i64 ml, .int .i64 ms, .int .i64 mb], .int .i64 er] w fun ex w' => ex = .returned (.agg #[.int .i64 mt, .int .i64 mf, .int .i64 mn, .bool true, .int .i64 mk, .int .i64 me, .int .i64 ma, .int .i64 0, (.slice none 0 0), .int .i64 0, .int .i64 0, (.slice none 0 0), .int .i64 er, .int .i64 0, .int .i64 0, .int .i64 0]) ∧ Below w.heap.size w w' := by
  go_enter Try.func21, Try.ntmps21
  go_wp2
  go_returns
  exact ⟨by simp, by go_grown⟩

set_option maxHeartbeats 400000 in
set_option maxRecDepth 100000 in
theorem answers_calls (pf pt pn pk pe pa pw po ph px pl ps pb : Int) (pr : Bool) (pD pV : Value) (qf qt qn qk qe qa qw qo qh qx ql qs qb : Int) (qr : Bool) (qD qV : Value) (w : World) :
    Calls Try.prog 23 #[.agg #[.int .i64 pf, .int .i64 pt, .int .i64 pn, .bool pr, .int .i64 pk, .int .i64 pe, .int .i64 pa, .int .i64 pw, pD, .int .i64 po, .int .i64 ph, pV, .int .i64 px, .int .i64 pl, .int .i64 ps, .int .i64 pb], .agg #[.int .i64 qf, .int .i64 qt, .int .i64 qn, .bool qr, .int .i64 qk, .int .i64 qe, .int .i64 qa, .int .i64 qw, qD, .int .i64 qo, .int .i64 qh, qV, .int .i64 qx, .int .i64 ql, .int .i64 qs, .int .i64 qb]] w fun ex w' => ex = .returned (.bool (pr && (!qr && (pt == qf && (pf == qt && (pn == qn && (pk == qk && (pe == qe && pa == qa)))))))) ∧ Below w.heap.size w w' := by
  cases pr <;> cases qr
  all_goals
    go_enter Try.func23, Try.ntmps23
    go_wp2
    all_goals
      go_returns
      exact ⟨by simp [*], by go_grown⟩


end Go.Proofs.Ytmdnokfmlbjbhaa
