/- An entry as an argument. -/
import Derived.Test.YtmdnokfmlbjbhaaEnT
namespace Go.Proofs.Ytmdnokfmlbjbhaa
open Go.RowKit Go.Proofs.YtmdnokfmlbjbhaaW.PrintWords
/-- an entry's name -/
structure Eid where
  client : Int
  birth : Int
  number : Int
def Eid.flat (c : Eid) := (c.client, c.birth, c.number)
noncomputable def KEid : Kd Eid := Kd.iso (Kd.pair (Kd.int .i64) (Kd.pair (Kd.int .i64) (Kd.int .i64))) Eid.flat
theorem tr_eid : TR KEid (fun c => Wf c.client ∧ Wf c.birth ∧ Wf c.number) 87 :=
  (TR.iso (TR.struct Try.underlying87 (.cons (tr_i64 Try.underlying3) (by kernel_rfl) rfl (.cons (tr_i64 Try.underlying3) (by kernel_rfl) rfl (.one (tr_i64 Try.underlying3) (by kernel_rfl) rfl (by kernel_rfl))))) Eid.flat (fun y => ⟨y.1, y.2.1, y.2.2⟩) (fun _ => rfl)).imp fun _ h => h
def Ent.flat (x : Ent) : Int × Eid × Int × Int × List Int := (x.kind, ⟨x.client, x.birth, x.number⟩, x.stream, x.back, x.pay)
noncomputable def KEnt : Kd Ent := Kd.iso (Kd.pair (Kd.int .i64) (Kd.pair KEid (Kd.pair (Kd.int .i64) (Kd.pair (Kd.int .i64) (Kd.slice 5 (Kd.int .u8)))))) Ent.flat
theorem tr_ent : TR KEnt (fun x => Wf x.kind ∧ (Wf x.client ∧ Wf x.birth ∧ Wf x.number) ∧ Wf x.stream ∧ Wf x.back ∧ Bytes x.pay) 89 :=
  (TR.iso (TR.struct Try.underlying89 (.cons (tr_i64 Try.underlying3) (by kernel_rfl) rfl (.cons tr_eid (by kernel_rfl) rfl (.cons (tr_i64 Try.underlying3) (by kernel_rfl) rfl (.cons (tr_i64 Try.underlying3) (by kernel_rfl) rfl (.one tr_bytes (by kernel_rfl) rfl (by kernel_rfl)))))))
    Ent.flat (fun y => ⟨y.1, y.2.1.client, y.2.1.birth, y.2.1.number, y.2.2.1, y.2.2.2.1, y.2.2.2.2⟩) (fun _ => rfl)).imp fun _ h => h
theorem ent_cells {w : World} {x : Ent} {cs : List Value} (h : KEnt.K w x cs) : ∃ A c, RB w A x.pay ∧ x.pay.length ≤ c ∧
    cs = [.int .i64 x.kind, .int .i64 x.client, .int .i64 x.birth, .int .i64 x.number, .int .i64 x.stream, .int .i64 x.back, .slice A x.pay.length c] := by
  obtain ⟨_, _, rfl, rfl, _, _, rfl, ⟨_, _, rfl, rfl, _, _, rfl, rfl, rfl⟩, _, _, rfl, rfl, _, _, rfl, rfl, A, c, rfl, h1, h2⟩ := h
  exact ⟨A, c, h2, h1, rfl⟩
end Go.Proofs.Ytmdnokfmlbjbhaa
