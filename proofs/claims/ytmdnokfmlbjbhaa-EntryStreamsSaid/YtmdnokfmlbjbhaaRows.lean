/-
  No cell of these rows narrows 'for every input' (looked for: loops, veiled, ifaces, maps, wideKeys, modest, calm, conditions, laid).
  DERIVED. THE GIVEN ROWS OF THIS SEAT. 17 by the template 'for every input the law returns true; each argument reads behind the call as it read before'; 0 by the template 'total and deterministic' (their statements: YtmdnokfmlbjbhaaTotals.lean).
  GIVEN WITH THE SEED: the statements are not yours to turn. If you find one false, say at which input.
  Laid BY PROGRAM, IN A SANDBOX (cutbox-rows.mjs): the forced cells as the released guide's own fill.sh prints them over the translation 14411342f81252eb… (all of the seat's roots in one cut). By AI agents, Wed Nov 11 2026. No macro, syntax, notation, axiom, sorry.
-/
import Derived.Test.YtmdnokfmlbjbhaaChecked
import GoSem.Claim
import GoSem.ClaimJoined
import GoSem.ClaimMapViews
import Derived.JoinedTies
import Derived.KernelRfl
namespace Go.Proofs.Ytmdnokfmlbjbhaa
/- THE CELL 'sum', in the pinned program and in every row, IS THE sha256 OF THE DUMP (.gsa) THAT YtmdnokfmlbjbhaaProg.lean LOADS. Nothing in Lean hashes anything: it is a label: what it is worth is what the hold of that sum in a sandbox is worth. -/
noncomputable def Try.pinned : Pinned := { name := "ytmdnokfmlbjbhaa", sum := "14411342f81252eb40f2995c6222ebf4697d2a89a4691dcf9ffb9179afcd0d6a", checked := Try.checked }
namespace Rows
def none {H : Type} : Left H := { results := [], args := [] }

/-- 'tidelinelaw12.RpcReplies': WHATEVER THE INPUT: true; the input reads as it did. -/
def rpcRepliesSpec : ChangeSpec := { name := "rpcReplies", fn := fun _ => fun
  | [d1, d2, d3] => { results := [.lit (.bool true)], args := [d1, d2, d3] }
  | _ => none }
def rpcRepliesRow : OpenClaim := { program := "ytmdnokfmlbjbhaa", sum := "14411342f81252eb40f2995c6222ebf4697d2a89a4691dcf9ffb9179afcd0d6a", func := "tideline/tidelinelaw12.RpcReplies", spec := "rpcReplies", apart := false }
def RpcRepliesSaid : Prop := rpcRepliesRow.holds Try.pinned (OpenSpec.ofChange rpcRepliesSpec)

/-- ITS FALSE NEIGHBOUR: 'it returns false'. Refute it at one input. -/
def rpcRepliesWrong : ChangeSpec := { name := "rpcReplies", fn := fun _ => fun
  | [d1, d2, d3] => { results := [.lit (.bool false)], args := [d1, d2, d3] }
  | _ => none }
def RpcRepliesWrongFalsely : Prop := rpcRepliesRow.holds Try.pinned (OpenSpec.ofChange rpcRepliesWrong)

/-- 'tidelinelaw02.CheckParts': WHATEVER THE INPUT: true; the input reads as it did. -/
def checkPartsSpec : ChangeSpec := { name := "checkParts", fn := fun _ => fun
  | [d1, d2, d3] => { results := [.lit (.bool true)], args := [d1, d2, d3] }
  | _ => none }
def checkPartsRow : OpenClaim := { program := "ytmdnokfmlbjbhaa", sum := "14411342f81252eb40f2995c6222ebf4697d2a89a4691dcf9ffb9179afcd0d6a", func := "tideline/tidelinelaw02.CheckParts", spec := "checkParts", apart := false }
def CheckPartsSaid : Prop := checkPartsRow.holds Try.pinned (OpenSpec.ofChange checkPartsSpec)

/-- ITS FALSE NEIGHBOUR: 'it returns false'. Refute it at one input. -/
def checkPartsWrong : ChangeSpec := { name := "checkParts", fn := fun _ => fun
  | [d1, d2, d3] => { results := [.lit (.bool false)], args := [d1, d2, d3] }
  | _ => none }
def CheckPartsWrongFalsely : Prop := checkPartsRow.holds Try.pinned (OpenSpec.ofChange checkPartsWrong)

/-- 'tidelinelaw01.OctetWrong': WHATEVER THE INPUT: true; the input reads as it did. -/
def octetWrongSpec : ChangeSpec := { name := "octetWrong", fn := fun _ => fun
  | [d1, d2] => { results := [.lit (.bool true)], args := [d1, d2] }
  | _ => none }
def octetWrongRow : OpenClaim := { program := "ytmdnokfmlbjbhaa", sum := "14411342f81252eb40f2995c6222ebf4697d2a89a4691dcf9ffb9179afcd0d6a", func := "tideline/tidelinelaw01.OctetWrong", spec := "octetWrong", unfollowed := true, recurses := true, apart := false }
def OctetWrongSaid : Prop := octetWrongRow.holds Try.pinned (OpenSpec.ofChange octetWrongSpec)

/-- ITS FALSE NEIGHBOUR: 'it returns false'. Refute it at one input. -/
def octetWrongWrong : ChangeSpec := { name := "octetWrong", fn := fun _ => fun
  | [d1, d2] => { results := [.lit (.bool false)], args := [d1, d2] }
  | _ => none }
def OctetWrongWrongFalsely : Prop := octetWrongRow.holds Try.pinned (OpenSpec.ofChange octetWrongWrong)

/-- 'tidelinelaw11.PlanShrinks': WHATEVER THE INPUT: true; the input reads as it did. -/
def planShrinksSpec : ChangeSpec := { name := "planShrinks", fn := fun _ => fun
  | [d1, d2, d3, d4] => { results := [.lit (.bool true)], args := [d1, d2, d3, d4] }
  | _ => none }
def planShrinksRow : OpenClaim := { program := "ytmdnokfmlbjbhaa", sum := "14411342f81252eb40f2995c6222ebf4697d2a89a4691dcf9ffb9179afcd0d6a", func := "tideline/tidelinelaw11.PlanShrinks", spec := "planShrinks", unfollowed := true, recurses := true, apart := false }
def PlanShrinksSaid : Prop := planShrinksRow.holds Try.pinned (OpenSpec.ofChange planShrinksSpec)

/-- ITS FALSE NEIGHBOUR: 'it returns false'. Refute it at one input. -/
def planShrinksWrong : ChangeSpec := { name := "planShrinks", fn := fun _ => fun
  | [d1, d2, d3, d4] => { results := [.lit (.bool false)], args := [d1, d2, d3, d4] }
  | _ => none }
def PlanShrinksWrongFalsely : Prop := planShrinksRow.holds Try.pinned (OpenSpec.ofChange planShrinksWrong)

/-- 'tidelinelaw11.PlanAll': WHATEVER THE INPUT: true; the input reads as it did. -/
def planAllSpec : ChangeSpec := { name := "planAll", fn := fun _ => fun
  | [d1, d2, d3] => { results := [.lit (.bool true)], args := [d1, d2, d3] }
  | _ => none }
def planAllRow : OpenClaim := { program := "ytmdnokfmlbjbhaa", sum := "14411342f81252eb40f2995c6222ebf4697d2a89a4691dcf9ffb9179afcd0d6a", func := "tideline/tidelinelaw11.PlanAll", spec := "planAll", unfollowed := true, recurses := true, apart := false }
def PlanAllSaid : Prop := planAllRow.holds Try.pinned (OpenSpec.ofChange planAllSpec)

/-- ITS FALSE NEIGHBOUR: 'it returns false'. Refute it at one input. -/
def planAllWrong : ChangeSpec := { name := "planAll", fn := fun _ => fun
  | [d1, d2, d3] => { results := [.lit (.bool false)], args := [d1, d2, d3] }
  | _ => none }
def PlanAllWrongFalsely : Prop := planAllRow.holds Try.pinned (OpenSpec.ofChange planAllWrong)

/-- 'tidelinelaw02.CheckSums': WHATEVER THE INPUT: true; the input reads as it did. -/
def checkSumsSpec : ChangeSpec := { name := "checkSums", fn := fun _ => fun
  | [d1, d2] => { results := [.lit (.bool true)], args := [d1, d2] }
  | _ => none }
def checkSumsRow : OpenClaim := { program := "ytmdnokfmlbjbhaa", sum := "14411342f81252eb40f2995c6222ebf4697d2a89a4691dcf9ffb9179afcd0d6a", func := "tideline/tidelinelaw02.CheckSums", spec := "checkSums", apart := false }
def CheckSumsSaid : Prop := checkSumsRow.holds Try.pinned (OpenSpec.ofChange checkSumsSpec)

/-- ITS FALSE NEIGHBOUR: 'it returns false'. Refute it at one input. -/
def checkSumsWrong : ChangeSpec := { name := "checkSums", fn := fun _ => fun
  | [d1, d2] => { results := [.lit (.bool false)], args := [d1, d2] }
  | _ => none }
def CheckSumsWrongFalsely : Prop := checkSumsRow.holds Try.pinned (OpenSpec.ofChange checkSumsWrong)

/-- 'tidelinelaw02.CheckTurned': WHATEVER THE INPUT: true; the input reads as it did. -/
def checkTurnedSpec : ChangeSpec := { name := "checkTurned", fn := fun _ => fun
  | [d1, d2, d3] => { results := [.lit (.bool true)], args := [d1, d2, d3] }
  | _ => none }
def checkTurnedRow : OpenClaim := { program := "ytmdnokfmlbjbhaa", sum := "14411342f81252eb40f2995c6222ebf4697d2a89a4691dcf9ffb9179afcd0d6a", func := "tideline/tidelinelaw02.CheckTurned", spec := "checkTurned", apart := false }
def CheckTurnedSaid : Prop := checkTurnedRow.holds Try.pinned (OpenSpec.ofChange checkTurnedSpec)

/-- ITS FALSE NEIGHBOUR: 'it returns false'. Refute it at one input. -/
def checkTurnedWrong : ChangeSpec := { name := "checkTurned", fn := fun _ => fun
  | [d1, d2, d3] => { results := [.lit (.bool false)], args := [d1, d2, d3] }
  | _ => none }
def CheckTurnedWrongFalsely : Prop := checkTurnedRow.holds Try.pinned (OpenSpec.ofChange checkTurnedWrong)

/-- 'tidelinelaw01.OctetBack': WHATEVER THE INPUT: true; the input reads as it did. -/
def octetBackSpec : ChangeSpec := { name := "octetBack", fn := fun _ => fun
  | [d1, d2] => { results := [.lit (.bool true)], args := [d1, d2] }
  | _ => none }
def octetBackRow : OpenClaim := { program := "ytmdnokfmlbjbhaa", sum := "14411342f81252eb40f2995c6222ebf4697d2a89a4691dcf9ffb9179afcd0d6a", func := "tideline/tidelinelaw01.OctetBack", spec := "octetBack", unfollowed := true, recurses := true, apart := false }
def OctetBackSaid : Prop := octetBackRow.holds Try.pinned (OpenSpec.ofChange octetBackSpec)

/-- ITS FALSE NEIGHBOUR: 'it returns false'. Refute it at one input. -/
def octetBackWrong : ChangeSpec := { name := "octetBack", fn := fun _ => fun
  | [d1, d2] => { results := [.lit (.bool false)], args := [d1, d2] }
  | _ => none }
def OctetBackWrongFalsely : Prop := octetBackRow.holds Try.pinned (OpenSpec.ofChange octetBackWrong)

/-- 'tidelinelaw11.PlanTold': WHATEVER THE INPUT: true; the input reads as it did. -/
def planToldSpec : ChangeSpec := { name := "planTold", fn := fun _ => fun
  | [d1, d2, d3, d4, d5] => { results := [.lit (.bool true)], args := [d1, d2, d3, d4, d5] }
  | _ => none }
def planToldRow : OpenClaim := { program := "ytmdnokfmlbjbhaa", sum := "14411342f81252eb40f2995c6222ebf4697d2a89a4691dcf9ffb9179afcd0d6a", func := "tideline/tidelinelaw11.PlanTold", spec := "planTold", unfollowed := true, recurses := true, apart := false }
def PlanToldSaid : Prop := planToldRow.holds Try.pinned (OpenSpec.ofChange planToldSpec)

/-- ITS FALSE NEIGHBOUR: 'it returns false'. Refute it at one input. -/
def planToldWrong : ChangeSpec := { name := "planTold", fn := fun _ => fun
  | [d1, d2, d3, d4, d5] => { results := [.lit (.bool false)], args := [d1, d2, d3, d4, d5] }
  | _ => none }
def PlanToldWrongFalsely : Prop := planToldRow.holds Try.pinned (OpenSpec.ofChange planToldWrong)

/-- 'tidelinelaw07.EntryTurned': WHATEVER THE INPUT: true; the input reads as it did. -/
def entryTurnedSpec : ChangeSpec := { name := "entryTurned", fn := fun _ => fun
  | [d1, d2, d3, d4] => { results := [.lit (.bool true)], args := [d1, d2, d3, d4] }
  | _ => none }
def entryTurnedRow : OpenClaim := { program := "ytmdnokfmlbjbhaa", sum := "14411342f81252eb40f2995c6222ebf4697d2a89a4691dcf9ffb9179afcd0d6a", func := "tideline/tidelinelaw07.EntryTurned", spec := "entryTurned", unfollowed := true, recurses := true, apart := false }
def EntryTurnedSaid : Prop := entryTurnedRow.holds Try.pinned (OpenSpec.ofChange entryTurnedSpec)

/-- ITS FALSE NEIGHBOUR: 'it returns false'. Refute it at one input. -/
def entryTurnedWrong : ChangeSpec := { name := "entryTurned", fn := fun _ => fun
  | [d1, d2, d3, d4] => { results := [.lit (.bool false)], args := [d1, d2, d3, d4] }
  | _ => none }
def EntryTurnedWrongFalsely : Prop := entryTurnedRow.holds Try.pinned (OpenSpec.ofChange entryTurnedWrong)

/-- 'tidelinelaw07.EntryStreams': WHATEVER THE INPUT: true; the input reads as it did. -/
def entryStreamsSpec : ChangeSpec := { name := "entryStreams", fn := fun _ => fun
  | [d1, d2] => { results := [.lit (.bool true)], args := [d1, d2] }
  | _ => none }
def entryStreamsRow : OpenClaim := { program := "ytmdnokfmlbjbhaa", sum := "14411342f81252eb40f2995c6222ebf4697d2a89a4691dcf9ffb9179afcd0d6a", func := "tideline/tidelinelaw07.EntryStreams", spec := "entryStreams", unfollowed := true, recurses := true, apart := false }
def EntryStreamsSaid : Prop := entryStreamsRow.holds Try.pinned (OpenSpec.ofChange entryStreamsSpec)

/-- ITS FALSE NEIGHBOUR: 'it returns false'. Refute it at one input. -/
def entryStreamsWrong : ChangeSpec := { name := "entryStreams", fn := fun _ => fun
  | [d1, d2] => { results := [.lit (.bool false)], args := [d1, d2] }
  | _ => none }
def EntryStreamsWrongFalsely : Prop := entryStreamsRow.holds Try.pinned (OpenSpec.ofChange entryStreamsWrong)

/-- 'tidelinelaw11.PlanReads': WHATEVER THE INPUT: true; the input reads as it did. -/
def planReadsSpec : ChangeSpec := { name := "planReads", fn := fun _ => fun
  | [d1, d2] => { results := [.lit (.bool true)], args := [d1, d2] }
  | _ => none }
def planReadsRow : OpenClaim := { program := "ytmdnokfmlbjbhaa", sum := "14411342f81252eb40f2995c6222ebf4697d2a89a4691dcf9ffb9179afcd0d6a", func := "tideline/tidelinelaw11.PlanReads", spec := "planReads", unfollowed := true, recurses := true, apart := false }
def PlanReadsSaid : Prop := planReadsRow.holds Try.pinned (OpenSpec.ofChange planReadsSpec)

/-- ITS FALSE NEIGHBOUR: 'it returns false'. Refute it at one input. -/
def planReadsWrong : ChangeSpec := { name := "planReads", fn := fun _ => fun
  | [d1, d2] => { results := [.lit (.bool false)], args := [d1, d2] }
  | _ => none }
def PlanReadsWrongFalsely : Prop := planReadsRow.holds Try.pinned (OpenSpec.ofChange planReadsWrong)

/-- 'tidelinelaw12.RpcCodes': WHATEVER THE INPUT: true; the input reads as it did. -/
def rpcCodesSpec : ChangeSpec := { name := "rpcCodes", fn := fun _ => fun
  | [d1, d2] => { results := [.lit (.bool true)], args := [d1, d2] }
  | _ => none }
def rpcCodesRow : OpenClaim := { program := "ytmdnokfmlbjbhaa", sum := "14411342f81252eb40f2995c6222ebf4697d2a89a4691dcf9ffb9179afcd0d6a", func := "tideline/tidelinelaw12.RpcCodes", spec := "rpcCodes", apart := false }
def RpcCodesSaid : Prop := rpcCodesRow.holds Try.pinned (OpenSpec.ofChange rpcCodesSpec)

/-- ITS FALSE NEIGHBOUR: 'it returns false'. Refute it at one input. -/
def rpcCodesWrong : ChangeSpec := { name := "rpcCodes", fn := fun _ => fun
  | [d1, d2] => { results := [.lit (.bool false)], args := [d1, d2] }
  | _ => none }
def RpcCodesWrongFalsely : Prop := rpcCodesRow.holds Try.pinned (OpenSpec.ofChange rpcCodesWrong)

/-- 'tidelinelaw12.RpcTurned': WHATEVER THE INPUT: true; the input reads as it did. -/
def rpcTurnedSpec : ChangeSpec := { name := "rpcTurned", fn := fun _ => fun
  | [d1, d2, d3, d4] => { results := [.lit (.bool true)], args := [d1, d2, d3, d4] }
  | _ => none }
def rpcTurnedRow : OpenClaim := { program := "ytmdnokfmlbjbhaa", sum := "14411342f81252eb40f2995c6222ebf4697d2a89a4691dcf9ffb9179afcd0d6a", func := "tideline/tidelinelaw12.RpcTurned", spec := "rpcTurned", apart := false }
def RpcTurnedSaid : Prop := rpcTurnedRow.holds Try.pinned (OpenSpec.ofChange rpcTurnedSpec)

/-- ITS FALSE NEIGHBOUR: 'it returns false'. Refute it at one input. -/
def rpcTurnedWrong : ChangeSpec := { name := "rpcTurned", fn := fun _ => fun
  | [d1, d2, d3, d4] => { results := [.lit (.bool false)], args := [d1, d2, d3, d4] }
  | _ => none }
def RpcTurnedWrongFalsely : Prop := rpcTurnedRow.holds Try.pinned (OpenSpec.ofChange rpcTurnedWrong)

/-- 'tidelinelaw13.NetFull': WHATEVER THE INPUT: true; the input reads as it did. -/
def netFullSpec : ChangeSpec := { name := "netFull", fn := fun _ => fun
  | [d] => { results := [.lit (.bool true)], args := [d] }
  | _ => none }
def netFullRow : OpenClaim := { program := "ytmdnokfmlbjbhaa", sum := "14411342f81252eb40f2995c6222ebf4697d2a89a4691dcf9ffb9179afcd0d6a", func := "tideline/tidelinelaw13.NetFull", spec := "netFull", apart := false }
def NetFullSaid : Prop := netFullRow.holds Try.pinned (OpenSpec.ofChange netFullSpec)

/-- ITS FALSE NEIGHBOUR: 'it returns false'. Refute it at one input. -/
def netFullWrong : ChangeSpec := { name := "netFull", fn := fun _ => fun
  | [d] => { results := [.lit (.bool false)], args := [d] }
  | _ => none }
def NetFullWrongFalsely : Prop := netFullRow.holds Try.pinned (OpenSpec.ofChange netFullWrong)

/-- 'tidelinelaw13.NetCalls': WHATEVER THE INPUT: true; the input reads as it did. -/
def netCallsSpec : ChangeSpec := { name := "netCalls", fn := fun _ => fun
  | [d] => { results := [.lit (.bool true)], args := [d] }
  | _ => none }
def netCallsRow : OpenClaim := { program := "ytmdnokfmlbjbhaa", sum := "14411342f81252eb40f2995c6222ebf4697d2a89a4691dcf9ffb9179afcd0d6a", func := "tideline/tidelinelaw13.NetCalls", spec := "netCalls", unfollowed := true, recurses := true, apart := false }
def NetCallsSaid : Prop := netCallsRow.holds Try.pinned (OpenSpec.ofChange netCallsSpec)

/-- ITS FALSE NEIGHBOUR: 'it returns false'. Refute it at one input. -/
def netCallsWrong : ChangeSpec := { name := "netCalls", fn := fun _ => fun
  | [d] => { results := [.lit (.bool false)], args := [d] }
  | _ => none }
def NetCallsWrongFalsely : Prop := netCallsRow.holds Try.pinned (OpenSpec.ofChange netCallsWrong)

/-- 'tidelinelaw13.NetEmpties': WHATEVER THE INPUT: true; the input reads as it did. -/
def netEmptiesSpec : ChangeSpec := { name := "netEmpties", fn := fun _ => fun
  | [d1, d2] => { results := [.lit (.bool true)], args := [d1, d2] }
  | _ => none }
def netEmptiesRow : OpenClaim := { program := "ytmdnokfmlbjbhaa", sum := "14411342f81252eb40f2995c6222ebf4697d2a89a4691dcf9ffb9179afcd0d6a", func := "tideline/tidelinelaw13.NetEmpties", spec := "netEmpties", unfollowed := true, recurses := true, apart := false }
def NetEmptiesSaid : Prop := netEmptiesRow.holds Try.pinned (OpenSpec.ofChange netEmptiesSpec)

/-- ITS FALSE NEIGHBOUR: 'it returns false'. Refute it at one input. -/
def netEmptiesWrong : ChangeSpec := { name := "netEmpties", fn := fun _ => fun
  | [d1, d2] => { results := [.lit (.bool false)], args := [d1, d2] }
  | _ => none }
def NetEmptiesWrongFalsely : Prop := netEmptiesRow.holds Try.pinned (OpenSpec.ofChange netEmptiesWrong)

/- THE SECOND FORM. 'bulk': how many values and letters a reading holds, each counted each time it is reached (what is shared counts as often as it is met; a slice's spare places count too). A statement '..UptoSaid' is the law's where the arguments, and the package variables that the reading takes, are together of bulk at most 1048576: NARROWER than '..Said'. Prove '..Said' where nothing that the law and all that it calls make is longer than what came in: it says more and counts as full. Else prove '..UptoSaid'. A law counts once. -/
mutual
def uptoBulk {H : Type} : DataW H → Nat
  | .lit (.string bytes) => bytes.length + 1
  | .lit _ => 1
  | .nil => 1
  | .ptr d => uptoBulk d + 1
  | .slice elems spare => uptoBulkAll elems + uptoBulkAll spare + 1
  | .agg parts => uptoBulkAll parts + 1
  | .iface _ d => uptoBulk d + 1
  | .map entries => uptoBulkEntries entries + 1
  | .held _ => 1
def uptoBulkAll {H : Type} : List (DataW H) → Nat
  | [] => 0
  | d :: r => uptoBulk d + uptoBulkAll r
def uptoBulkEntries {H : Type} : List (Lit × DataW H) → Nat
  | [] => 0
  | x :: r => uptoBulkEntry x + uptoBulkEntries r
def uptoBulkEntry {H : Type} : Lit × DataW H → Nat
  | (.string bytes, d) => bytes.length + uptoBulk d + 1
  | (_, d) => uptoBulk d + 1
 end
def uptoSmall : (H : Type) → List (DataW H) → Bool := fun _ ds => decide (uptoBulkAll ds ≤ 1048576)
def OpenSpec.upto (s : _root_.Go.ChangeSpec) : _root_.Go.OpenSpec := { _root_.Go.OpenSpec.ofChange s with cond := some uptoSmall }

/-- 'tidelinelaw12.RpcReplies', WHERE WHAT IT READS IS OF BULK AT MOST 1048576: true; the input reads as it did. -/
def rpcRepliesUptoRow : OpenClaim := { program := "ytmdnokfmlbjbhaa", sum := "14411342f81252eb40f2995c6222ebf4697d2a89a4691dcf9ffb9179afcd0d6a", func := "tideline/tidelinelaw12.RpcReplies", spec := "rpcReplies", apart := false, narrowed := true }
def RpcRepliesUptoSaid : Prop := rpcRepliesUptoRow.holds Try.pinned (OpenSpec.upto rpcRepliesSpec)

/-- 'tidelinelaw02.CheckParts', WHERE WHAT IT READS IS OF BULK AT MOST 1048576: true; the input reads as it did. -/
def checkPartsUptoRow : OpenClaim := { program := "ytmdnokfmlbjbhaa", sum := "14411342f81252eb40f2995c6222ebf4697d2a89a4691dcf9ffb9179afcd0d6a", func := "tideline/tidelinelaw02.CheckParts", spec := "checkParts", apart := false, narrowed := true }
def CheckPartsUptoSaid : Prop := checkPartsUptoRow.holds Try.pinned (OpenSpec.upto checkPartsSpec)

/-- 'tidelinelaw01.OctetWrong', WHERE WHAT IT READS IS OF BULK AT MOST 1048576: true; the input reads as it did. -/
def octetWrongUptoRow : OpenClaim := { program := "ytmdnokfmlbjbhaa", sum := "14411342f81252eb40f2995c6222ebf4697d2a89a4691dcf9ffb9179afcd0d6a", func := "tideline/tidelinelaw01.OctetWrong", spec := "octetWrong", unfollowed := true, recurses := true, apart := false, narrowed := true }
def OctetWrongUptoSaid : Prop := octetWrongUptoRow.holds Try.pinned (OpenSpec.upto octetWrongSpec)

/-- 'tidelinelaw11.PlanShrinks', WHERE WHAT IT READS IS OF BULK AT MOST 1048576: true; the input reads as it did. -/
def planShrinksUptoRow : OpenClaim := { program := "ytmdnokfmlbjbhaa", sum := "14411342f81252eb40f2995c6222ebf4697d2a89a4691dcf9ffb9179afcd0d6a", func := "tideline/tidelinelaw11.PlanShrinks", spec := "planShrinks", unfollowed := true, recurses := true, apart := false, narrowed := true }
def PlanShrinksUptoSaid : Prop := planShrinksUptoRow.holds Try.pinned (OpenSpec.upto planShrinksSpec)

/-- 'tidelinelaw11.PlanAll', WHERE WHAT IT READS IS OF BULK AT MOST 1048576: true; the input reads as it did. -/
def planAllUptoRow : OpenClaim := { program := "ytmdnokfmlbjbhaa", sum := "14411342f81252eb40f2995c6222ebf4697d2a89a4691dcf9ffb9179afcd0d6a", func := "tideline/tidelinelaw11.PlanAll", spec := "planAll", unfollowed := true, recurses := true, apart := false, narrowed := true }
def PlanAllUptoSaid : Prop := planAllUptoRow.holds Try.pinned (OpenSpec.upto planAllSpec)

/-- 'tidelinelaw02.CheckSums', WHERE WHAT IT READS IS OF BULK AT MOST 1048576: true; the input reads as it did. -/
def checkSumsUptoRow : OpenClaim := { program := "ytmdnokfmlbjbhaa", sum := "14411342f81252eb40f2995c6222ebf4697d2a89a4691dcf9ffb9179afcd0d6a", func := "tideline/tidelinelaw02.CheckSums", spec := "checkSums", apart := false, narrowed := true }
def CheckSumsUptoSaid : Prop := checkSumsUptoRow.holds Try.pinned (OpenSpec.upto checkSumsSpec)

/-- 'tidelinelaw02.CheckTurned', WHERE WHAT IT READS IS OF BULK AT MOST 1048576: true; the input reads as it did. -/
def checkTurnedUptoRow : OpenClaim := { program := "ytmdnokfmlbjbhaa", sum := "14411342f81252eb40f2995c6222ebf4697d2a89a4691dcf9ffb9179afcd0d6a", func := "tideline/tidelinelaw02.CheckTurned", spec := "checkTurned", apart := false, narrowed := true }
def CheckTurnedUptoSaid : Prop := checkTurnedUptoRow.holds Try.pinned (OpenSpec.upto checkTurnedSpec)

/-- 'tidelinelaw01.OctetBack', WHERE WHAT IT READS IS OF BULK AT MOST 1048576: true; the input reads as it did. -/
def octetBackUptoRow : OpenClaim := { program := "ytmdnokfmlbjbhaa", sum := "14411342f81252eb40f2995c6222ebf4697d2a89a4691dcf9ffb9179afcd0d6a", func := "tideline/tidelinelaw01.OctetBack", spec := "octetBack", unfollowed := true, recurses := true, apart := false, narrowed := true }
def OctetBackUptoSaid : Prop := octetBackUptoRow.holds Try.pinned (OpenSpec.upto octetBackSpec)

/-- 'tidelinelaw11.PlanTold', WHERE WHAT IT READS IS OF BULK AT MOST 1048576: true; the input reads as it did. -/
def planToldUptoRow : OpenClaim := { program := "ytmdnokfmlbjbhaa", sum := "14411342f81252eb40f2995c6222ebf4697d2a89a4691dcf9ffb9179afcd0d6a", func := "tideline/tidelinelaw11.PlanTold", spec := "planTold", unfollowed := true, recurses := true, apart := false, narrowed := true }
def PlanToldUptoSaid : Prop := planToldUptoRow.holds Try.pinned (OpenSpec.upto planToldSpec)

/-- 'tidelinelaw07.EntryTurned', WHERE WHAT IT READS IS OF BULK AT MOST 1048576: true; the input reads as it did. -/
def entryTurnedUptoRow : OpenClaim := { program := "ytmdnokfmlbjbhaa", sum := "14411342f81252eb40f2995c6222ebf4697d2a89a4691dcf9ffb9179afcd0d6a", func := "tideline/tidelinelaw07.EntryTurned", spec := "entryTurned", unfollowed := true, recurses := true, apart := false, narrowed := true }
def EntryTurnedUptoSaid : Prop := entryTurnedUptoRow.holds Try.pinned (OpenSpec.upto entryTurnedSpec)

/-- 'tidelinelaw07.EntryStreams', WHERE WHAT IT READS IS OF BULK AT MOST 1048576: true; the input reads as it did. -/
def entryStreamsUptoRow : OpenClaim := { program := "ytmdnokfmlbjbhaa", sum := "14411342f81252eb40f2995c6222ebf4697d2a89a4691dcf9ffb9179afcd0d6a", func := "tideline/tidelinelaw07.EntryStreams", spec := "entryStreams", unfollowed := true, recurses := true, apart := false, narrowed := true }
def EntryStreamsUptoSaid : Prop := entryStreamsUptoRow.holds Try.pinned (OpenSpec.upto entryStreamsSpec)

/-- 'tidelinelaw11.PlanReads', WHERE WHAT IT READS IS OF BULK AT MOST 1048576: true; the input reads as it did. -/
def planReadsUptoRow : OpenClaim := { program := "ytmdnokfmlbjbhaa", sum := "14411342f81252eb40f2995c6222ebf4697d2a89a4691dcf9ffb9179afcd0d6a", func := "tideline/tidelinelaw11.PlanReads", spec := "planReads", unfollowed := true, recurses := true, apart := false, narrowed := true }
def PlanReadsUptoSaid : Prop := planReadsUptoRow.holds Try.pinned (OpenSpec.upto planReadsSpec)

/-- 'tidelinelaw12.RpcCodes', WHERE WHAT IT READS IS OF BULK AT MOST 1048576: true; the input reads as it did. -/
def rpcCodesUptoRow : OpenClaim := { program := "ytmdnokfmlbjbhaa", sum := "14411342f81252eb40f2995c6222ebf4697d2a89a4691dcf9ffb9179afcd0d6a", func := "tideline/tidelinelaw12.RpcCodes", spec := "rpcCodes", apart := false, narrowed := true }
def RpcCodesUptoSaid : Prop := rpcCodesUptoRow.holds Try.pinned (OpenSpec.upto rpcCodesSpec)

/-- 'tidelinelaw12.RpcTurned', WHERE WHAT IT READS IS OF BULK AT MOST 1048576: true; the input reads as it did. -/
def rpcTurnedUptoRow : OpenClaim := { program := "ytmdnokfmlbjbhaa", sum := "14411342f81252eb40f2995c6222ebf4697d2a89a4691dcf9ffb9179afcd0d6a", func := "tideline/tidelinelaw12.RpcTurned", spec := "rpcTurned", apart := false, narrowed := true }
def RpcTurnedUptoSaid : Prop := rpcTurnedUptoRow.holds Try.pinned (OpenSpec.upto rpcTurnedSpec)

/-- 'tidelinelaw13.NetFull', WHERE WHAT IT READS IS OF BULK AT MOST 1048576: true; the input reads as it did. -/
def netFullUptoRow : OpenClaim := { program := "ytmdnokfmlbjbhaa", sum := "14411342f81252eb40f2995c6222ebf4697d2a89a4691dcf9ffb9179afcd0d6a", func := "tideline/tidelinelaw13.NetFull", spec := "netFull", apart := false, narrowed := true }
def NetFullUptoSaid : Prop := netFullUptoRow.holds Try.pinned (OpenSpec.upto netFullSpec)

/-- 'tidelinelaw13.NetCalls', WHERE WHAT IT READS IS OF BULK AT MOST 1048576: true; the input reads as it did. -/
def netCallsUptoRow : OpenClaim := { program := "ytmdnokfmlbjbhaa", sum := "14411342f81252eb40f2995c6222ebf4697d2a89a4691dcf9ffb9179afcd0d6a", func := "tideline/tidelinelaw13.NetCalls", spec := "netCalls", unfollowed := true, recurses := true, apart := false, narrowed := true }
def NetCallsUptoSaid : Prop := netCallsUptoRow.holds Try.pinned (OpenSpec.upto netCallsSpec)

/-- 'tidelinelaw13.NetEmpties', WHERE WHAT IT READS IS OF BULK AT MOST 1048576: true; the input reads as it did. -/
def netEmptiesUptoRow : OpenClaim := { program := "ytmdnokfmlbjbhaa", sum := "14411342f81252eb40f2995c6222ebf4697d2a89a4691dcf9ffb9179afcd0d6a", func := "tideline/tidelinelaw13.NetEmpties", spec := "netEmpties", unfollowed := true, recurses := true, apart := false, narrowed := true }
def NetEmptiesUptoSaid : Prop := netEmptiesUptoRow.holds Try.pinned (OpenSpec.upto netEmptiesSpec)

end Rows
end Go.Proofs.Ytmdnokfmlbjbhaa
