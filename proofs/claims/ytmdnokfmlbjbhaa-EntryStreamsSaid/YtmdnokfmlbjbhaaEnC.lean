/- entry.Decode; tidelineref07.Right, Same. -/
import Derived.Test.YtmdnokfmlbjbhaaEnB
import Derived.LoopN
namespace Go.Proofs.Ytmdnokfmlbjbhaa
open Go.RowKit Go.Proofs.YtmdnokfmlbjbhaaW.PrintWords Go.Proofs.YtmdnokfmlbjbhaaW.PrintMore
set_option linter.unusedVariables false
set_option linter.unusedSimpArgs false

theorem erefright_calls (x : Ent) (A : Option Addr) (c : Nat) (w : World) (h : RB w A x.pay) (hc : x.pay.length ≤ c) (hb : Bytes x.pay) (hl : x.pay.length ≤ 140737488350000) :
    Calls Try.prog 63 #[.agg #[.int .i64 x.kind, .int .i64 x.client, .int .i64 x.birth, .int .i64 x.number, .int .i64 x.stream, .int .i64 x.back, .slice A x.pay.length c]] w fun e w' => e = .returned (.bool (decide (EOk x))) ∧ Below w.heap.size w w' := by
  obtain ⟨k, hk⟩ := (refright_ev x hb hl).rounds
  exact PEntryTurned.tidelineref07_Right.calls k _ _ _ _ _ _ A c x.pay _ w h hc hk

theorem esameB_l (a b : List Int) (hl : a.length = b.length) (hm : a.length ≤ 9223372036854775807) : ∀ (d i : Nat), i + d = a.length → Ev (fun k => PEntryTurned.tidelineref01_Same.l0 k a b (i : Int)) (decide (a.drop i = b.drop i))
  | 0, i, h => by
    rw [List.drop_of_length_le (by omega), List.drop_of_length_le (by omega)]
    refine Ev.step (f := fun _ => some (decide (([] : List Int) = []))) (fun k => ?_) (Ev.now _)
    simp only [PEntryTurned.tidelineref01_Same.l0]
    rw [if_neg (by omega)]; rfl
  | d + 1, i, h => by
    have hda : a.drop i = rd a i :: a.drop (i + 1) := by rw [rd_nat, List.getD_eq_getElem?_getD, List.getElem?_eq_getElem (show i < a.length by omega)]; exact List.drop_eq_getElem_cons _
    have hdb : b.drop i = rd b i :: b.drop (i + 1) := by rw [rd_nat, List.getD_eq_getElem?_getD, List.getElem?_eq_getElem (show i < b.length by omega)]; exact List.drop_eq_getElem_cons _
    rw [hda, hdb]
    by_cases he : rd a i = rd b i
    · refine Ev.step (f := fun k => PEntryTurned.tidelineref01_Same.l0 k a b ((i + 1 : Nat) : Int)) (fun k => ?_) ?_
      · conv => lhs; simp only [PEntryTurned.tidelineref01_Same.l0]
        rw [if_pos (by omega), if_pos (by omega), if_pos (by omega), if_pos he, IntWalk.wrap64_in _ (by omega)]; rfl
      · have := esameB_l a b hl hm d (i + 1) (by omega)
        rw [show decide (rd a i :: a.drop (i + 1) = rd b i :: b.drop (i + 1)) = decide (a.drop (i + 1) = b.drop (i + 1)) from decide_eq_decide.2 ⟨fun h => (List.cons.inj h).2, fun h => by rw [h, he]⟩]
        exact this
    · rw [decide_eq_false (fun h => he (List.cons.inj h).1)]
      refine Ev.step (f := fun _ => some false) (fun k => ?_) (Ev.now _)
      simp only [PEntryTurned.tidelineref01_Same.l0]
      rw [if_pos (by omega), if_pos (by omega), if_pos (by omega), if_neg he]
theorem esameB_ev (a b : List Int) (hm : a.length ≤ 9223372036854775807) : Ev (fun k => PEntryTurned.tidelineref01_Same.f k a b) (decide (a = b)) := by
  by_cases hl : a.length = b.length
  · refine Ev.congr (f := fun k => PEntryTurned.tidelineref01_Same.l0 k a b ((0 : Nat) : Int)) (fun k => ?_) ?_
    · unfold PEntryTurned.tidelineref01_Same.f; rw [if_pos (by omega)]; rfl
    · have := esameB_l a b hl hm a.length 0 (by omega)
      simpa using this
  · rw [decide_eq_false (fun e => hl (by rw [e]))]
    refine Ev.congr (f := fun k => some false) (fun k => ?_) (Ev.now _)
    unfold PEntryTurned.tidelineref01_Same.f; rw [if_neg (by omega)]
theorem esame_ev (x y : Ent) (hm : x.pay.length ≤ 9223372036854775807) : Ev (fun k => PEntryTurned.tidelineref07_Same.f k x.kind x.client x.birth x.number x.stream x.back x.pay y.kind y.client y.birth y.number y.stream y.back y.pay) (decide (x = y)) := by
  unfold PEntryTurned.tidelineref07_Same.f
  have hx : (x = y) ↔ (x.kind = y.kind ∧ x.client = y.client ∧ x.birth = y.birth ∧ x.number = y.number ∧ x.stream = y.stream ∧ x.back = y.back ∧ x.pay = y.pay) := by
    cases x; cases y; simp
  have hs := Ev.bind (f := fun _ (t : Bool) => some t) (esameB_ev x.pay y.pay hm) (Ev.now _)
  by_cases h1 : x.kind = y.kind
  · by_cases h2 : x.client = y.client ∧ x.birth = y.birth ∧ x.number = y.number
    · by_cases h3 : x.stream = y.stream
      · by_cases h4 : x.back = y.back
        · have e : decide (x = y) = decide (x.pay = y.pay) := decide_eq_decide.2 (hx.trans ⟨fun h => h.2.2.2.2.2.2, fun h => ⟨h1, h2.1, h2.2.1, h2.2.2, h3, h4, h⟩⟩)
          rw [e]
          refine Ev.congr (fun k => ?_) hs
          rw [if_pos h1, if_pos (by simp [h2.1, h2.2.1, h2.2.2]), if_pos h3, if_pos h4]
        · have e : decide (x = y) = false := decide_eq_false (fun h => h4 (hx.1 h).2.2.2.2.2.1)
          rw [e]
          refine Ev.congr (f := fun _ => some false) (fun k => ?_) (Ev.now _)
          rw [if_pos h1, if_pos (by simp [h2.1, h2.2.1, h2.2.2]), if_pos h3, if_neg h4]
      · have e : decide (x = y) = false := decide_eq_false (fun h => h3 (hx.1 h).2.2.2.2.1)
        rw [e]
        refine Ev.congr (f := fun _ => some false) (fun k => ?_) (Ev.now _)
        rw [if_pos h1, if_pos (by simp [h2.1, h2.2.1, h2.2.2]), if_neg h3]
    · have e : decide (x = y) = false := decide_eq_false (fun h => h2 ⟨(hx.1 h).2.1, (hx.1 h).2.2.1, (hx.1 h).2.2.2.1⟩)
      rw [e]
      refine Ev.congr (f := fun _ => some false) (fun k => ?_) (Ev.now _)
      rw [if_pos h1, if_neg (by simpa using h2)]
  · have e : decide (x = y) = false := decide_eq_false (fun h => h1 (hx.1 h).1)
    rw [e]
    refine Ev.congr (f := fun _ => some false) (fun k => ?_) (Ev.now _)
    rw [if_neg h1]
theorem esame_calls (x y : Ent) (A : Option Addr) (c : Nat) (B : Option Addr) (d : Nat) (w : World) (h : RB w A x.pay) (hc : x.pay.length ≤ c) (h' : RB w B y.pay) (hd : y.pay.length ≤ d) :
    Calls Try.prog 65 #[.agg #[.int .i64 x.kind, .int .i64 x.client, .int .i64 x.birth, .int .i64 x.number, .int .i64 x.stream, .int .i64 x.back, .slice A x.pay.length c], .agg #[.int .i64 y.kind, .int .i64 y.client, .int .i64 y.birth, .int .i64 y.number, .int .i64 y.stream, .int .i64 y.back, .slice B y.pay.length d]] w fun e w' => e = .returned (.bool (decide (x = y))) ∧ Below w.heap.size w w' := by
  obtain ⟨k, hk⟩ := (esame_ev x y (Kd.C_max h)).rounds
  exact PEntryTurned.tidelineref07_Same.calls k _ _ _ _ _ _ A c x.pay _ _ _ _ _ _ B d y.pay _ w h hc h' hd hk

/-! ### Decode -/
/-- what is taken of a reader, one behind the other -/
def eS1 (s : Rst) : Rst := (rN 1 s).2
def eS2 (s : Rst) : Rst := (rN 4 (eS1 s)).2
def eS3 (s : Rst) : Rst := (rN 4 (eS2 s)).2
def eS4 (s : Rst) : Rst := (rN 4 (eS3 s)).2
def eS5 (s : Rst) : Rst := (rN 1 (eS4 s)).2
def eS6 (s : Rst) : Rst := (rN 8 (eS5 s)).2
def eS7 (s : Rst) : Rst := (rBytes 65536 (eS6 s)).2
def rEnt (s : Rst) : Ent := ⟨(rN 1 s).1, (rN 4 (eS1 s)).1, (rN 4 (eS2 s)).1, (rN 4 (eS3 s)).1, (rN 1 (eS4 s)).1, wrap64 (rN 8 (eS5 s)).1, (rBytes 65536 (eS6 s)).1⟩
def ent0 : Ent := ⟨0, 0, 0, 0, 0, 0, []⟩
def edec (b : List Int) : Ent × Int := if unwCode b ≠ 0 then (ent0, 3) else if rEnd (eS7 (unw b, false)) ≠ 0 ∨ ¬ EOk (rEnt (unw b, false)) then (ent0, 3) else (rEnt (unw b, false), 0)
theorem rBytes_bytes (m : Int) (s : Rst) (h : Bytes s.1) : Bytes (rBytes m s).1 ∧ Bytes (rBytes m s).2.1 := by
  have hc : Bytes (rCount m s).2.1 := by
    unfold rCount; split
    · exact Bytes.nil
    · exact tk_bytes2 _ _ h
  exact ⟨tk_bytes _ _ hc, tk_bytes2 _ _ hc⟩

end Go.Proofs.Ytmdnokfmlbjbhaa
