/- The reference's Reader. -/
import Derived.Test.YtmdnokfmlbjbhaaGnA
import Derived.Test.YtmdnokfmlbjbhaaRfA
namespace Go.Proofs.Ytmdnokfmlbjbhaa
open Go.RowKit Go.Proofs.YtmdnokfmlbjbhaaW.PrintWords Go.Proofs.YtmdnokfmlbjbhaaW.PrintMore
set_option linter.unusedVariables false
set_option linter.unusedSimpArgs false

/-- the bytes, the place, whether it went wrong: as the machine has it -/
def stOf (B : List Int) (at_ : Int) (wr : Bool) : Rst := if wr = true then ([], true) else (B.drop at_.toNat, false)
/-- the reference's Reader at block g, over a row of w0 -/
def RR (w0 W : World) (g : Nat) (s : Rst) : Prop := ∃ B at_ wr, RefRd.IsS176 w0 W g B at_ wr ∧ Bytes B ∧ 0 ≤ at_ ∧ at_ ≤ (B.length : Int) ∧ B.length ≤ 140737488350000 ∧ s = stOf B at_ wr
theorem RR.upd {w0 W W1 : World} {g : Nat} {s : Rst} {S : Nat → Prop} (h : RR w0 W g s) (u : Upd S W W1) (hg : ¬ S g) : RR w0 W1 g s := by
  obtain ⟨B, at_, wr, ⟨A0, c0, hb, hge, hr⟩, h1⟩ := h
  exact ⟨B, at_, wr, ⟨A0, c0, u.at_ hb hg, hge, hr⟩, h1⟩
theorem RR.below {w0 W W1 : World} {g : Nat} {s : Rst} (h : RR w0 W g s) (b : Below W.heap.size W W1) : RR w0 W1 g s := by
  obtain ⟨B, at_, wr, ⟨A0, c0, hb, hge, hr⟩, h1⟩ := h
  exact ⟨B, at_, wr, ⟨A0, c0, (b.block _ (blk_lt hb)).trans hb, hge, hr⟩, h1⟩
theorem RR.lt {w0 W : World} {g : Nat} {s : Rst} (h : RR w0 W g s) : g < W.heap.size ∧ w0.heap.size ≤ g := by
  obtain ⟨B, at_, wr, ⟨A0, c0, hb, hge, hr⟩, h1⟩ := h
  exact ⟨blk_lt hb, hge⟩
theorem RR.bytes {w0 W : World} {g : Nat} {s : Rst} (h : RR w0 W g s) : Bytes s.1 := by
  obtain ⟨B, at_, wr, _, hb, _, _, _, rfl⟩ := h
  unfold stOf; split
  · exact Bytes.nil
  · exact hb.drop _
theorem upd_of_keep {w0 W W' : World} {g : Nat} (h : Below w0.heap.size w0 W) (h' : Below w0.heap.size w0 W') (k : KeepBut W W' g none) : Upd (fun j => j = g) W W' :=
  ⟨h'.os.trans h.os.symm, h'.tape.trans h.tape.symm, h'.output.trans h.output.symm, k.1, fun i hi hn => k.2 i hi hn (by simp)⟩

namespace RefRd
theorem num_l0 (B : List Int) (hb : Bytes B) (at_ n : Nat) (hn : n ≤ 8) (ha : at_ + n ≤ B.length) (hl : B.length ≤ 140737488350000) (wr : Bool) : ∀ (d i : Nat), i + d = n →
    Ev (fun k => tidelineref01_Reader_Number.l0 k (n : Int) (num ((B.drop at_).take i)) (i : Int) B (at_ : Int) wr) (num ((B.drop at_).take n), ((at_ + n : Nat) : Int), wr)
  | 0, i, h => by
    obtain rfl : i = n := by omega
    refine Ev.step (f := fun _ => some (num ((B.drop at_).take i), ((at_ + i : Nat) : Int), wr)) (fun k => ?_) (Ev.now _)
    simp only [tidelineref01_Reader_Number.l0]
    rw [if_neg (by omega), IntWalk.wrap64_in _ (by omega)]; rfl
  | d + 1, i, h => by
    have ih := num_l0 B hb at_ n hn ha hl wr d (i + 1) (by omega)
    have hlen : i < (B.drop at_).length := by rw [List.length_drop]; omega
    have hsn := num_take (B.drop at_) i hlen
    have hrd : rd (B.drop at_) (i : Int) = rd B ((at_ + i : Nat) : Int) := by
      rw [rd_nat, rd_nat, List.getD_eq_getElem?_getD, List.getD_eq_getElem?_getD, List.getElem?_drop]
    have hbd := num_bound i ((B.drop at_).take i) (by rw [List.length_take]; omega) ((hb.drop _).take _)
    have hby := hb.at_ ((at_ + i : Nat) : Int)
    have hp : (256 : Int) ^ i ≤ 72057594037927936 := (by decide : ∀ k : Fin 8, (256 : Int) ^ k.val ≤ 72057594037927936) ⟨i, by omega⟩
    refine Ev.step (fun k => ?_) ih
    conv => lhs; simp only [tidelineref01_Reader_Number.l0]
    rw [if_pos (by omega), show wrap64 ((at_ : Int) + (i : Int)) = ((at_ + i : Nat) : Int) from by rw [IntWalk.wrap64_in _ (by omega)]; rfl, if_pos (by omega), if_pos (by omega), show wrap64 ((i : Int) + 1) = ((i + 1 : Nat) : Int) from by rw [IntWalk.wrap64_in _ (by omega)]; rfl]
    rw [hsn, hrd]
    rw [IntKind.wrap_u64, IntKind.wrap_u64, IntKind.wrap_u64]
    congr 1
    omega
theorem num_ev (B : List Int) (hb : Bytes B) (at_ n : Nat) (hn : n ≤ 8) (ha : at_ ≤ B.length) (hl : B.length ≤ 140737488350000) (wr : Bool) :
    Ev (fun k => tidelineref01_Reader_Number.f k B (at_ : Int) wr (n : Int)) (if wr = true ∨ B.length < at_ + n then (0, (at_ : Int), true) else (num ((B.drop at_).take n), ((at_ + n : Nat) : Int), false)) := by
  have e0 : ∀ k, tidelineref01_Reader_Number.f (k + 2) B (at_ : Int) wr (n : Int) = (if wr = true then tidelineref01_Reader_Number.j2 k (n : Int) true B (at_ : Int) wr else tidelineref01_Reader_Number.j2 k (n : Int) (decide ((B.length : Int) - (at_ : Int) < (n : Int))) B (at_ : Int) wr) := by
    intro k
    unfold tidelineref01_Reader_Number.f
    rw [if_neg (by omega)]
    simp only [tidelineref01_Reader_Number.j0, tidelineref01_Reader_Number.j1]
    rw [if_neg (by omega), IntWalk.wrap64_in _ (by omega)]
  refine Ev.step (f := fun k => tidelineref01_Reader_Number.f (k + 1) B (at_ : Int) wr (n : Int)) (fun k => rfl) (Ev.step (f := fun k => if wr = true then tidelineref01_Reader_Number.j2 k (n : Int) true B (at_ : Int) wr else tidelineref01_Reader_Number.j2 k (n : Int) (decide ((B.length : Int) - (at_ : Int) < (n : Int))) B (at_ : Int) wr) e0 ?_)
  by_cases hw : wr = true
  · subst hw
    rw [if_pos (.inl rfl)]
    refine Ev.step (f := fun _ => some (0, (at_ : Int), true)) (fun k => ?_) (Ev.now _)
    simp only [if_true, tidelineref01_Reader_Number.j2]
  · obtain rfl : wr = false := by simpa using hw
    by_cases hlt : B.length < at_ + n
    · rw [if_pos (.inr hlt)]
      refine Ev.step (f := fun _ => some (0, (at_ : Int), true)) (fun k => ?_) (Ev.now _)
      rw [if_neg (by decide), decide_eq_true (by omega)]
      simp only [tidelineref01_Reader_Number.j2, if_true]
    · rw [if_neg (by rintro (h | h); exact absurd h (by decide); exact hlt h)]
      have h := num_l0 B hb at_ n hn (by omega) hl false n 0 (by omega)
      refine Ev.step (fun k => ?_) h
      rw [if_neg (by decide), decide_eq_false (by omega)]
      simp only [tidelineref01_Reader_Number.j2]
      rw [if_neg (by decide)]; rfl
end RefRd

/-- what rN is, by the place -/
theorem rN_stOf (B : List Int) (at_ n : Nat) (ha : at_ ≤ B.length) (wr : Bool) :
    rN n (stOf B (at_ : Int) wr) = (if wr = true ∨ B.length < at_ + n then (0, stOf B (at_ : Int) true) else (num ((B.drop at_).take n), stOf B ((at_ + n : Nat) : Int) false)) := by
  unfold rN stOf tk
  cases wr
  · simp only [Bool.false_eq_true, if_false, false_or, Int.toNat_natCast, List.length_drop]
    by_cases h : B.length < at_ + n
    · rw [if_pos (by omega), if_pos h]; simp [num]
    · rw [if_neg (by omega), if_neg h]
      simp only [List.drop_drop]
  · simp [num]
theorem refn_calls (w0 W : World) (g : Nat) (s : Rst) (n : Nat) (hn : n ≤ 8) (h : RR w0 W g s) (hB : Below w0.heap.size w0 W) :
    Calls Try.prog 125 #[.pointer (some ⟨g, 0, none⟩), .int .i64 (n : Int)] W fun e w' => e = .returned (.int .u64 (rN n s).1) ∧ RR w0 w' g (rN n s).2 ∧ Below w0.heap.size w0 w' ∧ Upd (fun j => j = g) W w' := by
  obtain ⟨B, at_, wr, hI, hb, h0, h1, hl, rfl⟩ := h
  obtain ⟨a, rfl⟩ := Int.eq_ofNat_of_zero_le h0
  obtain ⟨k, hk⟩ := (RefRd.num_ev B hb a n hn (by omega) hl wr).rounds
  rw [rN_stOf B a n (by omega) wr]
  by_cases hc : wr = true ∨ B.length < a + n
  · rw [if_pos hc] at hk ⊢
    refine (RefRd.tidelineref01_Reader_Number.calls k g B a wr n _ _ _ w0 W hI hB hk).mono ?_
    rintro e w' ⟨rfl, hI', hB', hK⟩
    exact ⟨rfl, ⟨B, _, _, hI', hb, h0, h1, hl, rfl⟩, hB', upd_of_keep hB hB' hK⟩
  · rw [if_neg hc] at hk ⊢
    refine (RefRd.tidelineref01_Reader_Number.calls k g B a wr n _ _ _ w0 W hI hB hk).mono ?_
    rintro e w' ⟨rfl, hI', hB', hK⟩
    exact ⟨rfl, ⟨B, _, _, hI', hb, by omega, by omega, hl, rfl⟩, hB', upd_of_keep hB hB' hK⟩
theorem refflag_calls (w0 W : World) (g : Nat) (s : Rst) (h : RR w0 W g s) (hB : Below w0.heap.size w0 W) :
    Calls Try.prog 130 #[.pointer (some ⟨g, 0, none⟩)] W fun e w' => e = .returned (.bool (rFlag s).1) ∧ RR w0 w' g (rFlag s).2 ∧ Below w0.heap.size w0 w' ∧ Upd (fun j => j = g) W w' := by
  obtain ⟨B, at_, wr, hI, hb, h0, h1, hl, rfl⟩ := h
  obtain ⟨a, rfl⟩ := Int.eq_ofNat_of_zero_le h0
  obtain ⟨k, hk⟩ := (RefRd.num_ev B hb a 1 (by decide) (by omega) hl wr).rounds
  have hr := rN_stOf B a 1 (by omega) wr
  have hf : RefRd.tidelineref01_Reader_Flag.f k B a wr = (RefRd.tidelineref01_Reader_Number.f k B (a : Int) wr ((1 : Nat) : Int)).bind fun bt199 => (if bt199.1 > 1 then (some ((bt199.1 == 1), bt199.2.1, true)) else (some ((bt199.1 == 1), bt199.2.1, bt199.2.2))) := rfl
  rw [hk, Option.bind_some] at hf
  by_cases hc : wr = true ∨ B.length < a + 1
  · rw [if_pos hc] at hf hr
    have e : rFlag (stOf B (a : Int) wr) = (false, stOf B (a : Int) true) := by
      unfold rFlag; rw [hr]; rfl
    rw [e]
    refine (RefRd.tidelineref01_Reader_Flag.calls k g B a wr false a true w0 W hI hB (by rw [hf]; rfl)).mono ?_
    rintro e w' ⟨rfl, hI', hB', hK⟩
    exact ⟨rfl, ⟨B, _, _, hI', hb, h0, h1, hl, rfl⟩, hB', upd_of_keep hB hB' hK⟩
  · rw [if_neg hc] at hf hr
    dsimp only at hf
    by_cases hg : num ((B.drop a).take 1) > 1
    · have e : rFlag (stOf B (a : Int) wr) = (false, stOf B ((a + 1 : Nat) : Int) true) := by
        unfold rFlag; rw [hr]; simp only; rw [if_pos (by omega)]; simp [stOf]
      rw [e]
      rw [if_pos hg] at hf
      refine (RefRd.tidelineref01_Reader_Flag.calls k g B a wr false _ true w0 W hI hB (by rw [hf, show (num ((B.drop a).take 1) == 1) = false from by rw [beq_eq_false_iff_ne]; omega])).mono ?_
      rintro e w' ⟨rfl, hI', hB', hK⟩
      exact ⟨rfl, ⟨B, _, _, hI', hb, by omega, by omega, hl, by simp [stOf]⟩, hB', upd_of_keep hB hB' hK⟩
    · have e : rFlag (stOf B (a : Int) wr) = (num ((B.drop a).take 1) == 1, stOf B ((a + 1 : Nat) : Int) false) := by
        unfold rFlag; rw [hr]; simp only; rw [if_neg (by omega)]
      rw [e]
      rw [if_neg hg] at hf
      refine (RefRd.tidelineref01_Reader_Flag.calls k g B a wr _ _ _ w0 W hI hB hf).mono ?_
      rintro e w' ⟨rfl, hI', hB', hK⟩
      exact ⟨rfl, ⟨B, _, _, hI', hb, by omega, by omega, hl, rfl⟩, hB', upd_of_keep hB hB' hK⟩
theorem refcount_calls (w0 W : World) (g : Nat) (s : Rst) (most : Int) (hm : most ≤ 2147483647) (h : RR w0 W g s) (hB : Below w0.heap.size w0 W) :
    Calls Try.prog 126 #[.pointer (some ⟨g, 0, none⟩), .int .i64 most] W fun e w' => e = .returned (.int .i64 (rCount most s).1) ∧ RR w0 w' g (rCount most s).2 ∧ Below w0.heap.size w0 w' ∧ Upd (fun j => j = g) W w' := by
  obtain ⟨B, at_, wr, hI, hb, h0, h1, hl, rfl⟩ := h
  obtain ⟨a, rfl⟩ := Int.eq_ofNat_of_zero_le h0
  obtain ⟨k, hk⟩ := (RefRd.num_ev B hb a 4 (by decide) (by omega) hl wr).rounds
  have hr := rN_stOf B a 4 (by omega) wr
  have hf : RefRd.tidelineref01_Reader_Count.f k B a wr most = (RefRd.tidelineref01_Reader_Number.f k B (a : Int) wr ((4 : Nat) : Int)).bind fun bt202 => (if (wrap64 (bt202.1)) > most then (some (0, bt202.2.1, true)) else (some (wrap64 (bt202.1), bt202.2.1, bt202.2.2))) := rfl
  rw [hk, Option.bind_some] at hf
  by_cases hc : wr = true ∨ B.length < a + 4
  · rw [if_pos hc] at hf hr
    simp only at hf
    rw [IntWalk.wrap64_in 0 (by omega)] at hf
    by_cases hg : (0 : Int) > most
    · have e : rCount most (stOf B (a : Int) wr) = (0, stOf B (a : Int) true) := by
        unfold rCount; rw [hr]; simp only; rw [if_pos (by omega)]; simp [stOf]
      rw [e]
      rw [if_pos hg] at hf
      refine (RefRd.tidelineref01_Reader_Count.calls k g B a wr most _ _ _ w0 W hI hB hf).mono ?_
      rintro e w' ⟨rfl, hI', hB', hK⟩
      exact ⟨rfl, ⟨B, _, _, hI', hb, h0, h1, hl, rfl⟩, hB', upd_of_keep hB hB' hK⟩
    · have e : rCount most (stOf B (a : Int) wr) = (0, stOf B (a : Int) true) := by
        unfold rCount; rw [hr]; simp only; rw [if_neg (by omega)]
      rw [e]
      rw [if_neg hg] at hf
      refine (RefRd.tidelineref01_Reader_Count.calls k g B a wr most _ _ _ w0 W hI hB hf).mono ?_
      rintro e w' ⟨rfl, hI', hB', hK⟩
      exact ⟨rfl, ⟨B, _, _, hI', hb, h0, h1, hl, rfl⟩, hB', upd_of_keep hB hB' hK⟩
  · rw [if_neg hc] at hf hr
    have hbd := num_bound 4 ((B.drop a).take 4) (by rw [List.length_take, List.length_drop]; omega) ((hb.drop _).take _)
    rw [show (256 : Int) ^ 4 = 4294967296 from by decide] at hbd
    simp only at hf
    rw [IntWalk.wrap64_in _ (by omega)] at hf
    by_cases hg : num ((B.drop a).take 4) > most
    · have e : rCount most (stOf B (a : Int) wr) = (0, stOf B ((a + 4 : Nat) : Int) true) := by
        unfold rCount; rw [hr]; simp only; rw [if_pos (by omega)]; simp [stOf]
      rw [e]
      rw [if_pos hg] at hf
      refine (RefRd.tidelineref01_Reader_Count.calls k g B a wr most _ _ _ w0 W hI hB hf).mono ?_
      rintro e w' ⟨rfl, hI', hB', hK⟩
      exact ⟨rfl, ⟨B, _, _, hI', hb, by omega, by omega, hl, by simp [stOf]⟩, hB', upd_of_keep hB hB' hK⟩
    · have e : rCount most (stOf B (a : Int) wr) = (num ((B.drop a).take 4), stOf B ((a + 4 : Nat) : Int) false) := by
        unfold rCount; rw [hr]; simp only; rw [if_neg (by omega)]
      rw [e]
      rw [if_neg hg] at hf
      refine (RefRd.tidelineref01_Reader_Count.calls k g B a wr most _ _ _ w0 W hI hB hf).mono ?_
      rintro e w' ⟨rfl, hI', hB', hK⟩
      exact ⟨rfl, ⟨B, _, _, hI', hb, by omega, by omega, hl, rfl⟩, hB', upd_of_keep hB hB' hK⟩
theorem refend_calls (w0 W : World) (g : Nat) (s : Rst) (h : RR w0 W g s) (hB : Below w0.heap.size w0 W) :
    Calls Try.prog 127 #[.pointer (some ⟨g, 0, none⟩)] W fun e w' => e = .returned (.int .i64 (rEnd s)) ∧ RR w0 w' g s ∧ Below w0.heap.size w0 w' ∧ Upd (fun j => j = g) W w' := by
  obtain ⟨B, at_, wr, hI, hb, h0, h1, hl, rfl⟩ := h
  have e : rEnd (stOf B at_ wr) = if wr = true then 3 else if at_ < (B.length : Int) then 3 else 0 := by
    unfold rEnd stOf
    cases wr
    · simp only [Bool.false_eq_true, if_false, false_or, List.length_drop]
      by_cases h : at_ < (B.length : Int)
      · rw [if_pos (by omega), if_pos h]
      · rw [if_neg (by omega), if_neg h]
    · simp
  rw [e]
  refine (RefRd.tidelineref01_Reader_End.calls g B at_ wr (if wr = true then 3 else if at_ < (B.length : Int) then 3 else 0) at_ wr w0 W hI hB ?_).mono ?_
  · unfold RefRd.tidelineref01_Reader_End.f
    split
    · rfl
    · split <;> rfl
  · rintro e w' ⟨rfl, hI', hB', hK⟩
    exact ⟨rfl, ⟨B, _, _, hI', hb, h0, h1, hl, rfl⟩, hB', upd_of_keep hB hB' hK⟩
end Go.Proofs.Ytmdnokfmlbjbhaa
