/- plan.Place, plan.Next. -/
import Derived.Test.YtmdnokfmlbjbhaaPlD
import Derived.Test.YtmdnokfmlbjbhaaOpn
import Derived.Handy
import Derived.Deep.DrawnRows
namespace Go.Proofs.Ytmdnokfmlbjbhaa
open Go.RowKit Go.Proofs.YtmdnokfmlbjbhaaW.PrintWords
set_option linter.unusedVariables false
set_option linter.unusedSimpArgs false

theorem drewB {w0 W : World} {n : Nat} (h : Aside0 (Below n w0 W)) : Aside0 (Below n w0 W.drew) := ⟨h.out.drew⟩

def placeOf (e : Int) (cs : List (List Int)) (at_ : Int) : List Int := if PR e cs ∧ 0 ≤ at_ then cs.getD (at_ % (cs.length : Int)).toNat [] else []

set_option maxHeartbeats 1000000 in
set_option maxRecDepth 100000 in
theorem place_calls (e : Int) (A : Option Addr) (c : Nat) (cs : List (List Int)) (at_ : Int) (w : World) (h : RL w A cs) (hl : ∀ x ∈ cs, x.length * 8 ≤ 140737488355328) (ha : Wf at_) :
    Calls Try.prog 43 #[.agg #[.int .i64 e, .slice A cs.length c], .int .i64 at_] w fun ex w' => ∃ v, ex = .returned v ∧ OI w' w.heap.size v (placeOf e cs at_) ∧ Below w.heap.size w w' := by
  have H := Aside0.mk h
  have HL := Aside0.mk hl
  have HR := Aside0.mk (fun W (hB : Below w.heap.size w W) => right_calls e A c cs W (Kd.C_below h hB))
  clear h hl
  by_cases hp : PR e cs
  · by_cases h0 : 0 ≤ at_
    · have e1 : placeOf e cs at_ = cs.getD (at_ % (cs.length : Int)).toNat [] := by unfold placeOf; rw [if_pos ⟨hp, h0⟩]
      have hlen : 0 < cs.length := hp.1.2.2.1
      have hl7 : cs.length ≤ 7 := hp.1.2.2.2
      obtain ⟨i, hi⟩ : ∃ i : Nat, at_ % (cs.length : Int) = i := ⟨(at_ % (cs.length : Int)).toNat, (Int.toNat_of_nonneg (Int.emod_nonneg _ (by omega))).symm⟩
      have hil : i < cs.length := by have := Int.emod_lt_of_pos at_ (show (0 : Int) < cs.length by omega); omega
      have htm : at_.tmod (cs.length : Int) = (i : Int) := by rw [Int.tmod_eq_emod_of_nonneg h0, hi]
      rw [e1, hi, Int.toNat_natCast, List.getD_eq_getElem?_getD, List.getElem?_eq_getElem hil]
      have hd : decide (PR e cs) = true := decide_eq_true hp
      rw [hd] at HR
      obtain ⟨ad, B, cp, e0, hc0, q1, q2⟩ := chain_at H.out i hil
      subst e0
      have HQ := Aside0.mk q1
      have HC0 := Aside0.mk hc0
      have hll := Aside0.mk (HL.out _ (List.getElem_mem hil))
      have i0 : (0 : Int) ≤ (i : Int) := by omega
      have i1 : (i : Int) < (cs.length : Int) := by omega
      have hne : ¬ (cs.length : Int) = 0 := by omega
      have hnil : ¬ cs = [] := by rintro rfl; simp at hlen
      have hwi : IntKind.i64.wrap (i : Int) = i := IntWalk.i64_in _ (by omega)
      have hwi2 : wrap64 (i : Int) = i := IntWalk.wrap64_in _ (by omega)
      have htn : ((i : Int)).toNat = i := by simp
      have hw1 := ha.1
      have hw2 := ha.2
      clear hd hp e1 hc0 q1 q2 ha
      go_enter Try.func43, Try.ntmps43
      go_wp2_with (fail)
      refine (HR.out _ ((Below.refl _ w).alloc (Nat.le_refl _) _)).mono ?_
      rintro ex w2 ⟨rfl, b2⟩
      have B2 : Aside0 (Below w.heap.size w w2) := ⟨((Below.refl _ w).alloc (Nat.le_refl _) _).trans (b2.mono (by go_size))⟩
      have c1 : w2.cell? ⟨w.heap.size, 1, none⟩ = some (.slice (some ad) cs.length c) := cell_of_row w2 w.heap.size 1 _ 55 (0, 0) ((b2.block _ (by go_size)).trans (heap_alloc_new w _))
      have c2 := cell_later B2.out HC0.out
      have HS : Aside0 (∀ W, Aside0 (Below w2.heap.size w2 W) → W.cell? ⟨w.heap.size, 1, none⟩ = some (.slice (some ad) cs.length c) ∧ W.cell? (ad.add i) = some (.slice B cs[i].length cp) ∧ Aside0 (Below w2.heap.size w2 W)) := ⟨fun W hW => ⟨cell_later hW.out c1, cell_later hW.out c2, hW⟩⟩
      have hcl : Aside0 (∀ W, Aside0 (Below w2.heap.size w2 W) → Calls Try.prog 98 #[.slice B cs[i].length cp] W fun ex w' => ∃ v, ex = .returned v ∧ Aside0 (OI w' w.heap.size v cs[i]) ∧ Aside0 (Below w2.heap.size w2 w')) := ⟨fun W hW =>
        (iclone_calls B cp cs[i] W (RB.keep HQ.out (B2.out.trans (hW.out.mono B2.out.size))) hll.out).mono fun _ _ ⟨v, he, ho, hb⟩ => ⟨v, he, ⟨own_weaken ho (Nat.le_trans B2.out.size hW.out.size)⟩, ⟨hW.out.trans (hb.mono hW.out.size)⟩⟩⟩
      have E0 := Aside0.mk (Below.refl w2.heap.size w2)
      clear b2
      go_wp2_with (fail)
      go_region_held3 (fun W => W.cell? ⟨w.heap.size, 1, none⟩ = some (.slice (some ad) cs.length c) ∧ W.cell? (ad.add i) = some (.slice B cs[i].length cp) ∧ Aside0 (Below w2.heap.size w2 W)) (exact HS.out _ (by first | assumption | exact drewB (by assumption))) ((go_at_call 98; ((with_reducible refine (hcl.out _ (by first | assumption | exact drewB (by assumption))).mono ?_); rintro ex w3 ⟨v, rfl, O3, E3⟩)))
      go_wp2
      go_ret
      exact ⟨_, rfl, O3.out, B2.out.trans (E3.out.mono B2.out.size)⟩
    · have h1 : at_ < 0 := by omega
      have e1 : placeOf e cs at_ = [] := by unfold placeOf; rw [if_neg (fun hh => h0 hh.2)]
      rw [e1]
      have hd : decide (PR e cs) = true := decide_eq_true hp
      rw [hd] at HR
      clear h0
      clear hd hp e1 ha
      go_enter Try.func43, Try.ntmps43
      go_wp2_with (fail)
      refine (HR.out _ ((Below.refl _ w).alloc (Nat.le_refl _) _)).mono ?_
      rintro ex w2 ⟨rfl, b2⟩
      have B2 : Aside0 (Below w.heap.size w w2) := ⟨((Below.refl _ w).alloc (Nat.le_refl _) _).trans (b2.mono (by go_size))⟩
      clear b2
      go_wp2
      go_ret
      exact ⟨_, rfl, own_nil _ _ _ _, B2.out⟩
  · have e1 : placeOf e cs at_ = [] := by unfold placeOf; rw [if_neg (fun hh => hp hh.1)]
    rw [e1]
    have hd : decide (PR e cs) = false := decide_eq_false hp
    rw [hd] at HR
    clear hd hp e1 ha
    go_enter Try.func43, Try.ntmps43
    go_wp2_with (fail)
    refine (HR.out _ ((Below.refl _ w).alloc (Nat.le_refl _) _)).mono ?_
    rintro ex w2 ⟨rfl, b2⟩
    have B2 : Aside0 (Below w.heap.size w w2) := ⟨((Below.refl _ w).alloc (Nat.le_refl _) _).trans (b2.mono (by go_size))⟩
    clear b2
    go_wp2
    go_ret
    exact ⟨_, rfl, own_nil _ _ _ _, B2.out⟩
end Go.Proofs.Ytmdnokfmlbjbhaa
