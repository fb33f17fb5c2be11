/- PlanTold: what the printed functions of the reference come to. -/
import Derived.Test.YtmdnokfmlbjbhaaM4
import Derived.Test.YtmdnokfmlbjbhaaPPlanToldx2
import Derived.Test.YtmdnokfmlbjbhaaPPlanToldx3
import Derived.Test.YtmdnokfmlbjbhaaPPlanToldx5
namespace Go.Proofs.Ytmdnokfmlbjbhaa
open Go.RowKit Go.Proofs.YtmdnokfmlbjbhaaW.PrintWords
open Go.Proofs.Ytmdnokfmlbjbhaa.PPlanTold
set_option linter.unusedVariables false
set_option linter.unusedSimpArgs false

theorem wrap_succ {i n : Nat} (h : i < n) (hn : n ≤ 9223372036854775807) : wrap64 ((i : Int) + 1) = ((i + 1 : Nat) : Int) := by
  rw [IntWalk.wrap64_in _ (by omega)]; omega
theorem drop_rd (l : List Int) (i : Nat) (h : i < l.length) : l.drop i = rd l i :: l.drop (i + 1) := by
  rw [rd_nat, List.getD_eq_getElem?_getD, List.getElem?_eq_getElem h]; exact List.drop_eq_getElem_cons h
theorem rdL (cs : List (List Int)) (i : Nat) (h : i < cs.length) : rd_L1 cs (i : Int) = cs[i] := by
  unfold rd_L1; rw [Int.toNat_natCast, List.getD_eq_getElem?_getD, List.getElem?_eq_getElem h]; rfl
theorem ev_true {α : Type} {g : Nat → Option α} {r : α} (h : ∀ k, g (k + 1) = some r) : Ev g r := Ev.step (f := fun _ => some r) h (Ev.now r)

theorem sameInts_l (a b : List Int) (hl : a.length = b.length) (hm : a.length ≤ 9223372036854775807) : ∀ (d i : Nat), i + d = a.length → Ev (fun k => tidelineref11_SameInts.l0 k a b (i : Int)) (decide (a.drop i = b.drop i))
  | 0, i, h => by
    rw [List.drop_of_length_le (by omega), List.drop_of_length_le (by omega)]
    refine ev_true (fun k => ?_)
    simp only [tidelineref11_SameInts.l0]
    rw [if_neg (by omega)]; rfl
  | d + 1, i, h => by
    rw [drop_rd a i (by omega), drop_rd b i (by omega)]
    by_cases he : rd a i = rd b i
    · refine Ev.step (f := fun k => tidelineref11_SameInts.l0 k a b ((i + 1 : Nat) : Int)) (fun k => ?_) ?_
      · simp only [tidelineref11_SameInts.l0]
        rw [if_pos (by omega), if_pos (by omega), if_pos (by omega), if_pos he, wrap_succ (n := a.length) (by omega) hm]
      · have := sameInts_l a b hl hm d (i + 1) (by omega)
        rw [show decide (rd a i :: a.drop (i + 1) = rd b i :: b.drop (i + 1)) = decide (a.drop (i + 1) = b.drop (i + 1)) from by simp [he]]
        exact this
    · rw [decide_eq_false (by simp [he])]
      refine ev_true (fun k => ?_)
      simp only [tidelineref11_SameInts.l0]
      rw [if_pos (by omega), if_pos (by omega), if_pos (by omega), if_neg he]
theorem sameInts_ev (a b : List Int) (hm : a.length ≤ 9223372036854775807) : Ev (fun k => tidelineref11_SameInts.f k a b) (decide (a = b)) := by
  by_cases hl : a.length = b.length
  · refine Ev.congr (f := fun k => tidelineref11_SameInts.l0 k a b ((0 : Nat) : Int)) (fun k => ?_) ?_
    · unfold tidelineref11_SameInts.f; rw [if_pos (by omega)]; rfl
    · have := sameInts_l a b hl hm a.length 0 (by omega)
      simpa using this
  · rw [decide_eq_false (fun e => hl (by rw [e]))]
    refine Ev.congr (f := fun k => some false) (fun k => ?_) (Ev.now _)
    unfold tidelineref11_SameInts.f; rw [if_neg (by omega)]

theorem same_l (e e' : Int) (cs ds : List (List Int)) (hl : cs.length = ds.length) (hm : cs.length ≤ 9223372036854775807) (hc : ∀ c ∈ cs, c.length ≤ 9223372036854775807) : ∀ (d i : Nat), i + d = cs.length → Ev (fun k => tidelineref11_Same.l0 k (i : Int) e cs e' ds) (decide (cs.drop i = ds.drop i))
  | 0, i, h => by
    rw [List.drop_of_length_le (by omega), List.drop_of_length_le (by omega)]
    refine ev_true (fun k => ?_)
    simp only [tidelineref11_Same.l0]
    rw [if_neg (by omega)]; rfl
  | d + 1, i, h => by
    have h1 : i < cs.length := by omega
    have h2 : i < ds.length := by omega
    rw [List.drop_eq_getElem_cons h1, List.drop_eq_getElem_cons h2]
    have hs := sameInts_ev cs[i] ds[i] (hc _ (List.getElem_mem h1))
    refine Ev.step (f := fun k => (tidelineref11_SameInts.f k cs[i] ds[i]).bind fun t => if t = true then tidelineref11_Same.l0 k ((i + 1 : Nat) : Int) e cs e' ds else some false) (fun k => ?_) (Ev.bind hs ?_)
    · simp only [tidelineref11_Same.l0]
      rw [if_pos (by omega), if_pos (by omega), if_pos (by omega), rdL cs i h1, rdL ds i h2, wrap_succ (n := cs.length) h1 hm]
    · by_cases he : cs[i] = ds[i]
      · have := same_l e e' cs ds hl hm hc d (i + 1) (by omega)
        simp only [he, decide_true, if_true]
        rw [show decide (ds[i] :: cs.drop (i + 1) = ds[i] :: ds.drop (i + 1)) = decide (cs.drop (i + 1) = ds.drop (i + 1)) from decide_eq_decide.2 ⟨fun h => (List.cons.inj h).2, fun h => by rw [h]⟩]
        exact this
      · rw [decide_eq_false he, decide_eq_false (fun h => he (List.cons.inj h).1)]
        exact Ev.congr (f := fun _ => some false) (fun k => by simp) (Ev.now _)
theorem same_ev (e e' : Int) (cs ds : List (List Int)) (hm : cs.length ≤ 9223372036854775807) (hc : ∀ c ∈ cs, c.length ≤ 9223372036854775807) : Ev (fun k => tidelineref11_Same.f k e cs e' ds) (decide (e = e' ∧ cs = ds)) := by
  by_cases he : e = e'
  · by_cases hl : cs.length = ds.length
    · refine Ev.step (f := fun k => tidelineref11_Same.l0 k ((0 : Nat) : Int) e cs e' ds) (fun k => ?_) ?_
      · unfold tidelineref11_Same.f; rw [if_pos he]; simp only [tidelineref11_Same.j0]; rw [if_neg (by simp [hl])]; rfl
      · have := same_l e e' cs ds hl hm hc cs.length 0 (by omega)
        simpa [he] using this
    · rw [decide_eq_false (fun h => hl (by rw [h.2]))]
      refine ev_true (fun k => ?_)
      unfold tidelineref11_Same.f; rw [if_pos he]; simp only [tidelineref11_Same.j0]; rw [if_pos (by simp; omega)]
  · rw [decide_eq_false (fun h => he h.1)]
    refine ev_true (fun k => ?_)
    unfold tidelineref11_Same.f; rw [if_neg he]; simp only [tidelineref11_Same.j0]; rfl

/-- is a plan too great -/
def greatOf (cs : List (List Int)) : Bool := decide (12 < cs.length) || cs.any (fun c => decide (12 < c.length))
theorem great_l (cs : List (List Int)) (hm : cs.length ≤ 9223372036854775807) : ∀ (d i : Nat), i + d = cs.length → Ev (fun k => tidelinelaw11_great.l0 k cs (cs.length : Int) (i : Int)) ((cs.drop i).any (fun c => decide (12 < c.length)))
  | 0, i, h => by
    rw [List.drop_of_length_le (by omega)]
    refine ev_true (fun k => ?_)
    simp only [tidelinelaw11_great.l0]
    rw [if_neg (by omega)]; rfl
  | d + 1, i, h => by
    have h1 : i < cs.length := by omega
    rw [List.drop_eq_getElem_cons h1, List.any_cons]
    by_cases he : 12 < cs[i].length
    · rw [decide_eq_true he, Bool.true_or]
      refine ev_true (fun k => ?_)
      simp only [tidelinelaw11_great.l0]
      rw [if_pos (by omega), if_pos (by omega), if_pos (by omega), rdL cs i h1, if_pos (by omega)]
    · rw [decide_eq_false he, Bool.false_or]
      refine Ev.step (f := fun k => tidelinelaw11_great.l0 k cs (cs.length : Int) ((i + 1 : Nat) : Int)) (fun k => ?_) (great_l cs hm d (i + 1) (by omega))
      simp only [tidelinelaw11_great.l0]
      rw [if_pos (by omega), if_pos (by omega), if_pos (by omega), rdL cs i h1, if_neg (by omega), wrap_succ (n := cs.length) h1 hm]
theorem great_ev (e : Int) (cs : List (List Int)) (hm : cs.length ≤ 9223372036854775807) : Ev (fun k => tidelinelaw11_great.f k e cs) (greatOf cs) := by
  unfold greatOf
  by_cases h : 12 < cs.length
  · rw [decide_eq_true h, Bool.true_or]
    refine Ev.congr (f := fun _ => some true) (fun k => ?_) (Ev.now _)
    unfold tidelinelaw11_great.f; rw [if_pos (by omega)]
  · rw [decide_eq_false h, Bool.false_or]
    refine Ev.congr (f := fun k => tidelinelaw11_great.l0 k cs (cs.length : Int) ((0 : Nat) : Int)) (fun k => ?_) ?_
    · unfold tidelinelaw11_great.f; rw [if_neg (by omega)]; rfl
    · have := great_l cs hm cs.length 0 (by omega)
      simpa using this

/-! ### Right -/
/-- may xs come behind all -/
def good (all xs : List Int) : Prop := (∀ n ∈ xs, (0 ≤ n ∧ n < 7) ∧ n ∉ all) ∧ xs.Nodup
instance (all xs : List Int) : Decidable (good all xs) := by unfold good; infer_instance
theorem good_cons (all : List Int) (n : Int) (xs : List Int) : good all (n :: xs) ↔ (0 ≤ n ∧ n < 7) ∧ n ∉ all ∧ good (all ++ [n]) xs := by
  unfold good
  rw [List.nodup_cons]
  constructor
  · rintro ⟨h1, h2, h3⟩
    refine ⟨(h1 n (List.mem_cons_self ..)).1, (h1 n (List.mem_cons_self ..)).2, fun m hm => ⟨(h1 m (List.mem_cons_of_mem _ hm)).1, fun hi => ?_⟩, h3⟩
    rcases List.mem_append.1 hi with hi | hi
    · exact (h1 m (List.mem_cons_of_mem _ hm)).2 hi
    · rw [List.mem_singleton.1 hi] at hm; exact h2 hm
  · rintro ⟨h1, h2, h3, h4⟩
    refine ⟨fun m hm => ?_, fun hi => (h3 n hi).2 (by simp), h4⟩
    rcases List.mem_cons.1 hm with rfl | hm
    · exact ⟨h1, h2⟩
    · exact ⟨(h3 m hm).1, fun hi => (h3 m hm).2 (by simp [hi])⟩
theorem good_append (all xs ys : List Int) : good all (xs ++ ys) ↔ good all xs ∧ good (all ++ xs) ys := by
  induction xs generalizing all with
  | nil => simp [good]
  | cons x xs ih =>
    rw [List.cons_append, good_cons, good_cons, ih]
    have e : all ++ [x] ++ xs = all ++ x :: xs := by simp
    rw [e]
    constructor
    · rintro ⟨a, b, c, d⟩; exact ⟨⟨a, b, c⟩, d⟩
    · rintro ⟨⟨a, b, c⟩, d⟩; exact ⟨a, b, c, d⟩
theorem right_l2 (e : Int) (cs : List (List Int)) (all : List Int) (hm : all.length ≤ 1000) (i j : Nat) (hj : j < 9223372036854775807) (n : Int) : ∀ (d q : Nat), q + d = all.length →
    (n ∈ all.drop q → Ev (fun k => tidelineref11_Right.l2 k all (i : Int) (j : Int) n (q : Int) e cs) false) ∧
    (n ∉ all.drop q → ∀ r, Ev (fun k => tidelineref11_Right.l1 k (all ++ [n]) (i : Int) ((j + 1 : Nat) : Int) e cs) r → Ev (fun k => tidelineref11_Right.l2 k all (i : Int) (j : Int) n (q : Int) e cs) r)
  | 0, q, h => by
    rw [List.drop_of_length_le (by omega)]
    refine ⟨(by intro h; cases h), fun _ r hr => Ev.step (fun k => ?_) hr⟩
    simp only [tidelineref11_Right.l2]
    rw [if_neg (by omega), if_pos (by omega), wrap_succ (n := j + 1) (by omega) (by omega)]
  | d + 1, q, h => by
    rw [drop_rd all q (by omega)]
    by_cases he : rd all q = n
    · refine ⟨fun _ => ev_true (fun k => ?_), fun hn => absurd (by rw [he]; exact List.mem_cons_self ..) hn⟩
      simp only [tidelineref11_Right.l2]
      rw [if_pos (by omega), if_pos (by omega), if_pos he]
    · have ih := right_l2 e cs all hm i j hj n d (q + 1) (by omega)
      have key : ∀ k, tidelineref11_Right.l2 (k + 1) all (i : Int) (j : Int) n (q : Int) e cs = tidelineref11_Right.l2 k all (i : Int) (j : Int) n ((q + 1 : Nat) : Int) e cs := fun k => by
        conv => lhs; simp only [tidelineref11_Right.l2]
        rw [if_pos (by omega), if_pos (by omega), if_neg he, wrap_succ (n := all.length) (by omega) (by omega)]
      refine ⟨fun hin => Ev.step key (ih.1 ?_), fun hn r hr => Ev.step key (ih.2 (fun hi => hn (List.mem_cons_of_mem _ hi)) r hr)⟩
      rcases List.mem_cons.1 hin with h' | h'
      · exact absurd h'.symm he
      · exact h'
theorem right_l1 (e : Int) (cs : List (List Int)) (i : Nat) (hi : i < cs.length) (hm : cs.length ≤ 9223372036854775807) : ∀ (d : Nat) (all : List Int) (j : Nat), j + d = cs[i].length → all.length + d ≤ 1000 → cs[i].length ≤ 1000 →
    (¬ good all (cs[i].drop j) → Ev (fun k => tidelineref11_Right.l1 k all (i : Int) (j : Int) e cs) false) ∧
    (good all (cs[i].drop j) → ∀ r, Ev (fun k => tidelineref11_Right.l0 k (all ++ cs[i].drop j) ((i + 1 : Nat) : Int) e cs) r → Ev (fun k => tidelineref11_Right.l1 k all (i : Int) (j : Int) e cs) r)
  | 0, all, j, h, hl, hj => by
    rw [List.drop_of_length_le (by omega)]
    refine ⟨fun h => absurd ⟨(by intro n hn; cases hn), List.nodup_nil⟩ h, fun _ r hr => ?_⟩
    rw [List.append_nil] at hr
    refine Ev.step (fun k => ?_) hr
    simp only [tidelineref11_Right.l1]
    rw [if_pos (by omega), if_pos (by omega), rdL cs i hi, if_neg (by omega), wrap_succ hi hm]
  | d + 1, all, j, h, hl, hj => by
    have hjl : j < cs[i].length := by omega
    rw [drop_rd cs[i] j hjl, good_cons]
    obtain ⟨n, hn⟩ : ∃ n, n = rd cs[i] j := ⟨_, rfl⟩
    rw [← hn]
    have ih := right_l1 e cs i hi hm d (all ++ [n]) (j + 1) (by omega) (by simp; omega) hj
    have h2 := right_l2 e cs all (by omega) i j (by omega) n all.length 0 (by omega)
    rw [List.drop_zero] at h2
    by_cases hr : 0 ≤ n ∧ n < 7
    · have key : ∀ k, tidelineref11_Right.l1 (k + 1) all (i : Int) (j : Int) e cs = tidelineref11_Right.j3 k all (i : Int) (j : Int) n false e cs := fun k => by
        conv => lhs; simp only [tidelineref11_Right.l1]
        rw [if_pos (by omega), if_pos (by omega), rdL cs i hi, if_pos (by omega), if_pos (by omega), ← hn, if_neg (by omega), decide_eq_false (by omega)]
      have key2 : ∀ k, tidelineref11_Right.j3 (k + 1) all (i : Int) (j : Int) n false e cs = tidelineref11_Right.l2 k all (i : Int) (j : Int) n ((0 : Nat) : Int) e cs := fun k => by
        simp only [tidelineref11_Right.j3]; rfl
      by_cases hin : n ∈ all
      · exact ⟨fun _ => Ev.step key (Ev.step key2 (h2.1 hin)), fun hg => absurd hin hg.2.1⟩
      · refine ⟨fun hg => Ev.step key (Ev.step key2 (h2.2 hin _ (ih.1 (fun g => hg ⟨hr, hin, g⟩)))), fun hg r hev => Ev.step key (Ev.step key2 (h2.2 hin _ (ih.2 hg.2.2 r ?_)))⟩
        rw [List.append_assoc]; exact hev
    · have key2 : ∀ k, tidelineref11_Right.j3 (k + 1) all (i : Int) (j : Int) n true e cs = some false := fun k => by simp only [tidelineref11_Right.j3]; rfl
      refine ⟨fun _ => ?_, fun hg => absurd hg.1 hr⟩
      by_cases h0 : n < 0
      · refine Ev.step (f := fun k => tidelineref11_Right.j3 k all (i : Int) (j : Int) n true e cs) (fun k => ?_) (ev_true key2)
        conv => lhs; simp only [tidelineref11_Right.l1]
        rw [if_pos (by omega), if_pos (by omega), rdL cs i hi, if_pos (by omega), if_pos (by omega), ← hn, if_pos h0]
      · refine Ev.step (f := fun k => tidelineref11_Right.j3 k all (i : Int) (j : Int) n true e cs) (fun k => ?_) (ev_true key2)
        conv => lhs; simp only [tidelineref11_Right.l1]
        rw [if_pos (by omega), if_pos (by omega), rdL cs i hi, if_pos (by omega), if_pos (by omega), ← hn, if_neg h0, decide_eq_true (by omega)]
theorem right_l0 (e : Int) (cs : List (List Int)) (hm : cs.length ≤ 9223372036854775807) : ∀ (d : Nat) (all : List Int) (i : Nat), i + d = cs.length → all.length + (cs.drop i).flatten.length ≤ 1000 →
    Ev (fun k => tidelineref11_Right.l0 k all (i : Int) e cs) (decide ((∀ c ∈ cs.drop i, c ≠ []) ∧ good all (cs.drop i).flatten))
  | 0, all, i, h, hl => by
    rw [List.drop_of_length_le (by omega)]
    rw [decide_eq_true ⟨(by intro c hc; cases hc), ⟨(by intro n hn; cases hn), List.nodup_nil⟩⟩]
    refine ev_true (fun k => ?_)
    simp only [tidelineref11_Right.l0]
    rw [if_neg (by omega)]
  | d + 1, all, i, h, hl => by
    have hi : i < cs.length := by omega
    rw [List.drop_eq_getElem_cons hi, List.flatten_cons, List.length_append] at hl
    rw [List.drop_eq_getElem_cons hi, List.flatten_cons]
    by_cases he : cs[i] = []
    · rw [decide_eq_false (fun hh => hh.1 _ (List.mem_cons_self ..) he)]
      refine ev_true (fun k => ?_)
      simp only [tidelineref11_Right.l0]
      rw [if_pos (by omega), if_pos (by omega), rdL cs i hi, he]; rfl
    · have hlen : 0 < cs[i].length := List.length_pos_iff.2 he
      have key : ∀ k, tidelineref11_Right.l0 (k + 1) all (i : Int) e cs = tidelineref11_Right.l1 k all (i : Int) ((0 : Nat) : Int) e cs := fun k => by
        conv => lhs; simp only [tidelineref11_Right.l0]
        rw [if_pos (by omega), if_pos (by omega), rdL cs i hi, if_neg (by omega)]; rfl
      have h1 := right_l1 e cs i hi hm cs[i].length all 0 (by omega) (by omega) (by omega)
      rw [List.drop_zero] at h1
      by_cases hg : good all cs[i]
      · have ih := right_l0 e cs hm d (all ++ cs[i]) (i + 1) (by omega) (by rw [List.length_append]; omega)
        have hiff : ((∀ c ∈ cs[i] :: cs.drop (i + 1), c ≠ []) ∧ good all (cs[i] ++ (cs.drop (i + 1)).flatten)) ↔ ((∀ c ∈ cs.drop (i + 1), c ≠ []) ∧ good (all ++ cs[i]) (cs.drop (i + 1)).flatten) := by
          rw [good_append]
          constructor
          · rintro ⟨a, b, c⟩; exact ⟨fun x hx => a x (List.mem_cons_of_mem _ hx), c⟩
          · rintro ⟨a, c⟩
            refine ⟨fun x hx => ?_, hg, c⟩
            rcases List.mem_cons.1 hx with rfl | hx
            · exact he
            · exact a x hx
        rw [show decide ((∀ c ∈ (cs[i]'hi) :: cs.drop (i + 1), c ≠ []) ∧ good all ((cs[i]'hi) ++ (cs.drop (i + 1)).flatten)) = decide ((∀ c ∈ cs.drop (i + 1), c ≠ []) ∧ good (all ++ (cs[i]'hi)) (cs.drop (i + 1)).flatten) from decide_eq_decide.2 hiff]
        exact Ev.step key (h1.2 hg _ ih)
      · rw [decide_eq_false (fun hh => hg ((good_append _ _ _).1 hh.2).1)]
        exact Ev.step key (h1.1 hg)
theorem PR_good (e : Int) (cs : List (List Int)) : PR e cs ↔ (0 ≤ e ∧ e ≤ 2147483647 ∧ 0 < cs.length ∧ cs.length ≤ 7) ∧ (∀ c ∈ cs, c ≠ []) ∧ good [] cs.flatten := by
  unfold PR good
  constructor
  · rintro ⟨a, b, c, d⟩; exact ⟨a, b, fun n hn => ⟨c n hn, by simp⟩, d⟩
  · rintro ⟨a, b, c, d⟩; exact ⟨a, b, fun n hn => (c n hn).1, d⟩
theorem right_ev (e : Int) (cs : List (List Int)) (hl : cs.flatten.length ≤ 1000) (hm : cs.length ≤ 9223372036854775807) : Ev (fun k => tidelineref11_Right.f k e cs) (decide (PR e cs)) := by
  have key2 : ∀ k, tidelineref11_Right.j0 (k + 1) true e cs = some false := fun k => by simp only [tidelineref11_Right.j0]; rfl
  by_cases h : 0 ≤ e ∧ e ≤ 2147483647 ∧ 0 < cs.length ∧ cs.length ≤ 7
  · have h0 := right_l0 e cs hm cs.length [] 0 (by omega) (by simpa using hl)
    rw [List.drop_zero] at h0
    rw [show decide (PR e cs) = decide ((∀ c ∈ cs, c ≠ []) ∧ good [] cs.flatten) from decide_eq_decide.2 ((PR_good e cs).trans ⟨fun x => x.2, fun x => ⟨h, x⟩⟩)]
    refine Ev.step (f := fun k => tidelineref11_Right.l0 k [] ((0 : Nat) : Int) e cs) (fun k => ?_) h0
    unfold tidelineref11_Right.f
    rw [if_neg (by omega), if_neg (by omega), if_neg (by omega), decide_eq_false (by omega)]
    simp only [tidelineref11_Right.j0]; rfl
  · rw [decide_eq_false (fun hp => h hp.1)]
    refine ev_true (fun k => ?_)
    unfold tidelineref11_Right.f
    by_cases h1 : e < 0
    · rw [if_pos h1]; exact key2 k
    · rw [if_neg h1]
      by_cases h2 : e > 2147483647
      · rw [if_pos h2]; exact key2 k
      · rw [if_neg h2]
        by_cases h3 : (cs.length : Int) < 1
        · rw [if_pos h3]; exact key2 k
        · rw [if_neg h3, decide_eq_true (by omega)]; exact key2 k

/-! ### Next -/
theorem stay_drop (l a : List Int) (j : Nat) (h : j < a.length) : stay l (a.drop j) = (if rd a j ∈ l then [rd a j] else []) ++ stay l (a.drop (j + 1)) := by
  rw [drop_rd a j h]; unfold stay
  by_cases hm : rd a j ∈ l <;> simp [hm]
theorem next_l2 (there : List Int) (ht : there.length ≤ 1000) (e ne : Int) (cs out : List (List Int)) (l : List Int) (hl : l.length ≤ 1000) (i j : Nat) (hi : i < cs.length) (hj : j < cs[i].length) (hc : cs[i].length ≤ 1000) : ∀ (d q : Nat), q + d = there.length → ∀ (is : Bool) r,
    Ev (fun k => tidelineref11_Next.l1 k there (i : Int) (l ++ (if (is || decide (rd cs[i] j ∈ there.drop q)) = true then [rd cs[i] j] else [])) ((j + 1 : Nat) : Int) e cs ne out) r →
    Ev (fun k => tidelineref11_Next.l2 k there (i : Int) l (j : Int) is (q : Int) e cs ne out) r
  | 0, q, h, is, r, hr => by
    rw [List.drop_of_length_le (by omega)] at hr
    refine Ev.step (fun k => ?_) hr
    simp only [tidelineref11_Next.l2]
    rw [if_neg (by omega)]
    cases is
    · simp [wrap_succ (n := cs[i].length) hj (by omega)]
    · rw [if_pos rfl, if_pos (by omega), if_pos (by omega), if_pos (by omega), rdL cs i hi, if_pos (by omega), if_pos (by omega), wrap_succ (n := cs[i].length) hj (by omega)]
      simp
  | d + 1, q, h, is, r, hr => by
    have hq : q < there.length := by omega
    rw [drop_rd there q hq] at hr
    have ih := next_l2 there ht e ne cs out l hl i j hi hj hc d (q + 1) (by omega)
    cases is with
    | true =>
      refine Ev.step (f := fun k => tidelineref11_Next.l2 k there (i : Int) l (j : Int) true ((q + 1 : Nat) : Int) e cs ne out) (fun k => ?_) (ih true r (by simpa using hr))
      conv => lhs; simp only [tidelineref11_Next.l2]
      rw [if_pos (by omega), if_pos trivial, wrap_succ (n := there.length) hq (by omega)]
    | false =>
      refine Ev.step (f := fun k => tidelineref11_Next.l2 k there (i : Int) l (j : Int) (rd there q == rd cs[i] j) ((q + 1 : Nat) : Int) e cs ne out) (fun k => ?_) (ih _ r ?_)
      · conv => lhs; simp only [tidelineref11_Next.l2]
        rw [if_pos (by omega), if_neg (by decide), if_pos (by omega), if_pos (by omega), if_pos (by omega), if_pos (by omega), rdL cs i hi, if_pos (by omega), wrap_succ (n := there.length) hq (by omega)]
      · have : (rd there q == rd cs[i] j || decide (rd cs[i] j ∈ there.drop (q + 1))) = (false || decide (rd cs[i] j ∈ rd there q :: there.drop (q + 1))) := by
          rw [Bool.false_or, Bool.eq_iff_iff]
          simp only [Bool.or_eq_true, beq_iff_eq, decide_eq_true_eq, List.mem_cons]
          exact ⟨fun h => h.imp Eq.symm id, fun h => h.imp Eq.symm id⟩
        rw [this]; exact hr
theorem next_l1 (there : List Int) (ht : there.length ≤ 1000) (e ne : Int) (cs out : List (List Int)) (ho : out.length ≤ 1000) (i : Nat) (hi : i < cs.length) (hm : cs.length ≤ 1000) (hc : cs[i].length ≤ 1000) : ∀ (d j : Nat) (l : List Int), j + d = cs[i].length → l.length + d ≤ 1000 →
    (l ++ stay there (cs[i].drop j) = [] → Ev (fun k => tidelineref11_Next.l1 k there (i : Int) l (j : Int) e cs ne out) (0, [], 5)) ∧
    (l ++ stay there (cs[i].drop j) ≠ [] → ∀ r, Ev (fun k => tidelineref11_Next.l0 k there ((i + 1 : Nat) : Int) e cs ne (out ++ [l ++ stay there (cs[i].drop j)])) r → Ev (fun k => tidelineref11_Next.l1 k there (i : Int) l (j : Int) e cs ne out) r)
  | 0, j, l, h, hl => by
    rw [List.drop_of_length_le (by omega)]
    have hs : stay there [] = [] := rfl
    rw [hs, List.append_nil]
    refine ⟨fun h0 => ev_true (fun k => ?_), fun h0 r hr => Ev.step (fun k => ?_) hr⟩
    · simp only [tidelineref11_Next.l1]
      rw [if_pos (by omega), if_pos (by omega), rdL cs i hi, if_neg (by omega), h0]; rfl
    · have := List.length_pos_iff.2 h0
      simp only [tidelineref11_Next.l1]
      rw [if_pos (by omega), if_pos (by omega), rdL cs i hi, if_neg (by omega), if_neg (by omega), if_pos (by omega), wrap_succ hi (by omega)]
  | d + 1, j, l, h, hl => by
    have hj : j < cs[i].length := by omega
    have e0 : l ++ stay there (cs[i].drop j) = (l ++ (if rd cs[i] j ∈ there then [rd cs[i] j] else [])) ++ stay there (cs[i].drop (j + 1)) := by
      rw [stay_drop there cs[i] j hj, List.append_assoc]
    have key : ∀ k, tidelineref11_Next.l1 (k + 1) there (i : Int) l (j : Int) e cs ne out = tidelineref11_Next.l2 k there (i : Int) l (j : Int) false ((0 : Nat) : Int) e cs ne out := fun k => by
      conv => lhs; simp only [tidelineref11_Next.l1]
      rw [if_pos (by omega), if_pos (by omega), rdL cs i hi, if_pos (by omega)]; rfl
    have h2 := next_l2 there ht e ne cs out l (by omega) i j hi hj hc there.length 0 (by omega) false
    rw [List.drop_zero] at h2
    have e1 : (if (false || decide (rd cs[i] j ∈ there)) = true then [rd cs[i] j] else ([] : List Int)) = if rd cs[i] j ∈ there then [rd cs[i] j] else [] := by simp
    rw [e1] at h2
    have ih := next_l1 there ht e ne cs out ho i hi hm hc d (j + 1) (l ++ (if rd cs[i] j ∈ there then [rd cs[i] j] else [])) (by omega) (by rw [List.length_append]; split <;> simp <;> omega)
    rw [e0]
    exact ⟨fun h0 => Ev.step key (h2 _ (ih.1 h0)), fun h0 r hr => Ev.step key (h2 _ (ih.2 h0 r hr))⟩
theorem next_l0 (there : List Int) (ht : there.length ≤ 1000) (e ne : Int) (cs : List (List Int)) (hm : cs.length ≤ 500) (hc : ∀ c ∈ cs, c.length ≤ 1000) : ∀ (d i : Nat) (out : List (List Int)), i + d = cs.length → out.length + d ≤ 1000 →
    Ev (fun k => tidelineref11_Next.l0 k there (i : Int) e cs ne out) (if ∃ c ∈ cs.drop i, stay there c = [] then (0, [], 5) else (ne, out ++ (cs.drop i).map (stay there), 0))
  | 0, i, out, h, hl => by
    rw [List.drop_of_length_le (by omega), if_neg (by rintro ⟨c, hc, _⟩; cases hc), List.map_nil, List.append_nil]
    refine ev_true (fun k => ?_)
    simp only [tidelineref11_Next.l0]
    rw [if_neg (by omega)]
  | d + 1, i, out, h, hl => by
    have hi : i < cs.length := by omega
    have key : ∀ k, tidelineref11_Next.l0 (k + 1) there (i : Int) e cs ne out = tidelineref11_Next.l1 k there (i : Int) [] ((0 : Nat) : Int) e cs ne out := fun k => by
      conv => lhs; simp only [tidelineref11_Next.l0]
      rw [if_pos (by omega)]; rfl
    have h1 := next_l1 there ht e ne cs out (by omega) i hi (by omega) (hc _ (List.getElem_mem hi)) cs[i].length 0 [] (by omega) (by have := hc _ (List.getElem_mem hi); simpa using this)
    rw [List.drop_zero, List.nil_append] at h1
    rw [List.drop_eq_getElem_cons hi, List.map_cons]
    by_cases he : stay there cs[i] = []
    · rw [if_pos ⟨_, List.mem_cons_self .., he⟩]
      exact Ev.step key (h1.1 he)
    · have ih := next_l0 there ht e ne cs hm hc d (i + 1) (out ++ [stay there cs[i]]) (by omega) (by simp; omega)
      have hiff : (∃ c ∈ (cs[i]'hi) :: cs.drop (i + 1), stay there c = []) ↔ ∃ c ∈ cs.drop (i + 1), stay there c = [] := by
        constructor
        · rintro ⟨c, hc, h0⟩
          rcases List.mem_cons.1 hc with rfl | hc
          · exact absurd h0 he
          · exact ⟨c, hc, h0⟩
        · rintro ⟨c, hc, h0⟩; exact ⟨c, List.mem_cons_of_mem _ hc, h0⟩
      have e2 : (if ∃ c ∈ (cs[i]'hi) :: cs.drop (i + 1), stay there c = [] then ((0 : Int), ([] : List (List Int)), (5 : Int)) else (ne, out ++ stay there (cs[i]'hi) :: (cs.drop (i + 1)).map (stay there), 0)) =
          if ∃ c ∈ cs.drop (i + 1), stay there c = [] then (0, [], 5) else (ne, (out ++ [stay there (cs[i]'hi)]) ++ (cs.drop (i + 1)).map (stay there), 0) := by
        by_cases hx : ∃ c ∈ cs.drop (i + 1), stay there c = []
        · rw [if_pos hx, if_pos (hiff.2 hx)]
        · rw [if_neg hx, if_neg (fun h => hx (hiff.1 h)), List.append_assoc]; rfl
      rw [e2]
      exact Ev.step key (h1.2 he _ ih)
theorem next_ev (e : Int) (cs : List (List Int)) (there : List Int) (ht : there.length ≤ 1000) (hl : cs.flatten.length ≤ 1000) (hm : cs.length ≤ 500) (hc : ∀ c ∈ cs, c.length ≤ 1000) : Ev (fun k => tidelineref11_Next.f k e cs there) (nextOf e cs there) := by
  refine Ev.congr (f := fun k => (tidelineref11_Right.f k e cs).bind fun t165 => (if t165 = true then (tidelineref11_Next.j0 k there (e == 2147483647) e cs) else (tidelineref11_Next.j0 k there true e cs))) (fun k => rfl) (Ev.bind (right_ev e cs hl (by omega)) ?_)
  have bad : ∀ k, tidelineref11_Next.j0 (k + 1) there true e cs = some (0, [], 1) := fun k => by simp only [tidelineref11_Next.j0]; rfl
  unfold nextOf
  by_cases hp : PR e cs
  · rw [decide_eq_true hp]
    simp only [if_true]
    by_cases he : e = 2147483647
    · rw [if_pos (.inr he), he]
      exact ev_true (by rw [he] at bad; exact bad)
    · rw [if_neg (by rintro (h | h); exact h hp; exact he h)]
      have h0 := next_l0 there ht e (e + 1) cs hm hc cs.length 0 [] (by omega) (by simp; omega)
      rw [List.drop_zero, List.nil_append] at h0
      refine Ev.step (f := fun k => tidelineref11_Next.l0 k there ((0 : Nat) : Int) e cs (e + 1) []) (fun k => ?_) h0
      rw [beq_eq_false_iff_ne.2 he]
      simp only [tidelineref11_Next.j0]
      rw [if_neg (by decide), IntWalk.wrap64_in _ (by have := hp.1; omega)]; rfl
  · rw [decide_eq_false hp, if_pos (.inl hp)]
    simp only [Bool.false_eq_true, if_false]
    exact ev_true bad

/-! ### First -/
theorem rfirst_fin : ∀ u : Fin 8, ∀ c : Fin 8, 1 ≤ u.val → 1 ≤ c.val → c.val ≤ u.val → tidelineref11_First.f 40 (u.val : Int) (c.val : Int) = some (0, chainsOf u.val c.val, 0) := by
  decide +kernel
theorem rfirst_ok {u c : Nat} (h : okUC u c) : tidelineref11_First.f 40 (u : Int) (c : Int) = some (0, chainsOf u c, 0) :=
  rfirst_fin ⟨u, by have := h.2.1; omega⟩ ⟨c, by have := h.2.1; have := h.2.2.2; omega⟩ (by have := h.1; simp; omega) (by have := h.2.2.1; simp; omega) (by have := h.2.2.2; simp; omega)
theorem rfirst_no {u c : Int} (h : ¬ okUC u c) : tidelineref11_First.f 40 u c = some (0, [], 1) := by
  unfold tidelineref11_First.f
  by_cases h1 : u < 1
  · rw [if_pos h1]; rfl
  · rw [if_neg h1]
    by_cases h2 : u > 7
    · rw [if_pos h2]; rfl
    · rw [if_neg h2]
      by_cases h3 : c < 1
      · rw [if_pos h3]; rfl
      · rw [if_neg h3]
        have : decide (c > u) = true := decide_eq_true (by unfold okUC at h; omega)
        rw [this]; rfl
end Go.Proofs.Ytmdnokfmlbjbhaa
