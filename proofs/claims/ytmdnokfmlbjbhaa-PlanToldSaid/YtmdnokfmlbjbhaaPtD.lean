/- PlanTold: the reference's functions as contracts; an append of a row of ints as a step of a drawn region. -/
import Derived.Test.YtmdnokfmlbjbhaaM5
import Derived.Test.YtmdnokfmlbjbhaaPtC
import Derived.Test.YtmdnokfmlbjbhaaM4
import Derived.Deep.AppendLies
namespace Go.Proofs.Ytmdnokfmlbjbhaa
open Go.RowKit Go.Proofs.YtmdnokfmlbjbhaaW.PrintWords
open Go.Proofs.Ytmdnokfmlbjbhaa.PPlanTold
set_option linter.unusedVariables false
set_option linter.unusedSimpArgs false

/-- append(v, ys...) of whole numbers: the run -/
theorem run_appK (t e : TypeId) (k : IntKind) (bytes : Nat) (ht : Try.prog.underlying t = some (.slice e)) (hinfo : (Try.prog.info? e).map (fun i => (i.zero, i.size, i.bytes)) = some (some (.int k 0), 1, bytes)) (hb0 : 0 < bytes)
    (ty : TypeId) (W : World) (base : Nat) (v : Value) (xs ys : List Int) (A : Option Addr) (c : Nat) (HO : W.ownsRow base e 1 v xs.length (nums k xs)) (HR : Kd.C (Kd.int k) W A ys.length ys) (hbase : base ≤ W.heap.size) (hl : (xs.length + ys.length) * bytes ≤ 140737488355328) :
    ∃ A1 c1 W1, (Builtin.append_ #[t, t] ty #[v, .slice A ys.length c]).run Try.prog W = .ok (.slice A1 (xs ++ ys).length c1) W1 ∧ W1.ownsRow base e 1 (.slice A1 (xs ++ ys).length c1) (xs ++ ys).length (nums k (xs ++ ys)) ∧ W.grownBy W1 v.ownBlock := by
  obtain ⟨i0, hi, hzz⟩ := Option.map_eq_some_iff.1 hinfo
  simp only [Prod.mk.injEq] at hzz
  obtain ⟨hz0, hz1, hz2⟩ := hzz
  have hlen : xs.length + ys.length ≤ 140737488355328 := Nat.le_trans (Nat.le_mul_of_pos_right _ hb0) hl
  rcases Nat.eq_zero_or_pos ys.length with hy | hy
  · obtain rfl : ys = [] := List.eq_nil_of_length_eq_zero hy
    rw [List.append_nil]
    rcases HO.2 with ⟨rfl, hn⟩ | ⟨g, cap, cur, rfl, _, _, hnc, _⟩
    · refine ⟨none, 0, W, ?_, by rw [hn]; simpa [hn] using HO, World.grownBy.refl W _⟩
      cases A <;> simp [Builtin.append_, run_underlying ht, sizeOf, typeInfo, hi, Builtin.lenOf, Builtin.firstCells, hn, loadCells, loadCellsFrom, storeCells]
    · refine ⟨_, _, W, ?_, HO, World.grownBy.refl W _⟩
      cases A <;> simp [Builtin.append_, run_underlying ht, sizeOf, typeInfo, hi, Builtin.lenOf, Builtin.firstCells, hnc, loadCells, loadCellsFrom, storeCells]
  · obtain ⟨h1, h2, h3⟩ := C_int.1 HR
    obtain ⟨ad, rfl, hc⟩ := h3 hy
    have hcells : ∀ j u, (nums k ys)[j]? = some u → W.cell? (ad.add j) = some u := by
      intro j u hu
      have hj : j < ys.length := by
        rcases Nat.lt_or_ge j ys.length with h | h
        · exact h
        · simp [nums, List.getElem?_eq_none h] at hu
      have := hc j hj
      simp [nums, List.getElem?_eq_getElem hj] at hu
      subst hu
      rw [this]
      simp [List.getD_eq_getElem?_getD, List.getElem?_eq_getElem hj]
    obtain ⟨v1, w1, hr, h2, h3, _, h5⟩ := run_append_own_at (P := Try.prog) W base t ty e i0 (.int k 0) 1 bytes ht hi hz0 hz1 hz2 rfl (by omega) v xs.length (nums k xs) HO ad ys.length c (nums k ys) (by simp [nums]) hcells
      (by intro u hu; simp only [nums, List.mem_map] at hu; obtain ⟨q, _, rfl⟩ := hu; rfl) (by simp only [maxLen]; omega) hl hbase
    have h2' : w1.ownsRow base e 1 v1 (xs ++ ys).length (nums k (xs ++ ys)) := by simpa [nums] using h2
    obtain ⟨g, cap, e1, _⟩ := World.ownsRow.form h2' (by rw [List.length_append]; omega)
    subst e1
    exact ⟨_, _, w1, hr, h2', h3⟩
/-- the same at a step of a region that draws -/
theorem step_appI {W : World} {ops : Array Oper} {o : Oper} {a : Act} {K : Act → World → Prop} {Q : Exit → Act → World → Prop} {E : Prop} (hgd : o.guard = none) (s x : Operand)
    (ho : o.op = .call { callee := .builtin .append, args := #[s, x], argTypes := #[58, 58] })
    (base : Nat) (v : Value) (xs ys : List Int) (A : Option Addr) (c : Nat) (hs : a.eval s = v) (hx : a.eval x = .slice A ys.length c) (HO : OI W base v xs) (HR : RI W A ys) (hbase : base ≤ W.heap.size) (hl : (xs.length + ys.length) * 8 ≤ 140737488355328)
    (h : ∀ A1 c1 W1, OI W1 base (.slice A1 (xs ++ ys).length c1) (xs ++ ys) → W.grownBy W1 v.ownBlock → K (a.put o.dst (.slice A1 (xs ++ ys).length c1)) W1) :
    if Region.wanted o (yielded ops a.tmps) = true then Oper.wp Try.prog o a W K Q else E := by
  have hw : Region.wanted o (yielded ops a.tmps) = true := by simp [Region.wanted, hgd]
  rw [if_pos hw]
  obtain ⟨A1, c1, W1, hr, ho1, hg1⟩ := run_appK 58 3 .i64 8 Try.underlying58 info3' (by decide) o.type W base v xs ys A c HO HR hbase hl
  unfold Oper.wp execOp
  simp only [ho, resolve, invoke, builtin, Sem.run_bind, Sem.run_pure, Result.andThen_ok, List.map_toArray, List.map_cons, List.map_nil, hs, hx, hr]
  exact h _ _ _ ho1 hg1

theorem flat_le {cs : List (List Int)} (h : greatOf cs = false) : cs.length ≤ 12 ∧ (∀ c ∈ cs, c.length ≤ 12) ∧ cs.flatten.length ≤ 144 := by
  unfold greatOf at h
  rw [Bool.or_eq_false_iff, decide_eq_false_iff_not, List.any_eq_false] at h
  have h1 : cs.length ≤ 12 := by omega
  have h2 : ∀ c ∈ cs, c.length ≤ 12 := fun c hc => by have := h.2 c hc; simp at this; exact this
  refine ⟨h1, h2, ?_⟩
  have : ∀ l : List (List Int), (∀ c ∈ l, c.length ≤ 12) → l.flatten.length ≤ 12 * l.length := by
    intro l
    induction l with
    | nil => intro _; simp
    | cons c l ih =>
      intro hl
      have := ih (fun d hd => hl d (List.mem_cons_of_mem _ hd))
      have := hl c (List.mem_cons_self ..)
      rw [List.flatten_cons, List.length_append, List.length_cons]; omega
  have := this cs h2
  omega
theorem encRows_le {cs : List (List Int)} (h : ∀ c ∈ cs, c.length ≤ 12) : (encRows cs).length ≤ 16 * cs.length := by
  unfold encRows
  induction cs with
  | nil => simp
  | cons c cs ih =>
    have h1 := ih (fun d hd => h d (List.mem_cons_of_mem _ hd))
    have h2 := h c (List.mem_cons_self ..)
    rw [List.map_cons, List.flatten_cons, List.length_append, encRow_len, List.length_cons]; omega

/-! ### the contracts -/
theorem great_calls (e : Int) (A : Option Addr) (c : Nat) (cs : List (List Int)) (w : World) (h : RL w A cs) (hc : cs.length ≤ c) : Calls Try.prog 55 #[.agg #[.int .i64 e, .slice A cs.length c]] w fun ex w' => ex = .returned (.bool (greatOf cs)) ∧ Below w.heap.size w w' := by
  obtain ⟨k, hk⟩ := (great_ev e cs (Kd.C_max h)).rounds
  exact tidelinelaw11_great.calls k e A c cs _ w h hc hk
theorem refright_calls (e : Int) (A : Option Addr) (c : Nat) (cs : List (List Int)) (w : World) (h : RL w A cs) (hc : cs.length ≤ c) (hl : cs.flatten.length ≤ 1000) : Calls Try.prog 58 #[.agg #[.int .i64 e, .slice A cs.length c]] w fun ex w' => ex = .returned (.bool (decide (PR e cs))) ∧ Below w.heap.size w w' := by
  obtain ⟨k, hk⟩ := (right_ev e cs hl (Kd.C_max h)).rounds
  exact tidelineref11_Right.calls k e A c cs _ w h hc hk
theorem refnext_calls (e : Int) (A : Option Addr) (c : Nat) (cs : List (List Int)) (L : Option Addr) (cl : Nat) (there : List Int) (w : World) (h : RL w A cs) (hc : cs.length ≤ c) (ht : RI w L there) (htc : there.length ≤ cl) (hl : greatOf cs = false) (h30 : there.length ≤ 30) :
    Calls Try.prog 57 #[.agg #[.int .i64 e, .slice A cs.length c], .slice L there.length cl] w fun ex w' => ∃ Ao co, ex = .returned (.tuple #[.agg #[.int .i64 (nextOf e cs there).1, .slice Ao (nextOf e cs there).2.1.length co], .int .i64 (nextOf e cs there).2.2]) ∧
      RL w' Ao (nextOf e cs there).2.1 ∧ (nextOf e cs there).2.1.length ≤ co ∧ Below w.heap.size w w' := by
  obtain ⟨f1, f2, f3⟩ := flat_le hl
  obtain ⟨k, hk⟩ := (next_ev e cs there (by omega) (by omega) (by omega) (fun x hx => by have := f2 x hx; omega)).rounds
  refine (tidelineref11_Next.calls k e A c cs L cl there _ _ _ w h hc ht htc hk).mono fun _ _ ⟨v, he, hs, hb⟩ => ?_
  obtain ⟨A1, c1, rfl, h1, h2⟩ := Kd.S_reads hs
  exact ⟨A1, c1, he, h2, h1, hb⟩
theorem reffirst_calls {u c : Int} {cs : List (List Int)} {k : Int} (h : tidelineref11_First.f 40 u c = some (0, cs, k)) (w : World) :
    Calls Try.prog 56 #[.int .i64 u, .int .i64 c] w fun e w' => ∃ L cap, e = .returned (.tuple #[.agg #[.int .i64 0, .slice L cs.length cap], .int .i64 k]) ∧ RL w' L cs ∧ cs.length ≤ cap ∧ Below w.heap.size w w' :=
  (tidelineref11_First.calls 40 u c 0 cs k w h).mono fun _ _ ⟨v, he, hs, hb⟩ => by
    obtain ⟨L, cap, rfl, hc, hr⟩ := Kd.S_reads hs
    exact ⟨L, cap, he, hr, hc, hb⟩
theorem same_rl (e : Int) (A : Option Addr) (c : Nat) (B : Option Addr) (d : Nat) (cs : List (List Int)) (w : World) (h : RL w A cs) (hc : cs.length ≤ c) (h' : RL w B cs) (hd : cs.length ≤ d) (hl : ∀ x ∈ cs, x.length ≤ 9223372036854775807) :
    Calls Try.prog 44 #[.agg #[.int .i64 e, .slice A cs.length c], .agg #[.int .i64 e, .slice B cs.length d]] w fun ex w' => ex = .returned (.bool true) ∧ Below w.heap.size w w' := by
  obtain ⟨k, hk⟩ := (same_ev e e cs cs (Kd.C_max h) hl).rounds
  rw [decide_eq_true ⟨rfl, rfl⟩] at hk
  exact tidelineref11_Same.calls k e A c cs e B d cs true w h hc h' hd hk
theorem same_ri (A : Option Addr) (c : Nat) (B : Option Addr) (d : Nat) (xs : List Int) (w : World) (h : RI w A xs) (hc : xs.length ≤ c) (h' : RI w B xs) (hd : xs.length ≤ d) :
    Calls Try.prog 45 #[.slice A xs.length c, .slice B xs.length d] w fun ex w' => ex = .returned (.bool true) ∧ Below w.heap.size w w' := by
  obtain ⟨k, hk⟩ := (sameInts_ev xs xs (Kd.C_max h)).rounds
  rw [decide_eq_true rfl] at hk
  exact (tidelineref11_SameInts.calls k A c xs B d xs true w h hc h' hd hk).mono fun _ _ ⟨h1, m, h2⟩ => ⟨h1, by rw [h2]; exact pw_below_drewN (Below.refl _ _) m⟩

set_option maxHeartbeats 1000000 in
set_option maxRecDepth 100000 in
theorem refplace_calls (e : Int) (A : Option Addr) (c : Nat) (cs : List (List Int)) (at_ : Int) (w : World) (h : RL w A cs) (hc : cs.length ≤ c) (hl : cs.flatten.length ≤ 1000) (ha : Wf at_) :
    Calls Try.prog 59 #[.agg #[.int .i64 e, .slice A cs.length c], .int .i64 at_] w fun ex w' => ∃ B d, ex = .returned (.slice B (placeOf e cs at_).length d) ∧ RI w' B (placeOf e cs at_) ∧ (placeOf e cs at_).length ≤ d ∧ Below w.heap.size w w' := by
  have H := Aside0.mk h
  have HR := Aside0.mk (fun W (hB : Below w.heap.size w W) => refright_calls e A c cs W (Kd.C_below h hB) hc hl)
  clear h hl
  by_cases hp : PR e cs
  · have hd : decide (PR e cs) = true := decide_eq_true hp
    rw [hd] at HR
    by_cases h0 : 0 ≤ at_
    · have e1 : placeOf e cs at_ = cs.getD (at_ % (cs.length : Int)).toNat [] := by unfold placeOf; rw [if_pos ⟨hp, h0⟩]
      have hlen : 0 < cs.length := hp.1.2.2.1
      have hl7 : cs.length ≤ 7 := hp.1.2.2.2
      obtain ⟨i, hi⟩ : ∃ i : Nat, at_ % (cs.length : Int) = i := ⟨(at_ % (cs.length : Int)).toNat, (Int.toNat_of_nonneg (Int.emod_nonneg _ (by omega))).symm⟩
      have hil : i < cs.length := by have := Int.emod_lt_of_pos at_ (show (0 : Int) < cs.length by omega); omega
      have htm : at_.tmod (cs.length : Int) = (i : Int) := by rw [Int.tmod_eq_emod_of_nonneg h0, hi]
      rw [e1, hi, Int.toNat_natCast, List.getD_eq_getElem?_getD, List.getElem?_eq_getElem hil]
      obtain ⟨ad, B, cp, e0, hc0, q1, q2⟩ := chain_at H.out i hil
      subst e0
      have HQ := Aside0.mk q1
      have HQ2 := Aside0.mk q2
      have HC0 := Aside0.mk hc0
      have i0 : (0 : Int) ≤ (i : Int) := by omega
      have i1 : (i : Int) < (cs.length : Int) := by omega
      have hne : ¬ (cs.length : Int) = 0 := by omega
      have hnil : ¬ cs = [] := by rintro rfl; simp at hlen
      have hwi : IntKind.i64.wrap (i : Int) = i := IntWalk.i64_in _ (by omega)
      have hwi2 : wrap64 (i : Int) = i := IntWalk.wrap64_in _ (by omega)
      have htn : ((i : Int)).toNat = i := by simp
      have hw1 := ha.1
      have hw2 := ha.2
      clear hd hp e1 hc0 q1 q2 ha
      go_enter Try.func59, Try.ntmps59
      go_wp2_with (fail)
      refine (HR.out _ ((Below.refl _ w).alloc (Nat.le_refl _) _)).mono ?_
      rintro ex w2 ⟨rfl, b2⟩
      have B2 : Aside0 (Below w.heap.size w w2) := ⟨((Below.refl _ w).alloc (Nat.le_refl _) _).trans (b2.mono (by go_size))⟩
      have c1 : w2.cell? ⟨w.heap.size, 1, none⟩ = some (.slice (some ad) cs.length c) := cell_of_row w2 w.heap.size 1 _ 55 (0, 0) ((b2.block _ (by go_size)).trans (heap_alloc_new w _))
      have c2 := cell_later B2.out HC0.out
      clear b2
      go_wp2
      go_region
      go_wp2
      go_ret
      exact ⟨B, cp, rfl, RB.keep HQ.out (B2.out.trans (Below.refl _ _).drew), HQ2.out, B2.out.trans (Below.refl _ _).drew⟩
    · have e1 : placeOf e cs at_ = [] := by unfold placeOf; rw [if_neg (fun hh => h0 hh.2)]
      rw [e1]
      clear hd hp e1 ha
      go_enter Try.func59, Try.ntmps59
      go_wp2_with (fail)
      refine (HR.out _ ((Below.refl _ w).alloc (Nat.le_refl _) _)).mono ?_
      rintro ex w2 ⟨rfl, b2⟩
      have B2 : Aside0 (Below w.heap.size w w2) := ⟨((Below.refl _ w).alloc (Nat.le_refl _) _).trans (b2.mono (by go_size))⟩
      clear b2
      go_wp2
      go_ret
      exact ⟨_, _, rfl, C_int.2 ⟨rfl, by simp, fun h => absurd h (by simp)⟩, Nat.le_refl _, B2.out.alloc B2.out.size _⟩
  · have e1 : placeOf e cs at_ = [] := by unfold placeOf; rw [if_neg (fun hh => hp hh.1)]
    rw [e1]
    have hd : decide (PR e cs) = false := decide_eq_false hp
    rw [hd] at HR
    clear hd hp e1 ha
    go_enter Try.func59, Try.ntmps59
    go_wp2_with (fail)
    refine (HR.out _ ((Below.refl _ w).alloc (Nat.le_refl _) _)).mono ?_
    rintro ex w2 ⟨rfl, b2⟩
    have B2 : Aside0 (Below w.heap.size w w2) := ⟨((Below.refl _ w).alloc (Nat.le_refl _) _).trans (b2.mono (by go_size))⟩
    clear b2
    go_wp2
    go_ret
    exact ⟨_, _, rfl, C_int.2 ⟨rfl, by simp, fun h => absurd h (by simp)⟩, Nat.le_refl _, B2.out.alloc B2.out.size _⟩
end Go.Proofs.Ytmdnokfmlbjbhaa
