/- plan.Right. -/
import Derived.Test.YtmdnokfmlbjbhaaPlC
import Derived.Deep.DeepCutAuto
namespace Go.Proofs.Ytmdnokfmlbjbhaa
open Go.RowKit Go.Proofs.YtmdnokfmlbjbhaaW.PrintWords
set_option linter.unusedVariables false
set_option linter.unusedSimpArgs false

/-- rows of rows that are read -/
abbrev RL (w : World) (A : Option Addr) (cs : List (List Int)) : Prop := Kd.C (Kd.slice 3 (Kd.int .i64)) w A cs.length cs
theorem chain_at {w : World} {A : Option Addr} {cs : List (List Int)} (h : RL w A cs) (k : Nat) (hk : k < cs.length) : ∃ ad B cp, A = some ad ∧ w.cell? (ad.add k) = some (.slice B cs[k].length cp) ∧ RI w B cs[k] ∧ cs[k].length ≤ cp := by
  obtain ⟨h1, h2, h3⟩ := h
  obtain ⟨ad, e, hc⟩ := h3 (by omega)
  obtain ⟨c, hs, ⟨B, cp, hr, q1, q2⟩, hcell⟩ := hc k cs[k] (List.getElem?_eq_getElem hk)
  subst hr
  have := hcell 0 _ rfl
  simp only [Kd.slice, Nat.mul_one, Nat.add_zero] at this
  exact ⟨ad, B, cp, e, this, q2, q1⟩

theorem cell_lt {w : World} {a : Addr} {v : Value} (h : w.cell? a = some v) : a.block < w.heap.size := by
  rcases Nat.lt_or_ge a.block w.heap.size with h' | h'
  · exact h'
  · simp [World.cell?, Array.getElem?_eq_none h'] at h
theorem cell_later {w w' : World} {a : Addr} {v : Value} (hB : Below w.heap.size w w') (h : w.cell? a = some v) : w'.cell? a = some v := (hB.cell (p := a) (cell_lt h)).trans h

/-- may a plan be -/
def PR (e : Int) (cs : List (List Int)) : Prop := (0 ≤ e ∧ e ≤ 2147483647 ∧ 0 < cs.length ∧ cs.length ≤ 7) ∧ (∀ c ∈ cs, c ≠ []) ∧ (∀ n ∈ cs.flatten, 0 ≤ n ∧ n < 7) ∧ cs.flatten.Nodup
instance (e : Int) (cs : List (List Int)) : Decidable (PR e cs) := by unfold PR; infer_instance
def seenOf (l : List Int) : Array Value := ((List.range 7).map fun (i : Nat) => Value.bool (decide ((i : Int) ∈ l))).toArray
theorem seenOf_at (l : List Int) (i : Nat) (h : i < 7) : (seenOf l)[i]? = some (.bool (decide ((i : Int) ∈ l))) := by
  simp [seenOf, h]
theorem seenOf_set (l : List Int) (i : Nat) (h : i < 7) : (seenOf l).setIfInBounds i (.bool true) = seenOf (l ++ [(i : Int)]) := by
  unfold seenOf
  rw [List.setIfInBounds_toArray]
  congr 1
  apply List.ext_getElem
  · simp
  · intro j h1 h2
    simp only [List.length_set, List.length_map, List.length_range] at h1
    rw [List.getElem_set]
    simp only [List.getElem_map, List.getElem_range, List.mem_append, List.mem_singleton]
    by_cases hij : i = j
    · subst hij; simp
    · have : ¬ ((j : Int) = (i : Int)) := by omega
      simp [hij, this]
def okk (ok0 : Bool) (cs : List (List Int)) : Bool := ok0 && cs.all (fun c => decide (0 < c.length))

theorem not_PR_in {e : Int} {cs : List (List Int)} {L tail : List Int} {n : Int} (h : cs.flatten = L ++ n :: tail) (hn : n ∈ L) : ¬ PR e cs := fun hp => by
  have := hp.2.2.2
  rw [h, List.nodup_append] at this
  exact this.2.2 n hn n (List.mem_cons_self ..) rfl
theorem not_PR_range {e : Int} {cs : List (List Int)} {L tail : List Int} {n : Int} (h : cs.flatten = L ++ n :: tail) (hn : ¬ (0 ≤ n ∧ n < 7)) : ¬ PR e cs := fun hp =>
  hn (hp.2.2.1 n (by rw [h]; simp))
theorem okk_PR {e : Int} {cs : List (List Int)} (h : (∀ n ∈ cs.flatten, 0 ≤ n ∧ n < 7) ∧ cs.flatten.Nodup) : okk (decide (0 ≤ e ∧ e ≤ 2147483647 ∧ 0 < cs.length ∧ cs.length ≤ 7)) cs = decide (PR e cs) := by
  unfold okk
  rw [Bool.eq_iff_iff]
  simp only [Bool.and_eq_true, decide_eq_true_eq, List.all_eq_true]
  exact ⟨fun ⟨h1, h2⟩ => ⟨h1, fun c hc e => (by have := h2 c hc; rw [e] at this; exact absurd this (Nat.lt_irrefl 0)), h⟩, fun hp => ⟨hp.1, fun c hc => List.length_pos_iff.2 (hp.2.1 c hc)⟩⟩
theorem seen_stored {W : World} {b i : Nat} {l : List Int} (h : W.heap[b]? = some (.cells (seenOf l) 150 (0, 0))) (hi : i < 7) : (W.setCell ⟨b, i, none⟩ (.bool true)).heap[b]? = some (.cells (seenOf (l ++ [(i : Int)])) 150 (0, 0)) := by
  rw [← seenOf_set l i hi]
  simp only [World.setCell, Array.getElem?_modify, h]
  simp

set_option maxHeartbeats 1000000 in
set_option maxRecDepth 100000 in
theorem right_calls (e : Int) (A : Option Addr) (c : Nat) (cs : List (List Int)) (w : World) (h : RL w A cs) :
    Calls Try.prog 42 #[.agg #[.int .i64 e, .slice A cs.length c]] w fun ex w' => ex = .returned (.bool (decide (PR e cs))) ∧ Below w.heap.size w w' := by
  have H := Aside0.mk h
  have m0 := Kd.C_max h
  clear h
  obtain ⟨ok0, hok⟩ : ∃ ok0, ok0 = decide (0 ≤ e ∧ e ≤ 2147483647 ∧ 0 < cs.length ∧ cs.length ≤ 7) := ⟨_, rfl⟩
  have HOK := Aside0.mk hok
  clear hok
  go_enter Try.func42, Try.ntmps42
  go_upto_region 2 with (fail)
  obtain ⟨w0, hw0⟩ : ∃ w0, Aside0 (w0 = (w.alloc (.cells #[.int .i64 e, .slice A cs.length c] 55)).alloc (.cells #[.bool false, .bool false, .bool false, .bool false, .bool false, .bool false, .bool false] 150)) := ⟨_, ⟨rfl⟩⟩
  go_cut [4] (fun v4 W => v4 = .bool ok0 ∧ Aside0 (W = w0))
  case first =>
    go_wp2
    all_goals go_meet
    all_goals
      case rel => exact ⟨by rw [HOK.out]; congr 1; first | (apply decide_eq_decide.2; omega) | (symm; apply decide_eq_false; omega) | (symm; apply decide_eq_true; omega), ⟨hw0.out.symm⟩⟩
  case rest =>
    obtain ⟨rfl, HC⟩ := hcut
    obtain rfl := HC.out
    have hb0 : Aside0 (Below w.heap.size w wc) := ⟨by rw [hw0.out]; exact ((Below.refl _ w).alloc (Nat.le_refl _) _).alloc (by simp only [World.size_alloc]; omega) _⟩
    have c1 : wc.cell? ⟨w.heap.size, 1, none⟩ = some (.slice A cs.length c) := cell_of_row wc w.heap.size 1 _ 55 (0, 0) (by rw [hw0.out]; exact (Below.heap_alloc _ _ _ (by simp only [World.size_alloc]; omega)).trans (heap_alloc_new w _))
    have hs0 : Aside0 (wc.heap[w.heap.size + 1]? = some (.cells (seenOf []) 150 (0, 0))) := ⟨by
      have e := heap_alloc_new (w.alloc (.cells #[.int .i64 e, .slice A cs.length c] 55)) (.cells #[.bool false, .bool false, .bool false, .bool false, .bool false, .bool false, .bool false] 150)
      rw [World.size_alloc] at e
      rw [hw0.out]; exact e⟩
    go_wp2
    go_loopw [4, 32] (fun v4 v32 wr => ∃ k : Nat, k ≤ cs.length ∧ v32 = .int .i64 k ∧ v4 = .bool (okk ok0 (cs.take k)) ∧ Aside0 ((∀ n ∈ (cs.take k).flatten, 0 ≤ n ∧ n < 7) ∧ (cs.take k).flatten.Nodup) ∧ Aside0 (wr.heap[w.heap.size + 1]? = some (.cells (seenOf (cs.take k).flatten) 150 (0, 0))) ∧ Aside0 (Below w.heap.size w wr)) (fun _ v32 _ => cs.length - (intOf v32).toNat)
    case atStart => exact ⟨0, by omega, rfl, by simp [okk], ⟨by simp⟩, by simpa using hs0, hb0⟩
    case round =>
      clear hs0 c1 hw0
      obtain ⟨k, hk, rfl, rfl, HF, HA, HB⟩ := hrel
      obtain ⟨wo, rfl⟩ : ∃ wo : World, wo = wr := ⟨_, rfl⟩
      by_cases hlt : k < cs.length
      · obtain ⟨ad, B, cp, e0, hc0, q1, q2⟩ := chain_at H.out k hlt
        subst e0
        replace hc0 := cell_later HB.out hc0
        obtain ⟨ck, hck⟩ : ∃ ck, ck = cs[k] := ⟨_, rfl⟩
        rw [← hck] at hc0 q1 q2
        have k0 : (0 : Int) ≤ (k : Int) := by omega
        have k1 : (k : Int) < (cs.length : Int) := by omega
        have mk := Kd.C_max q1
        have HQ := Aside0.mk q1
        have HCK := Aside0.mk hck
        have hnext : Aside0 (okk ok0 (cs.take (k + 1)) = (okk ok0 (cs.take k) && decide (0 < ck.length))) := ⟨by
          rw [HCK.out, List.take_succ_eq_append_getElem hlt]; unfold okk; rw [List.all_append, Bool.and_assoc]; simp⟩
        have hflat : Aside0 ((cs.take (k + 1)).flatten = (cs.take k).flatten ++ ck) := ⟨by
          rw [HCK.out, List.take_succ_eq_append_getElem hlt, List.flatten_append]; simp⟩
        have HSUB : Aside0 (∃ tail, cs.flatten = ((cs.take k).flatten ++ ck) ++ tail) := ⟨⟨(cs.drop (k + 1)).flatten, by
          rw [← hflat.out, ← List.flatten_append, List.take_append_drop]⟩⟩
        have HLT : Aside0 (k + 1 ≤ cs.length) := ⟨by omega⟩
        clear q1 q2 hck HCK
        obtain ⟨okv, hokv⟩ : ∃ okv, okk ok0 (cs.take k) = okv := ⟨_, rfl⟩
        rw [hokv]
        have HOV := Aside0.mk hokv
        clear hokv hlt
        go_upto_region 6 with (fail)
        go_cut [4] (fun v4 W => v4 = .bool (okk ok0 (cs.take (k + 1))) ∧ Aside0 (W = wo))
        case first =>
          cases okv
          all_goals go_wp2
          all_goals go_meet
          all_goals
            case rel => exact ⟨by rw [hnext.out, HOV.out]; simp, ⟨rfl⟩⟩
        case rest =>
          obtain ⟨rfl, HC2⟩ := hcut
          obtain rfl := HC2.out
          clear HC2
          go_wp2
          go_loopw [44] (fun v44 wr => ∃ j : Nat, j ≤ ck.length ∧ v44 = .int .i64 j ∧ Aside0 ((∀ n ∈ (cs.take k).flatten ++ ck.take j, 0 ≤ n ∧ n < 7) ∧ ((cs.take k).flatten ++ ck.take j).Nodup) ∧ Aside0 (wr.heap[w.heap.size + 1]? = some (.cells (seenOf ((cs.take k).flatten ++ ck.take j)) 150 (0, 0))) ∧ Aside0 (Below w.heap.size w wr)) (fun v44 _ => ck.length - (intOf v44).toNat)
          case atStart => exact ⟨0, by omega, rfl, by simpa using HF, by simpa using HA, HB⟩
          case round =>
            clear HF HA HB
            obtain ⟨j, hj, rfl, JF, JA, JB⟩ := hrel
            by_cases hlj : j < ck.length
            · obtain ⟨adj, ej, hcj⟩ := RB.cell (RB.keep HQ.out JB.out) j hlj
              subst ej
              have j0 : (0 : Int) ≤ (j : Int) := by omega
              have j1 : (j : Int) < (ck.length : Int) := by omega
              obtain ⟨n, hn⟩ : ∃ n, rd ck j = n := ⟨_, rfl⟩
              rw [hn] at hcj
              have HT : Aside0 (ck.take (j + 1) = ck.take j ++ [n]) := ⟨by rw [take_succ_rd ck j hlj, hn]⟩
              have HN : Aside0 (∃ tail, cs.flatten = ((cs.take k).flatten ++ ck.take j) ++ n :: tail) := ⟨by
                obtain ⟨tl, htl⟩ := HSUB.out
                refine ⟨ck.drop (j + 1) ++ tl, ?_⟩
                rw [htl]
                conv => lhs; rw [← List.take_append_drop (j + 1) ck, HT.out]
                simp⟩
              have HJ1 : Aside0 (j + 1 ≤ ck.length) := ⟨by omega⟩
              clear hn hlj
              by_cases hr : 0 ≤ n ∧ n < 7
              · obtain ⟨m, rfl⟩ : ∃ m : Nat, n = (m : Int) := ⟨n.toNat, by omega⟩
                have hm : m < 7 := by omega
                have r0 : ¬ (m : Int) < 0 := by omega
                have r1 : (m : Int) < 7 := by omega
                have r2 : (0 : Int) ≤ (m : Int) := by omega
                obtain ⟨L, hL⟩ : ∃ L, (cs.take k).flatten ++ ck.take j = L := ⟨_, rfl⟩
                rw [hL] at JF JA HN
                have ca := blk_cell JA.out m
                rw [seenOf_at L m hm] at ca
                have fa := blk_frozen JA.out m
                by_cases hin : (m : Int) ∈ L
                · rw [decide_eq_true hin] at ca
                  have HIN := Aside0.mk hin
                  clear hin hr
                  go_wp2
                  go_ret
                  obtain ⟨tl, htl⟩ := HN.out
                  exact ⟨by rw [decide_eq_false (not_PR_in htl HIN.out)]; rfl, JB.out⟩
                · rw [decide_eq_false hin] at ca
                  have HIN := Aside0.mk hin
                  clear hin hr
                  go_wp2
                  go_roundw
                  case rel => exact ⟨j + 1, HJ1.out, by go_num, ⟨by
                    rw [HT.out, ← List.append_assoc, hL]
                    refine ⟨fun x hx => ?_, ?_⟩
                    · rcases List.mem_append.1 hx with hx | hx
                      · exact JF.out.1 x hx
                      · rw [List.mem_singleton.1 hx]; exact ⟨r2, r1⟩
                    · rw [List.nodup_append]
                      exact ⟨JF.out.2, by simp, fun x hx y hy e => HIN.out (by rw [List.mem_singleton.1 hy] at e; rw [← e]; exact hx)⟩⟩, ⟨by rw [HT.out, ← List.append_assoc, hL]; exact seen_stored JA.out hm⟩, ⟨JB.out.setCell (p := ⟨w.heap.size + 1, m, none⟩) (Nat.le_succ _) _⟩⟩
                  case measure => have := HJ1.out; simp [intOf]; omega
              · have HR := Aside0.mk hr
                by_cases hr0 : n < 0
                · clear hr
                  go_wp2
                  go_ret
                  obtain ⟨tl, htl⟩ := HN.out
                  exact ⟨by rw [decide_eq_false (not_PR_range htl HR.out)]; rfl, JB.out⟩
                · have hr1 : (7 : Int) ≤ n := by omega
                  have hr2 : (0 : Int) ≤ n := by omega
                  clear hr
                  go_wp2
                  go_ret
                  obtain ⟨tl, htl⟩ := HN.out
                  exact ⟨by rw [decide_eq_false (not_PR_range htl HR.out)]; rfl, JB.out⟩
            · have hjn : j = ck.length := by omega
              subst hjn
              rw [List.take_length, ← hflat.out] at JF JA
              go_wp2
              go_roundw
              case rel => exact ⟨k + 1, HLT.out, by go_num, rfl, JF, JA, JB⟩
              case measure => have := HLT.out; simp [intOf]; omega
      · have hkn : k = cs.length := by omega
        subst hkn
        rw [List.take_length] at HF
        go_wp2
        go_ret
        have hfin := okk_PR (e := e) HF.out
        rw [← HOK.out] at hfin
        refine ⟨?_, HB.out⟩
        show Ending.returned (Value.bool (okk ok0 (cs.take cs.length))) = _
        rw [List.take_length, hfin]
end Go.Proofs.Ytmdnokfmlbjbhaa
