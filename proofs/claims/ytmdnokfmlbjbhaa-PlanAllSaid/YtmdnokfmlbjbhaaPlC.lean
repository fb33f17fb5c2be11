/- slices.DeleteFunc of ints over plan.Next's function value, on a row of the call's own. -/
import Derived.Test.YtmdnokfmlbjbhaaPlB
namespace Go.Proofs.Ytmdnokfmlbjbhaa
open Go.RowKit Go.Proofs.YtmdnokfmlbjbhaaW.PrintWords
set_option linter.unusedVariables false
set_option linter.unusedSimpArgs false

def stay (there xs : List Int) : List Int := xs.filter (fun x => decide (x ∈ there))
theorem stay_all {there xs : List Int} (h : ∀ x ∈ xs, x ∈ there) : stay there xs = xs := List.filter_eq_self.2 (fun x hx => by simp [h x hx])
theorem stay_snoc (there xs : List Int) (j : Nat) (h : j < xs.length) : stay there (xs.take (j + 1)) = stay there (xs.take j) ++ (if rd xs j ∈ there then [rd xs j] else []) := by
  unfold stay
  rw [take_succ_rd xs j h, List.filter_append]
  by_cases hr : rd xs j ∈ there <;> simp [hr]

theorem There.below {w w' : World} {b : Nat} {there : List Int} (h : There w b there) (hB : Below w.heap.size w w') : There w' b there := by
  obtain ⟨L, c, h1, h2⟩ := h
  have hb : b < w.heap.size := by
    rcases Nat.lt_or_ge b w.heap.size with h' | h'
    · exact h'
    · simp [World.cell?, Array.getElem?_eq_none h'] at h1
  exact ⟨L, c, (hB.cell (p := ⟨b, 0, none⟩) hb).trans h1, RB.keep h2 hB⟩

theorem cut_g (g n cap i : Nat) (hi : i < n) (hc : n ≤ cap) : ∀ W : World, (Instr.slice 58 (.slice (some ⟨g, 0, none⟩) n cap) (some (.int .i64 (i : Int))) none none).run Try.prog W = .ok (.slice (some ⟨g, i, none⟩) (n - i) (cap - i)) W := by
  obtain ⟨i0, hi0, hzz⟩ := Option.map_eq_some_iff.1 info3'
  simp only [Prod.mk.injEq] at hzz
  intro W
  have hel : Try.prog.elem 58 = 3 := by simp [Program.elem, Try.underlying58]
  have hu : Try.prog.underlying 58 = some (.slice (Try.prog.elem 58)) := by rw [hel]; exact Try.underlying58
  rw [run_slice_l W 58 (some ⟨g, 0, none⟩) n cap hu .i64 (i : Int) (Int.natCast_nonneg _) (by omega), hel]
  have hne : cap ≠ i := by omega
  have ha : (⟨g, 0, none⟩ : Addr).add i = ⟨g, i, none⟩ := by rw [add_at, Nat.zero_add]
  simp [sizeOf, typeInfo, hi0, hzz.2.1, sliced, Result.andThen, hne, ha]

theorem cleared {base g n cap : Nat} : ∀ (m o : Nat) (W : World) (zs : List Int), OI W base (.slice (some ⟨g, 0, none⟩) n cap) zs → ∃ zs', OI (W.setCells g o (List.replicate m (.int .i64 0))) base (.slice (some ⟨g, 0, none⟩) n cap) zs' ∧ zs'.length = zs.length ∧ zs'.take o = zs.take o
  | 0, o, W, zs, h => ⟨zs, h, rfl, rfl⟩
  | m + 1, o, W, zs, h => by
    obtain ⟨zs', h1, h2, h3⟩ := cleared m (o + 1) _ _ (iown_store h o 0)
    refine ⟨zs', h1, by rw [h2, List.length_set], ?_⟩
    have := congrArg (List.take o) h3
    rw [List.take_take, List.take_take, Nat.min_eq_left (by omega)] at this
    rw [this, List.take_set_of_le (Nat.le_refl _)]
theorem setCells_below {B : Nat} {g : Nat} : ∀ (vs : List Value) (o : Nat) (w W : World), Below B w W → B ≤ g → Below B w (W.setCells g o vs)
  | [], _, _, _, h, _ => h
  | v :: r, o, w, W, h, hg => setCells_below r (o + 1) w _ (h.setCell (p := ⟨g, o, none⟩) hg v) hg

set_option maxHeartbeats 1000000 in
set_option maxRecDepth 100000 in
theorem deletefunc_calls (w1 : World) (b : Nat) (there xs : List Int) (v : Value) (w : World) (ht : There w1 b there) (hB : Below w1.heap.size w1 w) (ho : OI w w1.heap.size v xs) :
    Calls Try.prog 97 #[v, .func (.func 99) #[] #[.pointer (some ⟨b, 0, none⟩)]] w fun e w' => ∃ u, e = .returned u ∧ OI w' w1.heap.size u (stay there xs) ∧ Below w1.heap.size w1 w' := by
  obtain ⟨A, c, rfl, hr, hc⟩ := OI.slice ho
  have m0 := Kd.C_max hr
  have H := Aside0.mk (indexfunc_calls A c xs b there w hr (ht.below hB))
  have HO := Aside0.mk ho
  have HB := Aside0.mk hB
  have HT := Aside0.mk ht
  have HC := Aside0.mk hc
  clear hr ho hB ht hc
  go_enter Try.func97, Try.ntmps97
  go_wp2_with (fail)
  refine H.out.mono ?_
  rintro e w2 ⟨(⟨rfl, hall⟩ | ⟨k, rfl, hk, hall, hnot⟩), ⟨m, rfl⟩⟩
  · have HA := Aside0.mk hall
    clear hall
    go_wp2
    go_ret
    exact ⟨_, rfl, by rw [stay_all HA.out]; exact pw_own_drewN HO.out m, pw_below_drewN HB.out m⟩
  · obtain ⟨g, c', hv, hg1, hg2, hg3⟩ := OI.some HO.out (by omega)
    obtain ⟨rfl, rfl⟩ : A = some ⟨g, 0, none⟩ ∧ c = c' := by injection hv with h1 _ h3; exact ⟨h1, h3⟩
    have HK : Aside0 (stay there (xs.take k) = xs.take k) := ⟨stay_all hall⟩
    have HK1 : Aside0 (stay there (xs.take (k + 1)) = xs.take k) := ⟨by rw [stay_snoc there xs k hk, if_neg hnot, List.append_nil]; exact HK.out⟩
    have HG := Aside0.mk hg1
    have kk : (k : Int) + 1 ≤ 9223372036854775807 := by omega
    have e1 : ¬ (k : Int) = -1 := by omega
    have e2 : ((k : Int) == -1) = false := by simp
    have hkk : k < xs.length := hk
    clear hall hnot hv hg1 hg2 hg3 hk H
    go_wp2
    go_loopw [5, 6] (fun v5 v6 wr => ∃ (i j : Nat) (zs : List Int), v5 = .int .i64 i ∧ v6 = .int .i64 j ∧ Aside0 (i < j ∧ j ≤ xs.length) ∧ Aside0 (zs.length = xs.length ∧ zs.take i = stay there (xs.take j) ∧ zs.drop j = xs.drop j) ∧ Aside0 (OI wr w1.heap.size (.slice (some ⟨g, 0, none⟩) xs.length c) zs) ∧ Aside0 (Below w1.heap.size w1 wr)) (fun _ v6 _ => xs.length - (intOf v6).toNat)
    case atStart => exact ⟨k, k + 1, xs, rfl, by go_num, ⟨by omega, by omega⟩, ⟨rfl, HK1.out.symm, rfl⟩, ⟨pw_own_drewN HO.out m⟩, ⟨pw_below_drewN HB.out m⟩⟩
    case round =>
      clear HO HB kk e1 e2 HK HK1 hkk
      obtain ⟨i, j, zs, rfl, rfl, HIJ, HZ, ZO, ZB⟩ := hrel
      by_cases hlt : j < xs.length
      · have hij := HIJ.out.1
        have hzl := HZ.out.1
        obtain ⟨cj, fj⟩ := iown_at ZO.out j (by omega)
        obtain ⟨ci, fi⟩ := iown_at ZO.out i (by omega)
        have hzj : rd zs j = rd xs j := by
          have h := HZ.out.2.2
          rw [rd_nat, rd_nat, List.getD_eq_getElem?_getD, List.getD_eq_getElem?_getD]
          have := congrArg (fun l => l[0]?) h
          simpa using congrArg (fun o => o.getD 0) this
        rw [hzj] at cj
        have H := Aside0.mk (next1_calls b there (rd xs j) wr (HT.out.below ZB.out))
        have j0 : (0 : Int) ≤ (j : Int) := by omega
        have j1 : (j : Int) < (xs.length : Int) := by omega
        have i0 : (0 : Int) ≤ (i : Int) := by omega
        have i1 : (i : Int) < (xs.length : Int) := by omega
        have HJ := Aside0.mk hlt
        by_cases he : rd xs j ∈ there
        · have hd : (!decide (rd xs j ∈ there)) = false := by simp [he]
          have hs : Aside0 ((zs.set i (rd xs j)).take (i + 1) = stay there (xs.take (j + 1))) := ⟨by
            rw [stay_snoc there xs j hlt, if_pos he, ← HZ.out.2.1, List.take_set, List.take_succ_eq_append_getElem (by omega), List.set_append_right _ _ (by rw [List.length_take]; omega)]
            rw [List.length_take, Nat.min_eq_left (by omega), Nat.sub_self]; rfl⟩
          have hdr : Aside0 ((zs.set i (rd xs j)).drop (j + 1) = xs.drop (j + 1)) := ⟨by
            rw [List.drop_set_of_lt (by omega)]
            have := congrArg (List.drop 1) HZ.out.2.2
            rwa [List.drop_drop, List.drop_drop] at this⟩
          have hso := Aside0.mk (iown_store ZO.out i (rd xs j))
          have hsb := Aside0.mk (ZB.out.setCell (p := ⟨g, i, none⟩) HG.out (.int .i64 (rd xs j)))
          rw [hd] at H
          clear he hd hzj
          go_wp2_with (go_at_call 99; ((with_reducible refine H.out.mono ?_); rintro e w3 ⟨rfl, ⟨m2, rfl⟩⟩))
          go_roundw
          case rel => exact ⟨i + 1, j + 1, zs.set i (rd xs j), by go_num, by go_num, ⟨by omega, by omega⟩, ⟨by rw [List.length_set]; exact HZ.out.1, hs.out, hdr.out⟩, ⟨iown_store (pw_own_drewN ZO.out m2) i (rd xs j)⟩, ⟨(pw_below_drewN ZB.out m2).setCell (p := ⟨g, i, none⟩) HG.out _⟩⟩
          case measure => simp [intOf]; omega
        · have hd : (!decide (rd xs j ∈ there)) = true := by simp [he]
          have hs : Aside0 (zs.take i = stay there (xs.take (j + 1))) := ⟨by rw [stay_snoc there xs j hlt, if_neg he, List.append_nil]; exact HZ.out.2.1⟩
          have hdr : Aside0 (zs.drop (j + 1) = xs.drop (j + 1)) := ⟨by
            have := congrArg (List.drop 1) HZ.out.2.2
            rwa [List.drop_drop, List.drop_drop] at this⟩
          rw [hd] at H
          clear he hd hzj
          go_wp2_with (go_at_call 99; ((with_reducible refine H.out.mono ?_); rintro e w3 ⟨rfl, ⟨m2, rfl⟩⟩))
          go_roundw
          case rel => exact ⟨i, j + 1, zs, rfl, by go_num, ⟨by omega, by omega⟩, ⟨HZ.out.1, hs.out, hdr.out⟩, ⟨pw_own_drewN ZO.out m2⟩, ⟨pw_below_drewN ZB.out m2⟩⟩
          case measure => simp [intOf]; omega
      · have hjn : j = xs.length := by have := HIJ.out.2; omega
        subst hjn
        have hlt' := HIJ.out.1
        have hzl := HZ.out.1
        have hcut := cut_g g xs.length c i hlt' HC.out
        have hclr := Lib.run_clear_slice (P := Try.prog) wr 58 3 0 (.int .i64 0) Try.underlying58 Try.zeroValue3 rfl rfl g i (xs.length - i) (c - i) (by omega)
          (fun j hj => by rw [(iown_at ZO.out (i + j) (by omega)).1]; rfl) (fun j hj => (iown_at ZO.out (i + j) (by omega)).2)
        obtain ⟨zs', q1, q2, q3⟩ := cleared (xs.length - i) i wr zs ZO.out
        have Q2 := Aside0.mk (setCells_below (B := w1.heap.size) (List.replicate (xs.length - i) (.int .i64 0)) i w1 wr ZB.out HG.out)
        have HS : Aside0 (zs'.take i = stay there xs) := ⟨by rw [q3, HZ.out.2.1, List.take_length]⟩
        have i0 : (0 : Int) ≤ (i : Int) := by omega
        have ic : (i : Int) ≤ (c : Int) := by have := HC.out; omega
        have q1' : World.ownsRow _ w1.heap.size 3 1 (.slice (some ⟨g, 0, none⟩) xs.length c) zs'.length (nums .i64 zs') := q1
        rw [show zs'.length = xs.length from by omega] at q1'
        have q4 := own_take q1' (m := i) (by omega)
        have q5 : (nums .i64 zs').take (i * 1) = nums .i64 (stay there xs) := by rw [Nat.mul_one, ← HS.out]; simp [nums, List.map_take]
        have q6 : i = (stay there xs).length := by rw [← HS.out, List.length_take]; omega
        rw [q5] at q4
        have Q1 : Aside0 (OI (wr.setCells g i (List.replicate (xs.length - i) (.int .i64 0))) w1.heap.size (.slice (some ⟨g, 0, none⟩) i c) (stay there xs)) := ⟨by
          show World.ownsRow _ _ 3 1 _ (stay there xs).length _
          rw [← q6]; exact q4⟩
        clear q1' q4 q5 q6
        clear q1 q2 q3 hlt' hzl
        go_wp2
        go_ret
        exact ⟨_, rfl, Q1.out, Q2.out⟩
end Go.Proofs.Ytmdnokfmlbjbhaa
