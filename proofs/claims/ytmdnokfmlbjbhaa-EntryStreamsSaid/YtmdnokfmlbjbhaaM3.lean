/- Rows of ints: is a number in one; a row's copy; Which units stay: the function value of plan.Next, and slices.IndexFunc over it; slices.DeleteFunc of ints over plan.Next's function value, on a row of the call's own; plan.Right; plan.Place, plan.Next; plan.Next; plan.Next: the walk. -/
import Derived.Test.YtmdnokfmlbjbhaaM1
import Derived.Lib.SliceRun
import Derived.Deep.DeepCutAuto
import Derived.Handy
import Derived.Deep.DrawnRows

namespace Go.Proofs.Ytmdnokfmlbjbhaa
open Go.RowKit Go.Proofs.YtmdnokfmlbjbhaaW.PrintWords
set_option linter.unusedVariables false
set_option linter.unusedSimpArgs false

abbrev RI (w : World) (A : Option Addr) (xs : List Int) : Prop := Kd.C (Kd.int .i64) w A xs.length xs
abbrev OI (w : World) (base : Nat) (v : Value) (xs : List Int) : Prop := w.ownsRow base 3 1 v xs.length (nums .i64 xs)

set_option maxHeartbeats 400000 in
set_option maxRecDepth 100000 in
theorem index_calls (A : Option Addr) (c : Nat) (xs : List Int) (n : Int) (w : World) (hx : RI w A xs) :
    Calls Try.prog 138 #[.slice A xs.length c, .int .i64 n] w fun e w' => (∃ v : Int, e = .returned (.int .i64 v) ∧ (decide (0 ≤ v) = decide (n ∈ xs))) ∧ Drawn0 w w' := by
  have HX := Aside0.mk hx
  have m0 := Kd.C_max hx
  clear hx
  go_enter Try.func138, Try.ntmps138
  go_wp2
  go_loopw [8] (fun v wr => ∃ k : Nat, k ≤ xs.length ∧ v = .int .i64 k ∧ Aside0 (n ∉ xs.take k) ∧ Drawn0 w wr) (fun v _ => xs.length - (intOf v).toNat)
  case atStart => exact ⟨0, by omega, rfl, ⟨by simp⟩, Drawn0.refl _⟩
  case round =>
    obtain ⟨k, hk, rfl, HE, ⟨m1, rfl⟩⟩ := hrel
    by_cases hlt : k < xs.length
    · obtain ⟨ad0, e0, hc0⟩ := RB.cell HX.out k hlt
      subst e0
      have q0 : (0 : Int) ≤ (k : Int) := by omega
      have q1 : (k : Int) < (xs.length : Int) := by omega
      have HM : Aside0 (rd xs k ∈ xs) := ⟨by rw [rd_nat, List.getD_eq_getElem?_getD, List.getElem?_eq_getElem hlt]; exact List.getElem_mem hlt⟩
      by_cases he : n = rd xs k
      · have n0 : (n == rd xs k) = true := by simp [he]
        have HT := Aside0.mk he
        clear he
        go_wp2
        go_ret
        exact ⟨⟨(k : Int), rfl, by rw [HT.out]; simp [HM.out]⟩, by repeat (first | exact Drawn0.refl _ | apply Drawn0.step)⟩
      · have n0 : (n == rd xs k) = false := by simp [he]
        have HT : Aside0 (n ∉ xs.take (k + 1)) := ⟨by rw [take_succ_rd xs k hlt]; simp [HE.out, he]⟩
        clear he
        go_wp2
        go_roundw
        case rel => exact ⟨k + 1, by omega, by go_num, HT, by repeat (first | exact Drawn0.refl _ | apply Drawn0.step)⟩
        case measure => simp [intOf]; omega
    · have HT : Aside0 (n ∉ xs) := ⟨by have := HE.out; rwa [List.take_of_length_le (by omega)] at this⟩
      go_wp2
      go_ret
      exact ⟨⟨-1, rfl, by simp [HT.out]⟩, by repeat (first | exact Drawn0.refl _ | apply Drawn0.step)⟩

set_option maxHeartbeats 400000 in
set_option maxRecDepth 100000 in
theorem contains_calls (A : Option Addr) (c : Nat) (xs : List Int) (n : Int) (w : World) (hx : RI w A xs) :
    Calls Try.prog 100 #[.slice A xs.length c, .int .i64 n] w fun e w' => e = .returned (.bool (decide (n ∈ xs))) ∧ Drawn0 w w' := by
  have H := Aside0.mk (index_calls A c xs n w hx)
  clear hx
  go_enter Try.func100, Try.ntmps100
  go_wp2_with (fail)
  refine H.out.mono ?_
  rintro e w1 ⟨⟨v, rfl, hv⟩, ⟨m, rfl⟩⟩
  have HV := Aside0.mk hv
  clear hv
  go_wp2
  go_ret
  exact ⟨by simp [← HV.out], by repeat (first | exact Drawn0.refl _ | apply Drawn0.step)⟩

theorem info3' : (Try.prog.info? 3).map (fun i => (i.zero, i.size, i.bytes)) = some (some (.int .i64 0), 1, 8) := by kernel_rfl

/-- append(s, x...) of ints, where all from base on is the row's (and rubbish) -/
theorem wpList_appI {ops : Array Oper} {rest : List Oper} {o : Oper} {a : Act} {Q : Exit → Act → World → Prop} {W : World} (N : Tmp) (hd : o.dst = some N) (hgd : o.guard = none) (s x : Operand)
    (ho : o.op = .call { callee := .builtin .append, args := #[s, x], argTypes := #[58, 58] })
    (w0 : World) (v : Value) (xs ys : List Int) {A : Option Addr} {c : Nat} (hs : a.eval s = v) (hx : a.eval x = .slice A ys.length c)
    (HO : OI W w0.heap.size v xs) (HR : RI W A ys) (HB : Below w0.heap.size w0 W) (hl : (xs.length + ys.length) * 8 ≤ 140737488355328)
    (h : ∀ v1 W1, OI W1 w0.heap.size v1 (xs ++ ys) → Below w0.heap.size w0 W1 → wpList Try.prog ops Q rest (a.put (some N) v1) W1) :
    wpList Try.prog ops Q (o :: rest) a W := by
  rw [← hd] at h
  exact print_append_row (w0 := W) w0.heap.size hgd s x 58 3 .i64 8 ho Try.underlying58 info3' (by decide) v xs ys A ys.length c hs hx HO (C_int.1 HR) (Below.refl _ _) HB.size (by omega) fun v1 w1 h1 h2 h3 h4 => h v1 w1 h1 (HB.grown h3 HB.size (own_base HO))
theorem OI.empty (w : World) (base : Nat) (hb : base ≤ w.heap.size) : OI (w.alloc (.cells #[] 3)) base (.slice (some ⟨w.heap.size, 0, none⟩) 0 0) [] :=
  World.ownsRow_made w #[] 0 hb (by simp [maxLen]) (by simp)

set_option maxHeartbeats 400000 in
set_option maxRecDepth 100000 in
/-- slices.Clone of ints -/
theorem iclone_calls (A : Option Addr) (c : Nat) (xs : List Int) (w : World) (hr : RI w A xs) (hl : xs.length * 8 ≤ 140737488355328) :
    Calls Try.prog 98 #[.slice A xs.length c] w fun e w' => ∃ v, e = .returned v ∧ OI w' w.heap.size v xs ∧ Below w.heap.size w w' := by
  have heq := fun (w : World) (a : Option Addr) (l c : Nat) => Lib.run_eql_slice_nil (P := Try.prog) w 58 3 a l c 0 0 Try.underlying58
  have HR := Aside0.mk hr
  clear hr
  rcases A with _ | ad
  · have h0 : xs = [] := by
      rcases Nat.eq_zero_or_pos xs.length with h | h
      · exact List.eq_nil_of_length_eq_zero h
      · obtain ⟨ad, e, _⟩ := C_lt HR.out h; cases e
    subst h0
    go_enter Try.func98, Try.ntmps98
    go_wp2
    go_ret
    exact ⟨_, rfl, own_nil _ _ _ _, Below.refl _ _⟩
  · have H0 := Aside0.mk (OI.empty w w.heap.size (Nat.le_refl _))
    have B0 := Aside0.mk ((Below.refl w.heap.size w).alloc (Nat.le_refl _) (.cells #[] 3))
    go_enter Try.func98, Try.ntmps98
    go_wp2_with (at_builtin; refine wpList_appI 7 rfl rfl (.tmp 5) (.tmp 6) rfl w (.slice (some ⟨w.heap.size, 0, none⟩) 0 0) [] xs rfl rfl H0.out (RB.keep HR.out B0.out) B0.out (by simpa using hl) ?_; intro v1 W1 o1 b1; rw [List.nil_append] at o1; have O1 := Aside0.mk o1; have D1 := Aside0.mk b1; clear o1 b1)
    go_ret
    exact ⟨_, rfl, O1.out, D1.out⟩
end Go.Proofs.Ytmdnokfmlbjbhaa

namespace Go.Proofs.Ytmdnokfmlbjbhaa
open Go.RowKit Go.Proofs.YtmdnokfmlbjbhaaW.PrintWords
set_option linter.unusedVariables false
set_option linter.unusedSimpArgs false

theorem OI.some {w : World} {base : Nat} {v : Value} {xs : List Int} (h : OI w base v xs) (hp : 0 < xs.length) : ∃ g c, v = .slice (some ⟨g, 0, none⟩) xs.length c ∧ base ≤ g ∧ g < w.heap.size ∧ xs.length ≤ c := by
  rcases h.2 with ⟨_, h0⟩ | ⟨g, cap, cur, e, hb, hh, hnc, _⟩
  · omega
  · exact ⟨g, cap, e, hb, (Array.getElem?_eq_some_iff.1 hh).1, hnc⟩
theorem OI.slice {w : World} {base : Nat} {v : Value} {xs : List Int} (h : OI w base v xs) : ∃ A c, v = .slice A xs.length c ∧ RI w A xs ∧ xs.length ≤ c := by
  obtain ⟨A, c, e, hr⟩ := own_reads h
  refine ⟨A, c, e, C_int.2 hr, ?_⟩
  rcases h.2 with ⟨h1, h2⟩ | ⟨g, cap, cur, h1, _, _, h2, _⟩
  · omega
  · rw [e] at h1; injection h1 with _ _ h1; omega
theorem iown_at {W : World} {base g n cap : Nat} {xs : List Int} (h : OI W base (.slice (Option.some ⟨g, 0, none⟩) n cap) xs) (i : Nat) (h1 : i < xs.length) :
    W.cell? ⟨g, i, none⟩ = Option.some (.int .i64 (rd xs i)) ∧ W.frozen? ⟨g, i, none⟩ = false := by
  have hn : n = xs.length := by
    rcases h.2 with ⟨h', _⟩ | ⟨g', cap', cur, h', _⟩
    · cases h'
    · injection h'
  subst hn
  have := own_at h (i : Int) (by omega) (by omega)
  rwa [Int.toNat_natCast] at this
theorem iown_store {W : World} {base g n cap : Nat} {xs : List Int} (h : OI W base (.slice (Option.some ⟨g, 0, none⟩) n cap) xs) (i : Nat) (x : Int) :
    OI (W.setCell ⟨g, i, none⟩ (.int .i64 x)) base (.slice (Option.some ⟨g, 0, none⟩) n cap) (xs.set i x) := by
  have hn : n = xs.length := by
    rcases h.2 with ⟨h', _⟩ | ⟨g', cap', cur, h', _⟩
    · cases h'
    · injection h'
  subst hn
  have := (own_store h (i : Int) x).1
  rw [Int.toNat_natCast] at this
  show World.ownsRow _ base 3 1 _ (xs.set i x).length (nums .i64 (xs.set i x))
  rw [List.length_set]
  exact this

/-- what the function value holds: a box with the row of who is there -/
def There (w : World) (b : Nat) (there : List Int) : Prop := ∃ L c, w.cell? ⟨b, 0, none⟩ = some (.slice L there.length c) ∧ RI w L there

set_option maxHeartbeats 400000 in
set_option maxRecDepth 100000 in
theorem next1_calls (b : Nat) (there : List Int) (n : Int) (w : World) (h : There w b there) :
    Calls Try.prog 99 #[.int .i64 n, .pointer (some ⟨b, 0, none⟩)] w fun e w' => e = .returned (.bool (!decide (n ∈ there))) ∧ Drawn0 w w' := by
  obtain ⟨L, c, h1, h2⟩ := h
  have H := Aside0.mk (contains_calls L c there n w h2)
  clear h2
  go_enter Try.func99, Try.ntmps99
  go_wp2_with (fail)
  refine H.out.mono ?_
  rintro e w1 ⟨rfl, ⟨m, rfl⟩⟩
  go_wp2
  go_ret
  exact ⟨by simp, by repeat (first | exact Drawn0.refl _ | apply Drawn0.step)⟩

theorem There.drewN {w : World} {b : Nat} {there : List Int} (h : There w b there) (m : Nat) : There (w.drewN m) b there := by
  obtain ⟨L, c, h1, h2⟩ := h
  exact ⟨L, c, by simpa using h1, RB.keep h2 (pw_below_drewN (Below.refl _ _) _)⟩

set_option maxHeartbeats 400000 in
set_option maxRecDepth 100000 in
/-- the first that isn't there -/
theorem indexfunc_calls (A : Option Addr) (c : Nat) (xs : List Int) (b : Nat) (there : List Int) (w : World) (hx : RI w A xs) (ht : There w b there) :
    Calls Try.prog 137 #[.slice A xs.length c, .func (.func 99) #[] #[.pointer (some ⟨b, 0, none⟩)]] w fun e w' =>
      ((e = .returned (.int .i64 (-1)) ∧ ∀ x ∈ xs, x ∈ there) ∨ ∃ k : Nat, e = .returned (.int .i64 k) ∧ k < xs.length ∧ (∀ x ∈ xs.take k, x ∈ there) ∧ rd xs k ∉ there) ∧ Drawn0 w w' := by
  have HX := Aside0.mk hx
  have HT := Aside0.mk ht
  have m0 := Kd.C_max hx
  clear hx ht
  go_enter Try.func137, Try.ntmps137
  go_wp2
  go_loopw [8] (fun v wr => ∃ k : Nat, k ≤ xs.length ∧ v = .int .i64 k ∧ Aside0 (∀ x ∈ xs.take k, x ∈ there) ∧ Drawn0 w wr) (fun v _ => xs.length - (intOf v).toNat)
  case atStart => exact ⟨0, by omega, rfl, ⟨by simp⟩, Drawn0.refl _⟩
  case round =>
    obtain ⟨k, hk, rfl, HE, ⟨m1, rfl⟩⟩ := hrel
    by_cases hlt : k < xs.length
    · obtain ⟨ad0, e0, hc0⟩ := RB.cell HX.out k hlt
      subst e0
      have q0 : (0 : Int) ≤ (k : Int) := by omega
      have q1 : (k : Int) < (xs.length : Int) := by omega
      have H := Aside0.mk (next1_calls b there (rd xs k) (w.drewN m1) (HT.out.drewN m1))
      by_cases he : rd xs k ∈ there
      · have hd : (!decide (rd xs k ∈ there)) = false := by simp [he]
        have HK : Aside0 (∀ x ∈ xs.take (k + 1), x ∈ there) := ⟨by
          rw [take_succ_rd xs k hlt]
          intro x hx
          rcases List.mem_append.1 hx with hx | hx
          · exact HE.out x hx
          · rw [List.mem_singleton.1 hx]; exact he⟩
        rw [hd] at H
        clear he hd
        go_wp2_with (go_at_call 99; ((with_reducible refine H.out.mono ?_); rintro e w1 ⟨rfl, ⟨m2, rfl⟩⟩))
        go_roundw
        case rel => exact ⟨k + 1, by omega, by go_num, HK, ⟨m1 + m2, rfl⟩⟩
        case measure => simp [intOf]; omega
      · have hd : (!decide (rd xs k ∈ there)) = true := by simp [he]
        have HK := Aside0.mk he
        rw [hd] at H
        clear he hd
        go_wp2_with (go_at_call 99; ((with_reducible refine H.out.mono ?_); rintro e w1 ⟨rfl, ⟨m2, rfl⟩⟩))
        go_ret
        exact ⟨.inr ⟨k, rfl, hlt, HE.out, HK.out⟩, ⟨m1 + m2, rfl⟩⟩
    · have HK : Aside0 (∀ x ∈ xs, x ∈ there) := ⟨by have := HE.out; rwa [List.take_of_length_le (by omega)] at this⟩
      go_wp2
      go_ret
      exact ⟨.inl ⟨rfl, HK.out⟩, ⟨m1, rfl⟩⟩
end Go.Proofs.Ytmdnokfmlbjbhaa

namespace Go.Proofs.Ytmdnokfmlbjbhaa
open Go.RowKit Go.Proofs.YtmdnokfmlbjbhaaW.PrintWords
set_option linter.unusedVariables false
set_option linter.unusedSimpArgs false

def stay (there xs : List Int) : List Int := xs.filter (fun x => decide (x ∈ there))
theorem stay_all {there xs : List Int} (h : ∀ x ∈ xs, x ∈ there) : stay there xs = xs := List.filter_eq_self.2 (fun x hx => by simp [h x hx])
theorem stay_snoc (there xs : List Int) (j : Nat) (h : j < xs.length) : stay there (xs.take (j + 1)) = stay there (xs.take j) ++ (if rd xs j ∈ there then [rd xs j] else []) := by
  unfold stay
  rw [take_succ_rd xs j h, List.filter_append]
  by_cases hr : rd xs j ∈ there <;> simp [hr]

theorem There.below {w w' : World} {b : Nat} {there : List Int} (h : There w b there) (hB : Below w.heap.size w w') : There w' b there := by
  obtain ⟨L, c, h1, h2⟩ := h
  have hb : b < w.heap.size := by
    rcases Nat.lt_or_ge b w.heap.size with h' | h'
    · exact h'
    · simp [World.cell?, Array.getElem?_eq_none h'] at h1
  exact ⟨L, c, (hB.cell (p := ⟨b, 0, none⟩) hb).trans h1, RB.keep h2 hB⟩

theorem cut_g (g n cap i : Nat) (hi : i < n) (hc : n ≤ cap) : ∀ W : World, (Instr.slice 58 (.slice (some ⟨g, 0, none⟩) n cap) (some (.int .i64 (i : Int))) none none).run Try.prog W = .ok (.slice (some ⟨g, i, none⟩) (n - i) (cap - i)) W := by
  obtain ⟨i0, hi0, hzz⟩ := Option.map_eq_some_iff.1 info3'
  simp only [Prod.mk.injEq] at hzz
  intro W
  have hel : Try.prog.elem 58 = 3 := by simp [Program.elem, Try.underlying58]
  have hu : Try.prog.underlying 58 = some (.slice (Try.prog.elem 58)) := by rw [hel]; exact Try.underlying58
  rw [run_slice_l W 58 (some ⟨g, 0, none⟩) n cap hu .i64 (i : Int) (Int.natCast_nonneg _) (by omega), hel]
  have hne : cap ≠ i := by omega
  have ha : (⟨g, 0, none⟩ : Addr).add i = ⟨g, i, none⟩ := by rw [add_at, Nat.zero_add]
  simp [sizeOf, typeInfo, hi0, hzz.2.1, sliced, Result.andThen, hne, ha]

theorem cleared {base g n cap : Nat} : ∀ (m o : Nat) (W : World) (zs : List Int), OI W base (.slice (some ⟨g, 0, none⟩) n cap) zs → ∃ zs', OI (W.setCells g o (List.replicate m (.int .i64 0))) base (.slice (some ⟨g, 0, none⟩) n cap) zs' ∧ zs'.length = zs.length ∧ zs'.take o = zs.take o
  | 0, o, W, zs, h => ⟨zs, h, rfl, rfl⟩
  | m + 1, o, W, zs, h => by
    obtain ⟨zs', h1, h2, h3⟩ := cleared m (o + 1) _ _ (iown_store h o 0)
    refine ⟨zs', h1, by rw [h2, List.length_set], ?_⟩
    have := congrArg (List.take o) h3
    rw [List.take_take, List.take_take, Nat.min_eq_left (by omega)] at this
    rw [this, List.take_set_of_le (Nat.le_refl _)]
theorem setCells_below {B : Nat} {g : Nat} : ∀ (vs : List Value) (o : Nat) (w W : World), Below B w W → B ≤ g → Below B w (W.setCells g o vs)
  | [], _, _, _, h, _ => h
  | v :: r, o, w, W, h, hg => setCells_below r (o + 1) w _ (h.setCell (p := ⟨g, o, none⟩) hg v) hg

set_option maxHeartbeats 1000000 in
set_option maxRecDepth 100000 in
theorem deletefunc_calls (w1 : World) (b : Nat) (there xs : List Int) (v : Value) (w : World) (ht : There w1 b there) (hB : Below w1.heap.size w1 w) (ho : OI w w1.heap.size v xs) :
    Calls Try.prog 97 #[v, .func (.func 99) #[] #[.pointer (some ⟨b, 0, none⟩)]] w fun e w' => ∃ u, e = .returned u ∧ OI w' w1.heap.size u (stay there xs) ∧ Below w1.heap.size w1 w' := by
  obtain ⟨A, c, rfl, hr, hc⟩ := OI.slice ho
  have m0 := Kd.C_max hr
  have H := Aside0.mk (indexfunc_calls A c xs b there w hr (ht.below hB))
  have HO := Aside0.mk ho
  have HB := Aside0.mk hB
  have HT := Aside0.mk ht
  have HC := Aside0.mk hc
  clear hr ho hB ht hc
  go_enter Try.func97, Try.ntmps97
  go_wp2_with (fail)
  refine H.out.mono ?_
  rintro e w2 ⟨(⟨rfl, hall⟩ | ⟨k, rfl, hk, hall, hnot⟩), ⟨m, rfl⟩⟩
  · have HA := Aside0.mk hall
    clear hall
    go_wp2
    go_ret
    exact ⟨_, rfl, by rw [stay_all HA.out]; exact pw_own_drewN HO.out m, pw_below_drewN HB.out m⟩
  · obtain ⟨g, c', hv, hg1, hg2, hg3⟩ := OI.some HO.out (by omega)
    obtain ⟨rfl, rfl⟩ : A = some ⟨g, 0, none⟩ ∧ c = c' := by injection hv with h1 _ h3; exact ⟨h1, h3⟩
    have HK : Aside0 (stay there (xs.take k) = xs.take k) := ⟨stay_all hall⟩
    have HK1 : Aside0 (stay there (xs.take (k + 1)) = xs.take k) := ⟨by rw [stay_snoc there xs k hk, if_neg hnot, List.append_nil]; exact HK.out⟩
    have HG := Aside0.mk hg1
    have kk : (k : Int) + 1 ≤ 9223372036854775807 := by omega
    have e1 : ¬ (k : Int) = -1 := by omega
    have e2 : ((k : Int) == -1) = false := by simp
    have hkk : k < xs.length := hk
    clear hall hnot hv hg1 hg2 hg3 hk H
    go_wp2
    go_loopw [5, 6] (fun v5 v6 wr => ∃ (i j : Nat) (zs : List Int), v5 = .int .i64 i ∧ v6 = .int .i64 j ∧ Aside0 (i < j ∧ j ≤ xs.length) ∧ Aside0 (zs.length = xs.length ∧ zs.take i = stay there (xs.take j) ∧ zs.drop j = xs.drop j) ∧ Aside0 (OI wr w1.heap.size (.slice (some ⟨g, 0, none⟩) xs.length c) zs) ∧ Aside0 (Below w1.heap.size w1 wr)) (fun _ v6 _ => xs.length - (intOf v6).toNat)
    case atStart => exact ⟨k, k + 1, xs, rfl, by go_num, ⟨by omega, by omega⟩, ⟨rfl, HK1.out.symm, rfl⟩, ⟨pw_own_drewN HO.out m⟩, ⟨pw_below_drewN HB.out m⟩⟩
    case round =>
      clear HO HB kk e1 e2 HK HK1 hkk
      obtain ⟨i, j, zs, rfl, rfl, HIJ, HZ, ZO, ZB⟩ := hrel
      by_cases hlt : j < xs.length
      · have hij := HIJ.out.1
        have hzl := HZ.out.1
        obtain ⟨cj, fj⟩ := iown_at ZO.out j (by omega)
        obtain ⟨ci, fi⟩ := iown_at ZO.out i (by omega)
        have hzj : rd zs j = rd xs j := by
          have h := HZ.out.2.2
          rw [rd_nat, rd_nat, List.getD_eq_getElem?_getD, List.getD_eq_getElem?_getD]
          have := congrArg (fun l => l[0]?) h
          simpa using congrArg (fun o => o.getD 0) this
        rw [hzj] at cj
        have H := Aside0.mk (next1_calls b there (rd xs j) wr (HT.out.below ZB.out))
        have j0 : (0 : Int) ≤ (j : Int) := by omega
        have j1 : (j : Int) < (xs.length : Int) := by omega
        have i0 : (0 : Int) ≤ (i : Int) := by omega
        have i1 : (i : Int) < (xs.length : Int) := by omega
        have HJ := Aside0.mk hlt
        by_cases he : rd xs j ∈ there
        · have hd : (!decide (rd xs j ∈ there)) = false := by simp [he]
          have hs : Aside0 ((zs.set i (rd xs j)).take (i + 1) = stay there (xs.take (j + 1))) := ⟨by
            rw [stay_snoc there xs j hlt, if_pos he, ← HZ.out.2.1, List.take_set, List.take_succ_eq_append_getElem (by omega), List.set_append_right _ _ (by rw [List.length_take]; omega)]
            rw [List.length_take, Nat.min_eq_left (by omega), Nat.sub_self]; rfl⟩
          have hdr : Aside0 ((zs.set i (rd xs j)).drop (j + 1) = xs.drop (j + 1)) := ⟨by
            rw [List.drop_set_of_lt (by omega)]
            have := congrArg (List.drop 1) HZ.out.2.2
            rwa [List.drop_drop, List.drop_drop] at this⟩
          have hso := Aside0.mk (iown_store ZO.out i (rd xs j))
          have hsb := Aside0.mk (ZB.out.setCell (p := ⟨g, i, none⟩) HG.out (.int .i64 (rd xs j)))
          rw [hd] at H
          clear he hd hzj
          go_wp2_with (go_at_call 99; ((with_reducible refine H.out.mono ?_); rintro e w3 ⟨rfl, ⟨m2, rfl⟩⟩))
          go_roundw
          case rel => exact ⟨i + 1, j + 1, zs.set i (rd xs j), by go_num, by go_num, ⟨by omega, by omega⟩, ⟨by rw [List.length_set]; exact HZ.out.1, hs.out, hdr.out⟩, ⟨iown_store (pw_own_drewN ZO.out m2) i (rd xs j)⟩, ⟨(pw_below_drewN ZB.out m2).setCell (p := ⟨g, i, none⟩) HG.out _⟩⟩
          case measure => simp [intOf]; omega
        · have hd : (!decide (rd xs j ∈ there)) = true := by simp [he]
          have hs : Aside0 (zs.take i = stay there (xs.take (j + 1))) := ⟨by rw [stay_snoc there xs j hlt, if_neg he, List.append_nil]; exact HZ.out.2.1⟩
          have hdr : Aside0 (zs.drop (j + 1) = xs.drop (j + 1)) := ⟨by
            have := congrArg (List.drop 1) HZ.out.2.2
            rwa [List.drop_drop, List.drop_drop] at this⟩
          rw [hd] at H
          clear he hd hzj
          go_wp2_with (go_at_call 99; ((with_reducible refine H.out.mono ?_); rintro e w3 ⟨rfl, ⟨m2, rfl⟩⟩))
          go_roundw
          case rel => exact ⟨i, j + 1, zs, rfl, by go_num, ⟨by omega, by omega⟩, ⟨HZ.out.1, hs.out, hdr.out⟩, ⟨pw_own_drewN ZO.out m2⟩, ⟨pw_below_drewN ZB.out m2⟩⟩
          case measure => simp [intOf]; omega
      · have hjn : j = xs.length := by have := HIJ.out.2; omega
        subst hjn
        have hlt' := HIJ.out.1
        have hzl := HZ.out.1
        have hcut := cut_g g xs.length c i hlt' HC.out
        have hclr := Lib.run_clear_slice (P := Try.prog) wr 58 3 0 (.int .i64 0) Try.underlying58 Try.zeroValue3 rfl rfl g i (xs.length - i) (c - i) (by omega)
          (fun j hj => by rw [(iown_at ZO.out (i + j) (by omega)).1]; rfl) (fun j hj => (iown_at ZO.out (i + j) (by omega)).2)
        obtain ⟨zs', q1, q2, q3⟩ := cleared (xs.length - i) i wr zs ZO.out
        have Q2 := Aside0.mk (setCells_below (B := w1.heap.size) (List.replicate (xs.length - i) (.int .i64 0)) i w1 wr ZB.out HG.out)
        have HS : Aside0 (zs'.take i = stay there xs) := ⟨by rw [q3, HZ.out.2.1, List.take_length]⟩
        have i0 : (0 : Int) ≤ (i : Int) := by omega
        have ic : (i : Int) ≤ (c : Int) := by have := HC.out; omega
        have q1' : World.ownsRow _ w1.heap.size 3 1 (.slice (some ⟨g, 0, none⟩) xs.length c) zs'.length (nums .i64 zs') := q1
        rw [show zs'.length = xs.length from by omega] at q1'
        have q4 := own_take q1' (m := i) (by omega)
        have q5 : (nums .i64 zs').take (i * 1) = nums .i64 (stay there xs) := by rw [Nat.mul_one, ← HS.out]; simp [nums, List.map_take]
        have q6 : i = (stay there xs).length := by rw [← HS.out, List.length_take]; omega
        rw [q5] at q4
        have Q1 : Aside0 (OI (wr.setCells g i (List.replicate (xs.length - i) (.int .i64 0))) w1.heap.size (.slice (some ⟨g, 0, none⟩) i c) (stay there xs)) := ⟨by
          show World.ownsRow _ _ 3 1 _ (stay there xs).length _
          rw [← q6]; exact q4⟩
        clear q1' q4 q5 q6
        clear q1 q2 q3 hlt' hzl
        go_wp2
        go_ret
        exact ⟨_, rfl, Q1.out, Q2.out⟩
end Go.Proofs.Ytmdnokfmlbjbhaa

namespace Go.Proofs.Ytmdnokfmlbjbhaa
open Go.RowKit Go.Proofs.YtmdnokfmlbjbhaaW.PrintWords
set_option linter.unusedVariables false
set_option linter.unusedSimpArgs false

/-- rows of rows that are read -/
abbrev RL (w : World) (A : Option Addr) (cs : List (List Int)) : Prop := Kd.C (Kd.slice 3 (Kd.int .i64)) w A cs.length cs
theorem chain_at {w : World} {A : Option Addr} {cs : List (List Int)} (h : RL w A cs) (k : Nat) (hk : k < cs.length) : ∃ ad B cp, A = some ad ∧ w.cell? (ad.add k) = some (.slice B cs[k].length cp) ∧ RI w B cs[k] ∧ cs[k].length ≤ cp := by
  obtain ⟨h1, h2, h3⟩ := h
  obtain ⟨ad, e, hc⟩ := h3 (by omega)
  obtain ⟨c, hs, ⟨B, cp, hr, q1, q2⟩, hcell⟩ := hc k cs[k] (List.getElem?_eq_getElem hk)
  subst hr
  have := hcell 0 _ rfl
  simp only [Kd.slice, Nat.mul_one, Nat.add_zero] at this
  exact ⟨ad, B, cp, e, this, q2, q1⟩

theorem cell_lt {w : World} {a : Addr} {v : Value} (h : w.cell? a = some v) : a.block < w.heap.size := by
  rcases Nat.lt_or_ge a.block w.heap.size with h' | h'
  · exact h'
  · simp [World.cell?, Array.getElem?_eq_none h'] at h
theorem cell_later {w w' : World} {a : Addr} {v : Value} (hB : Below w.heap.size w w') (h : w.cell? a = some v) : w'.cell? a = some v := (hB.cell (p := a) (cell_lt h)).trans h

/-- may a plan be -/
def PR (e : Int) (cs : List (List Int)) : Prop := (0 ≤ e ∧ e ≤ 2147483647 ∧ 0 < cs.length ∧ cs.length ≤ 7) ∧ (∀ c ∈ cs, c ≠ []) ∧ (∀ n ∈ cs.flatten, 0 ≤ n ∧ n < 7) ∧ cs.flatten.Nodup
instance (e : Int) (cs : List (List Int)) : Decidable (PR e cs) := by unfold PR; infer_instance
def seenOf (l : List Int) : Array Value := ((List.range 7).map fun (i : Nat) => Value.bool (decide ((i : Int) ∈ l))).toArray
theorem seenOf_at (l : List Int) (i : Nat) (h : i < 7) : (seenOf l)[i]? = some (.bool (decide ((i : Int) ∈ l))) := by
  simp [seenOf, h]
theorem seenOf_set (l : List Int) (i : Nat) (h : i < 7) : (seenOf l).setIfInBounds i (.bool true) = seenOf (l ++ [(i : Int)]) := by
  unfold seenOf
  rw [List.setIfInBounds_toArray]
  congr 1
  apply List.ext_getElem
  · simp
  · intro j h1 h2
    simp only [List.length_set, List.length_map, List.length_range] at h1
    rw [List.getElem_set]
    simp only [List.getElem_map, List.getElem_range, List.mem_append, List.mem_singleton]
    by_cases hij : i = j
    · subst hij; simp
    · have : ¬ ((j : Int) = (i : Int)) := by omega
      simp [hij, this]
def okk (ok0 : Bool) (cs : List (List Int)) : Bool := ok0 && cs.all (fun c => decide (0 < c.length))

theorem not_PR_in {e : Int} {cs : List (List Int)} {L tail : List Int} {n : Int} (h : cs.flatten = L ++ n :: tail) (hn : n ∈ L) : ¬ PR e cs := fun hp => by
  have := hp.2.2.2
  rw [h, List.nodup_append] at this
  exact this.2.2 n hn n (List.mem_cons_self ..) rfl
theorem not_PR_range {e : Int} {cs : List (List Int)} {L tail : List Int} {n : Int} (h : cs.flatten = L ++ n :: tail) (hn : ¬ (0 ≤ n ∧ n < 7)) : ¬ PR e cs := fun hp =>
  hn (hp.2.2.1 n (by rw [h]; simp))
theorem okk_PR {e : Int} {cs : List (List Int)} (h : (∀ n ∈ cs.flatten, 0 ≤ n ∧ n < 7) ∧ cs.flatten.Nodup) : okk (decide (0 ≤ e ∧ e ≤ 2147483647 ∧ 0 < cs.length ∧ cs.length ≤ 7)) cs = decide (PR e cs) := by
  unfold okk
  rw [Bool.eq_iff_iff]
  simp only [Bool.and_eq_true, decide_eq_true_eq, List.all_eq_true]
  exact ⟨fun ⟨h1, h2⟩ => ⟨h1, fun c hc e => (by have := h2 c hc; rw [e] at this; exact absurd this (Nat.lt_irrefl 0)), h⟩, fun hp => ⟨hp.1, fun c hc => List.length_pos_iff.2 (hp.2.1 c hc)⟩⟩
theorem seen_stored {W : World} {b i : Nat} {l : List Int} (h : W.heap[b]? = some (.cells (seenOf l) 150 (0, 0))) (hi : i < 7) : (W.setCell ⟨b, i, none⟩ (.bool true)).heap[b]? = some (.cells (seenOf (l ++ [(i : Int)])) 150 (0, 0)) := by
  rw [← seenOf_set l i hi]
  simp only [World.setCell, Array.getElem?_modify, h]
  simp

set_option maxHeartbeats 1000000 in
set_option maxRecDepth 100000 in
theorem right_calls (e : Int) (A : Option Addr) (c : Nat) (cs : List (List Int)) (w : World) (h : RL w A cs) :
    Calls Try.prog 42 #[.agg #[.int .i64 e, .slice A cs.length c]] w fun ex w' => ex = .returned (.bool (decide (PR e cs))) ∧ Below w.heap.size w w' := by
  have H := Aside0.mk h
  have m0 := Kd.C_max h
  clear h
  obtain ⟨ok0, hok⟩ : ∃ ok0, ok0 = decide (0 ≤ e ∧ e ≤ 2147483647 ∧ 0 < cs.length ∧ cs.length ≤ 7) := ⟨_, rfl⟩
  have HOK := Aside0.mk hok
  clear hok
  go_enter Try.func42, Try.ntmps42
  go_upto_region 2 with (fail)
  obtain ⟨w0, hw0⟩ : ∃ w0, Aside0 (w0 = (w.alloc (.cells #[.int .i64 e, .slice A cs.length c] 55)).alloc (.cells #[.bool false, .bool false, .bool false, .bool false, .bool false, .bool false, .bool false] 150)) := ⟨_, ⟨rfl⟩⟩
  go_cut [4] (fun v4 W => v4 = .bool ok0 ∧ Aside0 (W = w0))
  case first =>
    go_wp2
    all_goals go_meet
    all_goals
      case rel => exact ⟨by rw [HOK.out]; congr 1; first | (apply decide_eq_decide.2; omega) | (symm; apply decide_eq_false; omega) | (symm; apply decide_eq_true; omega), ⟨hw0.out.symm⟩⟩
  case rest =>
    obtain ⟨rfl, HC⟩ := hcut
    obtain rfl := HC.out
    have hb0 : Aside0 (Below w.heap.size w wc) := ⟨by rw [hw0.out]; exact ((Below.refl _ w).alloc (Nat.le_refl _) _).alloc (by simp only [World.size_alloc]; omega) _⟩
    have c1 : wc.cell? ⟨w.heap.size, 1, none⟩ = some (.slice A cs.length c) := cell_of_row wc w.heap.size 1 _ 55 (0, 0) (by rw [hw0.out]; exact (Below.heap_alloc _ _ _ (by simp only [World.size_alloc]; omega)).trans (heap_alloc_new w _))
    have hs0 : Aside0 (wc.heap[w.heap.size + 1]? = some (.cells (seenOf []) 150 (0, 0))) := ⟨by
      have e := heap_alloc_new (w.alloc (.cells #[.int .i64 e, .slice A cs.length c] 55)) (.cells #[.bool false, .bool false, .bool false, .bool false, .bool false, .bool false, .bool false] 150)
      rw [World.size_alloc] at e
      rw [hw0.out]; exact e⟩
    go_wp2
    go_loopw [4, 32] (fun v4 v32 wr => ∃ k : Nat, k ≤ cs.length ∧ v32 = .int .i64 k ∧ v4 = .bool (okk ok0 (cs.take k)) ∧ Aside0 ((∀ n ∈ (cs.take k).flatten, 0 ≤ n ∧ n < 7) ∧ (cs.take k).flatten.Nodup) ∧ Aside0 (wr.heap[w.heap.size + 1]? = some (.cells (seenOf (cs.take k).flatten) 150 (0, 0))) ∧ Aside0 (Below w.heap.size w wr)) (fun _ v32 _ => cs.length - (intOf v32).toNat)
    case atStart => exact ⟨0, by omega, rfl, by simp [okk], ⟨by simp⟩, by simpa using hs0, hb0⟩
    case round =>
      clear hs0 c1 hw0
      obtain ⟨k, hk, rfl, rfl, HF, HA, HB⟩ := hrel
      obtain ⟨wo, rfl⟩ : ∃ wo : World, wo = wr := ⟨_, rfl⟩
      by_cases hlt : k < cs.length
      · obtain ⟨ad, B, cp, e0, hc0, q1, q2⟩ := chain_at H.out k hlt
        subst e0
        replace hc0 := cell_later HB.out hc0
        obtain ⟨ck, hck⟩ : ∃ ck, ck = cs[k] := ⟨_, rfl⟩
        rw [← hck] at hc0 q1 q2
        have k0 : (0 : Int) ≤ (k : Int) := by omega
        have k1 : (k : Int) < (cs.length : Int) := by omega
        have mk := Kd.C_max q1
        have HQ := Aside0.mk q1
        have HCK := Aside0.mk hck
        have hnext : Aside0 (okk ok0 (cs.take (k + 1)) = (okk ok0 (cs.take k) && decide (0 < ck.length))) := ⟨by
          rw [HCK.out, List.take_succ_eq_append_getElem hlt]; unfold okk; rw [List.all_append, Bool.and_assoc]; simp⟩
        have hflat : Aside0 ((cs.take (k + 1)).flatten = (cs.take k).flatten ++ ck) := ⟨by
          rw [HCK.out, List.take_succ_eq_append_getElem hlt, List.flatten_append]; simp⟩
        have HSUB : Aside0 (∃ tail, cs.flatten = ((cs.take k).flatten ++ ck) ++ tail) := ⟨⟨(cs.drop (k + 1)).flatten, by
          rw [← hflat.out, ← List.flatten_append, List.take_append_drop]⟩⟩
        have HLT : Aside0 (k + 1 ≤ cs.length) := ⟨by omega⟩
        clear q1 q2 hck HCK
        obtain ⟨okv, hokv⟩ : ∃ okv, okk ok0 (cs.take k) = okv := ⟨_, rfl⟩
        rw [hokv]
        have HOV := Aside0.mk hokv
        clear hokv hlt
        go_upto_region 6 with (fail)
        go_cut [4] (fun v4 W => v4 = .bool (okk ok0 (cs.take (k + 1))) ∧ Aside0 (W = wo))
        case first =>
          cases okv
          all_goals go_wp2
          all_goals go_meet
          all_goals
            case rel => exact ⟨by rw [hnext.out, HOV.out]; simp, ⟨rfl⟩⟩
        case rest =>
          obtain ⟨rfl, HC2⟩ := hcut
          obtain rfl := HC2.out
          clear HC2
          go_wp2
          go_loopw [44] (fun v44 wr => ∃ j : Nat, j ≤ ck.length ∧ v44 = .int .i64 j ∧ Aside0 ((∀ n ∈ (cs.take k).flatten ++ ck.take j, 0 ≤ n ∧ n < 7) ∧ ((cs.take k).flatten ++ ck.take j).Nodup) ∧ Aside0 (wr.heap[w.heap.size + 1]? = some (.cells (seenOf ((cs.take k).flatten ++ ck.take j)) 150 (0, 0))) ∧ Aside0 (Below w.heap.size w wr)) (fun v44 _ => ck.length - (intOf v44).toNat)
          case atStart => exact ⟨0, by omega, rfl, by simpa using HF, by simpa using HA, HB⟩
          case round =>
            clear HF HA HB
            obtain ⟨j, hj, rfl, JF, JA, JB⟩ := hrel
            by_cases hlj : j < ck.length
            · obtain ⟨adj, ej, hcj⟩ := RB.cell (RB.keep HQ.out JB.out) j hlj
              subst ej
              have j0 : (0 : Int) ≤ (j : Int) := by omega
              have j1 : (j : Int) < (ck.length : Int) := by omega
              obtain ⟨n, hn⟩ : ∃ n, rd ck j = n := ⟨_, rfl⟩
              rw [hn] at hcj
              have HT : Aside0 (ck.take (j + 1) = ck.take j ++ [n]) := ⟨by rw [take_succ_rd ck j hlj, hn]⟩
              have HN : Aside0 (∃ tail, cs.flatten = ((cs.take k).flatten ++ ck.take j) ++ n :: tail) := ⟨by
                obtain ⟨tl, htl⟩ := HSUB.out
                refine ⟨ck.drop (j + 1) ++ tl, ?_⟩
                rw [htl]
                conv => lhs; rw [← List.take_append_drop (j + 1) ck, HT.out]
                simp⟩
              have HJ1 : Aside0 (j + 1 ≤ ck.length) := ⟨by omega⟩
              clear hn hlj
              by_cases hr : 0 ≤ n ∧ n < 7
              · obtain ⟨m, rfl⟩ : ∃ m : Nat, n = (m : Int) := ⟨n.toNat, by omega⟩
                have hm : m < 7 := by omega
                have r0 : ¬ (m : Int) < 0 := by omega
                have r1 : (m : Int) < 7 := by omega
                have r2 : (0 : Int) ≤ (m : Int) := by omega
                obtain ⟨L, hL⟩ : ∃ L, (cs.take k).flatten ++ ck.take j = L := ⟨_, rfl⟩
                rw [hL] at JF JA HN
                have ca := blk_cell JA.out m
                rw [seenOf_at L m hm] at ca
                have fa := blk_frozen JA.out m
                by_cases hin : (m : Int) ∈ L
                · rw [decide_eq_true hin] at ca
                  have HIN := Aside0.mk hin
                  clear hin hr
                  go_wp2
                  go_ret
                  obtain ⟨tl, htl⟩ := HN.out
                  exact ⟨by rw [decide_eq_false (not_PR_in htl HIN.out)]; rfl, JB.out⟩
                · rw [decide_eq_false hin] at ca
                  have HIN := Aside0.mk hin
                  clear hin hr
                  go_wp2
                  go_roundw
                  case rel => exact ⟨j + 1, HJ1.out, by go_num, ⟨by
                    rw [HT.out, ← List.append_assoc, hL]
                    refine ⟨fun x hx => ?_, ?_⟩
                    · rcases List.mem_append.1 hx with hx | hx
                      · exact JF.out.1 x hx
                      · rw [List.mem_singleton.1 hx]; exact ⟨r2, r1⟩
                    · rw [List.nodup_append]
                      exact ⟨JF.out.2, by simp, fun x hx y hy e => HIN.out (by rw [List.mem_singleton.1 hy] at e; rw [← e]; exact hx)⟩⟩, ⟨by rw [HT.out, ← List.append_assoc, hL]; exact seen_stored JA.out hm⟩, ⟨JB.out.setCell (p := ⟨w.heap.size + 1, m, none⟩) (Nat.le_succ _) _⟩⟩
                  case measure => have := HJ1.out; simp [intOf]; omega
              · have HR := Aside0.mk hr
                by_cases hr0 : n < 0
                · clear hr
                  go_wp2
                  go_ret
                  obtain ⟨tl, htl⟩ := HN.out
                  exact ⟨by rw [decide_eq_false (not_PR_range htl HR.out)]; rfl, JB.out⟩
                · have hr1 : (7 : Int) ≤ n := by omega
                  have hr2 : (0 : Int) ≤ n := by omega
                  clear hr
                  go_wp2
                  go_ret
                  obtain ⟨tl, htl⟩ := HN.out
                  exact ⟨by rw [decide_eq_false (not_PR_range htl HR.out)]; rfl, JB.out⟩
            · have hjn : j = ck.length := by omega
              subst hjn
              rw [List.take_length, ← hflat.out] at JF JA
              go_wp2
              go_roundw
              case rel => exact ⟨k + 1, HLT.out, by go_num, rfl, JF, JA, JB⟩
              case measure => have := HLT.out; simp [intOf]; omega
      · have hkn : k = cs.length := by omega
        subst hkn
        rw [List.take_length] at HF
        go_wp2
        go_ret
        have hfin := okk_PR (e := e) HF.out
        rw [← HOK.out] at hfin
        refine ⟨?_, HB.out⟩
        show Ending.returned (Value.bool (okk ok0 (cs.take cs.length))) = _
        rw [List.take_length, hfin]
end Go.Proofs.Ytmdnokfmlbjbhaa

namespace Go.Proofs.Ytmdnokfmlbjbhaa
open Go.RowKit Go.Proofs.YtmdnokfmlbjbhaaW.PrintWords
set_option linter.unusedVariables false
set_option linter.unusedSimpArgs false

theorem drewB {w0 W : World} {n : Nat} (h : Aside0 (Below n w0 W)) : Aside0 (Below n w0 W.drew) := ⟨h.out.drew⟩

def placeOf (e : Int) (cs : List (List Int)) (at_ : Int) : List Int := if PR e cs ∧ 0 ≤ at_ then cs.getD (at_ % (cs.length : Int)).toNat [] else []

set_option maxHeartbeats 1000000 in
set_option maxRecDepth 100000 in
theorem place_calls (e : Int) (A : Option Addr) (c : Nat) (cs : List (List Int)) (at_ : Int) (w : World) (h : RL w A cs) (hl : ∀ x ∈ cs, x.length * 8 ≤ 140737488355328) (ha : Wf at_) :
    Calls Try.prog 43 #[.agg #[.int .i64 e, .slice A cs.length c], .int .i64 at_] w fun ex w' => ∃ v, ex = .returned v ∧ OI w' w.heap.size v (placeOf e cs at_) ∧ Below w.heap.size w w' := by
  have H := Aside0.mk h
  have HL := Aside0.mk hl
  have HR := Aside0.mk (fun W (hB : Below w.heap.size w W) => right_calls e A c cs W (Kd.C_below h hB))
  clear h hl
  by_cases hp : PR e cs
  · by_cases h0 : 0 ≤ at_
    · have e1 : placeOf e cs at_ = cs.getD (at_ % (cs.length : Int)).toNat [] := by unfold placeOf; rw [if_pos ⟨hp, h0⟩]
      have hlen : 0 < cs.length := hp.1.2.2.1
      have hl7 : cs.length ≤ 7 := hp.1.2.2.2
      obtain ⟨i, hi⟩ : ∃ i : Nat, at_ % (cs.length : Int) = i := ⟨(at_ % (cs.length : Int)).toNat, (Int.toNat_of_nonneg (Int.emod_nonneg _ (by omega))).symm⟩
      have hil : i < cs.length := by have := Int.emod_lt_of_pos at_ (show (0 : Int) < cs.length by omega); omega
      have htm : at_.tmod (cs.length : Int) = (i : Int) := by rw [Int.tmod_eq_emod_of_nonneg h0, hi]
      rw [e1, hi, Int.toNat_natCast, List.getD_eq_getElem?_getD, List.getElem?_eq_getElem hil]
      have hd : decide (PR e cs) = true := decide_eq_true hp
      rw [hd] at HR
      obtain ⟨ad, B, cp, e0, hc0, q1, q2⟩ := chain_at H.out i hil
      subst e0
      have HQ := Aside0.mk q1
      have HC0 := Aside0.mk hc0
      have hll := Aside0.mk (HL.out _ (List.getElem_mem hil))
      have i0 : (0 : Int) ≤ (i : Int) := by omega
      have i1 : (i : Int) < (cs.length : Int) := by omega
      have hne : ¬ (cs.length : Int) = 0 := by omega
      have hnil : ¬ cs = [] := by rintro rfl; simp at hlen
      have hwi : IntKind.i64.wrap (i : Int) = i := IntWalk.i64_in _ (by omega)
      have hwi2 : wrap64 (i : Int) = i := IntWalk.wrap64_in _ (by omega)
      have htn : ((i : Int)).toNat = i := by simp
      have hw1 := ha.1
      have hw2 := ha.2
      clear hd hp e1 hc0 q1 q2 ha
      go_enter Try.func43, Try.ntmps43
      go_wp2_with (fail)
      refine (HR.out _ ((Below.refl _ w).alloc (Nat.le_refl _) _)).mono ?_
      rintro ex w2 ⟨rfl, b2⟩
      have B2 : Aside0 (Below w.heap.size w w2) := ⟨((Below.refl _ w).alloc (Nat.le_refl _) _).trans (b2.mono (by go_size))⟩
      have c1 : w2.cell? ⟨w.heap.size, 1, none⟩ = some (.slice (some ad) cs.length c) := cell_of_row w2 w.heap.size 1 _ 55 (0, 0) ((b2.block _ (by go_size)).trans (heap_alloc_new w _))
      have c2 := cell_later B2.out HC0.out
      have HS : Aside0 (∀ W, Aside0 (Below w2.heap.size w2 W) → W.cell? ⟨w.heap.size, 1, none⟩ = some (.slice (some ad) cs.length c) ∧ W.cell? (ad.add i) = some (.slice B cs[i].length cp) ∧ Aside0 (Below w2.heap.size w2 W)) := ⟨fun W hW => ⟨cell_later hW.out c1, cell_later hW.out c2, hW⟩⟩
      have hcl : Aside0 (∀ W, Aside0 (Below w2.heap.size w2 W) → Calls Try.prog 98 #[.slice B cs[i].length cp] W fun ex w' => ∃ v, ex = .returned v ∧ Aside0 (OI w' w.heap.size v cs[i]) ∧ Aside0 (Below w2.heap.size w2 w')) := ⟨fun W hW =>
        (iclone_calls B cp cs[i] W (RB.keep HQ.out (B2.out.trans (hW.out.mono B2.out.size))) hll.out).mono fun _ _ ⟨v, he, ho, hb⟩ => ⟨v, he, ⟨own_weaken ho (Nat.le_trans B2.out.size hW.out.size)⟩, ⟨hW.out.trans (hb.mono hW.out.size)⟩⟩⟩
      have E0 := Aside0.mk (Below.refl w2.heap.size w2)
      clear b2
      go_wp2_with (fail)
      go_region_held3 (fun W => W.cell? ⟨w.heap.size, 1, none⟩ = some (.slice (some ad) cs.length c) ∧ W.cell? (ad.add i) = some (.slice B cs[i].length cp) ∧ Aside0 (Below w2.heap.size w2 W)) (exact HS.out _ (by first | assumption | exact drewB (by assumption))) ((go_at_call 98; ((with_reducible refine (hcl.out _ (by first | assumption | exact drewB (by assumption))).mono ?_); rintro ex w3 ⟨v, rfl, O3, E3⟩)))
      go_wp2
      go_ret
      exact ⟨_, rfl, O3.out, B2.out.trans (E3.out.mono B2.out.size)⟩
    · have h1 : at_ < 0 := by omega
      have e1 : placeOf e cs at_ = [] := by unfold placeOf; rw [if_neg (fun hh => h0 hh.2)]
      rw [e1]
      have hd : decide (PR e cs) = true := decide_eq_true hp
      rw [hd] at HR
      clear h0
      clear hd hp e1 ha
      go_enter Try.func43, Try.ntmps43
      go_wp2_with (fail)
      refine (HR.out _ ((Below.refl _ w).alloc (Nat.le_refl _) _)).mono ?_
      rintro ex w2 ⟨rfl, b2⟩
      have B2 : Aside0 (Below w.heap.size w w2) := ⟨((Below.refl _ w).alloc (Nat.le_refl _) _).trans (b2.mono (by go_size))⟩
      clear b2
      go_wp2
      go_ret
      exact ⟨_, rfl, own_nil _ _ _ _, B2.out⟩
  · have e1 : placeOf e cs at_ = [] := by unfold placeOf; rw [if_neg (fun hh => hp hh.1)]
    rw [e1]
    have hd : decide (PR e cs) = false := decide_eq_false hp
    rw [hd] at HR
    clear hd hp e1 ha
    go_enter Try.func43, Try.ntmps43
    go_wp2_with (fail)
    refine (HR.out _ ((Below.refl _ w).alloc (Nat.le_refl _) _)).mono ?_
    rintro ex w2 ⟨rfl, b2⟩
    have B2 : Aside0 (Below w.heap.size w w2) := ⟨((Below.refl _ w).alloc (Nat.le_refl _) _).trans (b2.mono (by go_size))⟩
    clear b2
    go_wp2
    go_ret
    exact ⟨_, rfl, own_nil _ _ _ _, B2.out⟩
end Go.Proofs.Ytmdnokfmlbjbhaa

namespace Go.Proofs.Ytmdnokfmlbjbhaa
open Go.RowKit Go.Proofs.YtmdnokfmlbjbhaaW.PrintWords
set_option linter.unusedVariables false
set_option linter.unusedSimpArgs false

def nextOf (e : Int) (cs : List (List Int)) (there : List Int) : Int × List (List Int) × Int :=
  if ¬ PR e cs ∨ e = 2147483647 then (0, [], 1) else if ∃ c ∈ cs, stay there c = [] then (0, [], 5) else (e + 1, cs.map (stay there), 0)

/-- a slice header, the row of ints behind it read, its block one of ints from base on -/
def Chn (W : World) (base : Nat) (v : Value) (xs : List Int) : Prop := ∃ A c, v = .slice A xs.length c ∧ RI W A xs ∧ xs.length ≤ c ∧ ∀ ad, A = some ad → base ≤ ad.block ∧ ∃ cells, W.heap[ad.block]? = some (.cells cells 3 (0, 0))
/-- an own row of such headers -/
def Rows (W : World) (base : Nat) (vo : Value) (css : List (List Int)) : Prop := ∃ vs : List Value, W.ownsRow base 58 1 vo css.length vs ∧ ∀ (i : Nat) (h : i < css.length), ∃ v, vs[i]? = some v ∧ Chn W base v css[i]
theorem Chn.move {W W' : World} {base : Nat} {v : Value} {xs : List Int} (h : Chn W base v xs) (hm : ∀ k cells, base ≤ k → W.heap[k]? = some (.cells cells 3 (0, 0)) → W'.heap[k]? = some (.cells cells 3 (0, 0))) : Chn W' base v xs := by
  obtain ⟨A, c, e, hr, hc, hA⟩ := h
  refine ⟨A, c, e, C_move hr (fun ad ea => ?_), hc, fun ad ea => ?_⟩
  · obtain ⟨hb, cells, hh⟩ := hA ad ea
    rw [hm _ _ hb hh, hh]
  · obtain ⟨hb, cells, hh⟩ := hA ad ea
    exact ⟨hb, cells, hm _ _ hb hh⟩
theorem Rows.below {W W' : World} {base : Nat} {vo : Value} {css : List (List Int)} (h : Rows W base vo css) (hB : Below W.heap.size W W') : Rows W' base vo css := by
  obtain ⟨vs, ho, hi⟩ := h
  refine ⟨vs, (Upd.of_below (S := fun _ => False) hB).own ho (fun _ _ e => e), fun i hl => ?_⟩
  obtain ⟨v, e, hc⟩ := hi i hl
  exact ⟨v, e, hc.move fun k cells hb hh => (hB.block k (blk_lt hh)).trans hh⟩
theorem Rows.weaken {W : World} {base b0 : Nat} {vo : Value} {css : List (List Int)} (h : Rows W base vo css) (hb : b0 ≤ base) : Rows W b0 vo css := by
  obtain ⟨vs, ho, hi⟩ := h
  refine ⟨vs, own_weaken ho hb, fun i hl => ?_⟩
  obtain ⟨v, e, A, c, e', hr, hc, hA⟩ := hi i hl
  exact ⟨v, e, A, c, e', hr, hc, fun ad ea => ⟨Nat.le_trans hb (hA ad ea).1, (hA ad ea).2⟩⟩
/-- where the blocks from base on are as they were -/
theorem Rows.moved {W W' : World} {base : Nat} {vo : Value} {css : List (List Int)} (h : Rows W base vo css) (hm : ∀ k, base ≤ k → k < W.heap.size → W'.heap[k]? = W.heap[k]?) : Rows W' base vo css := by
  obtain ⟨vs, ho, hi⟩ := h
  refine ⟨vs, own_move ho (fun k hk => hm k (own_base ho k hk) (own_lt ho k hk)), fun i hl => ?_⟩
  obtain ⟨v, e, hc⟩ := hi i hl
  exact ⟨v, e, hc.move fun k cells hb hh => (hm k hb (blk_lt hh)).trans hh⟩
theorem Rows.nil (W : World) (base : Nat) : Rows W base (.slice none 0 0) [] := ⟨[], own_nil W base 58 1, fun i h => absurd h (Nat.not_lt_zero _)⟩
theorem Chn.of {W : World} {base b0 : Nat} {v : Value} {xs : List Int} (h : OI W b0 v xs) (hb : base ≤ b0) : Chn W base v xs := by
  obtain ⟨A, c, e, hr, hc⟩ := OI.slice h
  refine ⟨A, c, e, hr, hc, fun ad ea => ?_⟩
  subst ea
  rcases h.2 with ⟨h', _⟩ | ⟨g', cap', cur, h', hbg, hh, _⟩
  · rw [e] at h'; cases h'
  · rw [e] at h'; injection h' with h1 _ _; injection h1 with h1; subst h1
    exact ⟨Nat.le_trans hb hbg, cur, hh⟩
theorem info58' : (Try.prog.info? 58).map (fun i => (i.zero, i.size, i.bytes)) = some (some (.slice none 0 0), 1, 24) := by kernel_rfl
theorem Rows.appended {W W' : World} {base : Nat} {vo vo' v : Value} {css : List (List Int)} {xs : List Int} {vs : List Value} (hi : ∀ (i : Nat) (h : i < css.length), ∃ v, vs[i]? = some v ∧ Chn W base v css[i]) (hl : vs.length = css.length)
    (ho : W.ownsRow base 58 1 vo css.length vs) (ho' : W'.ownsRow base 58 1 vo' (css.length + 1) (vs ++ [v])) (hc : Chn W base v xs) (hg : W.grownBy W' vo.ownBlock) : Rows W' base vo' (css ++ [xs]) := by
  have mv : ∀ k cells, base ≤ k → W.heap[k]? = some (.cells cells 3 (0, 0)) → W'.heap[k]? = some (.cells cells 3 (0, 0)) := fun k cells hb hh => blk_grown hh hg (fun e => by
    obtain ⟨cells', hh'⟩ := own_typed ho k e.symm
    rw [hh] at hh'; injection hh' with hh'; injection hh' with _ h2 _; cases h2)
  refine ⟨vs ++ [v], by simpa using ho', fun i h => ?_⟩
  rcases Nat.lt_or_ge i css.length with hlt | hge
  · obtain ⟨u, e, hu⟩ := hi i hlt
    exact ⟨u, by rw [List.getElem?_append_left (by omega)]; exact e, by rw [List.getElem_append_left hlt]; exact hu.move mv⟩
  · have he : i = css.length := by simp at h; omega
    subst he
    exact ⟨v, by rw [List.getElem?_append_right (by omega), hl]; simp, by rw [List.getElem_append_right (Nat.le_refl _)]; simpa using hc.move mv⟩
/-- read -/
theorem Rows.read {W : World} {base : Nat} {vo : Value} {css : List (List Int)} (h : Rows W base vo css) : ∃ A c, vo = .slice A css.length c ∧ css.length ≤ c ∧ RL W A css := by
  obtain ⟨vs, ho, hi⟩ := h
  have hl : vs.length = css.length := by have := ho.1; omega
  rcases ho.2 with ⟨e, h0⟩ | ⟨g, cap, cur, e, hb, hh, hn, hm, hcs, ht⟩
  · have : css = [] := List.eq_nil_of_length_eq_zero h0
    subst this
    exact ⟨none, 0, e, Nat.le_refl _, Kd.C_nil _ _⟩
  · unfold maxLen at hm
    refine ⟨some ⟨g, 0, none⟩, cap, e, hn, rfl, by omega, fun _ => ⟨⟨g, 0, none⟩, rfl, fun j p hp => ?_⟩⟩
    have hj : j < css.length := (List.getElem?_eq_some_iff.1 hp).1
    obtain ⟨v, ev, A, c, rfl, hr, hc, _⟩ := hi j hj
    have hpj : css[j] = p := by rw [List.getElem?_eq_getElem hj] at hp; injection hp
    subst hpj
    refine ⟨[.slice A css[j].length c], rfl, ⟨A, c, rfl, hc, hr⟩, fun i u hu => ?_⟩
    have hi0 : i = 0 := by have := (List.getElem?_eq_some_iff.1 hu).1; simpa using this
    subst hi0
    obtain rfl : Value.slice A css[j].length c = u := by simpa using hu
    show W.cell? ((⟨g, 0, none⟩ : Addr).add (j * 1 + 0)) = _
    rw [show (⟨g, 0, none⟩ : Addr).add (j * 1 + 0) = ⟨g, j, none⟩ from by rw [Nat.mul_one, Nat.add_zero, add_at, Nat.zero_add], cell_of_row W g j cur 58 (0, 0) hh]
    have : (cur.toList.take (css.length * 1))[j]? = vs[j]? := by rw [ht]
    rw [List.getElem?_take, if_pos (by omega)] at this
    simpa using this.trans ev
theorem Rows.rl {W : World} {base : Nat} {A : Option Addr} {n c : Nat} {css : List (List Int)} (h : Rows W base (.slice A n c) css) : RL W A css := by
  obtain ⟨A', c', e, _, hr⟩ := h.read
  injection e with e _ _
  subst e
  exact hr
end Go.Proofs.Ytmdnokfmlbjbhaa

namespace Go.Proofs.Ytmdnokfmlbjbhaa
open Go.RowKit Go.Proofs.YtmdnokfmlbjbhaaW.PrintWords
set_option linter.unusedVariables false
set_option linter.unusedSimpArgs false

theorem own_hdr {W : World} {base n size : Nat} {e : TypeId} {v : Value} {xs : List Value} (h : W.ownsRow base e size v n xs) : ∃ A c, v = .slice A n c := by
  rcases h.2 with ⟨e, h0⟩ | ⟨g, cap, cur, e, _⟩
  · exact ⟨none, 0, by rw [e, h0]⟩
  · exact ⟨_, _, e⟩
theorem Rows.set {W : World} {base b i : Nat} {vo u : Value} {css : List (List Int)} (h : Rows W base vo css) (hb : b < base) : Rows (W.setCell ⟨b, i, none⟩ u) base vo css := by
  obtain ⟨vs, ho, hi⟩ := h
  refine ⟨vs, own_setCell ho (fun e => ?_) u, fun j hl => ?_⟩
  · have := own_base ho b e.symm
    omega
  · obtain ⟨v, e, hc⟩ := hi j hl
    exact ⟨v, e, hc.move fun k cells hk hh => (Below.heap_setCell W ⟨b, i, none⟩ u k (by show k ≠ b; omega)).trans hh⟩
theorem two_set {W : World} {b : Nat} {x y u v : Value} {t : TypeId} (h : W.heap[b]? = some (.cells #[x, y] t (0, 0))) :
    (W.setCell ⟨b, 0, none⟩ u).cell? ⟨b, 0, none⟩ = some u ∧ ((W.setCell ⟨b, 0, none⟩ u).setCell ⟨b, 1, none⟩ v).cell? ⟨b, 0, none⟩ = some u ∧ ((W.setCell ⟨b, 0, none⟩ u).setCell ⟨b, 1, none⟩ v).cell? ⟨b, 1, none⟩ = some v := by
  have h1 := blk_set h 0 u
  have h2 := blk_set h1 1 v
  exact ⟨blk_cell h1 0, blk_cell h2 0, blk_cell h2 1⟩

set_option maxHeartbeats 2000000 in
set_option maxRecDepth 100000 in
theorem next_calls (e : Int) (A : Option Addr) (c : Nat) (cs : List (List Int)) (L : Option Addr) (cl : Nat) (there : List Int) (w : World) (h : RL w A cs) (ht : RI w L there) (hl : ∀ x ∈ cs, x.length * 8 ≤ 140737488355328) (he : Wf e) :
    Calls Try.prog 41 #[.agg #[.int .i64 e, .slice A cs.length c], .slice L there.length cl] w fun ex w' => ∃ Ao co, ex = .returned (.tuple #[.agg #[.int .i64 (nextOf e cs there).1, .slice Ao (nextOf e cs there).2.1.length co], .int .i64 (nextOf e cs there).2.2]) ∧
      Rows w' w.heap.size (.slice Ao (nextOf e cs there).2.1.length co) (nextOf e cs there).2.1 ∧ (nextOf e cs there).2.1.length ≤ co ∧ Below w.heap.size w w' := by
  have H := Aside0.mk h
  have HT := Aside0.mk ht
  have HL := Aside0.mk hl
  have HR := Aside0.mk (fun W (hB : Below w.heap.size w W) => right_calls e A c cs W (Kd.C_below h hB))
  have m0 := Kd.C_max h
  have w1 := he.1
  have w2 := he.2
  clear h ht hl he
  obtain ⟨w0, hw0⟩ : ∃ w0, Aside0 (w0 = ((w.alloc (.cells #[.int .i64 e, .slice A cs.length c] 55)).alloc (.cells #[.slice L there.length cl] 58)).alloc (.cells #[.int .i64 0, .slice none 0 0] 55)) := ⟨_, ⟨rfl⟩⟩
  have hz0 : Aside0 (w0.heap.size = w.heap.size + 3) := ⟨by rw [hw0.out]; simp only [World.size_alloc]⟩
  have B0 : Aside0 (Below w.heap.size w w0) := ⟨by rw [hw0.out]; exact (((Below.refl _ w).alloc (Nat.le_refl _) _).alloc (by simp only [World.size_alloc]; omega) _).alloc (by simp only [World.size_alloc]; omega) _⟩
  have b2 : Aside0 (w0.heap[w.heap.size]? = some (.cells #[.int .i64 e, .slice A cs.length c] 55 (0, 0))) := ⟨by rw [hw0.out]; exact (Below.heap_alloc _ _ _ (by simp only [World.size_alloc]; omega)).trans ((Below.heap_alloc _ _ _ (by simp only [World.size_alloc]; omega)).trans (heap_alloc_new w _))⟩
  have b3 : Aside0 (w0.heap[w.heap.size + 1]? = some (.cells #[.slice L there.length cl] 58 (0, 0))) := ⟨by
    have q := heap_alloc_new (w.alloc (.cells #[.int .i64 e, .slice A cs.length c] 55)) (.cells #[.slice L there.length cl] 58)
    rw [World.size_alloc] at q
    rw [hw0.out]; exact (Below.heap_alloc _ _ _ (by simp only [World.size_alloc]; omega)).trans q⟩
  have b4 : Aside0 (w0.heap[w.heap.size + 1 + 1]? = some (.cells #[.int .i64 0, .slice none 0 0] 55 (0, 0))) := ⟨by
    have q := heap_alloc_new ((w.alloc (.cells #[.int .i64 e, .slice A cs.length c] 55)).alloc (.cells #[.slice L there.length cl] 58)) (.cells #[.int .i64 0, .slice none 0 0] 55)
    rw [World.size_alloc, World.size_alloc] at q
    rw [hw0.out]; exact q⟩
  go_enter Try.func41, Try.ntmps41
  go_wp2_with (fail)
  rw [← hw0.out]
  refine (HR.out w0 B0.out).mono ?_
  rintro ex wq ⟨rfl, br⟩
  have hsz := br.size
  have BR : Aside0 (Below w.heap.size w wq) := ⟨B0.out.trans (br.mono B0.out.size)⟩
  have lt2 := blk_lt b2.out; have lt3 := blk_lt b3.out; have lt4 := blk_lt b4.out
  replace b2 : Aside0 (wq.heap[w.heap.size]? = some (.cells #[.int .i64 e, .slice A cs.length c] 55 (0, 0))) := ⟨(br.block _ lt2).trans b2.out⟩
  replace b3 : Aside0 (wq.heap[w.heap.size + 1]? = some (.cells #[.slice L there.length cl] 58 (0, 0))) := ⟨(br.block _ lt3).trans b3.out⟩
  replace b4 : Aside0 (wq.heap[w.heap.size + 1 + 1]? = some (.cells #[.int .i64 0, .slice none 0 0] 55 (0, 0))) := ⟨(br.block _ lt4).trans b4.out⟩
  have s0 : w.heap.size + 3 ≤ wq.heap.size := by rw [← hz0.out]; exact hsz
  clear hw0 B0 hz0 hsz br lt2 lt3 lt4
  have c20 := blk_cell b2.out 0; have c21 := blk_cell b2.out 1
  have c40 := blk_cell b4.out 0; have c41 := blk_cell b4.out 1; have f40 := blk_frozen b4.out 0; have f41 := blk_frozen b4.out 1
  simp only [List.getElem?_toArray, List.getElem?_cons_zero, List.getElem?_cons_succ] at c20 c21 c40 c41
  by_cases hp : PR e cs
  · by_cases hE : e = 2147483647
    · have hd : decide (PR e cs) = true := decide_eq_true hp
      have hE1 : (e == 2147483647) = true := by simp [hE]
      rw [hd]
      have h1 : Aside0 (nextOf e cs there = (0, [], 1)) := ⟨by unfold nextOf; rw [if_pos (.inr hE)]⟩
      obtain ⟨r0, r1, r2⟩ := two_set (u := .int .i64 0) (v := .slice none 0 0) b4.out
      clear hp hd hE
      go_wp2
      refine bodyPost_ret (v := .tuple #[.agg #[.int .i64 0, .slice none 0 0], .int .i64 1]) (by simp [results, Try.results41, go_sem, r0, r1, r2]) rfl ?_
      refine ⟨none, 0, by rw [h1.out]; rfl, by rw [h1.out]; exact Rows.nil _ _, by rw [h1.out]; exact Nat.le_refl _, ?_⟩
      exact (BR.out.setCell (p := ⟨w.heap.size + 1 + 1, 0, none⟩) (by show w.heap.size ≤ w.heap.size + 1 + 1; omega) _).setCell (p := ⟨w.heap.size + 1 + 1, 1, none⟩) (by show w.heap.size ≤ w.heap.size + 1 + 1; omega) _
    · have hd : decide (PR e cs) = true := decide_eq_true hp
      have hE1 : (e == 2147483647) = false := by simp [hE]
      rw [hd]
      have HP := Aside0.mk hp
      have HE := Aside0.mk hE
      clear hp hd hE
      have n1 : w.heap.size < wq.heap.size := by omega
      have n2 : w.heap.size ≠ wq.heap.size := by omega
      have n3 : w.heap.size + 1 ≠ wq.heap.size := by omega
      have n4 : w.heap.size + 1 + 1 ≠ wq.heap.size := by omega
      have hwe : wrap64 (e + 1) = e + 1 := IntWalk.wrap64_in _ (by have := HP.out.1; omega)
      go_wp2
      simp only [hwe]
      clear hwe
      go_loopw [26] (fun v26 W => ∃ (k : Nat) (vo : Value), k ≤ cs.length ∧ v26 = .int .i64 k ∧ Aside0 (∀ x ∈ cs.take k, stay there x ≠ []) ∧ Aside0 (Below wq.heap.size wq W) ∧ Aside0 (W.heap[wq.heap.size]? = some (.cells #[.int .i64 (e + 1), vo] 55 (0, 0))) ∧ Aside0 (Rows W (wq.heap.size + 1) vo ((cs.take k).map (stay there)))) (fun v26 _ => cs.length - (intOf v26).toNat)
      case atStart => exact ⟨0, .slice none 0 0, by omega, rfl, ⟨by simp⟩, ⟨(Below.refl _ wq).alloc (Nat.le_refl _) _⟩, ⟨heap_alloc_new wq _⟩, ⟨by simpa using Rows.nil _ _⟩⟩
      case round =>
        clear c20 c21 c40 c41 f40 f41
        obtain ⟨k, vo, hk, rfl, HS, HB, HX, HW⟩ := hrel
        have hqr := HB.out.size
        have hxr := blk_lt HX.out
        have BW : Aside0 (Below w.heap.size w wr) := ⟨BR.out.trans (HB.out.mono BR.out.size)⟩
        have g3 : Aside0 (wr.heap[w.heap.size + 1]? = some (.cells #[.slice L there.length cl] 58 (0, 0))) := ⟨(HB.out.block _ (by omega)).trans b3.out⟩
        have g4 : Aside0 (wr.heap[w.heap.size + 1 + 1]? = some (.cells #[.int .i64 0, .slice none 0 0] 55 (0, 0))) := ⟨(HB.out.block _ (by omega)).trans b4.out⟩
        by_cases hlt : k < cs.length
        · obtain ⟨ad, B, cp, e0, hc0, q1, q2⟩ := chain_at H.out k hlt
          subst e0
          obtain ⟨ck, hck⟩ : ∃ ck, ck = cs[k] := ⟨_, rfl⟩
          rw [← hck] at hc0 q1 q2
          replace hc0 := cell_later BW.out hc0
          have k0 : (0 : Int) ≤ (k : Int) := by omega
          have k1 : (k : Int) < (cs.length : Int) := by omega
          have hcl := Aside0.mk (iclone_calls B cp ck wr (RB.keep q1 BW.out) (HL.out ck (by rw [hck]; exact List.getElem_mem hlt)))
          have HTH : Aside0 (There wr (w.heap.size + 1) there) := ⟨L, cl, blk_cell g3.out 0, RB.keep HT.out BW.out⟩
          have HTK : Aside0 (cs.take (k + 1) = cs.take k ++ [ck]) := ⟨by rw [List.take_succ_eq_append_getElem hlt, hck]⟩
          have HMEM : Aside0 (ck ∈ cs) := ⟨by rw [hck]; exact List.getElem_mem hlt⟩
          have HK1 : Aside0 (k + 1 ≤ cs.length) := ⟨hlt⟩
          clear q1 q2 hck hlt
          go_wp2_with (fail)
          refine hcl.out.mono ?_
          rintro ex w4 ⟨v1, rfl, o4, b4'⟩
          have hdel := Aside0.mk (deletefunc_calls wr (w.heap.size + 1) there ck v1 w4 HTH.out b4' o4)
          clear o4 b4' hcl
          go_wp2_with (fail)
          refine hdel.out.mono ?_
          rintro ex w5 ⟨u, rfl, o5, b5⟩
          obtain ⟨A5, c5, rfl, _, _⟩ := OI.slice o5
          have O5 := Aside0.mk o5
          have B5 := Aside0.mk b5
          have x5 := (b5.block _ hxr).trans HX.out
          have g45 := (b5.block (w.heap.size + 1 + 1) (by omega)).trans g4.out
          have c50 := blk_cell x5 0; have c51 := blk_cell x5 1; have f50 := blk_frozen x5 0; have f51 := blk_frozen x5 1
          have c40 := blk_cell g45 0; have c41 := blk_cell g45 1; have f40 := blk_frozen g45 0; have f41 := blk_frozen g45 1
          simp only [List.getElem?_toArray, List.getElem?_cons_zero, List.getElem?_cons_succ] at c50 c51 c40 c41
          have X5 := Aside0.mk x5
          have G45 := Aside0.mk g45
          have hr5 := b5.size
          clear o5 b5 hdel x5 g45
          by_cases hn : (stay there ck).length = 0
          · have hn0 : ((stay there ck).length : Int) = 0 := by omega
            have hn1 : (((stay there ck).length : Int) == 0) = true := by simp [hn]
            have HN := Aside0.mk hn
            clear hn
            have h5 : Aside0 (nextOf e cs there = (0, [], 5)) := ⟨by
              unfold nextOf
              rw [if_neg (fun hh => hh.elim (fun h => h HP.out) HE.out), if_pos ⟨ck, HMEM.out, List.eq_nil_of_length_eq_zero HN.out⟩]⟩
            obtain ⟨r0, r1, r2⟩ := two_set (u := .int .i64 0) (v := .slice none 0 0) G45.out
            go_wp2
            refine bodyPost_ret (v := .tuple #[.agg #[.int .i64 0, .slice none 0 0], .int .i64 5]) (by simp [results, Try.results41, go_sem, r0, r1, r2]) rfl ?_
            refine ⟨none, 0, by rw [h5.out]; rfl, by rw [h5.out]; exact Rows.nil _ _, by rw [h5.out]; exact Nat.le_refl _, ?_⟩
            exact ((BW.out.trans (B5.out.mono BW.out.size)).setCell (p := ⟨w.heap.size + 1 + 1, 0, none⟩) (by show w.heap.size ≤ w.heap.size + 1 + 1; omega) _).setCell (p := ⟨w.heap.size + 1 + 1, 1, none⟩) (by show w.heap.size ≤ w.heap.size + 1 + 1; omega) _
          · have hn1 : (((stay there ck).length : Int) == 0) = false := by simp [hn]
            have hn0 : ¬ ((stay there ck).length : Int) = 0 := by omega
            have HN := Aside0.mk hn
            have HSN : Aside0 (∀ x ∈ cs.take (k + 1), stay there x ≠ []) := ⟨fun x hx => by
              rw [HTK.out] at hx
              rcases List.mem_append.1 hx with hx | hx
              · exact HS.out x hx
              · rw [List.mem_singleton.1 hx]; exact fun e => HN.out (by rw [e]; rfl)⟩
            clear hn c40 c41 f40 f41
            obtain ⟨vs, hov, hiv⟩ := HW.out.below B5.out
            have hvl : vs.length = ((cs.take k).map (stay there)).length := by have := hov.1; omega
            have HOV := Aside0.mk hov
            have HIV := Aside0.mk hiv
            have HVL := Aside0.mk hvl
            have HB5 : Aside0 (Below (wq.heap.size + 1) wr w5) := ⟨B5.out.mono hxr⟩
            have hbd : Aside0 ((((cs.take k).map (stay there)).length + 1) * 24 ≤ 140737488355328) := ⟨by
              have h7 := HP.out.1.2.2.2
              rw [List.length_map, List.length_take]; omega⟩
            have hs5 : wq.heap.size + 1 ≤ w5.heap.size := by omega
            clear hov hiv hvl
            go_wp2_with (at_builtin; refine print_append_cells (w0 := wr) (wq.heap.size + 1) rfl (.tmp 39) (.tmp 41) 53 58 (.slice none 0 0) 1 24 rfl Try.underlying53 info58' rfl (by decide) (by decide) vo _ vs [.slice A5 (stay there ck).length c5] rfl rfl rfl (by simp [Value.oneCell']) HOV.out HB5.out hs5 hbd.out ?_; intro v6 w6 o6 b6 g6 a6; have O6 := Aside0.mk o6; have B6 := Aside0.mk b6; have G6 := Aside0.mk g6; have x6 := (b6.block wq.heap.size (Nat.lt_succ_self _)).trans HX.out; have c60 := blk_cell x6 0; have c61 := blk_cell x6 1; have f60 := blk_frozen x6 0; have f61 := blk_frozen x6 1; simp only [List.getElem?_toArray, List.getElem?_cons_zero, List.getElem?_cons_succ] at c60 c61; have X6 := Aside0.mk x6; obtain ⟨A6, c6, rfl⟩ := own_hdr o6; clear o6 b6 g6 a6 x6)
            go_roundw
            case rel =>
              have hrows : Rows w6 (wq.heap.size + 1) (.slice A6 (((cs.take k).map (stay there)).length + 1) c6) (((cs.take k).map (stay there)) ++ [stay there ck]) :=
                Rows.appended HIV.out HVL.out HOV.out O6.out (Chn.of O5.out (by omega)) G6.out
              have hmap : (cs.take (k + 1)).map (stay there) = (cs.take k).map (stay there) ++ [stay there ck] := by rw [HTK.out, List.map_append]; rfl
              have hlk : ((cs.take k).map (stay there)).length = k := by have := HK1.out; rw [List.length_map, List.length_take]; omega
              rw [hlk] at hrows
              refine ⟨k + 1, .slice A6 (k + 1) c6, HK1.out, by go_num, HSN, ⟨(HB.out.trans (B6.out.mono (Nat.le_succ _))).setCell (p := ⟨wq.heap.size, 1, none⟩) (Nat.le_refl _) _⟩, ⟨blk_set X6.out 1 (.slice A6 (k + 1) c6)⟩, ⟨by rw [hmap]; exact hrows.set (i := 1) (u := .slice A6 (k + 1) c6) (Nat.lt_succ_self _)⟩⟩
            case measure => have := HK1.out; simp [intOf]; omega
        · have HNN : Aside0 (nextOf e cs there = (e + 1, cs.map (stay there), 0)) := ⟨by
            have hs := HS.out
            rw [List.take_of_length_le (by omega)] at hs
            unfold nextOf
            rw [if_neg (fun hh => hh.elim (fun h => h HP.out) HE.out), if_neg (fun ⟨x, hx, e0⟩ => hs x hx e0)]⟩
          have RW : Aside0 (Rows wr (wq.heap.size + 1) vo (cs.map (stay there))) := ⟨by have := HW.out; rwa [List.take_of_length_le (by omega)] at this⟩
          have g40 := blk_cell g4.out 0; have g41 := blk_cell g4.out 1; have f40 := blk_frozen g4.out 0; have f41 := blk_frozen g4.out 1
          have x40 := blk_cell HX.out 0; have x41 := blk_cell HX.out 1
          simp only [List.getElem?_toArray, List.getElem?_cons_zero, List.getElem?_cons_succ] at g40 g41 x40 x41
          obtain ⟨Ao, co, rfl, hco, hrl⟩ := Rows.read RW.out
          have HRL := Aside0.mk hrl
          have HCO := Aside0.mk hco
          clear hrl hco
          obtain ⟨r0, r1, r2⟩ := two_set (u := .int .i64 (e + 1)) (v := .slice Ao (cs.map (stay there)).length co) g4.out
          have R0 := Aside0.mk r0; have R1 := Aside0.mk r1; have R2 := Aside0.mk r2
          clear r0 r1 r2
          go_wp2
          refine bodyPost_ret (v := .tuple #[.agg #[.int .i64 (e + 1), .slice Ao (cs.map (stay there)).length co], .int .i64 0]) (by have r0 := R0.out; have r1 := R1.out; have r2 := R2.out; simp only [List.length_map] at r0 r1 r2 ⊢; simp [results, Try.results41, go_sem, r0, r1, r2]) rfl ?_
          refine ⟨Ao, co, by rw [HNN.out], ?_, by rw [HNN.out]; exact HCO.out, ?_⟩
          · rw [HNN.out]
            have hset := (RW.out.set (b := w.heap.size + 1 + 1) (i := 0) (u := .int .i64 (e + 1)) (by omega)).set (b := w.heap.size + 1 + 1) (i := 1) (u := .slice Ao (cs.map (stay there)).length co) (by omega)
            simpa using hset.weaken (b0 := w.heap.size) (by have := BR.out.size; omega)
          · simpa using (BW.out.setCell (p := ⟨w.heap.size + 1 + 1, 0, none⟩) (by show w.heap.size ≤ w.heap.size + 1 + 1; omega) (.int .i64 (e + 1))).setCell (p := ⟨w.heap.size + 1 + 1, 1, none⟩) (by show w.heap.size ≤ w.heap.size + 1 + 1; omega) (.slice Ao (cs.map (stay there)).length co)
  · have hd : decide (PR e cs) = false := decide_eq_false hp
    rw [hd]
    have h1 : Aside0 (nextOf e cs there = (0, [], 1)) := ⟨by unfold nextOf; rw [if_pos (.inl hp)]⟩
    obtain ⟨r0, r1, r2⟩ := two_set (u := .int .i64 0) (v := .slice none 0 0) b4.out
    clear hp hd
    go_wp2
    refine bodyPost_ret (v := .tuple #[.agg #[.int .i64 0, .slice none 0 0], .int .i64 1]) (by simp [results, Try.results41, go_sem, r0, r1, r2]) rfl ?_
    refine ⟨none, 0, by rw [h1.out]; rfl, by rw [h1.out]; exact Rows.nil _ _, by rw [h1.out]; exact Nat.le_refl _, ?_⟩
    exact (BR.out.setCell (p := ⟨w.heap.size + 1 + 1, 0, none⟩) (by show w.heap.size ≤ w.heap.size + 1 + 1; omega) _).setCell (p := ⟨w.heap.size + 1 + 1, 1, none⟩) (by show w.heap.size ≤ w.heap.size + 1 + 1; omega) _
end Go.Proofs.Ytmdnokfmlbjbhaa
