/- Rows of ints: is a number in one; a row's copy. -/
import Derived.Test.YtmdnokfmlbjbhaaRefA
namespace Go.Proofs.Ytmdnokfmlbjbhaa
open Go.RowKit Go.Proofs.YtmdnokfmlbjbhaaW.PrintWords
set_option linter.unusedVariables false
set_option linter.unusedSimpArgs false

abbrev RI (w : World) (A : Option Addr) (xs : List Int) : Prop := Kd.C (Kd.int .i64) w A xs.length xs
abbrev OI (w : World) (base : Nat) (v : Value) (xs : List Int) : Prop := w.ownsRow base 3 1 v xs.length (nums .i64 xs)

set_option maxHeartbeats 400000 in
set_option maxRecDepth 100000 in
theorem index_calls (A : Option Addr) (c : Nat) (xs : List Int) (n : Int) (w : World) (hx : RI w A xs) :
    Calls Try.prog 138 #[.slice A xs.length c, .int .i64 n] w fun e w' => (∃ v : Int, e = .returned (.int .i64 v) ∧ (decide (0 ≤ v) = decide (n ∈ xs))) ∧ Drawn0 w w' := by
  have HX := Aside0.mk hx
  have m0 := Kd.C_max hx
  clear hx
  go_enter Try.func138, Try.ntmps138
  go_wp2
  go_loopw [8] (fun v wr => ∃ k : Nat, k ≤ xs.length ∧ v = .int .i64 k ∧ Aside0 (n ∉ xs.take k) ∧ Drawn0 w wr) (fun v _ => xs.length - (intOf v).toNat)
  case atStart => exact ⟨0, by omega, rfl, ⟨by simp⟩, Drawn0.refl _⟩
  case round =>
    obtain ⟨k, hk, rfl, HE, ⟨m1, rfl⟩⟩ := hrel
    by_cases hlt : k < xs.length
    · obtain ⟨ad0, e0, hc0⟩ := RB.cell HX.out k hlt
      subst e0
      have q0 : (0 : Int) ≤ (k : Int) := by omega
      have q1 : (k : Int) < (xs.length : Int) := by omega
      have HM : Aside0 (rd xs k ∈ xs) := ⟨by rw [rd_nat, List.getD_eq_getElem?_getD, List.getElem?_eq_getElem hlt]; exact List.getElem_mem hlt⟩
      by_cases he : n = rd xs k
      · have n0 : (n == rd xs k) = true := by simp [he]
        have HT := Aside0.mk he
        clear he
        go_wp2
        go_ret
        exact ⟨⟨(k : Int), rfl, by rw [HT.out]; simp [HM.out]⟩, by repeat (first | exact Drawn0.refl _ | apply Drawn0.step)⟩
      · have n0 : (n == rd xs k) = false := by simp [he]
        have HT : Aside0 (n ∉ xs.take (k + 1)) := ⟨by rw [take_succ_rd xs k hlt]; simp [HE.out, he]⟩
        clear he
        go_wp2
        go_roundw
        case rel => exact ⟨k + 1, by omega, by go_num, HT, by repeat (first | exact Drawn0.refl _ | apply Drawn0.step)⟩
        case measure => simp [intOf]; omega
    · have HT : Aside0 (n ∉ xs) := ⟨by have := HE.out; rwa [List.take_of_length_le (by omega)] at this⟩
      go_wp2
      go_ret
      exact ⟨⟨-1, rfl, by simp [HT.out]⟩, by repeat (first | exact Drawn0.refl _ | apply Drawn0.step)⟩

set_option maxHeartbeats 400000 in
set_option maxRecDepth 100000 in
theorem contains_calls (A : Option Addr) (c : Nat) (xs : List Int) (n : Int) (w : World) (hx : RI w A xs) :
    Calls Try.prog 100 #[.slice A xs.length c, .int .i64 n] w fun e w' => e = .returned (.bool (decide (n ∈ xs))) ∧ Drawn0 w w' := by
  have H := Aside0.mk (index_calls A c xs n w hx)
  clear hx
  go_enter Try.func100, Try.ntmps100
  go_wp2_with (fail)
  refine H.out.mono ?_
  rintro e w1 ⟨⟨v, rfl, hv⟩, ⟨m, rfl⟩⟩
  have HV := Aside0.mk hv
  clear hv
  go_wp2
  go_ret
  exact ⟨by simp [← HV.out], by repeat (first | exact Drawn0.refl _ | apply Drawn0.step)⟩

theorem info3' : (Try.prog.info? 3).map (fun i => (i.zero, i.size, i.bytes)) = some (some (.int .i64 0), 1, 8) := by kernel_rfl

/-- append(s, x...) of ints, where all from base on is the row's (and rubbish) -/
theorem wpList_appI {ops : Array Oper} {rest : List Oper} {o : Oper} {a : Act} {Q : Exit → Act → World → Prop} {W : World} (N : Tmp) (hd : o.dst = some N) (hgd : o.guard = none) (s x : Operand)
    (ho : o.op = .call { callee := .builtin .append, args := #[s, x], argTypes := #[58, 58] })
    (w0 : World) (v : Value) (xs ys : List Int) {A : Option Addr} {c : Nat} (hs : a.eval s = v) (hx : a.eval x = .slice A ys.length c)
    (HO : OI W w0.heap.size v xs) (HR : RI W A ys) (HB : Below w0.heap.size w0 W) (hl : (xs.length + ys.length) * 8 ≤ 140737488355328)
    (h : ∀ v1 W1, OI W1 w0.heap.size v1 (xs ++ ys) → Below w0.heap.size w0 W1 → wpList Try.prog ops Q rest (a.put (some N) v1) W1) :
    wpList Try.prog ops Q (o :: rest) a W := by
  rw [← hd] at h
  exact print_append_row (w0 := W) w0.heap.size hgd s x 58 3 .i64 8 ho Try.underlying58 info3' (by decide) v xs ys A ys.length c hs hx HO (C_int.1 HR) (Below.refl _ _) HB.size (by omega) fun v1 w1 h1 h2 h3 h4 => h v1 w1 h1 (HB.grown h3 HB.size (own_base HO))
theorem OI.empty (w : World) (base : Nat) (hb : base ≤ w.heap.size) : OI (w.alloc (.cells #[] 3)) base (.slice (some ⟨w.heap.size, 0, none⟩) 0 0) [] :=
  World.ownsRow_made w #[] 0 hb (by simp [maxLen]) (by simp)

set_option maxHeartbeats 400000 in
set_option maxRecDepth 100000 in
/-- slices.Clone of ints -/
theorem iclone_calls (A : Option Addr) (c : Nat) (xs : List Int) (w : World) (hr : RI w A xs) (hl : xs.length * 8 ≤ 140737488355328) :
    Calls Try.prog 98 #[.slice A xs.length c] w fun e w' => ∃ v, e = .returned v ∧ OI w' w.heap.size v xs ∧ Below w.heap.size w w' := by
  have heq := fun (w : World) (a : Option Addr) (l c : Nat) => Lib.run_eql_slice_nil (P := Try.prog) w 58 3 a l c 0 0 Try.underlying58
  have HR := Aside0.mk hr
  clear hr
  rcases A with _ | ad
  · have h0 : xs = [] := by
      rcases Nat.eq_zero_or_pos xs.length with h | h
      · exact List.eq_nil_of_length_eq_zero h
      · obtain ⟨ad, e, _⟩ := C_lt HR.out h; cases e
    subst h0
    go_enter Try.func98, Try.ntmps98
    go_wp2
    go_ret
    exact ⟨_, rfl, own_nil _ _ _ _, Below.refl _ _⟩
  · have H0 := Aside0.mk (OI.empty w w.heap.size (Nat.le_refl _))
    have B0 := Aside0.mk ((Below.refl w.heap.size w).alloc (Nat.le_refl _) (.cells #[] 3))
    go_enter Try.func98, Try.ntmps98
    go_wp2_with (at_builtin; refine wpList_appI 7 rfl rfl (.tmp 5) (.tmp 6) rfl w (.slice (some ⟨w.heap.size, 0, none⟩) 0 0) [] xs rfl rfl H0.out (RB.keep HR.out B0.out) B0.out (by simpa using hl) ?_; intro v1 W1 o1 b1; rw [List.nil_append] at o1; have O1 := Aside0.mk o1; have D1 := Aside0.mk b1; clear o1 b1)
    go_ret
    exact ⟨_, rfl, O1.out, D1.out⟩
end Go.Proofs.Ytmdnokfmlbjbhaa
