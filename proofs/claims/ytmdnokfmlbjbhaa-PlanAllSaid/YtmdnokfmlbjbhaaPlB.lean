/- Which units stay: the function value of plan.Next, and slices.IndexFunc over it. -/
import Derived.Test.YtmdnokfmlbjbhaaPlA
import Derived.Lib.SliceRun
namespace Go.Proofs.Ytmdnokfmlbjbhaa
open Go.RowKit Go.Proofs.YtmdnokfmlbjbhaaW.PrintWords
set_option linter.unusedVariables false
set_option linter.unusedSimpArgs false

theorem OI.some {w : World} {base : Nat} {v : Value} {xs : List Int} (h : OI w base v xs) (hp : 0 < xs.length) : ∃ g c, v = .slice (some ⟨g, 0, none⟩) xs.length c ∧ base ≤ g ∧ g < w.heap.size ∧ xs.length ≤ c := by
  rcases h.2 with ⟨_, h0⟩ | ⟨g, cap, cur, e, hb, hh, hnc, _⟩
  · omega
  · exact ⟨g, cap, e, hb, (Array.getElem?_eq_some_iff.1 hh).1, hnc⟩
theorem OI.slice {w : World} {base : Nat} {v : Value} {xs : List Int} (h : OI w base v xs) : ∃ A c, v = .slice A xs.length c ∧ RI w A xs ∧ xs.length ≤ c := by
  obtain ⟨A, c, e, hr⟩ := own_reads h
  refine ⟨A, c, e, C_int.2 hr, ?_⟩
  rcases h.2 with ⟨h1, h2⟩ | ⟨g, cap, cur, h1, _, _, h2, _⟩
  · omega
  · rw [e] at h1; injection h1 with _ _ h1; omega
theorem iown_at {W : World} {base g n cap : Nat} {xs : List Int} (h : OI W base (.slice (Option.some ⟨g, 0, none⟩) n cap) xs) (i : Nat) (h1 : i < xs.length) :
    W.cell? ⟨g, i, none⟩ = Option.some (.int .i64 (rd xs i)) ∧ W.frozen? ⟨g, i, none⟩ = false := by
  have hn : n = xs.length := by
    rcases h.2 with ⟨h', _⟩ | ⟨g', cap', cur, h', _⟩
    · cases h'
    · injection h'
  subst hn
  have := own_at h (i : Int) (by omega) (by omega)
  rwa [Int.toNat_natCast] at this
theorem iown_store {W : World} {base g n cap : Nat} {xs : List Int} (h : OI W base (.slice (Option.some ⟨g, 0, none⟩) n cap) xs) (i : Nat) (x : Int) :
    OI (W.setCell ⟨g, i, none⟩ (.int .i64 x)) base (.slice (Option.some ⟨g, 0, none⟩) n cap) (xs.set i x) := by
  have hn : n = xs.length := by
    rcases h.2 with ⟨h', _⟩ | ⟨g', cap', cur, h', _⟩
    · cases h'
    · injection h'
  subst hn
  have := (own_store h (i : Int) x).1
  rw [Int.toNat_natCast] at this
  show World.ownsRow _ base 3 1 _ (xs.set i x).length (nums .i64 (xs.set i x))
  rw [List.length_set]
  exact this

/-- what the function value holds: a box with the row of who is there -/
def There (w : World) (b : Nat) (there : List Int) : Prop := ∃ L c, w.cell? ⟨b, 0, none⟩ = some (.slice L there.length c) ∧ RI w L there

set_option maxHeartbeats 400000 in
set_option maxRecDepth 100000 in
theorem next1_calls (b : Nat) (there : List Int) (n : Int) (w : World) (h : There w b there) :
    Calls Try.prog 99 #[.int .i64 n, .pointer (some ⟨b, 0, none⟩)] w fun e w' => e = .returned (.bool (!decide (n ∈ there))) ∧ Drawn0 w w' := by
  obtain ⟨L, c, h1, h2⟩ := h
  have H := Aside0.mk (contains_calls L c there n w h2)
  clear h2
  go_enter Try.func99, Try.ntmps99
  go_wp2_with (fail)
  refine H.out.mono ?_
  rintro e w1 ⟨rfl, ⟨m, rfl⟩⟩
  go_wp2
  go_ret
  exact ⟨by simp, by repeat (first | exact Drawn0.refl _ | apply Drawn0.step)⟩

theorem There.drewN {w : World} {b : Nat} {there : List Int} (h : There w b there) (m : Nat) : There (w.drewN m) b there := by
  obtain ⟨L, c, h1, h2⟩ := h
  exact ⟨L, c, by simpa using h1, RB.keep h2 (pw_below_drewN (Below.refl _ _) _)⟩

set_option maxHeartbeats 400000 in
set_option maxRecDepth 100000 in
/-- the first that isn't there -/
theorem indexfunc_calls (A : Option Addr) (c : Nat) (xs : List Int) (b : Nat) (there : List Int) (w : World) (hx : RI w A xs) (ht : There w b there) :
    Calls Try.prog 137 #[.slice A xs.length c, .func (.func 99) #[] #[.pointer (some ⟨b, 0, none⟩)]] w fun e w' =>
      ((e = .returned (.int .i64 (-1)) ∧ ∀ x ∈ xs, x ∈ there) ∨ ∃ k : Nat, e = .returned (.int .i64 k) ∧ k < xs.length ∧ (∀ x ∈ xs.take k, x ∈ there) ∧ rd xs k ∉ there) ∧ Drawn0 w w' := by
  have HX := Aside0.mk hx
  have HT := Aside0.mk ht
  have m0 := Kd.C_max hx
  clear hx ht
  go_enter Try.func137, Try.ntmps137
  go_wp2
  go_loopw [8] (fun v wr => ∃ k : Nat, k ≤ xs.length ∧ v = .int .i64 k ∧ Aside0 (∀ x ∈ xs.take k, x ∈ there) ∧ Drawn0 w wr) (fun v _ => xs.length - (intOf v).toNat)
  case atStart => exact ⟨0, by omega, rfl, ⟨by simp⟩, Drawn0.refl _⟩
  case round =>
    obtain ⟨k, hk, rfl, HE, ⟨m1, rfl⟩⟩ := hrel
    by_cases hlt : k < xs.length
    · obtain ⟨ad0, e0, hc0⟩ := RB.cell HX.out k hlt
      subst e0
      have q0 : (0 : Int) ≤ (k : Int) := by omega
      have q1 : (k : Int) < (xs.length : Int) := by omega
      have H := Aside0.mk (next1_calls b there (rd xs k) (w.drewN m1) (HT.out.drewN m1))
      by_cases he : rd xs k ∈ there
      · have hd : (!decide (rd xs k ∈ there)) = false := by simp [he]
        have HK : Aside0 (∀ x ∈ xs.take (k + 1), x ∈ there) := ⟨by
          rw [take_succ_rd xs k hlt]
          intro x hx
          rcases List.mem_append.1 hx with hx | hx
          · exact HE.out x hx
          · rw [List.mem_singleton.1 hx]; exact he⟩
        rw [hd] at H
        clear he hd
        go_wp2_with (go_at_call 99; ((with_reducible refine H.out.mono ?_); rintro e w1 ⟨rfl, ⟨m2, rfl⟩⟩))
        go_roundw
        case rel => exact ⟨k + 1, by omega, by go_num, HK, ⟨m1 + m2, rfl⟩⟩
        case measure => simp [intOf]; omega
      · have hd : (!decide (rd xs k ∈ there)) = true := by simp [he]
        have HK := Aside0.mk he
        rw [hd] at H
        clear he hd
        go_wp2_with (go_at_call 99; ((with_reducible refine H.out.mono ?_); rintro e w1 ⟨rfl, ⟨m2, rfl⟩⟩))
        go_ret
        exact ⟨.inr ⟨k, rfl, hlt, HE.out, HK.out⟩, ⟨m1 + m2, rfl⟩⟩
    · have HK : Aside0 (∀ x ∈ xs, x ∈ there) := ⟨by have := HE.out; rwa [List.take_of_length_le (by omega)] at this⟩
      go_wp2
      go_ret
      exact ⟨.inl ⟨rfl, HK.out⟩, ⟨m1, rfl⟩⟩
end Go.Proofs.Ytmdnokfmlbjbhaa
