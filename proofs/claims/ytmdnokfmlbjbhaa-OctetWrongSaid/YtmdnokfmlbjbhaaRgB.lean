/- Layer 1's statements: the example; lists of things. -/
import Derived.Test.YtmdnokfmlbjbhaaRgA
import Derived.Test.YtmdnokfmlbjbhaaOpn
import Derived.Test.YtmdnokfmlbjbhaaRefA
namespace Go.Proofs.Ytmdnokfmlbjbhaa
open Go.RowKit Go.Proofs.YtmdnokfmlbjbhaaW.PrintWords
set_option linter.unusedVariables false
set_option linter.unusedSimpArgs false

structure Thing where
  kind : Int
  n : Int
  v : Int
  b : List Int
def Thing.flat (x : Thing) := (x.kind, x.n, x.v, x.b)
noncomputable def KThing : Kd Thing := Kd.iso (Kd.pair (Kd.int .i64) (Kd.pair (Kd.int .i64) (Kd.pair (Kd.int .u64) (Kd.slice 5 (Kd.int .u8))))) Thing.flat
theorem tr_thing : TR KThing (fun x => Wf x.kind ∧ Wf x.n ∧ (Lit.int .u64 x.v).wf = true ∧ Bytes x.b) 45 :=
  (TR.iso (TR.struct Try.underlying45 (.cons (tr_i64 Try.underlying3) (by kernel_rfl) rfl (.cons (tr_i64 Try.underlying3) (by kernel_rfl) rfl (.cons (TR.int Try.underlying43) (by kernel_rfl) rfl (.one tr_bytes (by kernel_rfl) rfl (by kernel_rfl))))))
    Thing.flat (fun y => ⟨y.1, y.2.1, y.2.2.1, y.2.2.2⟩) (fun _ => rfl)).imp fun _ h => h
theorem tr_things : TR (Kd.slice 45 KThing) (fun xs => ∀ x ∈ xs, Wf x.kind ∧ Wf x.n ∧ (Lit.int .u64 x.v).wf = true ∧ Bytes x.b) 38 := TR.slice Try.underlying38 (by kernel_rfl) tr_thing

theorem addr_off (ad : Addr) (x y : Nat) (hy : y ≠ 0) : ad.add (x + y) = ⟨(ad.add x).block, (ad.add x).off + y, none⟩ := by
  rw [← addr_add]; unfold Addr.add; simp only [if_neg hy]

/-- a thing's cells in a list that is read -/
theorem thing_at {w : World} {A : Option Addr} {n : Nat} {xs : List Thing} (h : KThing.C w A n xs) (k : Nat) (hk : k < n) : ∃ ad x B c, A = some ad ∧ xs[k]? = some x ∧ RB w B x.b ∧ x.b.length ≤ c ∧
    w.cell? (ad.add (k * 4)) = some (.int .i64 x.kind) ∧ w.cell? ⟨(ad.add (k * 4)).block, (ad.add (k * 4)).off + 1, none⟩ = some (.int .i64 x.n) ∧ w.cell? ⟨(ad.add (k * 4)).block, (ad.add (k * 4)).off + 2, none⟩ = some (.int .u64 x.v) ∧ w.cell? ⟨(ad.add (k * 4)).block, (ad.add (k * 4)).off + 3, none⟩ = some (.slice B x.b.length c) := by
  obtain ⟨h1, h2, h3⟩ := h
  obtain ⟨ad, e, hc⟩ := h3 (by omega)
  obtain ⟨c, hs, hr, hcell⟩ := hc k xs[k] (List.getElem?_eq_getElem (by omega))
  obtain ⟨_, _, rfl, rfl, _, _, rfl, rfl, _, _, rfl, rfl, B, cp, rfl, q1, q2⟩ := hr
  exact ⟨ad, xs[k], B, cp, e, List.getElem?_eq_getElem (by omega), q2, q1, hcell 0 _ rfl, addr_off ad (k * 4) 1 (by decide) ▸ hcell 1 _ rfl, addr_off ad (k * 4) 2 (by decide) ▸ hcell 2 _ rfl, addr_off ad (k * 4) 3 (by decide) ▸ hcell 3 _ rfl⟩

set_option maxHeartbeats 400000 in
set_option maxRecDepth 100000 in
theorem great_calls (A : Option Addr) (c : Nat) (xs : List Thing) (w : World) (h : KThing.C w A xs.length xs) :
    Calls Try.prog 28 #[.slice A xs.length c] w fun e w' => (∃ b, e = .returned (.bool b)) ∧ Below w.heap.size w w' := by
  have H := Aside0.mk h
  clear h
  go_enter Try.func28, Try.ntmps28
  go_wp2
  · go_ret
    exact ⟨⟨_, rfl⟩, Below.refl _ _⟩
  · go_loopw [10] (fun v wr => ∃ k : Nat, k ≤ xs.length ∧ v = .int .i64 k ∧ Aside0 (Below w.heap.size w wr)) (fun v _ => xs.length - (intOf v).toNat)
    case atStart => exact ⟨0, by omega, rfl, ⟨Below.refl _ _⟩⟩
    case round =>
      obtain ⟨k, hk, rfl, HB⟩ := hrel
      by_cases hlt : k < xs.length
      · obtain ⟨ad, x, B, cp, e, hx, q1, q2, c0, c1, c2, c3⟩ := thing_at (Kd.C_below H.out HB.out) k hlt
        subst e
        have g0 : (0 : Int) ≤ (k : Int) := by omega
        have g1 : (k : Int) < (xs.length : Int) := by omega
        clear q1 q2 hx
        go_wp2
        · go_ret
          exact ⟨⟨_, rfl⟩, HB.out.alloc HB.out.size _⟩
        · go_roundw
          case rel => exact ⟨k + 1, by omega, by go_num, ⟨HB.out.alloc HB.out.size _⟩⟩
          case measure => simp [intOf]; omega
      · go_wp2
        go_ret
        exact ⟨⟨_, rfl⟩, HB.out⟩

set_option maxHeartbeats 400000 in
set_option maxRecDepth 100000 in
theorem speaks01_calls (w : World) :
    Calls Try.prog 27 #[] w fun e w' => e = .returned (.bool true) ∧ Below w.heap.size w w' := by
  go_enter Try.func27, Try.ntmps27
  go_wp2_with (fail)
  have hc0 := (Below.heap_alloc (w.alloc (.cells #[.slice none 0 0] 76)) (.cells #[.int .u8 1, .int .u8 2] 5) w.heap.size (by go_size)).trans (heap_alloc_new w (.cells #[.slice none 0 0] 76))
  have hy0 := C_lit (w.alloc (.cells #[.slice none 0 0] 76)) .u8 5 [1, 2] (0, 0) (by decide)
  rw [World.size_alloc] at hy0
  have hw := wbytes_calls w.heap.size w.heap.size (.slice none 0 0) [] [1, 2] (some ⟨w.heap.size + 1, 0, none⟩) 2 ((w.alloc (.cells #[.slice none 0 0] 76)).alloc (.cells #[.int .u8 1, .int .u8 2] 5)) hc0 (OB.nil _ _) (by go_size) hy0
    (fun ad e => by cases e; exact ⟨by simp, by simp [Value.ownBlock]⟩) (by decide)
  refine hw.mono ?_
  rintro e w2 ⟨rfl, v', HW⟩
  have D2 : Below w.heap.size w w2 := (((Below.refl _ w).alloc (Nat.le_refl _) _).alloc (by go_size) _).trans (HW.upd.below (by go_size) (fun k hk => hk.elim (fun e => by subst e; exact Nat.le_refl _) (fun e => by cases e)))
  have O2 := Aside0.mk HW.own
  have C2 := Aside0.mk HW.cell
  have E2 := Aside0.mk D2
  clear hw hc0 hy0 HW D2
  have hout := Aside0.mk (fun W (h : Aside0 (Below w2.heap.size w2 W)) => wout_calls w.heap.size w.heap.size v' _ W ((h.out.block _ (blk_lt C2.out)).trans C2.out) ((Upd.of_below (S := fun _ => False) h.out).own O2.out (fun _ _ e => e)) (by decide))
  go_wp2_with (fail)
  refine (hout.out w2 ⟨Below.refl _ _⟩).mono ?_
  rintro e w3 ⟨u, rfl, ou, b3⟩
  obtain ⟨A3, c3, rfl, r3, _⟩ := OB.slice ou
  have R3 := Aside0.mk (RB.keep r3 ((Below.refl w3.heap.size w3).alloc (Nat.le_refl _) (.cells #[.int .u8 0, .int .u8 0, .int .u8 0, .int .u8 2, .int .u8 1, .int .u8 2] 5)))
  have y3 := Aside0.mk (C_lit w3 .u8 5 [0, 0, 0, 2, 1, 2] (0, 0) (by decide))
  have E3 := Aside0.mk (E2.out.trans (b3.mono E2.out.size))
  have hl : ([] ++ be (([1, 2] : List Int).length) 4 ++ [1, 2] : List Int) = [0, 0, 0, 2, 1, 2] := by decide
  rw [hl] at R3
  clear ou b3 r3 hout O2 C2 hl
  go_wp2_with (fail)
  have e6 : (be 2 4).length + 2 = ([0, 0, 0, 2, 1, 2] : List Int).length := by decide
  rw [e6]
  refine (same_calls A3 c3 [0, 0, 0, 2, 1, 2] (some ⟨w3.heap.size, 0, none⟩) 6 [0, 0, 0, 2, 1, 2] _ R3.out y3.out).mono ?_
  rintro e w4 ⟨rfl, ⟨m, rfl⟩⟩
  clear e6
  go_wp2
  go_ret
  exact ⟨by simp, pw_below_drewN (E3.out.alloc E3.out.size _) _⟩
end Go.Proofs.Ytmdnokfmlbjbhaa
