/- entry.Encode. -/
import Derived.Test.YtmdnokfmlbjbhaaWrA
import Derived.Test.YtmdnokfmlbjbhaaEnA
namespace Go.Proofs.Ytmdnokfmlbjbhaa
open Go.RowKit Go.Proofs.YtmdnokfmlbjbhaaW.PrintWords Go.Proofs.YtmdnokfmlbjbhaaW.PrintMore
set_option linter.unusedVariables false
set_option linter.unusedSimpArgs false

/-- an entry's cells -/
def entCells (x : Ent) (A : Option Addr) (c : Nat) : Array Value := #[.int .i64 x.kind, .int .i64 x.client, .int .i64 x.birth, .int .i64 x.number, .int .i64 x.stream, .int .i64 x.back, .slice A x.pay.length c]
theorem ent_at {W : World} {b : Nat} {x : Ent} {A : Option Addr} {c : Nat} (h : W.heap[b]? = some (.cells (entCells x A c) 89 (0, 0))) :
    W.cell? ⟨b, 0, none⟩ = some (.int .i64 x.kind) ∧ W.cell? ⟨b, 1, none⟩ = some (.int .i64 x.client) ∧ W.cell? ⟨b, 2, none⟩ = some (.int .i64 x.birth) ∧ W.cell? ⟨b, 3, none⟩ = some (.int .i64 x.number) ∧ W.cell? ⟨b, 4, none⟩ = some (.int .i64 x.stream) ∧ W.cell? ⟨b, 5, none⟩ = some (.int .i64 x.back) ∧ W.cell? ⟨b, 6, none⟩ = some (.slice A x.pay.length c) :=
  ⟨blk_cell h 0, blk_cell h 1, blk_cell h 2, blk_cell h 3, blk_cell h 4, blk_cell h 5, blk_cell h 6⟩
theorem eright_calls (x : Ent) (A : Option Addr) (c : Nat) (w : World) (h : RB w A x.pay) (hc : x.pay.length ≤ c) :
    Calls Try.prog 119 #[.agg #[.int .i64 x.kind, .int .i64 x.client, .int .i64 x.birth, .int .i64 x.number, .int .i64 x.stream, .int .i64 x.back, .slice A x.pay.length c]] w fun e w' => e = .returned (.bool (decide (EOk x))) ∧ Below w.heap.size w w' :=
  PEntryTurned.entry_right.calls _ _ _ _ _ _ A c x.pay _ w h hc (eright_f _ _ _ _ _ _ _)
/-- the bytes of numbers of four bytes -/
def encN (l : List Int) : List Int := (l.map fun n => be (n % 18446744073709551616) 4).flatten
theorem encN_snoc (l : List Int) (k : Nat) (h : k < l.length) : encN (l.take (k + 1)) = encN (l.take k) ++ be (rd l k % 18446744073709551616) 4 := by
  unfold encN; rw [take_succ_rd l k h, List.map_append, List.flatten_append]; simp
theorem encN_len (l : List Int) : (encN l).length = 4 * l.length := by
  unfold encN
  induction l with
  | nil => rfl
  | cons x l ih => rw [List.map_cons, List.flatten_cons, List.length_append, be_len, ih, List.length_cons]; omega

set_option maxHeartbeats 4000000 in
set_option maxRecDepth 100000 in
theorem eenc_calls (x : Ent) (A : Option Addr) (c : Nat) (w : World) (h : RB w A x.pay) (hc : x.pay.length ≤ c) (hb : Bytes x.pay) (hok : EOk x) :
    Calls Try.prog 64 #[.agg #[.int .i64 x.kind, .int .i64 x.client, .int .i64 x.birth, .int .i64 x.number, .int .i64 x.stream, .int .i64 x.back, .slice A x.pay.length c]] w fun e w' => ∃ v, e = .returned (.tuple #[v, .int .i64 0]) ∧ OB w' w.heap.size v (wrapped (ebytes x)) ∧ Below w.heap.size w w' := by
  have H := Aside0.mk h
  have HBY := Aside0.mk (ebytes_bytes hb)
  have hlen := hok.2.2.2.2
  have HL := Aside0.mk hlen
  have HEB : Aside0 ([x.kind % 256] ++ encN [x.client, x.birth, x.number] ++ [x.stream % 256] ++ be (x.back % 18446744073709551616) 8 ++ (be x.pay.length 4 ++ x.pay) = ebytes x) := ⟨by unfold ebytes encN; simp [List.append_assoc]⟩
  have HR := Aside0.mk (fun W (hB : Below w.heap.size w W) => eright_calls x A c W (RB.keep h hB) hc)
  rw [decide_eq_true hok] at HR
  obtain ⟨w0, hw0⟩ : ∃ w0, Aside0 (w0 = w.alloc (.cells (entCells x A c) 89)) := ⟨_, ⟨rfl⟩⟩
  have b0 : Below w.heap.size w w0 := by rw [hw0.out]; exact (Below.refl _ w).alloc (Nat.le_refl _) _
  have hX := heap_alloc_new w (.cells (entCells x A c) 89)
  rw [← hw0.out] at hX
  have HX := Aside0.mk hX
  have B0 := Aside0.mk b0
  have hz0 : w0.heap.size = w.heap.size + 1 := by rw [hw0.out]; simp only [World.size_alloc]
  have hw0' := hw0.out
  unfold entCells at hw0'
  have HW0 := Aside0.mk hw0'
  clear h hb hok hX b0 hw0 hlen hw0'
  obtain ⟨eb, heb⟩ : ∃ eb, eb = ebytes x := ⟨_, rfl⟩
  rw [← heb] at HBY HEB ⊢
  have HEL : Aside0 (eb.length = x.pay.length + 26) := ⟨by rw [heb]; exact ebytes_len x⟩
  clear heb
  go_enter Try.func64, Try.ntmps64
  go_wp2_with (fail)
  rw [← HW0.out]
  refine (HR.out _ B0.out).mono ?_
  rintro e w1 ⟨rfl, b1⟩
  have HX1 := Aside0.mk ((b1.block _ (blk_lt HX.out)).trans HX.out)
  have B1 : Aside0 (Below w.heap.size w w1) := ⟨B0.out.trans (b1.mono B0.out.size)⟩
  have hs1 := b1.size
  rw [hz0] at hs1
  have HW : Aside0 (Wst w (w1.heap.size + 1) w1.heap.size w.heap.size (.cells (entCells x A c) 89 (0, 0)) (w1.alloc (.cells #[.slice none 0 0] 76)) (.slice none 0 0) []) :=
    ⟨⟨by simpa using heap_alloc_new w1 _, OB.nil _ _, by simp only [World.size_alloc]; omega, (Below.heap_alloc _ _ _ (blk_lt HX1.out)).trans HX1.out, B1.out.alloc B1.out.size _, ⟨B1.out.size, by have := B1.out.size; omega, by omega, by omega⟩⟩⟩
  clear HR b1 HX HX1 HW0 hz0
  obtain ⟨bs, hbs⟩ : ∃ bs, bs = w1.heap.size + 1 := ⟨_, rfl⟩
  rw [← hbs] at HW
  clear hbs
  obtain ⟨z0, z1, z2, z3, z4, z5, z6⟩ := ent_at HW.out.box
  have HQ := Aside0.mk (wbyte_calls _ _ _ _ (x.kind % 256) _ HW.out.cell HW.out.own HW.out.size (by simp))
  go_wp2_with (fail)
  refine HQ.out.mono ?_
  rintro e w2 ⟨rfl, v2, hw2⟩
  have HW2 := Aside0.mk (HW.out.step hw2)
  clear hw2 HQ HW z0 z1 z2 z3 z4 z5 z6
  obtain ⟨z0, z1, z2, z3, z4, z5, z6⟩ := ent_at HW2.out.box
  rw [List.nil_append] at HW2
  obtain ⟨idl, hid⟩ : ∃ l : List Int, l = [x.client, x.birth, x.number] := ⟨_, rfl⟩
  go_wp2
  obtain ⟨B3, hB3⟩ : ∃ B3, B3 = w2.heap.size := ⟨_, rfl⟩
  have hid3 : idl.length = 3 := by rw [hid]; rfl
  have hIB : Aside0 ((w2.alloc (.cells #[.int .i64 x.client, .int .i64 x.birth, .int .i64 x.number] 3)).heap[B3]? = some (.cells (nums .i64 idl).toArray 3 (0, 0))) := ⟨by rw [hB3, hid]; exact heap_alloc_new w2 _⟩
  have HW3 := Aside0.mk (HW2.out.alloc (.cells #[.int .i64 x.client, .int .i64 x.birth, .int .i64 x.number] 3))
  have HNE : Aside0 (v2.ownBlock ≠ some B3) := ⟨fun e => by have := own_lt HW2.out.own _ e; omega⟩
  have HGB : Aside0 (w1.heap.size ≠ B3) := ⟨by have := blk_lt HW2.out.cell; omega⟩
  have HID := Aside0.mk hid
  have HBB := Aside0.mk hB3
  rw [← hB3]
  clear hid hB3 z0 z1 z2 z3 z4 z5 z6
  go_loopw [28] (fun v28 W => ∃ (k : Nat) (v : Value), k ≤ 3 ∧ v28 = .int .i64 k ∧ Aside0 (Wst w bs w1.heap.size w.heap.size (.cells (entCells x A c) 89 (0, 0)) W v ([x.kind % 256] ++ encN (idl.take k))) ∧ Aside0 (W.heap[B3]? = some (.cells (nums .i64 idl).toArray 3 (0, 0))) ∧ Aside0 (v.ownBlock ≠ some B3)) (fun v28 _ => 3 - (intOf v28).toNat)
  case atStart => exact ⟨0, v2, by omega, rfl, by simpa [encN] using HW3, hIB, HNE⟩
  case round =>
    clear HW3 hIB HNE HW2
    obtain ⟨k, v, hk, rfl, HW, HI, HN⟩ := hrel
    by_cases hlt : k < 3
    · have ck : wr.cell? ⟨B3, k, none⟩ = some (.int .i64 (rd idl k)) := by
        rw [blk_cell HI.out k]
        simp [nums, rd_nat, List.getD_eq_getElem?_getD, List.getElem?_eq_getElem (show k < idl.length by omega)]
      have k0 : (0 : Int) ≤ (k : Int) := by omega
      have k1 : (k : Int) < 3 := by omega
      have HS := Aside0.mk (encN_snoc idl k (by omega))
      have HQ := Aside0.mk (wnumber_calls _ _ v _ (rd idl k % 18446744073709551616) 4 4 (by decide) (by decide) wr (by omega) (by omega) HW.out.cell HW.out.own HW.out.size (by rw [List.length_append, encN_len, List.length_take]; simp; omega))
      have HK : Aside0 (k + 1 ≤ 3) := ⟨hlt⟩
      clear hlt hk
      go_wp2_with (fail)
      simp only [IntKind.wrap_u64]
      refine HQ.out.mono ?_
      rintro e w5 ⟨rfl, v5, hw5⟩
      have HW5 := Aside0.mk (HW.out.step hw5)
      obtain ⟨i5, n5⟩ := hw5.keeps HI.out (fun e => HGB.out e.symm) HN.out
      have I5 := Aside0.mk i5
      have N5 := Aside0.mk n5
      clear hw5 HQ i5 n5
      go_wp2
      go_roundw
      case rel => exact ⟨k + 1, v5, HK.out, by go_num, by have := HW5.out; rw [List.append_assoc, ← HS.out] at this; exact ⟨this⟩, I5, N5⟩
      case measure => have := HK.out; simp [intOf]; omega
    · have hk3 : k = 3 := by omega
      subst hk3
      have h3 : idl.take 3 = idl := List.take_of_length_le (by omega)
      rw [h3] at HW
      clear HI HN hk hlt
      have HL1 : Aside0 (([x.kind % 256] ++ encN idl).length = 13) := ⟨by rw [List.length_append, encN_len, hid3]; rfl⟩

      obtain ⟨z0, z1, z2, z3, z4, z5, z6⟩ := ent_at HW.out.box
      have HQ1 := Aside0.mk (wbyte_calls _ _ _ _ (x.stream % 256) _ HW.out.cell HW.out.own HW.out.size (by have := HL1.out; omega))
      go_wp2_with (fail)
      refine HQ1.out.mono ?_
      rintro e y1 ⟨rfl, u1, hy1⟩
      have HY1 := Aside0.mk (HW.out.step hy1)
      clear hy1 HQ1 z0 z1 z2 z3 z4 z5 z6 HW
      obtain ⟨z0, z1, z2, z3, z4, z5, z6⟩ := ent_at HY1.out.box
      have HQ2 := Aside0.mk (wint_calls _ _ _ _ x.back _ HY1.out.cell HY1.out.own HY1.out.size (by have := HL1.out; rw [List.length_append]; simp only [List.length_cons, List.length_nil]; omega))
      go_wp2_with (fail)
      refine HQ2.out.mono ?_
      rintro e y2 ⟨rfl, u2, hy2⟩
      have HY2 := Aside0.mk (HY1.out.step hy2)
      clear hy2 HQ2 z0 z1 z2 z3 z4 z5 z6 HY1
      obtain ⟨z0, z1, z2, z3, z4, z5, z6⟩ := ent_at HY2.out.box
      have HQ3 := Aside0.mk (wbytes_ahead w _ _ _ _ _ _ x.pay A c _ HY2.out H.out (by have := HL1.out; have := HL.out; rw [List.length_append, List.length_append, be_len]; simp only [List.length_cons, List.length_nil]; omega))
      go_wp2_with (fail)
      refine HQ3.out.mono ?_
      rintro e y3 ⟨rfl, u3, hy3⟩
      have HY3 := Aside0.mk (HY2.out.step hy3)
      clear hy3 HQ3 z0 z1 z2 z3 z4 z5 z6 HY2
      have HF : Aside0 (OB y3 bs u3 eb) := ⟨by
        have := HY3.out.own
        rw [HID.out, HEB.out] at this
        exact this⟩
      have HC3 := Aside0.mk HY3.out.cell
      have HB3 := Aside0.mk HY3.out.bel
      have hle : eb.length ≤ 70000 := by have := HEL.out; have := HL.out; omega
      have HLE := Aside0.mk hle
      have HO := Aside0.mk (wout_calls _ _ u3 eb y3 HC3.out HF.out (by omega))
      clear HY3 hle
      go_wp2_with (fail)
      refine HO.out.mono ?_
      rintro e y4 ⟨u4, rfl, o4, b4⟩
      obtain ⟨A4, c4, rfl, r4, _⟩ := OB.slice o4
      have B4 : Aside0 (Below w.heap.size w y4) := ⟨HB3.out.trans (b4.mono HB3.out.size)⟩
      have HWR := Aside0.mk (wrap_calls A4 c4 eb y4 r4 HBY.out (by have := HLE.out; omega))
      clear o4 r4 b4 HO
      go_wp2_with (fail)
      refine HWR.out.mono ?_
      rintro e y5 ⟨u5, rfl, o5, b5⟩
      have O5 := Aside0.mk (own_weaken o5 B4.out.size)
      have B5 : Aside0 (Below w.heap.size w y5) := ⟨B4.out.trans (b5.mono B4.out.size)⟩
      clear o5 b5 HWR
      go_wp2
      go_ret2
      exact ⟨_, rfl, O5.out, B5.out⟩
end Go.Proofs.Ytmdnokfmlbjbhaa
