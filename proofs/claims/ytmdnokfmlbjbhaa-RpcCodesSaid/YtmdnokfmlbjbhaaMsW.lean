/- The reference's Reader.Bytes. -/
import Derived.Test.YtmdnokfmlbjbhaaMsR
import Derived.Test.YtmdnokfmlbjbhaaApA
import Derived.Deep.RegionHeld3
import Derived.Deep.DrawnRows
import Derived.Deep.QuietTactic
import Derived.BigQuiet
namespace Go.Proofs.Ytmdnokfmlbjbhaa
open Go.RowKit Go.Proofs.YtmdnokfmlbjbhaaW.PrintWords Go.Proofs.YtmdnokfmlbjbhaaW.PrintMore
set_option linter.unusedVariables false
set_option linter.unusedSimpArgs false
attribute [local go_sem ↓] Go.wp_at_zero Go.wp_at_succ

theorem Upd.of_drewN (S : Nat → Prop) (W : World) (n : Nat) : Upd S W (W.drewN n) := by
  have b := pw_below_drewN (Below.refl W.heap.size W) n
  exact ⟨b.os, b.tape, b.output, b.size, fun k hk _ => b.block k hk⟩
theorem Upd.step_drewN {S : Nat → Prop} {W W1 : World} (u : Upd S W W1) (n : Nat) : Upd S W (W1.drewN n) := by
  have b := pw_below_drewN (Below.refl W1.heap.size W1) n
  exact ⟨b.os.trans u.os, b.tape.trans u.tape, b.output.trans u.output, Nat.le_trans u.size b.size, fun k hk hn => u.block k hk hn⟩
theorem bB {w1 W : World} (h : Aside0 (Below w1.heap.size w1 W)) : Aside0 (Below w1.heap.size w1 W.drew) := ⟨h.out.drew⟩
theorem bN {w1 W : World} (h : Aside0 (Below w1.heap.size w1 W)) (n : Nat) : Aside0 (Below w1.heap.size w1 (W.drewN n)) := ⟨pw_below_drewN h.out n⟩
theorem bA {w1 W : World} (h : Aside0 (Below w1.heap.size w1 W)) (o : Obj) : Aside0 (Below w1.heap.size w1 (W.alloc o)) := ⟨h.out.alloc h.out.size o⟩
/-- what Bytes hands back -/
def RBPost (w0 W : World) (g m : Nat) (s1 : Rst) (e : Ending) (w' : World) : Prop :=
  ∃ v, e = .returned v ∧ OB w' W.heap.size v (tk m s1).1 ∧ RR w0 w' g (tk m s1).2 ∧ Below w0.heap.size w0 w' ∧ Upd (fun j => j = g) W w'

theorem rb_close {w0 W w1 : World} {g m a nq : Nat} {A0 : Option Addr} {c0 : Nat} {B : List Int} {wr : Bool} {s1 : Rst} (hblk : w1.heap[g]? = some (.cells #[.slice A0 B.length c0, .int .i64 (a : Int), .bool wr] 176 (0, 0)))
    (hrow : Kd.C (Kd.int .u8) w0 A0 B.length B) (hcap : B.length ≤ c0) (hge : w0.heap.size ≤ g) (hb1 : Below w0.heap.size w0 w1) (u1 : Upd (fun j => j = g) W w1) (hby : Bytes B) (h1 : (a : Int) ≤ (B.length : Int)) (hl : B.length ≤ 140737488350000) (hk : tk m s1 = ([], ([], true))) :
    RBPost w0 W g m s1 (.returned (.slice (some ⟨w1.heap.size, 0, none⟩) 0 0)) (((w1.drewN nq).setCell ⟨g, 2, none⟩ (.bool true)).alloc (.cells #[] 5)) := by
  have hz : ((w1.drewN nq).setCell ⟨g, 2, none⟩ (.bool true)).heap.size = w1.heap.size := by simp [World.setCell]
  have ub : Upd (fun j => j = g) W ((w1.drewN nq).setCell ⟨g, 2, none⟩ (.bool true)) := (Upd.step_drewN u1 nq).setCell (p := ⟨g, 2, none⟩) (.inl rfl) _
  have bb : Below w0.heap.size w0 ((w1.drewN nq).setCell ⟨g, 2, none⟩ (.bool true)) := (pw_below_drewN hb1 nq).setCell (p := ⟨g, 2, none⟩) hge _
  unfold RBPost
  rw [hk]
  refine ⟨_, rfl, ?_, ⟨B, a, true, ⟨A0, c0, ?_, hge, hrow, hcap⟩, hby, by omega, h1, hl, by simp [stOf]⟩, bb.alloc bb.size _, ub.alloc _⟩
  · have := OB.empty ((w1.drewN nq).setCell ⟨g, 2, none⟩ (.bool true)) W.heap.size (by rw [hz]; exact u1.size)
    rw [hz] at this; exact this
  · refine (Below.heap_alloc _ _ _ (by rw [hz]; exact blk_lt hblk)).trans ?_
    have hb2 : (w1.drewN nq).heap[g]? = _ := hblk
    have := blk_set hb2 2 (.bool true)
    simpa using this
set_option maxHeartbeats 1000000 in
set_option maxRecDepth 100000 in
theorem refbytes_calls (w0 W : World) (g : Nat) (s : Rst) (most : Int) (hm : most ≤ 2147483647) (h : RR w0 W g s) (hB : Below w0.heap.size w0 W) :
    Calls Try.prog 131 #[.pointer (some ⟨g, 0, none⟩), .int .i64 most] W fun e w' => ∃ v, e = .returned v ∧ OB w' W.heap.size v (rBytes most s).1 ∧ RR w0 w' g (rBytes most s).2 ∧ Below w0.heap.size w0 w' ∧ Upd (fun j => j = g) W w' := by
  have hc := refcount_calls w0 W g s most hm h hB
  have HGW := Aside0.mk h.lt.1
  have hbd := rCount_bound most s h.bytes
  obtain ⟨m, hm'⟩ := Int.eq_ofNat_of_zero_le hbd.1
  have hrb : rBytes most s = tk m (rCount most s).2 := by unfold rBytes; rw [hm']; simp
  rw [hrb]
  rw [hm'] at hc hbd
  generalize (rCount most s).2 = s1 at *
  show Calls Try.prog 131 _ W (RBPost w0 W g m s1)
  have HC := Aside0.mk hc
  have hm2 : (m : Int) < 4294967296 := hbd.2
  clear hm' hrb h hB hc hbd
  go_enter Try.func131, Try.ntmps131
  go_wp2_with (fail)
  refine HC.out.mono ?_
  rintro e w1 ⟨rfl, ⟨B, at_, wr, ⟨A0, c0, hblk, hge, hrow, hcap⟩, hby, h0, h1, hl, hs1⟩, hb1, u1⟩
  obtain ⟨a, rfl⟩ := Int.eq_ofNat_of_zero_le h0
  have hc0 : w1.cell? ⟨g, 0, none⟩ = some (.slice A0 B.length c0) := blk_cell hblk 0
  have hc1 : w1.cell? ⟨g, 1, none⟩ = some (.int .i64 (a : Int)) := blk_cell hblk 1
  have hc2 : w1.cell? ⟨g, 2, none⟩ = some (.bool wr) := blk_cell hblk 2
  have hf1 := blk_frozen hblk 1
  have hf2 := blk_frozen hblk 2
  have HBLK := Aside0.mk hblk
  have HROW := Aside0.mk hrow
  have HCAP := Aside0.mk hcap
  have HGE := Aside0.mk hge
  have HB1 := Aside0.mk hb1
  have HU1 := Aside0.mk u1
  have HBY := Aside0.mk hby
  have HS1 := Aside0.mk hs1
  have HH1 : Aside0 ((a : Int) ≤ (B.length : Int)) := ⟨h1⟩
  have HHL := Aside0.mk hl
  have hlB : (B.length : Int) ≤ 140737488350000 := by omega
  have ha1 : (a : Int) ≤ (B.length : Int) := h1
  have hsub : IntKind.i64.wrap ((B.length : Int) - (a : Int)) = (B.length : Int) - (a : Int) := IntWalk.i64_in _ (by omega)
  clear hblk hrow hcap hge hb1 u1 hby hs1 h1 hl HC h0
  cases wr with
  | true =>
    go_wp2_with (fail)
    go_quiet (fail)
    go_wp2_with (fail)
    go_ret
    exact rb_close HBLK.out HROW.out HCAP.out HGE.out HB1.out HU1.out HBY.out HH1.out HHL.out (by rw [HS1.out]; simp [tk, stOf])
  | false =>
    by_cases hlt : B.length < a + m
    · have hd : decide ((B.length : Int) - (a : Int) < (m : Int)) = true := by simp; omega
      go_wp2_with (fail)
      go_quiet (fail)
      go_wp2_with (fail)
      go_ret
      exact rb_close HBLK.out HROW.out HCAP.out HGE.out HB1.out HU1.out HBY.out HH1.out HHL.out (by rw [HS1.out]; unfold tk stOf; rw [if_pos]; right; simp only [Bool.false_eq_true, if_false, Int.toNat_natCast, List.length_drop]; omega)
    · have hd : decide ((B.length : Int) - (a : Int) < (m : Int)) = false := by simp; omega
      go_wp2_with (fail)
      go_quiet (fail)
      go_wp2_with (fail)
      have E0 := Aside0.mk (Below.refl w1.heap.size w1)
      have HS : Aside0 (∀ W', Aside0 (Below w1.heap.size w1 W') → W'.cell? ⟨g, 0, none⟩ = some (.slice A0 B.length c0) ∧ W'.cell? ⟨g, 1, none⟩ = some (.int .i64 (a : Int)) ∧ Aside0 (Below w1.heap.size w1 W')) := ⟨fun W' h => ⟨cell_later h.out hc0, cell_later h.out hc1, h⟩⟩
      obtain ⟨A', hcut, hrow'⟩ := cut_lh A0 B.length c0 a (a + m) (by omega) (by omega) HCAP.out
      have hadd : IntKind.i64.wrap ((a : Int) + (m : Int)) = (a : Int) + (m : Int) := IntWalk.i64_in _ (by omega)
      rw [show ((a + m : Nat) : Int) = (a : Int) + (m : Int) from rfl, show a + m - a = m from by omega] at hcut
      rw [show a + m - a = m from by omega] at hrow'
      have HROW' := Aside0.mk hrow'
      obtain ⟨ys, hys⟩ : ∃ ys, ys = (B.drop a).take m := ⟨_, rfl⟩
      have hlen : ys.length = m := by rw [hys, List.length_take, List.length_drop]; omega
      have HYS := Aside0.mk hys
      have LEN := Aside0.mk hlen
      have HRY : Aside0 (∀ W', Aside0 (Below w1.heap.size w1 W') → RB W' A' ys) := ⟨fun W' h => RB.keep (by have q := hrow' w0 B HROW.out; show Kd.C (Kd.int .u8) w0 A' ys.length ys; rw [hlen, hys]; exact q) (HB1.out.trans (h.out.mono HB1.out.size))⟩
      have EA : Aside0 (Below w1.heap.size w1 ((w1.drewN (nq + 1)).alloc (.cells #[] 5))) := bA (bN E0 _) _
      have hml : m ≤ 140737488350000 := by omega
      have HML := Aside0.mk hml
      have HLT := Aside0.mk hlt
      clear hrow' hsub hd hys hlen hml hlt
      go_region_held3 (fun W' => W'.cell? ⟨g, 0, none⟩ = some (.slice A0 B.length c0) ∧ W'.cell? ⟨g, 1, none⟩ = some (.int .i64 (a : Int)) ∧ Aside0 (Below w1.heap.size w1 W')) ((refine HS.out _ ?_; first | assumption | (apply bB; apply bN; assumption) | (apply bN; assumption) | (apply bB; assumption) | (apply bA; assumption) | (apply bA; apply bN; assumption) | (apply bB; apply bA; apply bN; assumption)))
        ((refine step_appB (by rfl) (.tmp 32) (.tmp 47) (by rfl) W.heap.size (.slice (some ⟨w1.heap.size, 0, none⟩) 0 0) [] ys A' (c0 - a) (by rfl) (congrArg (fun n => Value.slice A' n (c0 - a)) LEN.out.symm) (OB.empty (w1.drewN (nq + 1)) W.heap.size HU1.out.size) (HRY.out _ EA) (Nat.le_trans HU1.out.size EA.out.size) (by rw [LEN.out]; have := HML.out; simp; omega) ?_; intro A1 c1 w2 o2 g2; have O2 := Aside0.mk o2; have E2 : Aside0 (Below w1.heap.size w1 w2) := ⟨EA.out.grown g2 EA.out.size (fun k hk => Nat.le_of_eq (Option.some.inj hk))⟩; clear o2 g2))
      obtain ⟨hd0, hd1, _⟩ := HS.out _ E2
      have hb2 := (E2.out.block g (blk_lt HBLK.out)).trans HBLK.out
      have hg1 := blk_frozen hb2 1
      have HB2 := Aside0.mk hb2
      have hol : ([] ++ ys).length = m := LEN.out
      have HOL := Aside0.mk hol
      clear hb2 hol
      go_wp2_with (fail)
      go_ret
      have hgw := HGW.out
      have hnl := HLT.out
      have h3 : OB w2 W.heap.size (.slice A1 ys.length c1) ys := by have := O2.out; rwa [List.nil_append] at this
      have hk : tk m s1 = (ys, (B.drop (a + m), false)) := by
        rw [HS1.out, HYS.out]; unfold tk stOf
        rw [if_neg]
        · simp only [Bool.false_eq_true, if_false, Int.toNat_natCast, List.drop_drop]
        · simp only [Bool.false_eq_true, if_false, false_or, Int.toNat_natCast, List.length_drop]; omega
      unfold RBPost
      rw [hk]
      refine ⟨_, rfl, own_move h3 (fun k hk => Below.heap_setCell _ ⟨g, 1, none⟩ _ _ (by have := own_base h3 k hk; show k ≠ g; omega)), ⟨B, (a : Int) + (m : Int), false, ⟨A0, c0, ?_, HGE.out, HROW.out, HCAP.out⟩, HBY.out, by omega, by omega, HHL.out, ?_⟩, ?_, ?_⟩
      · have := blk_set HB2.out 1 (.int .i64 ((a : Int) + (m : Int)))
        simpa using this
      · simp only [stOf, Bool.false_eq_true, if_false]
        rw [show ((a : Int) + (m : Int)) = ((a + m : Nat) : Int) from rfl, Int.toNat_natCast]
      · exact (HB1.out.trans (E2.out.mono HB1.out.size)).setCell (p := ⟨g, 1, none⟩) HGE.out _
      · exact (HU1.out.trans' (S' := fun _ => False) (Upd.of_below E2.out) (fun _ h => h.elim)).setCell (p := ⟨g, 1, none⟩) (.inl rfl) _
end Go.Proofs.Ytmdnokfmlbjbhaa
