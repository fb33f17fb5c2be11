/- rpc.Decode. -/
import Derived.Test.YtmdnokfmlbjbhaaMsB
import Derived.Test.YtmdnokfmlbjbhaaRpC
import Derived.Deep.DeepCutAuto
import Derived.Laws.Tables
namespace Go.Proofs.Ytmdnokfmlbjbhaa
open Go.RowKit Go.Proofs.YtmdnokfmlbjbhaaW.PrintWords Go.Proofs.YtmdnokfmlbjbhaaW.PrintMore
set_option linter.unusedVariables false
set_option linter.unusedSimpArgs false
/-- a store of a whole message -/
def boxStore (a v : Value) : Sem Unit := Instr.storeAt 29 a v
theorem to_boxStore (a v : Value) : Instr.storeAt 29 a v = boxStore a v := rfl
attribute [local go_sem ↓] to_boxLoad to_boxStore
attribute [local go_sem] load_box

/-- a byte with a sign -/
def sb (v : Int) : Int := if v < 128 then v else v - 256
theorem wrap_sb (n : Int) (h0 : 0 ≤ n) (h1 : n < 256) : wrap64 (IntKind.i8.wrap n) = sb n := by
  have h := (by decide +kernel : ∀ k : Fin 256, wrap64 (IntKind.i8.wrap (k.val : Int)) = sb (k.val : Int)) ⟨n.toNat, by omega⟩
  rwa [show ((n.toNat : Nat) : Int) = n from by omega] at h
def mS1 (s : Rst) : Rst := (rN 1 s).2
def mS2 (s : Rst) : Rst := (rN 1 (mS1 s)).2
def mS3 (s : Rst) : Rst := (rN 8 (mS2 s)).2
def mS4 (s : Rst) : Rst := (rFlag (mS3 s)).2
def mS5 (s : Rst) : Rst := (rN 1 (mS4 s)).2
def mS6 (s : Rst) : Rst := (rN 8 (mS5 s)).2
def mS7 (s : Rst) : Rst := (rN 8 (mS6 s)).2
def mS8 (s : Rst) : Rst := (rN 1 (mS7 s)).2
def mS9 (s : Rst) : Rst := (rBytes 65536 (mS8 s)).2
def mS10 (s : Rst) : Rst := (rN 8 (mS9 s)).2
def mS11 (s : Rst) : Rst := (rN 8 (mS10 s)).2
def mS12 (s : Rst) : Rst := (rBytes 1000 (mS11 s)).2
def mS13 (s : Rst) : Rst := (rN 8 (mS12 s)).2
def mS14 (s : Rst) : Rst := (rN 8 (mS13 s)).2
def mS15 (s : Rst) : Rst := (rN 8 (mS14 s)).2
def mS16 (s : Rst) : Rst := (rN 8 (mS15 s)).2
def rMsg (s : Rst) : Msg := ⟨sb (rN 1 s).1, sb (rN 1 (mS1 s)).1, wrap64 (rN 8 (mS2 s)).1, (rFlag (mS3 s)).1, (rN 1 (mS4 s)).1, wrap64 (rN 8 (mS5 s)).1, wrap64 (rN 8 (mS6 s)).1, ⟨(rN 1 (mS7 s)).1, (rBytes 65536 (mS8 s)).1⟩, ⟨wrap64 (rN 8 (mS9 s)).1, wrap64 (rN 8 (mS10 s)).1⟩, (rBytes 1000 (mS11 s)).1, wrap64 (rN 8 (mS12 s)).1, wrap64 (rN 8 (mS13 s)).1, wrap64 (rN 8 (mS14 s)).1, wrap64 (rN 8 (mS15 s)).1⟩
def msg0 : Msg := ⟨0, 0, 0, false, 0, 0, 0, ⟨0, []⟩, ⟨0, 0⟩, [], 0, 0, 0, 0⟩
def mdec (b : List Int) : Msg × Int := if unwCode b ≠ 0 then (msg0, 3) else if rEnd (mS16 (unw b, false)) ≠ 0 ∨ ¬ MOk (rMsg (unw b, false)) then (msg0, 3) else (rMsg (unw b, false), 0)
theorem rFlag_bytes (s : Rst) (h : Bytes s.1) : Bytes (rFlag s).2.1 := by
  unfold rFlag; split
  · exact Bytes.nil
  · exact tk_bytes2 1 s h

/-- a row apart from a box and a Reader -/
structure Far (rx g : Nat) (A : Option Addr) (xs : List Int) (W : World) : Prop where
  row : RB W A xs
  off : ∀ ad, A = some ad → ad.block ≠ rx ∧ ad.block ≠ g ∧ ad.block < W.heap.size
theorem Far.upd {rx g : Nat} {A : Option Addr} {xs : List Int} {W W' : World} (h : Far rx g A xs W) (u : Upd (fun k => k = g) W W') : Far rx g A xs W' :=
  ⟨C_move h.row (fun ad e => u.block _ (h.off ad e).2.2 (h.off ad e).2.1), fun ad e => ⟨(h.off ad e).1, (h.off ad e).2.1, Nat.lt_of_lt_of_le (h.off ad e).2.2 u.size⟩⟩
theorem Far.set {rx g : Nat} {A : Option Addr} {xs : List Int} {W : World} (h : Far rx g A xs W) (i : Nat) (v : Value) : Far rx g A xs (W.setCell ⟨rx, i, none⟩ v) :=
  ⟨C_move h.row (fun ad e => Below.heap_setCell _ ⟨rx, i, none⟩ _ _ (h.off ad e).1), fun ad e => ⟨(h.off ad e).1, (h.off ad e).2.1, by simp [World.setCell]; exact (h.off ad e).2.2⟩⟩
theorem Far.later {rx g : Nat} {A : Option Addr} {xs : List Int} {W W' : World} (h : Far rx g A xs W) (b : Below W.heap.size W W') : Far rx g A xs W' :=
  ⟨RB.keep h.row b, fun ad e => ⟨(h.off ad e).1, (h.off ad e).2.1, Nat.lt_of_lt_of_le (h.off ad e).2.2 b.size⟩⟩
theorem Far.of {rx g base n c : Nat} {A : Option Addr} {xs : List Int} {W : World} (h : RB W A xs) (o : OB W base (.slice A n c) xs) (hx : rx < base) (hg : g < base) : Far rx g A xs W :=
  ⟨h, fun ad e => by
    have h1 := own_base o ad.block (by rw [e]; rfl)
    have h2 := own_lt o ad.block (by rw [e]; rfl)
    exact ⟨by omega, by omega, h2⟩⟩

theorem boxed16 {w : World} {g : Nat} {v0 v1 v2 v3 v4 v5 v6 v7 v8 v9 v10 v11 v12 v13 v14 v15 : Value} {t : TypeId} {fr : Nat × Nat} (h : w.heap[g]? = some (.cells #[v0, v1, v2, v3, v4, v5, v6, v7, v8, v9, v10, v11, v12, v13, v14, v15] t fr)) : Boxed w g ∧ boxOf w g = .agg #[v0, v1, v2, v3, v4, v5, v6, v7, v8, v9, v10, v11, v12, v13, v14, v15] :=
  ⟨⟨_, _, _, _, _, _, _, _, _, _, _, _, _, _, _, _, _, _, h⟩, by unfold boxOf; rw [h]⟩
theorem cells16 {W : World} {b : Nat} {t : TypeId} {a0 a1 a2 a3 a4 a5 a6 a7 a8 a9 a10 a11 a12 a13 a14 a15 : Value} (h : W.heap[b]? = some (.cells #[a0, a1, a2, a3, a4, a5, a6, a7, a8, a9, a10, a11, a12, a13, a14, a15] t (0, 0))) :
    W.cell? ⟨b, 0, none⟩ = some a0 ∧ W.cell? ⟨b, 1, none⟩ = some a1 ∧ W.cell? ⟨b, 2, none⟩ = some a2 ∧ W.cell? ⟨b, 3, none⟩ = some a3 ∧ W.cell? ⟨b, 4, none⟩ = some a4 ∧ W.cell? ⟨b, 5, none⟩ = some a5 ∧ W.cell? ⟨b, 6, none⟩ = some a6 ∧ W.cell? ⟨b, 7, none⟩ = some a7 ∧ W.cell? ⟨b, 8, none⟩ = some a8 ∧ W.cell? ⟨b, 9, none⟩ = some a9 ∧ W.cell? ⟨b, 10, none⟩ = some a10 ∧ W.cell? ⟨b, 11, none⟩ = some a11 ∧ W.cell? ⟨b, 12, none⟩ = some a12 ∧ W.cell? ⟨b, 13, none⟩ = some a13 ∧ W.cell? ⟨b, 14, none⟩ = some a14 ∧ W.cell? ⟨b, 15, none⟩ = some a15 :=
  ⟨blk_cell h 0, blk_cell h 1, blk_cell h 2, blk_cell h 3, blk_cell h 4, blk_cell h 5, blk_cell h 6, blk_cell h 7, blk_cell h 8, blk_cell h 9, blk_cell h 10, blk_cell h 11, blk_cell h 12, blk_cell h 13, blk_cell h 14, blk_cell h 15⟩
theorem frozen16 {W : World} {b : Nat} {t : TypeId} {cs : Array Value} (h : W.heap[b]? = some (.cells cs t (0, 0))) :
    W.frozen? ⟨b, 0, none⟩ = false ∧ W.frozen? ⟨b, 1, none⟩ = false ∧ W.frozen? ⟨b, 2, none⟩ = false ∧ W.frozen? ⟨b, 3, none⟩ = false ∧ W.frozen? ⟨b, 4, none⟩ = false ∧ W.frozen? ⟨b, 5, none⟩ = false ∧ W.frozen? ⟨b, 6, none⟩ = false ∧ W.frozen? ⟨b, 7, none⟩ = false ∧ W.frozen? ⟨b, 8, none⟩ = false ∧ W.frozen? ⟨b, 9, none⟩ = false ∧ W.frozen? ⟨b, 10, none⟩ = false ∧ W.frozen? ⟨b, 11, none⟩ = false ∧ W.frozen? ⟨b, 12, none⟩ = false ∧ W.frozen? ⟨b, 13, none⟩ = false ∧ W.frozen? ⟨b, 14, none⟩ = false ∧ W.frozen? ⟨b, 15, none⟩ = false :=
  ⟨blk_frozen h 0, blk_frozen h 1, blk_frozen h 2, blk_frozen h 3, blk_frozen h 4, blk_frozen h 5, blk_frozen h 6, blk_frozen h 7, blk_frozen h 8, blk_frozen h 9, blk_frozen h 10, blk_frozen h 11, blk_frozen h 12, blk_frozen h 13, blk_frozen h 14, blk_frozen h 15⟩
theorem Far.setRow {rx g : Nat} {A : Option Addr} {xs : List Int} {W : World} (h : Far rx g A xs W) (cs : Array Value) : Far rx g A xs (W.setRow rx cs) :=
  ⟨C_move h.row (fun ad e => setRow_other _ _ _ _ (h.off ad e).1), fun ad e => ⟨(h.off ad e).1, (h.off ad e).2.1, by simp; exact (h.off ad e).2.2⟩⟩
theorem info29 : (Try.prog.info? 29).map (·.size) = some 16 := by kernel_rfl
theorem store_box {w : World} {g : Nat} {old cells : Array Value} (hg : w.heap[g]? = some (.cells old 29 (0, 0))) (ho : old.size = 16) (hc : cells.size = 16) (h1 : cells.all (·.oneCell') = true) :
    Sem.run Try.prog (boxStore (.pointer (some ⟨g, 0, none⟩)) (.agg cells)) w = .ok () (w.setRow g cells) := by
  simp only [boxStore, Instr.storeAt, Instr.sureAddr, Sem.run_bind, Sem.run_pure, Result.andThen_ok]
  exact run_storeVar_row w g 29 29 old cells hg (by rw [hc]; exact info29) (by omega) h1
theorem one16 (a0 a1 a2 a4 a5 a6 a7 a9 a10 a12 a13 a14 a15 : Int) (r : Bool) (A B : Option Addr) (n c m d : Nat) :
    (#[.int .i64 a0, .int .i64 a1, .int .i64 a2, .bool r, .int .i64 a4, .int .i64 a5, .int .i64 a6, .int .i64 a7, .slice A n c, .int .i64 a9, .int .i64 a10, .slice B m d, .int .i64 a12, .int .i64 a13, .int .i64 a14, .int .i64 a15] : Array Value).all (·.oneCell') = true := by
  simp [Value.oneCell']

/-- what Decode hands back -/
def MPost (b : List Int) (w : World) (e : Ending) (w' : World) : Prop := ∃ A c B d, e = .returned (.tuple #[.agg #[.int .i64 (mdec b).1.from_, .int .i64 (mdec b).1.to_, .int .i64 (mdec b).1.number, .bool (mdec b).1.reply, .int .i64 (mdec b).1.kind, .int .i64 (mdec b).1.epoch, .int .i64 (mdec b).1.at_, .int .i64 (mdec b).1.cell.what, .slice A (mdec b).1.cell.data.length c, .int .i64 (mdec b).1.ballot.round, .int .i64 (mdec b).1.ballot.who, .slice B (mdec b).1.value.length d, .int .i64 (mdec b).1.err, .int .i64 (mdec b).1.tail, .int .i64 (mdec b).1.low, .int .i64 (mdec b).1.back], .int .i64 (mdec b).2]) ∧
      RB w' A (mdec b).1.cell.data ∧ (mdec b).1.cell.data.length ≤ c ∧ RB w' B (mdec b).1.value ∧ (mdec b).1.value.length ≤ d ∧ Below w.heap.size w w'
set_option maxHeartbeats 4000000 in
set_option maxRecDepth 100000 in
theorem mdec_calls (A0 : Option Addr) (c0 : Nat) (b : List Int) (w : World) (h : RB w A0 b) (hb : Bytes b) (hc : b.length ≤ c0) (hl : b.length ≤ 140737488350000) :
    Calls Try.prog 72 #[.slice A0 b.length c0] w (MPost b w) := by
  have hw1 : Below w.heap.size w (w.alloc (.cells #[.int .i64 0, .int .i64 0, .int .i64 0, .bool false, .int .i64 0, .int .i64 0, .int .i64 0, .int .i64 0, .slice none 0 0, .int .i64 0, .int .i64 0, .slice none 0 0, .int .i64 0, .int .i64 0, .int .i64 0, .int .i64 0] 29)) := (Below.refl _ _).alloc (Nat.le_refl _) _
  have HU := Aside0.mk (unwrap_calls A0 c0 b _ (RB.keep h hw1) hb hc hl)
  have hX := heap_alloc_new w (.cells #[.int .i64 0, .int .i64 0, .int .i64 0, .bool false, .int .i64 0, .int .i64 0, .int .i64 0, .int .i64 0, .slice none 0 0, .int .i64 0, .int .i64 0, .slice none 0 0, .int .i64 0, .int .i64 0, .int .i64 0, .int .i64 0] 29)
  have HX := Aside0.mk hX
  have HW1 := Aside0.mk hw1
  have hub : Bytes (unw b) := by unfold unw; split; exact hb.take _; exact Bytes.nil
  have hul : (unw b).length ≤ b.length := by unfold unw; split; (rw [List.length_take]; omega); simp
  have HUB := Aside0.mk hub
  have HUL : Aside0 ((unw b).length ≤ 140737488350000) := ⟨by omega⟩
  clear h hb hX hw1 hc hub hul
  by_cases hu : unwCode b = 0
  · rw [hu] at HU
    go_enter Try.func72, Try.ntmps72
    go_wp2_with (fail)
    refine HU.out.mono ?_
    rintro e w2 ⟨v2, rfl, o2, b2⟩
    have HX2 := Aside0.mk ((b2.block _ (blk_lt HX.out)).trans HX.out)
    have B2 : Aside0 (Below w.heap.size w w2) := ⟨HW1.out.trans (b2.mono HW1.out.size)⟩
    obtain ⟨A2, c2, rfl, r2, _⟩ := OB.slice o2
    have HR := Aside0.mk (read_calls A2 c2 (unw b) w2 r2 HUB.out (by have := HUL.out; omega))
    clear o2 r2 b2 HX
    go_wp2_with (fail)
    refine HR.out.mono ?_
    rintro e w3 ⟨g, D, rfl, hg, hD, rd3, b3⟩
    have HD0 : Aside0 (Dst 29 w w.heap.size g D #[.int .i64 0, .int .i64 0, .int .i64 0, .bool false, .int .i64 0, .int .i64 0, .int .i64 0, .int .i64 0, .slice none 0 0, .int .i64 0, .int .i64 0, .slice none 0 0, .int .i64 0, .int .i64 0, .int .i64 0, .int .i64 0] (unw b, false) w3) := ⟨(b3.block _ (blk_lt HX2.out)).trans HX2.out, rd3, B2.out.trans (b3.mono B2.out.size), Nat.le_refl _, by have := B2.out.size; omega, by have := blk_lt HX2.out; omega, by have := blk_lt HX2.out; omega⟩
    clear rd3 b3 HX2 HR
    have hed : mdec b = if rEnd (mS16 (unw b, false)) ≠ 0 ∨ ¬ MOk (rMsg (unw b, false)) then (msg0, 3) else (rMsg (unw b, false), 0) := by unfold mdec; rw [if_neg (by simp [hu])]
    obtain ⟨s0, hs0⟩ : ∃ s0 : Rst, s0 = (unw b, false) := ⟨_, rfl⟩
    have HB0 : Aside0 (Bytes s0.1) := ⟨by rw [hs0]; exact HUB.out⟩
    rw [← hs0] at hed HD0
    have hb0 := HB0.out
    have hb1 := tk_bytes2 1 s0 hb0
    have hb2 := tk_bytes2 1 (mS1 s0) hb1
    have hb3 := tk_bytes2 8 (mS2 s0) hb2
    have hb4 := rFlag_bytes (mS3 s0) hb3
    have hb5 := tk_bytes2 1 (mS4 s0) hb4
    have hb6 := tk_bytes2 8 (mS5 s0) hb5
    have hb7 := tk_bytes2 8 (mS6 s0) hb6
    obtain ⟨n0, hn0⟩ : ∃ n, n = (rN 1 s0).1 := ⟨_, rfl⟩
    obtain ⟨n1, hn1⟩ : ∃ n, n = (rN 1 (mS1 s0)).1 := ⟨_, rfl⟩
    have bd0 := rN_bound1 s0 hb0
    have bd1 := rN_bound1 (mS1 s0) hb1
    have bd4 := rN_bound1 (mS4 s0) hb4
    have bd7 := rN_bound1 (mS7 s0) hb7
    have C0 : Aside0 (∀ W, RD W g D s0 → Calls Try.prog 33 #[.pointer (some ⟨g, 0, none⟩)] W fun e w' => e = .returned (.int .u8 (rN 1 s0).1) ∧ RD w' g D (mS1 s0) ∧ Upd (fun k => k = g) W w') := ⟨fun W h => rbyte_calls g D _ W h⟩
    have C1 : Aside0 (∀ W, RD W g D (mS1 s0) → Calls Try.prog 33 #[.pointer (some ⟨g, 0, none⟩)] W fun e w' => e = .returned (.int .u8 (rN 1 (mS1 s0)).1) ∧ RD w' g D (mS2 s0) ∧ Upd (fun k => k = g) W w') := ⟨fun W h => rbyte_calls g D _ W h⟩
    have C2 : Aside0 (∀ W, RD W g D (mS2 s0) → Calls Try.prog 35 #[.pointer (some ⟨g, 0, none⟩)] W fun e w' => e = .returned (.int .i64 (wrap64 (rN 8 (mS2 s0)).1)) ∧ RD w' g D (mS3 s0) ∧ Upd (fun k => k = g) W w') := ⟨fun W h => rint_calls g D _ W h⟩
    have C3 : Aside0 (∀ W, RD W g D (mS3 s0) → Calls Try.prog 36 #[.pointer (some ⟨g, 0, none⟩)] W fun e w' => e = .returned (.bool (rFlag (mS3 s0)).1) ∧ RD w' g D (mS4 s0) ∧ Upd (fun k => k = g) W w') := ⟨fun W h => rflag_calls g D _ W h⟩
    have C4 : Aside0 (∀ W, RD W g D (mS4 s0) → Calls Try.prog 33 #[.pointer (some ⟨g, 0, none⟩)] W fun e w' => e = .returned (.int .u8 (rN 1 (mS4 s0)).1) ∧ RD w' g D (mS5 s0) ∧ Upd (fun k => k = g) W w') := ⟨fun W h => rbyte_calls g D _ W h⟩
    have C5 : Aside0 (∀ W, RD W g D (mS5 s0) → Calls Try.prog 35 #[.pointer (some ⟨g, 0, none⟩)] W fun e w' => e = .returned (.int .i64 (wrap64 (rN 8 (mS5 s0)).1)) ∧ RD w' g D (mS6 s0) ∧ Upd (fun k => k = g) W w') := ⟨fun W h => rint_calls g D _ W h⟩
    have C6 : Aside0 (∀ W, RD W g D (mS6 s0) → Calls Try.prog 35 #[.pointer (some ⟨g, 0, none⟩)] W fun e w' => e = .returned (.int .i64 (wrap64 (rN 8 (mS6 s0)).1)) ∧ RD w' g D (mS7 s0) ∧ Upd (fun k => k = g) W w') := ⟨fun W h => rint_calls g D _ W h⟩
    have C7 : Aside0 (∀ W, RD W g D (mS7 s0) → Calls Try.prog 33 #[.pointer (some ⟨g, 0, none⟩)] W fun e w' => e = .returned (.int .u8 (rN 1 (mS7 s0)).1) ∧ RD w' g D (mS8 s0) ∧ Upd (fun k => k = g) W w') := ⟨fun W h => rbyte_calls g D _ W h⟩
    have C8 : Aside0 (∀ W, RD W g D (mS8 s0) → Calls Try.prog 30 #[.pointer (some ⟨g, 0, none⟩), .int .i64 65536] W fun e w' => ∃ v, e = .returned v ∧ OB w' W.heap.size v (rBytes 65536 (mS8 s0)).1 ∧ RD w' g D (mS9 s0) ∧ Upd (fun k => k = g) W w') := ⟨fun W h => rbytes_calls g D _ 65536 W h⟩
    have C9 : Aside0 (∀ W, RD W g D (mS9 s0) → Calls Try.prog 35 #[.pointer (some ⟨g, 0, none⟩)] W fun e w' => e = .returned (.int .i64 (wrap64 (rN 8 (mS9 s0)).1)) ∧ RD w' g D (mS10 s0) ∧ Upd (fun k => k = g) W w') := ⟨fun W h => rint_calls g D _ W h⟩
    have C10 : Aside0 (∀ W, RD W g D (mS10 s0) → Calls Try.prog 35 #[.pointer (some ⟨g, 0, none⟩)] W fun e w' => e = .returned (.int .i64 (wrap64 (rN 8 (mS10 s0)).1)) ∧ RD w' g D (mS11 s0) ∧ Upd (fun k => k = g) W w') := ⟨fun W h => rint_calls g D _ W h⟩
    have C11 : Aside0 (∀ W, RD W g D (mS11 s0) → Calls Try.prog 30 #[.pointer (some ⟨g, 0, none⟩), .int .i64 1000] W fun e w' => ∃ v, e = .returned v ∧ OB w' W.heap.size v (rBytes 1000 (mS11 s0)).1 ∧ RD w' g D (mS12 s0) ∧ Upd (fun k => k = g) W w') := ⟨fun W h => rbytes_calls g D _ 1000 W h⟩
    have C12 : Aside0 (∀ W, RD W g D (mS12 s0) → Calls Try.prog 35 #[.pointer (some ⟨g, 0, none⟩)] W fun e w' => e = .returned (.int .i64 (wrap64 (rN 8 (mS12 s0)).1)) ∧ RD w' g D (mS13 s0) ∧ Upd (fun k => k = g) W w') := ⟨fun W h => rint_calls g D _ W h⟩
    have C13 : Aside0 (∀ W, RD W g D (mS13 s0) → Calls Try.prog 35 #[.pointer (some ⟨g, 0, none⟩)] W fun e w' => e = .returned (.int .i64 (wrap64 (rN 8 (mS13 s0)).1)) ∧ RD w' g D (mS14 s0) ∧ Upd (fun k => k = g) W w') := ⟨fun W h => rint_calls g D _ W h⟩
    have C14 : Aside0 (∀ W, RD W g D (mS14 s0) → Calls Try.prog 35 #[.pointer (some ⟨g, 0, none⟩)] W fun e w' => e = .returned (.int .i64 (wrap64 (rN 8 (mS14 s0)).1)) ∧ RD w' g D (mS15 s0) ∧ Upd (fun k => k = g) W w') := ⟨fun W h => rint_calls g D _ W h⟩
    have C15 : Aside0 (∀ W, RD W g D (mS15 s0) → Calls Try.prog 35 #[.pointer (some ⟨g, 0, none⟩)] W fun e w' => e = .returned (.int .i64 (wrap64 (rN 8 (mS15 s0)).1)) ∧ RD w' g D (mS16 s0) ∧ Upd (fun k => k = g) W w') := ⟨fun W h => rint_calls g D _ W h⟩
    obtain ⟨x, hx⟩ : ∃ x, x = rMsg s0 := ⟨_, rfl⟩
    rw [← hn0] at C0 bd0
    rw [← hn1] at C1 bd1
    have hx0 : wrap64 (IntKind.i8.wrap n0) = x.from_ := by rw [wrap_sb n0 bd0.1 bd0.2, hx, hn0]; rfl
    have hx1 : wrap64 (IntKind.i8.wrap n1) = x.to_ := by rw [wrap_sb n1 bd1.1 bd1.2, hx, hn1]; rfl
    have hx2 : wrap64 (rN 8 (mS2 s0)).1 = x.number := by rw [hx]; rfl
    rw [hx2] at C2
    have hx3 : (rFlag (mS3 s0)).1 = x.reply := by rw [hx]; rfl
    rw [hx3] at C3
    have hx4 : (rN 1 (mS4 s0)).1 = x.kind := by rw [hx]; rfl
    rw [hx4] at C4 bd4
    have hx5 : wrap64 (rN 8 (mS5 s0)).1 = x.epoch := by rw [hx]; rfl
    rw [hx5] at C5
    have hx6 : wrap64 (rN 8 (mS6 s0)).1 = x.at_ := by rw [hx]; rfl
    rw [hx6] at C6
    have hx7 : (rN 1 (mS7 s0)).1 = x.cell.what := by rw [hx]; rfl
    rw [hx7] at C7 bd7
    have hx8 : (rBytes 65536 (mS8 s0)).1 = x.cell.data := by rw [hx]; rfl
    rw [hx8] at C8
    have hx9 : wrap64 (rN 8 (mS9 s0)).1 = x.ballot.round := by rw [hx]; rfl
    rw [hx9] at C9
    have hx10 : wrap64 (rN 8 (mS10 s0)).1 = x.ballot.who := by rw [hx]; rfl
    rw [hx10] at C10
    have hx11 : (rBytes 1000 (mS11 s0)).1 = x.value := by rw [hx]; rfl
    rw [hx11] at C11
    have hx12 : wrap64 (rN 8 (mS12 s0)).1 = x.err := by rw [hx]; rfl
    rw [hx12] at C12
    have hx13 : wrap64 (rN 8 (mS13 s0)).1 = x.tail := by rw [hx]; rfl
    rw [hx13] at C13
    have hx14 : wrap64 (rN 8 (mS14 s0)).1 = x.low := by rw [hx]; rfl
    rw [hx14] at C14
    have hx15 : wrap64 (rN 8 (mS15 s0)).1 = x.back := by rw [hx]; rfl
    rw [hx15] at C15
    rw [← hx] at hed
    have CE : Aside0 (∀ W, RD W g D (mS16 s0) → Calls Try.prog 38 #[.pointer (some ⟨g, 0, none⟩)] W fun e w' => e = .returned (.int .i64 (rEnd (mS16 s0))) ∧ W = w') := ⟨fun W h => rend_calls g D _ W h⟩
    clear hn0 hn1 hb0 hb1 hb2 hb3 hb4 hb5 hb6 hb7 hx2 hx3 hx4 hx5 hx6 hx7 hx8 hx9 hx10 hx11 hx12 hx13 hx14 hx15 hx hs0 HB0 HUB HUL hu HU HW1
    generalize mS16 s0 = s16 at *
    generalize mS15 s0 = s15 at *
    generalize mS14 s0 = s14 at *
    generalize mS13 s0 = s13 at *
    generalize mS12 s0 = s12 at *
    generalize mS11 s0 = s11 at *
    generalize mS10 s0 = s10 at *
    generalize mS9 s0 = s9 at *
    generalize mS8 s0 = s8 at *
    generalize mS7 s0 = s7 at *
    generalize mS6 s0 = s6 at *
    generalize mS5 s0 = s5 at *
    generalize mS4 s0 = s4 at *
    generalize mS3 s0 = s3 at *
    generalize mS2 s0 = s2 at *
    generalize mS1 s0 = s1 at *
    have HED := Aside0.mk hed
    obtain ⟨bd00, bd01⟩ := bd0
    obtain ⟨bd10, bd11⟩ := bd1
    obtain ⟨bd40, bd41⟩ := bd4
    obtain ⟨bd70, bd71⟩ := bd7
    have hv4 : IntKind.i64.wrap x.kind = x.kind := IntWalk.i64_in _ (by omega)
    have hv7 : IntKind.i64.wrap x.cell.what = x.cell.what := IntWalk.i64_in _ (by omega)
    have hq4 : wrap64 x.kind = x.kind := IntWalk.wrap64_in _ (by omega)
    have hq7 : wrap64 x.cell.what = x.cell.what := IntWalk.wrap64_in _ (by omega)
    clear hed
    obtain ⟨f0, f1, f2, f3, f4, f5, f6, f7, f8, f9, f10, f11, f12, f13, f14, f15⟩ := frozen16 HD0.out.box
    go_wp2_with (fail)
    clear f0 f1 f2 f3 f4 f5 f6 f7 f8 f9 f10 f11 f12 f13 f14 f15
    refine (C0.out _ HD0.out.rd).mono ?_
    rintro e a0 ⟨rfl, rd, u⟩
    have HD1 := Aside0.mk (HD0.out.upd rd u)
    clear rd u HD0 C0
    go_wp2_with (fail)
    refine (C1.out _ HD1.out.rd).mono ?_
    rintro e a1 ⟨rfl, rd, u⟩
    have HD2 := Aside0.mk (HD1.out.upd rd u)
    clear rd u HD1 C1
    obtain ⟨f0, f1, f2, f3, f4, f5, f6, f7, f8, f9, f10, f11, f12, f13, f14, f15⟩ := frozen16 HD2.out.box
    obtain ⟨z0, z1, z2, z3, z4, z5, z6, z7, z8, z9, z10, z11, z12, z13, z14, z15⟩ := cells16 HD2.out.box
    go_wp2_with (fail)
    have HD3 : Aside0 (Dst 29 w w.heap.size g D #[.int .i64 x.from_, .int .i64 x.to_, .int .i64 0, .bool false, .int .i64 0, .int .i64 0, .int .i64 0, .int .i64 0, .slice none 0 0, .int .i64 0, .int .i64 0, .slice none 0 0, .int .i64 0, .int .i64 0, .int .i64 0, .int .i64 0] s2 ((a1.setCell ⟨w.heap.size, 0, none⟩ (.int .i64 x.from_)).setCell ⟨w.heap.size, 1, none⟩ (.int .i64 x.to_))) := ⟨by
      have := ((HD2.out.set 0 (.int .i64 x.from_)).set 1 (.int .i64 x.to_))
      simpa using this⟩
    obtain ⟨d3, hd⟩ : ∃ d_, Aside0 (d_ = (a1.setCell ⟨w.heap.size, 0, none⟩ (.int .i64 x.from_)).setCell ⟨w.heap.size, 1, none⟩ (.int .i64 x.to_)) := ⟨_, ⟨rfl⟩⟩
    rw [← hd.out] at HD3  ⊢
    clear hd HD2 f0 f1 f2 f3 f4 f5 f6 f7 f8 f9 f10 f11 f12 f13 f14 f15 z0 z1 z2 z3 z4 z5 z6 z7 z8 z9 z10 z11 z12 z13 z14 z15
    obtain ⟨f0, f1, f2, f3, f4, f5, f6, f7, f8, f9, f10, f11, f12, f13, f14, f15⟩ := frozen16 HD3.out.box
    go_wp2_with (fail)
    clear f0 f1 f2 f3 f4 f5 f6 f7 f8 f9 f10 f11 f12 f13 f14 f15
    refine (C2.out _ HD3.out.rd).mono ?_
    rintro e a2 ⟨rfl, rd, u⟩
    have HD4 := Aside0.mk (HD3.out.upd rd u)
    clear rd u HD3 C2
    go_wp2_with (fail)
    refine (C3.out _ HD4.out.rd).mono ?_
    rintro e a3 ⟨rfl, rd, u⟩
    have HD5 := Aside0.mk (HD4.out.upd rd u)
    clear rd u HD4 C3
    go_wp2_with (fail)
    refine (C4.out _ HD5.out.rd).mono ?_
    rintro e a4 ⟨rfl, rd, u⟩
    have HD6 := Aside0.mk (HD5.out.upd rd u)
    clear rd u HD5 C4
    obtain ⟨f0, f1, f2, f3, f4, f5, f6, f7, f8, f9, f10, f11, f12, f13, f14, f15⟩ := frozen16 HD6.out.box
    obtain ⟨z0, z1, z2, z3, z4, z5, z6, z7, z8, z9, z10, z11, z12, z13, z14, z15⟩ := cells16 HD6.out.box
    go_wp2_with (fail)
    have HD7 : Aside0 (Dst 29 w w.heap.size g D #[.int .i64 x.from_, .int .i64 x.to_, .int .i64 x.number, .bool x.reply, .int .i64 x.kind, .int .i64 0, .int .i64 0, .int .i64 0, .slice none 0 0, .int .i64 0, .int .i64 0, .slice none 0 0, .int .i64 0, .int .i64 0, .int .i64 0, .int .i64 0] s5 (((a4.setCell ⟨w.heap.size, 2, none⟩ (.int .i64 x.number)).setCell ⟨w.heap.size, 3, none⟩ (.bool x.reply)).setCell ⟨w.heap.size, 4, none⟩ (.int .i64 x.kind))) := ⟨by
      have := (((HD6.out.set 2 (.int .i64 x.number)).set 3 (.bool x.reply)).set 4 (.int .i64 x.kind))
      simpa using this⟩
    obtain ⟨d7, hd⟩ : ∃ d_, Aside0 (d_ = ((a4.setCell ⟨w.heap.size, 2, none⟩ (.int .i64 x.number)).setCell ⟨w.heap.size, 3, none⟩ (.bool x.reply)).setCell ⟨w.heap.size, 4, none⟩ (.int .i64 x.kind)) := ⟨_, ⟨rfl⟩⟩
    rw [← hd.out] at HD7  ⊢
    clear hd HD6 f0 f1 f2 f3 f4 f5 f6 f7 f8 f9 f10 f11 f12 f13 f14 f15 z0 z1 z2 z3 z4 z5 z6 z7 z8 z9 z10 z11 z12 z13 z14 z15
    obtain ⟨f0, f1, f2, f3, f4, f5, f6, f7, f8, f9, f10, f11, f12, f13, f14, f15⟩ := frozen16 HD7.out.box
    go_wp2_with (fail)
    clear f0 f1 f2 f3 f4 f5 f6 f7 f8 f9 f10 f11 f12 f13 f14 f15
    refine (C5.out _ HD7.out.rd).mono ?_
    rintro e a5 ⟨rfl, rd, u⟩
    have HD8 := Aside0.mk (HD7.out.upd rd u)
    clear rd u HD7 C5
    go_wp2_with (fail)
    refine (C6.out _ HD8.out.rd).mono ?_
    rintro e a6 ⟨rfl, rd, u⟩
    have HD9 := Aside0.mk (HD8.out.upd rd u)
    clear rd u HD8 C6
    obtain ⟨f0, f1, f2, f3, f4, f5, f6, f7, f8, f9, f10, f11, f12, f13, f14, f15⟩ := frozen16 HD9.out.box
    obtain ⟨z0, z1, z2, z3, z4, z5, z6, z7, z8, z9, z10, z11, z12, z13, z14, z15⟩ := cells16 HD9.out.box
    go_wp2_with (fail)
    have HD10 : Aside0 (Dst 29 w w.heap.size g D #[.int .i64 x.from_, .int .i64 x.to_, .int .i64 x.number, .bool x.reply, .int .i64 x.kind, .int .i64 x.epoch, .int .i64 x.at_, .int .i64 0, .slice none 0 0, .int .i64 0, .int .i64 0, .slice none 0 0, .int .i64 0, .int .i64 0, .int .i64 0, .int .i64 0] s7 ((a6.setCell ⟨w.heap.size, 5, none⟩ (.int .i64 x.epoch)).setCell ⟨w.heap.size, 6, none⟩ (.int .i64 x.at_))) := ⟨by
      have := ((HD9.out.set 5 (.int .i64 x.epoch)).set 6 (.int .i64 x.at_))
      simpa using this⟩
    obtain ⟨d10, hd⟩ : ∃ d_, Aside0 (d_ = (a6.setCell ⟨w.heap.size, 5, none⟩ (.int .i64 x.epoch)).setCell ⟨w.heap.size, 6, none⟩ (.int .i64 x.at_)) := ⟨_, ⟨rfl⟩⟩
    rw [← hd.out] at HD10  ⊢
    clear hd HD9 f0 f1 f2 f3 f4 f5 f6 f7 f8 f9 f10 f11 f12 f13 f14 f15 z0 z1 z2 z3 z4 z5 z6 z7 z8 z9 z10 z11 z12 z13 z14 z15
    obtain ⟨f0, f1, f2, f3, f4, f5, f6, f7, f8, f9, f10, f11, f12, f13, f14, f15⟩ := frozen16 HD10.out.box
    go_wp2_with (fail)
    clear f0 f1 f2 f3 f4 f5 f6 f7 f8 f9 f10 f11 f12 f13 f14 f15
    refine (C7.out _ HD10.out.rd).mono ?_
    rintro e a7 ⟨rfl, rd, u⟩
    have HD11 := Aside0.mk (HD10.out.upd rd u)
    clear rd u HD10 C7
    go_wp2_with (fail)
    refine (C8.out _ HD11.out.rd).mono ?_
    rintro e a8 ⟨v, rfl, ov, rd, u⟩
    obtain ⟨A8, c8, rfl, rv, l8⟩ := OB.slice ov
    have F8 := Aside0.mk (Far.of (rx := w.heap.size) (g := g) rv ov (blk_lt HD11.out.box) HD11.out.rd.lt)
    clear ov rv
    have HD12 := Aside0.mk (HD11.out.upd rd u)
    clear rd u HD11 C8
    obtain ⟨f0, f1, f2, f3, f4, f5, f6, f7, f8, f9, f10, f11, f12, f13, f14, f15⟩ := frozen16 HD12.out.box
    obtain ⟨z0, z1, z2, z3, z4, z5, z6, z7, z8, z9, z10, z11, z12, z13, z14, z15⟩ := cells16 HD12.out.box
    go_wp2_with (fail)
    have HD13 : Aside0 (Dst 29 w w.heap.size g D #[.int .i64 x.from_, .int .i64 x.to_, .int .i64 x.number, .bool x.reply, .int .i64 x.kind, .int .i64 x.epoch, .int .i64 x.at_, .int .i64 x.cell.what, .slice A8 x.cell.data.length c8, .int .i64 0, .int .i64 0, .slice none 0 0, .int .i64 0, .int .i64 0, .int .i64 0, .int .i64 0] s9 ((a8.setCell ⟨w.heap.size, 7, none⟩ (.int .i64 x.cell.what)).setCell ⟨w.heap.size, 8, none⟩ (.slice A8 x.cell.data.length c8))) := ⟨by
      have := ((HD12.out.set 7 (.int .i64 x.cell.what)).set 8 (.slice A8 x.cell.data.length c8))
      simpa using this⟩
    replace F8 := Aside0.mk ((F8.out.set 7 (.int .i64 x.cell.what)).set 8 (.slice A8 x.cell.data.length c8))
    obtain ⟨d13, hd⟩ : ∃ d_, Aside0 (d_ = (a8.setCell ⟨w.heap.size, 7, none⟩ (.int .i64 x.cell.what)).setCell ⟨w.heap.size, 8, none⟩ (.slice A8 x.cell.data.length c8)) := ⟨_, ⟨rfl⟩⟩
    rw [← hd.out] at HD13 F8 ⊢
    clear hd HD12 f0 f1 f2 f3 f4 f5 f6 f7 f8 f9 f10 f11 f12 f13 f14 f15 z0 z1 z2 z3 z4 z5 z6 z7 z8 z9 z10 z11 z12 z13 z14 z15
    obtain ⟨f0, f1, f2, f3, f4, f5, f6, f7, f8, f9, f10, f11, f12, f13, f14, f15⟩ := frozen16 HD13.out.box
    go_wp2_with (fail)
    clear f0 f1 f2 f3 f4 f5 f6 f7 f8 f9 f10 f11 f12 f13 f14 f15
    refine (C9.out _ HD13.out.rd).mono ?_
    rintro e a9 ⟨rfl, rd, u⟩
    have HD14 := Aside0.mk (HD13.out.upd rd u)
    replace F8 := Aside0.mk (F8.out.upd u)
    clear rd u HD13 C9
    go_wp2_with (fail)
    refine (C10.out _ HD14.out.rd).mono ?_
    rintro e a10 ⟨rfl, rd, u⟩
    have HD15 := Aside0.mk (HD14.out.upd rd u)
    replace F8 := Aside0.mk (F8.out.upd u)
    clear rd u HD14 C10
    obtain ⟨f0, f1, f2, f3, f4, f5, f6, f7, f8, f9, f10, f11, f12, f13, f14, f15⟩ := frozen16 HD15.out.box
    obtain ⟨z0, z1, z2, z3, z4, z5, z6, z7, z8, z9, z10, z11, z12, z13, z14, z15⟩ := cells16 HD15.out.box
    go_wp2_with (fail)
    have HD16 : Aside0 (Dst 29 w w.heap.size g D #[.int .i64 x.from_, .int .i64 x.to_, .int .i64 x.number, .bool x.reply, .int .i64 x.kind, .int .i64 x.epoch, .int .i64 x.at_, .int .i64 x.cell.what, .slice A8 x.cell.data.length c8, .int .i64 x.ballot.round, .int .i64 x.ballot.who, .slice none 0 0, .int .i64 0, .int .i64 0, .int .i64 0, .int .i64 0] s11 ((a10.setCell ⟨w.heap.size, 9, none⟩ (.int .i64 x.ballot.round)).setCell ⟨w.heap.size, 10, none⟩ (.int .i64 x.ballot.who))) := ⟨by
      have := ((HD15.out.set 9 (.int .i64 x.ballot.round)).set 10 (.int .i64 x.ballot.who))
      simpa using this⟩
    replace F8 := Aside0.mk ((F8.out.set 9 (.int .i64 x.ballot.round)).set 10 (.int .i64 x.ballot.who))
    obtain ⟨d16, hd⟩ : ∃ d_, Aside0 (d_ = (a10.setCell ⟨w.heap.size, 9, none⟩ (.int .i64 x.ballot.round)).setCell ⟨w.heap.size, 10, none⟩ (.int .i64 x.ballot.who)) := ⟨_, ⟨rfl⟩⟩
    rw [← hd.out] at HD16 F8 ⊢
    clear hd HD15 f0 f1 f2 f3 f4 f5 f6 f7 f8 f9 f10 f11 f12 f13 f14 f15 z0 z1 z2 z3 z4 z5 z6 z7 z8 z9 z10 z11 z12 z13 z14 z15
    obtain ⟨f0, f1, f2, f3, f4, f5, f6, f7, f8, f9, f10, f11, f12, f13, f14, f15⟩ := frozen16 HD16.out.box
    go_wp2_with (fail)
    clear f0 f1 f2 f3 f4 f5 f6 f7 f8 f9 f10 f11 f12 f13 f14 f15
    refine (C11.out _ HD16.out.rd).mono ?_
    rintro e a11 ⟨v, rfl, ov, rd, u⟩
    obtain ⟨A11, c11, rfl, rv, l11⟩ := OB.slice ov
    have F11 := Aside0.mk (Far.of (rx := w.heap.size) (g := g) rv ov (blk_lt HD16.out.box) HD16.out.rd.lt)
    clear ov rv
    have HD17 := Aside0.mk (HD16.out.upd rd u)
    replace F8 := Aside0.mk (F8.out.upd u)
    clear rd u HD16 C11
    obtain ⟨f0, f1, f2, f3, f4, f5, f6, f7, f8, f9, f10, f11, f12, f13, f14, f15⟩ := frozen16 HD17.out.box
    obtain ⟨z0, z1, z2, z3, z4, z5, z6, z7, z8, z9, z10, z11, z12, z13, z14, z15⟩ := cells16 HD17.out.box
    go_wp2_with (fail)
    have HD18 : Aside0 (Dst 29 w w.heap.size g D #[.int .i64 x.from_, .int .i64 x.to_, .int .i64 x.number, .bool x.reply, .int .i64 x.kind, .int .i64 x.epoch, .int .i64 x.at_, .int .i64 x.cell.what, .slice A8 x.cell.data.length c8, .int .i64 x.ballot.round, .int .i64 x.ballot.who, .slice A11 x.value.length c11, .int .i64 0, .int .i64 0, .int .i64 0, .int .i64 0] s12 (a11.setCell ⟨w.heap.size, 11, none⟩ (.slice A11 x.value.length c11))) := ⟨by
      have := (HD17.out.set 11 (.slice A11 x.value.length c11))
      simpa using this⟩
    replace F8 := Aside0.mk (F8.out.set 11 (.slice A11 x.value.length c11))
    replace F11 := Aside0.mk (F11.out.set 11 (.slice A11 x.value.length c11))
    obtain ⟨d18, hd⟩ : ∃ d_, Aside0 (d_ = a11.setCell ⟨w.heap.size, 11, none⟩ (.slice A11 x.value.length c11)) := ⟨_, ⟨rfl⟩⟩
    rw [← hd.out] at HD18 F8 F11 ⊢
    clear hd HD17 f0 f1 f2 f3 f4 f5 f6 f7 f8 f9 f10 f11 f12 f13 f14 f15 z0 z1 z2 z3 z4 z5 z6 z7 z8 z9 z10 z11 z12 z13 z14 z15
    obtain ⟨f0, f1, f2, f3, f4, f5, f6, f7, f8, f9, f10, f11, f12, f13, f14, f15⟩ := frozen16 HD18.out.box
    go_wp2_with (fail)
    clear f0 f1 f2 f3 f4 f5 f6 f7 f8 f9 f10 f11 f12 f13 f14 f15
    refine (C12.out _ HD18.out.rd).mono ?_
    rintro e a12 ⟨rfl, rd, u⟩
    have HD19 := Aside0.mk (HD18.out.upd rd u)
    replace F8 := Aside0.mk (F8.out.upd u)
    replace F11 := Aside0.mk (F11.out.upd u)
    clear rd u HD18 C12
    obtain ⟨f0, f1, f2, f3, f4, f5, f6, f7, f8, f9, f10, f11, f12, f13, f14, f15⟩ := frozen16 HD19.out.box
    obtain ⟨z0, z1, z2, z3, z4, z5, z6, z7, z8, z9, z10, z11, z12, z13, z14, z15⟩ := cells16 HD19.out.box
    go_upto_region 12 with (fail)
    have HD20 : Aside0 (Dst 29 w w.heap.size g D #[.int .i64 x.from_, .int .i64 x.to_, .int .i64 x.number, .bool x.reply, .int .i64 x.kind, .int .i64 x.epoch, .int .i64 x.at_, .int .i64 x.cell.what, .slice A8 x.cell.data.length c8, .int .i64 x.ballot.round, .int .i64 x.ballot.who, .slice A11 x.value.length c11, .int .i64 x.err, .int .i64 0, .int .i64 0, .int .i64 0] s13 (a12.setCell ⟨w.heap.size, 12, none⟩ (.int .i64 x.err))) := ⟨by
      have := (HD19.out.set 12 (.int .i64 x.err))
      simpa using this⟩
    replace F8 := Aside0.mk (F8.out.set 12 (.int .i64 x.err))
    replace F11 := Aside0.mk (F11.out.set 12 (.int .i64 x.err))
    obtain ⟨d20, hd⟩ : ∃ d_, Aside0 (d_ = a12.setCell ⟨w.heap.size, 12, none⟩ (.int .i64 x.err)) := ⟨_, ⟨rfl⟩⟩
    rw [← hd.out] at HD20 F8 F11 ⊢
    clear hd HD19 f0 f1 f2 f3 f4 f5 f6 f7 f8 f9 f10 f11 f12 f13 f14 f15 z0 z1 z2 z3 z4 z5 z6 z7 z8 z9 z10 z11 z12 z13 z14 z15
    go_cut [74] from 6 to 84 (fun v74 W => Aside0 (Dst 29 w w.heap.size g D #[.int .i64 x.from_, .int .i64 x.to_, .int .i64 x.number, .bool x.reply, .int .i64 x.kind, .int .i64 x.epoch, .int .i64 x.at_, .int .i64 x.cell.what, .slice A8 x.cell.data.length c8, .int .i64 x.ballot.round, .int .i64 x.ballot.who, .slice A11 x.value.length c11, .int .i64 x.err, .int .i64 x.tail, .int .i64 x.low, .int .i64 x.back] s16 W) ∧ Aside0 (Far w.heap.size g A8 x.cell.data W) ∧ Aside0 (Far w.heap.size g A11 x.value W))
    case first =>
      obtain ⟨f0, f1, f2, f3, f4, f5, f6, f7, f8, f9, f10, f11, f12, f13, f14, f15⟩ := frozen16 HD20.out.box
      go_wp2_with (fail)
      clear f0 f1 f2 f3 f4 f5 f6 f7 f8 f9 f10 f11 f12 f13 f14 f15
      refine (C13.out _ HD20.out.rd).mono ?_
      rintro e a13 ⟨rfl, rd, u⟩
      have HD21 := Aside0.mk (HD20.out.upd rd u)
      replace F8 := Aside0.mk (F8.out.upd u)
      replace F11 := Aside0.mk (F11.out.upd u)
      clear rd u HD20 C13
      go_wp2_with (fail)
      refine (C14.out _ HD21.out.rd).mono ?_
      rintro e a14 ⟨rfl, rd, u⟩
      have HD22 := Aside0.mk (HD21.out.upd rd u)
      replace F8 := Aside0.mk (F8.out.upd u)
      replace F11 := Aside0.mk (F11.out.upd u)
      clear rd u HD21 C14
      go_wp2_with (fail)
      refine (C15.out _ HD22.out.rd).mono ?_
      rintro e a15 ⟨rfl, rd, u⟩
      have HD23 := Aside0.mk (HD22.out.upd rd u)
      replace F8 := Aside0.mk (F8.out.upd u)
      replace F11 := Aside0.mk (F11.out.upd u)
      clear rd u HD22 C15
      obtain ⟨f0, f1, f2, f3, f4, f5, f6, f7, f8, f9, f10, f11, f12, f13, f14, f15⟩ := frozen16 HD23.out.box
      obtain ⟨z0, z1, z2, z3, z4, z5, z6, z7, z8, z9, z10, z11, z12, z13, z14, z15⟩ := cells16 HD23.out.box
      go_wp2
      have HD24 : Aside0 (Dst 29 w w.heap.size g D #[.int .i64 x.from_, .int .i64 x.to_, .int .i64 x.number, .bool x.reply, .int .i64 x.kind, .int .i64 x.epoch, .int .i64 x.at_, .int .i64 x.cell.what, .slice A8 x.cell.data.length c8, .int .i64 x.ballot.round, .int .i64 x.ballot.who, .slice A11 x.value.length c11, .int .i64 x.err, .int .i64 x.tail, .int .i64 x.low, .int .i64 x.back] s16 (((a15.setCell ⟨w.heap.size, 13, none⟩ (.int .i64 x.tail)).setCell ⟨w.heap.size, 14, none⟩ (.int .i64 x.low)).setCell ⟨w.heap.size, 15, none⟩ (.int .i64 x.back))) := ⟨by
        have := (((HD23.out.set 13 (.int .i64 x.tail)).set 14 (.int .i64 x.low)).set 15 (.int .i64 x.back))
        simpa using this⟩
      replace F8 := Aside0.mk (((F8.out.set 13 (.int .i64 x.tail)).set 14 (.int .i64 x.low)).set 15 (.int .i64 x.back))
      replace F11 := Aside0.mk (((F11.out.set 13 (.int .i64 x.tail)).set 14 (.int .i64 x.low)).set 15 (.int .i64 x.back))
      go_meet
      exact ⟨HD24, F8, F11⟩
    obtain ⟨HD24, F8, F11⟩ := hcut
    go_wp2_with (fail)
    refine (CE.out _ HD24.out.rd).mono ?_
    rintro e w10 ⟨rfl, rfl⟩
    have HER := Aside0.mk (fun W (hB : Below wc.heap.size wc W) => mright_calls x A8 c8 A11 c11 W (RB.keep F8.out.row hB) l8 (RB.keep F11.out.row hB) l11)
    obtain ⟨en, hen⟩ : ∃ en, en = rEnd s16 := ⟨_, rfl⟩
    rw [← hen] at HED ⊢
    have L8 := Aside0.mk l8
    have L11 := Aside0.mk l11
    clear hen CE bd00 bd01 bd10 bd11 bd40 bd41 bd70 bd71 hv4 hv7 hq4 hq7 hx0 hx1 l8 l11 hg hD
    by_cases he : en = 0
    · have he1 : (en != 0) = false := by simp [he]
      have HE := Aside0.mk he
      clear he
      obtain ⟨zb, zm⟩ := boxed16 HD24.out.box
      obtain ⟨mv, hmv⟩ : ∃ mv, mv = Value.agg #[.int .i64 x.from_, .int .i64 x.to_, .int .i64 x.number, .bool x.reply, .int .i64 x.kind, .int .i64 x.epoch, .int .i64 x.at_, .int .i64 x.cell.what, .slice A8 x.cell.data.length c8, .int .i64 x.ballot.round, .int .i64 x.ballot.who, .slice A11 x.value.length c11, .int .i64 x.err, .int .i64 x.tail, .int .i64 x.low, .int .i64 x.back] := ⟨_, rfl⟩
      rw [← hmv] at HER zm
      clear hmv
      go_wp2_with (fail)
      refine (HER.out _ (Below.refl _ _)).mono ?_
      rintro e w11 ⟨rfl, b11⟩
      have HDe := Aside0.mk (HD24.out.later b11)
      have G8 := Aside0.mk (F8.out.later b11)
      have G11 := Aside0.mk (F11.out.later b11)
      clear b11 HER HD24 F8 F11 zb zm
      by_cases hok : MOk x
      · have h1 : Aside0 (mdec b = (x, 0)) := ⟨by rw [HED.out, if_neg (by rintro (h | h); exact h HE.out; exact h hok)]⟩
        rw [decide_eq_true hok]
        clear hok
        obtain ⟨zb, zm⟩ := boxed16 HDe.out.box
        go_wp2_with (fail)
        rw [store_box (cells := #[.int .i64 x.from_, .int .i64 x.to_, .int .i64 x.number, .bool x.reply, .int .i64 x.kind, .int .i64 x.epoch, .int .i64 x.at_, .int .i64 x.cell.what, .slice A8 x.cell.data.length c8, .int .i64 x.ballot.round, .int .i64 x.ballot.who, .slice A11 x.value.length c11, .int .i64 x.err, .int .i64 x.tail, .int .i64 x.low, .int .i64 x.back]) HDe.out.box rfl rfl (one16 _ _ _ _ _ _ _ _ _ _ _ _ _ _ _ _ _ _ _ _)]
        repeat (first | go_upon | go_step)
        have h7 := setRow_heap _ w.heap.size _ #[.int .i64 x.from_, .int .i64 x.to_, .int .i64 x.number, .bool x.reply, .int .i64 x.kind, .int .i64 x.epoch, .int .i64 x.at_, .int .i64 x.cell.what, .slice A8 x.cell.data.length c8, .int .i64 x.ballot.round, .int .i64 x.ballot.who, .slice A11 x.value.length c11, .int .i64 x.err, .int .i64 x.tail, .int .i64 x.low, .int .i64 x.back] 29 (0, 0) HDe.out.box
        obtain ⟨y0, y1, y2, y3, y4, y5, y6, y7, y8, y9, y10, y11, y12, y13, y14, y15⟩ := cells16 h7
        refine bodyPost_ret (v := .tuple #[.agg #[.int .i64 x.from_, .int .i64 x.to_, .int .i64 x.number, .bool x.reply, .int .i64 x.kind, .int .i64 x.epoch, .int .i64 x.at_, .int .i64 x.cell.what, .slice A8 x.cell.data.length c8, .int .i64 x.ballot.round, .int .i64 x.ballot.who, .slice A11 x.value.length c11, .int .i64 x.err, .int .i64 x.tail, .int .i64 x.low, .int .i64 x.back], .int .i64 0]) (by simp [results, Try.results72, go_sem, y0, y1, y2, y3, y4, y5, y6, y7, y8, y9, y10, y11, y12, y13, y14, y15]) rfl ?_
        unfold MPost
        rw [h1.out]
        exact ⟨A8, c8, A11, c11, rfl, (G8.out.setRow _).row, L8.out, (G11.out.setRow _).row, L11.out, HDe.out.bel.trans (below_setRow (Nat.le_refl _) _)⟩
      · have h1 : Aside0 (mdec b = (msg0, 3)) := ⟨by rw [HED.out, if_pos (.inr hok)]⟩
        rw [decide_eq_false hok]
        clear hok
        go_wp2_with (fail)
        rw [store_box (cells := #[.int .i64 0, .int .i64 0, .int .i64 0, .bool false, .int .i64 0, .int .i64 0, .int .i64 0, .int .i64 0, .slice none 0 0, .int .i64 0, .int .i64 0, .slice none 0 0, .int .i64 0, .int .i64 0, .int .i64 0, .int .i64 0]) HDe.out.box rfl rfl (one16 _ _ _ _ _ _ _ _ _ _ _ _ _ _ _ _ _ _ _ _)]
        repeat (first | go_upon | go_step)
        have h7 := setRow_heap _ w.heap.size _ #[.int .i64 0, .int .i64 0, .int .i64 0, .bool false, .int .i64 0, .int .i64 0, .int .i64 0, .int .i64 0, .slice none 0 0, .int .i64 0, .int .i64 0, .slice none 0 0, .int .i64 0, .int .i64 0, .int .i64 0, .int .i64 0] 29 (0, 0) HDe.out.box
        obtain ⟨y0, y1, y2, y3, y4, y5, y6, y7, y8, y9, y10, y11, y12, y13, y14, y15⟩ := cells16 h7
        refine bodyPost_ret (v := .tuple #[.agg #[.int .i64 0, .int .i64 0, .int .i64 0, .bool false, .int .i64 0, .int .i64 0, .int .i64 0, .int .i64 0, .slice none 0 0, .int .i64 0, .int .i64 0, .slice none 0 0, .int .i64 0, .int .i64 0, .int .i64 0, .int .i64 0], .int .i64 3]) (by simp [results, Try.results72, go_sem, y0, y1, y2, y3, y4, y5, y6, y7, y8, y9, y10, y11, y12, y13, y14, y15]) rfl ?_
        unfold MPost
        rw [h1.out]
        exact ⟨none, 0, none, 0, rfl, C_nil0 _, Nat.le_refl _, C_nil0 _, Nat.le_refl _, HDe.out.bel.trans (below_setRow (Nat.le_refl _) _)⟩
    · have he1 : (en != 0) = true := by simp [he]
      have h1 : Aside0 (mdec b = (msg0, 3)) := ⟨by rw [HED.out, if_pos (.inl he)]⟩
      clear he
      go_wp2_with (fail)
      rw [store_box (cells := #[.int .i64 0, .int .i64 0, .int .i64 0, .bool false, .int .i64 0, .int .i64 0, .int .i64 0, .int .i64 0, .slice none 0 0, .int .i64 0, .int .i64 0, .slice none 0 0, .int .i64 0, .int .i64 0, .int .i64 0, .int .i64 0]) HD24.out.box rfl rfl (one16 _ _ _ _ _ _ _ _ _ _ _ _ _ _ _ _ _ _ _ _)]
      repeat (first | go_upon | go_step)
      have h7 := setRow_heap _ w.heap.size _ #[.int .i64 0, .int .i64 0, .int .i64 0, .bool false, .int .i64 0, .int .i64 0, .int .i64 0, .int .i64 0, .slice none 0 0, .int .i64 0, .int .i64 0, .slice none 0 0, .int .i64 0, .int .i64 0, .int .i64 0, .int .i64 0] 29 (0, 0) HD24.out.box
      obtain ⟨y0, y1, y2, y3, y4, y5, y6, y7, y8, y9, y10, y11, y12, y13, y14, y15⟩ := cells16 h7
      refine bodyPost_ret (v := .tuple #[.agg #[.int .i64 0, .int .i64 0, .int .i64 0, .bool false, .int .i64 0, .int .i64 0, .int .i64 0, .int .i64 0, .slice none 0 0, .int .i64 0, .int .i64 0, .slice none 0 0, .int .i64 0, .int .i64 0, .int .i64 0, .int .i64 0], .int .i64 3]) (by simp [results, Try.results72, go_sem, y0, y1, y2, y3, y4, y5, y6, y7, y8, y9, y10, y11, y12, y13, y14, y15]) rfl ?_
      unfold MPost
      rw [h1.out]
      exact ⟨none, 0, none, 0, rfl, C_nil0 _, Nat.le_refl _, C_nil0 _, Nat.le_refl _, HD24.out.bel.trans (below_setRow (Nat.le_refl _) _)⟩
  · have e1 : mdec b = (msg0, 3) := by unfold mdec; rw [if_pos hu]
    have e2 : unwCode b = 3 := by unfold unwCode at hu ⊢; split at hu <;> simp_all
    have E1 := Aside0.mk e1
    rw [e2] at HU
    clear e1 e2 hu
    go_enter Try.func72, Try.ntmps72
    go_wp2_with (fail)
    refine HU.out.mono ?_
    rintro e w2 ⟨v2, rfl, o2, b2⟩
    have HX2 := Aside0.mk ((b2.block _ (blk_lt HX.out)).trans HX.out)
    have B2 : Aside0 (Below w.heap.size w w2) := ⟨HW1.out.trans (b2.mono HW1.out.size)⟩
    obtain ⟨zb, zm⟩ := boxed16 HX2.out
    clear o2 b2 HX
    go_wp2_with (fail)
    rw [store_box (cells := #[.int .i64 0, .int .i64 0, .int .i64 0, .bool false, .int .i64 0, .int .i64 0, .int .i64 0, .int .i64 0, .slice none 0 0, .int .i64 0, .int .i64 0, .slice none 0 0, .int .i64 0, .int .i64 0, .int .i64 0, .int .i64 0]) HX2.out rfl rfl (one16 _ _ _ _ _ _ _ _ _ _ _ _ _ _ _ _ _ _ _ _)]
    repeat (first | go_upon | go_step)
    have h7 := setRow_heap _ w.heap.size _ #[.int .i64 0, .int .i64 0, .int .i64 0, .bool false, .int .i64 0, .int .i64 0, .int .i64 0, .int .i64 0, .slice none 0 0, .int .i64 0, .int .i64 0, .slice none 0 0, .int .i64 0, .int .i64 0, .int .i64 0, .int .i64 0] 29 (0, 0) HX2.out
    obtain ⟨y0, y1, y2, y3, y4, y5, y6, y7, y8, y9, y10, y11, y12, y13, y14, y15⟩ := cells16 h7
    refine bodyPost_ret (v := .tuple #[.agg #[.int .i64 0, .int .i64 0, .int .i64 0, .bool false, .int .i64 0, .int .i64 0, .int .i64 0, .int .i64 0, .slice none 0 0, .int .i64 0, .int .i64 0, .slice none 0 0, .int .i64 0, .int .i64 0, .int .i64 0, .int .i64 0], .int .i64 3]) (by simp [results, Try.results72, go_sem, y0, y1, y2, y3, y4, y5, y6, y7, y8, y9, y10, y11, y12, y13, y14, y15]) rfl ?_
    unfold MPost
    rw [E1.out]
    exact ⟨none, 0, none, 0, rfl, C_nil0 _, Nat.le_refl _, C_nil0 _, Nat.le_refl _, B2.out.trans (below_setRow (Nat.le_refl _) _)⟩
end Go.Proofs.Ytmdnokfmlbjbhaa
