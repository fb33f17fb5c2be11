/- Arguments opened, kind by kind: what the walk along an argument's type says of its cells. -/
import Derived.Test.YtmdnokfmlbjbhaaBase
import Derived.OpenShut
import Derived.ChangeArms
namespace Go.Proofs.Ytmdnokfmlbjbhaa
open Go.RowKit Go.Proofs.YtmdnokfmlbjbhaaW.PrintWords
set_option linter.unusedVariables false

/-- what walking along the type t tells of cells -/
def TR {α : Type} (d : Kd α) (Q : α → Prop) (t : TypeId) : Prop :=
  ∀ (H : Type) (enc : TypeId × Value → H) (W : World) (spare : Nat → Bool) (held : Bool) (fuel : Nat) (cs : List Value) (x : DataW H × List MemPlace),
    DataW.trod enc Try.prog W 0 spare held fuel t cs = some x → ∃ y, Q y ∧ d.K W y cs

theorem TR.int {t : TypeId} {k : IntKind} (ht : Try.prog.underlying t = some (.int k)) : TR (Kd.int k) (fun n => (Lit.int k n).wf = true) t := by
  intro H enc W spare held fuel cs x h
  obtain ⟨n, e, _, hw⟩ := DataW.trod_int ht h
  exact ⟨n, hw, e⟩
theorem TR.bool {t : TypeId} (ht : Try.prog.underlying t = some .bool) : TR Kd.bool (fun _ => True) t := by
  intro H enc W spare held fuel cs x h
  obtain ⟨n, e, _⟩ := DataW.trod_bool ht h
  exact ⟨n, trivial, e⟩

theorem cells?_each {w : World} {base : Nat} {a : Addr} {n : Nat} {cs : List Value} (h : w.cells? base a n = some cs) : cs.length = n ∧ ∀ i u, cs[i]? = some u → w.cell? (a.add i) = some u := by
  unfold World.cells? at h
  split at h
  · have hl := mapM_some_length h
    refine ⟨by simpa using hl, fun i u hu => ?_⟩
    have hi : i < n := by
      have := (List.getElem?_eq_some_iff.1 hu).1
      simp at hl; omega
    have := mapM_some_get h i i (by simp [hi])
    rw [this, hu]
  · cases h

theorem addr_add (a : Addr) (x y : Nat) : (a.add x).add y = a.add (x + y) := by
  unfold Addr.add; split <;> split <;> (try split) <;> simp_all [Nat.add_assoc] <;> omega

theorem TR.slice {α : Type} {d : Kd α} {Q : α → Prop} {t e : TypeId} (ht : Try.prog.underlying t = some (.slice e)) (hc : Try.prog.cellsOf e = d.sz) (hd : TR d Q e) :
    TR (Kd.slice e d) (fun xs => ∀ y ∈ xs, Q y) t := by
  intro H enc W spare held fuel cs x h
  rcases DataW.trod_slice ht h with ⟨rfl, _⟩ | ⟨a, len, cap, elems, rest, n, _, rfl, _, _, hl, hm, hlen, hel, _, _⟩
  · exact ⟨[], (by intro y hy; cases hy), none, 0, rfl, Nat.le_refl _, Kd.C_nil d W⟩
  · have key : ∀ m, m ≤ len → ∃ ys : List α, ys.length = m ∧ ∀ (j : Nat) (y : α), ys[j]? = some y → Q y ∧ ∃ c, c.length = d.sz ∧ d.K W y c ∧ ∀ (i : Nat) (u : Value), c[i]? = some u → W.cell? (a.add (j * d.sz + i)) = some u := by
      intro m
      induction m with
      | zero => intro _; exact ⟨[], rfl, fun j y h => by simp at h⟩
      | succ m ih =>
        intro hle
        obtain ⟨ys, hy, hi⟩ := ih (by omega)
        have h1 := hel m (by omega)
        rw [List.getElem?_eq_getElem (by omega), Option.bind_eq_some_iff] at h1
        obtain ⟨c, hc1, hc2⟩ := h1
        obtain ⟨y, hq, hk⟩ := hd H enc W spare held n c _ hc2
        obtain ⟨hcl, hcc⟩ := cells?_each hc1
        refine ⟨ys ++ [y], by simp [hy], fun j z hz => ?_⟩
        rcases Nat.lt_or_ge j ys.length with hj | hj
        · rw [List.getElem?_append_left hj] at hz; exact hi j z hz
        · have hjm : j = m := by
            have := (List.getElem?_eq_some_iff.1 hz).1
            simp at this; omega
          subst hjm
          rw [List.getElem?_append_right hj, hy, Nat.sub_self] at hz
          obtain rfl : y = z := by simpa using hz
          refine ⟨hq, c, by rw [hcl, hc], hk, fun i u hu => ?_⟩
          have := hcc i u hu
          rw [hc] at this
          rw [← addr_add]; exact this
    obtain ⟨ys, hy, hi⟩ := key len (Nat.le_refl _)
    refine ⟨ys, fun y hy' => ?_, some a, cap, by rw [hy], by omega, rfl, by unfold maxLen at hm; omega, fun _ => ⟨a, rfl, fun j p hp => (hi j p hp).2⟩⟩
    obtain ⟨j, hj, rfl⟩ := List.getElem_of_mem hy'
    exact (hi j _ (List.getElem?_eq_getElem hj)).1

/-- fields from an offset on -/
def TRF {α : Type} (d : Kd α) (Q : α → Prop) (n : Nat) (fs : List Field) (off : Nat) : Prop :=
  ∀ (H : Type) (enc : TypeId × Value → H) (W : World) (spare : Nat → Bool) (held : Bool) (fuel : Nat) (cs : List Value), cs.length = n →
    (∀ f ∈ fs, ∃ x, DataW.trod enc Try.prog W 0 spare held fuel f.type ((cs.drop f.offset).take (Try.prog.cellsOf f.type)) = some x) → ∃ y, Q y ∧ d.K W y (cs.drop off)
theorem TRF.one {α : Type} {d : Kd α} {Q : α → Prop} {n off : Nat} {f : Field} (hd : TR d Q f.type) (hz : Try.prog.cellsOf f.type = d.sz) (ho : f.offset = off) (hn : n = off + d.sz) : TRF d Q n [f] off := by
  intro H enc W spare held fuel cs hl h
  obtain ⟨x, hx⟩ := h f (List.mem_singleton.2 rfl)
  rw [ho, hz, List.take_of_length_le (by rw [List.length_drop]; omega)] at hx
  exact hd H enc W spare held fuel _ x hx
theorem TRF.cons {α β : Type} {d : Kd α} {Q : α → Prop} {d' : Kd β} {Q' : β → Prop} {n off : Nat} {f : Field} {fs : List Field} (hd : TR d Q f.type) (hz : Try.prog.cellsOf f.type = d.sz) (ho : f.offset = off) (hr : TRF d' Q' n fs (off + d.sz)) :
    TRF (Kd.pair d d') (fun x => Q x.1 ∧ Q' x.2) n (f :: fs) off := by
  intro H enc W spare held fuel cs hl h
  obtain ⟨x, hx⟩ := h f (List.mem_cons_self ..)
  rw [ho, hz] at hx
  obtain ⟨y, hy, ky⟩ := hd H enc W spare held fuel _ x hx
  obtain ⟨z, hz', kz⟩ := hr H enc W spare held fuel cs hl (fun g hg => h g (List.mem_cons_of_mem _ hg))
  refine ⟨(y, z), ⟨hy, hz'⟩, _, _, ?_, ky, kz⟩
  rw [← List.drop_drop, List.take_append_drop]
theorem TR.struct {α : Type} {d : Kd α} {Q : α → Prop} {t : TypeId} {fs : Array Field} (ht : Try.prog.underlying t = some (.struct fs)) (h : TRF d Q (Try.prog.cellsOf t) fs.toList 0) : TR d Q t := by
  intro H enc W spare held fuel cs x hx
  obtain ⟨xs, n, _, _, hl, hn, hf⟩ := DataW.trod_struct ht hx
  obtain ⟨y, hy, ky⟩ := h H enc W spare held n cs hl (fun f hfm => by
    obtain ⟨i, hi, rfl⟩ := List.getElem_of_mem hfm
    have hi' : i < fs.size := by simpa using hi
    refine ⟨xs[i]'(by omega), ?_⟩
    rw [hf i _ (by simp [Array.getElem?_eq_getElem hi'])]
    exact List.getElem?_eq_getElem _)
  exact ⟨y, hy, by simpa using ky⟩
theorem TR.iso {α β : Type} {d : Kd α} {Q : α → Prop} {t : TypeId} (h : TR d Q t) (f : β → α) (g : α → β) (hg : ∀ y, f (g y) = y) : TR (Kd.iso d f) (fun z => Q (f z)) t := by
  intro H enc W spare held fuel cs x hx
  obtain ⟨y, hy, ky⟩ := h H enc W spare held fuel cs x hx
  refine ⟨g y, by show Q (f (g y)); rw [hg]; exact hy, ?_⟩
  show d.K W (f (g y)) cs
  rw [hg]; exact ky
theorem TR.imp {α : Type} {d : Kd α} {Q Q' : α → Prop} {t : TypeId} (h : TR d Q t) (hq : ∀ y, Q y → Q' y) : TR d Q' t := by
  intro H enc W spare held fuel cs x hx
  obtain ⟨y, hy, ky⟩ := h H enc W spare held fuel cs x hx
  exact ⟨y, hq y hy, ky⟩
theorem TR.opened {α : Type} {d : Kd α} {Q : α → Prop} {t : TypeId} (h : TR d Q t) {H : Type} {enc : TypeId × Value → H} {W : World} {spare : Nat → Bool} {held : Bool} {v : Value} {x : DataW H} {p : List MemPlace} (hv : DataW.Trod enc Try.prog W 0 spare held t v x p) :
    ∃ y, Q y ∧ d.K W y v.cells.toList := by
  obtain ⟨fuel, hf⟩ := hv
  exact h H enc W spare held fuel _ _ hf

/-- a whole machine number -/
def Wf (n : Int) : Prop := -9223372036854775808 ≤ n ∧ n ≤ 9223372036854775807
theorem wf_i64 {n : Int} (h : (Lit.int .i64 n).wf = true) : Wf n := by
  have : -9223372036854775808 ≤ n ∧ n ≤ 9223372036854775807 := by simpa [Lit.wf, IntKind.min, IntKind.max, IntKind.bits, IntKind.signed] using h
  exact this
theorem tr_i64 {t : TypeId} (ht : Try.prog.underlying t = some (.int .i64)) : TR (Kd.int .i64) Wf t := (TR.int ht).imp fun _ h => wf_i64 h
theorem tr_u8 {t : TypeId} (ht : Try.prog.underlying t = some (.int .u8)) : TR (Kd.int .u8) (fun n => 0 ≤ n ∧ n < 256) t := (TR.int ht).imp fun _ h => wf_u8 h
theorem tr_bytes : TR (Kd.slice 5 (Kd.int .u8)) Bytes 22 := (TR.slice Try.underlying22 (by kernel_rfl) (tr_u8 Try.underlying5)).imp fun _ h => h

/-! ### messages -/
structure Cel where
  what : Int
  data : List Int
structure Bal where
  round : Int
  who : Int
structure Msg where
  from_ : Int
  to_ : Int
  number : Int
  reply : Bool
  kind : Int
  epoch : Int
  at_ : Int
  cell : Cel
  ballot : Bal
  value : List Int
  err : Int
  tail : Int
  low : Int
  back : Int
def Cel.flat (c : Cel) := (c.what, c.data)
def Bal.flat (b : Bal) := (b.round, b.who)
def Msg.flat (m : Msg) := (m.from_, m.to_, m.number, m.reply, m.kind, m.epoch, m.at_, m.cell, m.ballot, m.value, m.err, m.tail, m.low, m.back)
noncomputable def KCel : Kd Cel := Kd.iso (Kd.pair (Kd.int .i64) (Kd.slice 5 (Kd.int .u8))) Cel.flat
noncomputable def KBal : Kd Bal := Kd.iso (Kd.pair (Kd.int .i64) (Kd.int .i64)) Bal.flat
noncomputable def KMsg : Kd Msg :=
  Kd.iso (Kd.pair (Kd.int .i64) (Kd.pair (Kd.int .i64) (Kd.pair (Kd.int .i64) (Kd.pair Kd.bool (Kd.pair (Kd.int .i64) (Kd.pair (Kd.int .i64) (Kd.pair (Kd.int .i64)
    (Kd.pair KCel (Kd.pair KBal (Kd.pair (Kd.slice 5 (Kd.int .u8)) (Kd.pair (Kd.int .i64) (Kd.pair (Kd.int .i64) (Kd.pair (Kd.int .i64) (Kd.int .i64)))))))))))))) Msg.flat
theorem tr_cel : TR KCel (fun c => Wf c.what ∧ Bytes c.data) 24 :=
  (TR.iso (TR.struct Try.underlying24 (.cons (tr_i64 Try.underlying3) (by kernel_rfl) rfl (.one tr_bytes (by kernel_rfl) rfl (by kernel_rfl)))) Cel.flat (fun y => ⟨y.1, y.2⟩) (fun _ => rfl)).imp fun _ h => h
theorem tr_bal : TR KBal (fun c => Wf c.round ∧ Wf c.who) 26 :=
  (TR.iso (TR.struct Try.underlying26 (.cons (tr_i64 Try.underlying3) (by kernel_rfl) rfl (.one (tr_i64 Try.underlying3) (by kernel_rfl) rfl (by kernel_rfl)))) Bal.flat (fun y => ⟨y.1, y.2⟩) (fun _ => rfl)).imp fun _ h => h
def Msg.Ok (m : Msg) : Prop := Wf m.from_ ∧ Wf m.to_ ∧ Wf m.number ∧ True ∧ Wf m.kind ∧ Wf m.epoch ∧ Wf m.at_ ∧ (Wf m.cell.what ∧ Bytes m.cell.data) ∧ (Wf m.ballot.round ∧ Wf m.ballot.who) ∧ Bytes m.value ∧ Wf m.err ∧ Wf m.tail ∧ Wf m.low ∧ Wf m.back
theorem tr_msg : TR KMsg Msg.Ok 29 :=
  (TR.iso (TR.struct Try.underlying29 (.cons (tr_i64 Try.underlying3) (by kernel_rfl) rfl (.cons (tr_i64 Try.underlying3) (by kernel_rfl) rfl (.cons (tr_i64 Try.underlying3) (by kernel_rfl) rfl (.cons (TR.bool Try.underlying4) (by kernel_rfl) rfl
    (.cons (tr_i64 Try.underlying3) (by kernel_rfl) rfl (.cons (tr_i64 Try.underlying3) (by kernel_rfl) rfl (.cons (tr_i64 Try.underlying3) (by kernel_rfl) rfl (.cons tr_cel (by kernel_rfl) rfl (.cons tr_bal (by kernel_rfl) rfl (.cons tr_bytes (by kernel_rfl) rfl
    (.cons (tr_i64 Try.underlying27) (by kernel_rfl) rfl (.cons (tr_i64 Try.underlying3) (by kernel_rfl) rfl (.cons (tr_i64 Try.underlying3) (by kernel_rfl) rfl (.one (tr_i64 Try.underlying3) (by kernel_rfl) rfl (by kernel_rfl))))))))))))))))
    Msg.flat (fun y => ⟨y.1, y.2.1, y.2.2.1, y.2.2.2.1, y.2.2.2.2.1, y.2.2.2.2.2.1, y.2.2.2.2.2.2.1, y.2.2.2.2.2.2.2.1, y.2.2.2.2.2.2.2.2.1, y.2.2.2.2.2.2.2.2.2.1, y.2.2.2.2.2.2.2.2.2.2.1, y.2.2.2.2.2.2.2.2.2.2.2.1, y.2.2.2.2.2.2.2.2.2.2.2.2.1, y.2.2.2.2.2.2.2.2.2.2.2.2.2⟩) (fun _ => rfl)).imp fun _ h => h

/-- a message's cells, its two rows by their addresses -/
theorem msg_cells {w : World} {m : Msg} {cs : List Value} (h : KMsg.K w m cs) : ∃ A c B d, RB w A m.cell.data ∧ m.cell.data.length ≤ c ∧ RB w B m.value ∧ m.value.length ≤ d ∧
    cs = [.int .i64 m.from_, .int .i64 m.to_, .int .i64 m.number, .bool m.reply, .int .i64 m.kind, .int .i64 m.epoch, .int .i64 m.at_, .int .i64 m.cell.what, .slice A m.cell.data.length c, .int .i64 m.ballot.round, .int .i64 m.ballot.who,
      .slice B m.value.length d, .int .i64 m.err, .int .i64 m.tail, .int .i64 m.low, .int .i64 m.back] := by
  obtain ⟨_, _, rfl, rfl, _, _, rfl, rfl, _, _, rfl, rfl, _, _, rfl, rfl, _, _, rfl, rfl, _, _, rfl, rfl, _, _, rfl, rfl, _, _, rfl, ⟨_, _, rfl, rfl, A, c, rfl, h1, h2⟩, _, _, rfl, ⟨_, _, rfl, rfl, rfl⟩, _, _, rfl, ⟨B, d, rfl, h3, h4⟩, _, _, rfl, rfl, _, _, rfl, rfl, _, _, rfl, rfl, rfl⟩ := h
  exact ⟨A, c, B, d, h2, h1, h4, h3, rfl⟩
end Go.Proofs.Ytmdnokfmlbjbhaa
