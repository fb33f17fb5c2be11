/- plan.Next. -/
import Derived.Test.YtmdnokfmlbjbhaaPlE
namespace Go.Proofs.Ytmdnokfmlbjbhaa
open Go.RowKit Go.Proofs.YtmdnokfmlbjbhaaW.PrintWords
set_option linter.unusedVariables false
set_option linter.unusedSimpArgs false

def nextOf (e : Int) (cs : List (List Int)) (there : List Int) : Int × List (List Int) × Int :=
  if ¬ PR e cs ∨ e = 2147483647 then (0, [], 1) else if ∃ c ∈ cs, stay there c = [] then (0, [], 5) else (e + 1, cs.map (stay there), 0)

/-- a slice header, the row of ints behind it read, its block one of ints from base on -/
def Chn (W : World) (base : Nat) (v : Value) (xs : List Int) : Prop := ∃ A c, v = .slice A xs.length c ∧ RI W A xs ∧ xs.length ≤ c ∧ ∀ ad, A = some ad → base ≤ ad.block ∧ ∃ cells, W.heap[ad.block]? = some (.cells cells 3 (0, 0))
/-- an own row of such headers -/
def Rows (W : World) (base : Nat) (vo : Value) (css : List (List Int)) : Prop := ∃ vs : List Value, W.ownsRow base 58 1 vo css.length vs ∧ ∀ (i : Nat) (h : i < css.length), ∃ v, vs[i]? = some v ∧ Chn W base v css[i]
theorem Chn.move {W W' : World} {base : Nat} {v : Value} {xs : List Int} (h : Chn W base v xs) (hm : ∀ k cells, base ≤ k → W.heap[k]? = some (.cells cells 3 (0, 0)) → W'.heap[k]? = some (.cells cells 3 (0, 0))) : Chn W' base v xs := by
  obtain ⟨A, c, e, hr, hc, hA⟩ := h
  refine ⟨A, c, e, C_move hr (fun ad ea => ?_), hc, fun ad ea => ?_⟩
  · obtain ⟨hb, cells, hh⟩ := hA ad ea
    rw [hm _ _ hb hh, hh]
  · obtain ⟨hb, cells, hh⟩ := hA ad ea
    exact ⟨hb, cells, hm _ _ hb hh⟩
theorem Rows.below {W W' : World} {base : Nat} {vo : Value} {css : List (List Int)} (h : Rows W base vo css) (hB : Below W.heap.size W W') : Rows W' base vo css := by
  obtain ⟨vs, ho, hi⟩ := h
  refine ⟨vs, (Upd.of_below (S := fun _ => False) hB).own ho (fun _ _ e => e), fun i hl => ?_⟩
  obtain ⟨v, e, hc⟩ := hi i hl
  exact ⟨v, e, hc.move fun k cells hb hh => (hB.block k (blk_lt hh)).trans hh⟩
theorem Rows.weaken {W : World} {base b0 : Nat} {vo : Value} {css : List (List Int)} (h : Rows W base vo css) (hb : b0 ≤ base) : Rows W b0 vo css := by
  obtain ⟨vs, ho, hi⟩ := h
  refine ⟨vs, own_weaken ho hb, fun i hl => ?_⟩
  obtain ⟨v, e, A, c, e', hr, hc, hA⟩ := hi i hl
  exact ⟨v, e, A, c, e', hr, hc, fun ad ea => ⟨Nat.le_trans hb (hA ad ea).1, (hA ad ea).2⟩⟩
/-- where the blocks from base on are as they were -/
theorem Rows.moved {W W' : World} {base : Nat} {vo : Value} {css : List (List Int)} (h : Rows W base vo css) (hm : ∀ k, base ≤ k → k < W.heap.size → W'.heap[k]? = W.heap[k]?) : Rows W' base vo css := by
  obtain ⟨vs, ho, hi⟩ := h
  refine ⟨vs, own_move ho (fun k hk => hm k (own_base ho k hk) (own_lt ho k hk)), fun i hl => ?_⟩
  obtain ⟨v, e, hc⟩ := hi i hl
  exact ⟨v, e, hc.move fun k cells hb hh => (hm k hb (blk_lt hh)).trans hh⟩
theorem Rows.nil (W : World) (base : Nat) : Rows W base (.slice none 0 0) [] := ⟨[], own_nil W base 58 1, fun i h => absurd h (Nat.not_lt_zero _)⟩
theorem Chn.of {W : World} {base b0 : Nat} {v : Value} {xs : List Int} (h : OI W b0 v xs) (hb : base ≤ b0) : Chn W base v xs := by
  obtain ⟨A, c, e, hr, hc⟩ := OI.slice h
  refine ⟨A, c, e, hr, hc, fun ad ea => ?_⟩
  subst ea
  rcases h.2 with ⟨h', _⟩ | ⟨g', cap', cur, h', hbg, hh, _⟩
  · rw [e] at h'; cases h'
  · rw [e] at h'; injection h' with h1 _ _; injection h1 with h1; subst h1
    exact ⟨Nat.le_trans hb hbg, cur, hh⟩
theorem info58' : (Try.prog.info? 58).map (fun i => (i.zero, i.size, i.bytes)) = some (some (.slice none 0 0), 1, 24) := by kernel_rfl
theorem Rows.appended {W W' : World} {base : Nat} {vo vo' v : Value} {css : List (List Int)} {xs : List Int} {vs : List Value} (hi : ∀ (i : Nat) (h : i < css.length), ∃ v, vs[i]? = some v ∧ Chn W base v css[i]) (hl : vs.length = css.length)
    (ho : W.ownsRow base 58 1 vo css.length vs) (ho' : W'.ownsRow base 58 1 vo' (css.length + 1) (vs ++ [v])) (hc : Chn W base v xs) (hg : W.grownBy W' vo.ownBlock) : Rows W' base vo' (css ++ [xs]) := by
  have mv : ∀ k cells, base ≤ k → W.heap[k]? = some (.cells cells 3 (0, 0)) → W'.heap[k]? = some (.cells cells 3 (0, 0)) := fun k cells hb hh => blk_grown hh hg (fun e => by
    obtain ⟨cells', hh'⟩ := own_typed ho k e.symm
    rw [hh] at hh'; injection hh' with hh'; injection hh' with _ h2 _; cases h2)
  refine ⟨vs ++ [v], by simpa using ho', fun i h => ?_⟩
  rcases Nat.lt_or_ge i css.length with hlt | hge
  · obtain ⟨u, e, hu⟩ := hi i hlt
    exact ⟨u, by rw [List.getElem?_append_left (by omega)]; exact e, by rw [List.getElem_append_left hlt]; exact hu.move mv⟩
  · have he : i = css.length := by simp at h; omega
    subst he
    exact ⟨v, by rw [List.getElem?_append_right (by omega), hl]; simp, by rw [List.getElem_append_right (Nat.le_refl _)]; simpa using hc.move mv⟩
/-- read -/
theorem Rows.read {W : World} {base : Nat} {vo : Value} {css : List (List Int)} (h : Rows W base vo css) : ∃ A c, vo = .slice A css.length c ∧ css.length ≤ c ∧ RL W A css := by
  obtain ⟨vs, ho, hi⟩ := h
  have hl : vs.length = css.length := by have := ho.1; omega
  rcases ho.2 with ⟨e, h0⟩ | ⟨g, cap, cur, e, hb, hh, hn, hm, hcs, ht⟩
  · have : css = [] := List.eq_nil_of_length_eq_zero h0
    subst this
    exact ⟨none, 0, e, Nat.le_refl _, Kd.C_nil _ _⟩
  · unfold maxLen at hm
    refine ⟨some ⟨g, 0, none⟩, cap, e, hn, rfl, by omega, fun _ => ⟨⟨g, 0, none⟩, rfl, fun j p hp => ?_⟩⟩
    have hj : j < css.length := (List.getElem?_eq_some_iff.1 hp).1
    obtain ⟨v, ev, A, c, rfl, hr, hc, _⟩ := hi j hj
    have hpj : css[j] = p := by rw [List.getElem?_eq_getElem hj] at hp; injection hp
    subst hpj
    refine ⟨[.slice A css[j].length c], rfl, ⟨A, c, rfl, hc, hr⟩, fun i u hu => ?_⟩
    have hi0 : i = 0 := by have := (List.getElem?_eq_some_iff.1 hu).1; simpa using this
    subst hi0
    obtain rfl : Value.slice A css[j].length c = u := by simpa using hu
    show W.cell? ((⟨g, 0, none⟩ : Addr).add (j * 1 + 0)) = _
    rw [show (⟨g, 0, none⟩ : Addr).add (j * 1 + 0) = ⟨g, j, none⟩ from by rw [Nat.mul_one, Nat.add_zero, add_at, Nat.zero_add], cell_of_row W g j cur 58 (0, 0) hh]
    have : (cur.toList.take (css.length * 1))[j]? = vs[j]? := by rw [ht]
    rw [List.getElem?_take, if_pos (by omega)] at this
    simpa using this.trans ev
theorem Rows.rl {W : World} {base : Nat} {A : Option Addr} {n c : Nat} {css : List (List Int)} (h : Rows W base (.slice A n c) css) : RL W A css := by
  obtain ⟨A', c', e, _, hr⟩ := h.read
  injection e with e _ _
  subst e
  exact hr
end Go.Proofs.Ytmdnokfmlbjbhaa
