/- A row of a call's own, handed on through calls that append to it and set its cells: what else stays. -/
import Derived.Test.YtdnjfpmngnkcfaaGreatDoorRecs
namespace Go.Proofs.YtdnjfpmngnkcfaaGreatDoor
open Go.RowKit

/-- only the row of v has changed, and the row of v' is that row or a new one -/
structure Grew (w w' : World) (v v' : Value) : Prop where
  by_ : w.grownBy w' v.ownBlock
  own : ∀ b, v'.ownBlock = some b → v.ownBlock = some b ∨ w.heap.size ≤ b
theorem Grew.refl (w : World) (v : Value) : Grew w w v v := ⟨⟨rfl, rfl, rfl, Nat.le_refl _, fun _ _ _ => rfl⟩, fun _ h => .inl h⟩
theorem Grew.trans {a b c : World} {u v x : Value} (h : Grew a b u v) (k : Grew b c v x) : Grew a c u x := by
  refine ⟨⟨k.by_.os.trans h.by_.os, k.by_.tape.trans h.by_.tape, k.by_.output.trans h.by_.output, Nat.le_trans h.by_.size k.by_.size, fun q hq hn => ?_⟩, fun q hq => ?_⟩
  · rw [k.by_.block q (Nat.lt_of_lt_of_le hq h.by_.size) (fun e => ?_), h.by_.block q hq hn]
    rcases h.own q e.symm with h1 | h1
    · exact hn h1.symm
    · omega
  · rcases k.own q hq with h1 | h1
    · exact h.own q h1
    · exact .inr (Nat.le_trans h.by_.size h1)
theorem Grew.size {w w' : World} {v v' : Value} (h : Grew w w' v v') : w.heap.size ≤ w'.heap.size := h.by_.size
/-- a world that kept everything -/
theorem Grew.kept {w w' : World} {v : Value} (h : Kept w w') : Grew w w' v v :=
  ⟨⟨h.os, h.tape, h.output, h.size, fun b hb _ => h.block b hb⟩, fun _ e => .inl e⟩
/-- a block that is not the row -/
theorem Grew.blk {w w' : World} {v v' : Value} {g : Nat} {t : TypeId} {cs : Array Value} (h : Grew w w' v v') (hb : Blk w g t cs) (hn : some g ≠ v.ownBlock) : Blk w' g t cs :=
  (h.by_.block g hb.lt hn).trans hb
theorem Grew.cell {w w' : World} {v v' : Value} {b o : Nat} {u : Value} (h : Grew w w' v v') (hb : b < w.heap.size) (hn : some b ≠ v.ownBlock) (hc : w.cell? ⟨b, o, none⟩ = some u) : w'.cell? ⟨b, o, none⟩ = some u := by
  rw [World.cell?_of_block (a := ⟨b, o, none⟩) (h.by_.block b hb hn)]; exact hc
/-- below a base that the row lies above everything is kept -/
theorem Grew.below {w0 w w' : World} {v v' : Value} (h : Grew w w' v v') (hk : Kept w0 w) (hv : ∀ b, v.ownBlock = some b → w0.heap.size ≤ b) : Kept w0 w' := by
  refine ⟨h.by_.os.trans hk.os, h.by_.tape.trans hk.tape, h.by_.output.trans hk.output, Nat.le_trans hk.size h.by_.size, fun b hb => ?_⟩
  rw [h.by_.block b (Nat.lt_of_lt_of_le hb hk.size) (fun e => by have := hv b e.symm; omega)]
  exact hk.block b hb
section
variable {α : Type} {f : α → List Value} {k : Nat} {w : World} {B : Nat} {e : TypeId}
theorem GathR.owned {v : Value} {xs : List α} (h : GathR w B e f k v xs) {b : Nat} (hb : v.ownBlock = some b) : B ≤ b ∧ b < w.heap.size := by
  rcases h.2 with ⟨rfl, _⟩ | ⟨g, cap, cur, rfl, hB, hg, _⟩
  · cases hb
  · obtain rfl : g = b := Option.some.inj hb
    exact ⟨hB, (Array.getElem?_eq_some_iff.1 hg).1⟩
theorem GathR.form {v : Value} {xs : List α} (h : GathR w B e f k v xs) : ∃ A cap, v = .slice A xs.length cap ∧ xs.length ≤ cap ∧ cap ≤ maxLen := by
  rcases h.2 with ⟨rfl, hn⟩ | ⟨g, cap, cur, rfl, _, _, h1, h2, _⟩
  · exact ⟨none, 0, by rw [hn], by omega, by unfold maxLen; omega⟩
  · exact ⟨_, cap, rfl, h1, h2⟩
/-- a shorter slice of the same row -/
theorem GathR.take {A : Option Addr} {n cap : Nat} {xs : List α} (hf : ∀ x, (f x).length = k) (h : GathR w B e f k (.slice A n cap) xs) {m : Nat} (hm : m ≤ n) : GathR w B e f k (.slice A m cap) (xs.take m) := by
  have hlen : xs.length = n := by
    obtain ⟨_, _, hv, _⟩ := h.form
    simp only [Value.slice.injEq] at hv
    exact hv.2.1.symm
  have hfl : ∀ l : List α, (l.flatMap f).length = l.length * k := by
    intro l
    induction l with
    | nil => simp
    | cons a t ih => rw [List.flatMap_cons, List.length_append, hf, ih, List.length_cons, Nat.succ_mul]; omega
  have hlt : (xs.take m).length = m := by rw [List.length_take]; omega
  refine ⟨by rw [hfl, hlt], ?_⟩
  rw [hlt]
  rcases h.2 with ⟨hv, hn⟩ | ⟨g, cap', cur, hv, hB, hg, h1, h2, h3, h4⟩
  · simp only [Value.slice.injEq] at hv
    obtain ⟨rfl, rfl, rfl⟩ := hv
    exact .inl ⟨by rw [show m = 0 by omega], by omega⟩
  · simp only [Value.slice.injEq] at hv
    obtain ⟨rfl, hn, rfl⟩ := hv
    refine .inr ⟨g, cap, cur, rfl, hB, hg, by omega, h2, h3, ?_⟩
    have hle : m * k ≤ xs.length * k := Nat.mul_le_mul_right k (by omega)
    have e1 : cur.toList.take (m * k) = (xs.flatMap f).take (m * k) := by
      rw [← h4, List.take_take, Nat.min_eq_left hle]
    rw [e1]
    conv => lhs; rw [← List.take_append_drop m xs, List.flatMap_append]
    rw [List.take_append_of_le_length (by rw [hfl, hlt]; exact Nat.le_refl _), List.take_of_length_le (by rw [hfl, hlt]; exact Nat.le_refl _)]
/-- a cell of the row is set -/
theorem GathR.setc {v : Value} {xs ys : List α} {g o : Nat} {u : Value} (h : GathR w B e f k v xs) (hv : v.ownBlock = some g) (hl : ys.length = xs.length) (hys : ys.flatMap f = (xs.flatMap f).set o u) : GathR (w.setCell ⟨g, o, none⟩ u) B e f k v ys := by
  refine ⟨by rw [hys, List.length_set, hl]; exact h.1, ?_⟩
  rw [hl]
  rcases h.2 with ⟨rfl, _⟩ | ⟨g', cap, cur, rfl, hB, hg, h1, h2, h3, h4⟩
  · cases hv
  · obtain rfl : g' = g := Option.some.inj hv
    refine .inr ⟨g', cap, cur.setIfInBounds o u, rfl, hB, ?_, h1, h2, by rw [Array.size_setIfInBounds]; exact h3, ?_⟩
    · simp [World.setCell, Array.getElem?_modify, hg]
    · rw [Array.toList_setIfInBounds, List.take_set, h4, hys]
theorem Grew.setCell {w w' : World} {v v' : Value} {g o : Nat} {u : Value} (h : Grew w w' v v') (hg : v'.ownBlock = some g) : Grew w (w'.setCell ⟨g, o, none⟩ u) v v' := by
  refine ⟨⟨h.by_.os, h.by_.tape, h.by_.output, by simpa using h.by_.size, fun b hb hn => ?_⟩, h.own⟩
  rw [← h.by_.block b hb hn]
  refine Below.heap_setCell w' _ u b (fun e => ?_)
  simp only at e
  subst e
  rcases h.own b hg with h1 | h1
  · exact hn h1.symm
  · omega
end
end Go.Proofs.YtdnjfpmngnkcfaaGreatDoor
