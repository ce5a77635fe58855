/- Slices of strings that a call has gathered, and how they stay. -/
import Derived.Test.YtdnjfpmngnkcfaaGreatDoorStr
import Derived.Lib.OthersKept
import Derived.Laws.AppendOwn
import Derived.OwnWalk
namespace Go.Proofs.YtdnjfpmngnkcfaaGreatDoor
open Go.RowKit

/-- the slice value v reads as the strings xs -/
def Strs (w : World) (v : Value) (xs : List ByteArray) : Prop :=
  ∃ A cap, v = .slice A xs.length cap ∧ (0 < xs.length → ∃ b off, A = some ⟨b, off, none⟩ ∧ b < w.heap.size ∧ ∀ j, j < xs.length → w.cell? ⟨b, off + j, none⟩ = some (.string (xs[j]?.getD ⟨#[]⟩)))
theorem Strs.kept {w w' : World} {v : Value} {xs : List ByteArray} (h : Strs w v xs) (hk : Kept w w') : Strs w' v xs := by
  obtain ⟨A, cap, hv, hx⟩ := h
  refine ⟨A, cap, hv, fun hp => ?_⟩
  obtain ⟨b, off, hA, hb, hc⟩ := hx hp
  exact ⟨b, off, hA, Nat.lt_of_lt_of_le hb hk.size, fun j hj => hk.cell (p := ⟨b, off + j, none⟩) hb (hc j hj)⟩
theorem Strs.nil (w : World) : Strs w (.slice none 0 0) [] := ⟨none, 0, rfl, fun h => absurd h (by decide)⟩
/-- what a call has gathered in a row of its own, of blocks from B on -/
def Gath (w : World) (B : Nat) (v : Value) (xs : List ByteArray) : Prop := w.ownsRow B 9 1 v xs.length (xs.map Value.string)
theorem Gath.nil (w : World) (B : Nat) : Gath w B (.slice none 0 0) [] := World.ownsRow_nil _ _ _ _
theorem Gath.strs {w : World} {B : Nat} {v : Value} {xs : List ByteArray} (h : Gath w B v xs) : Strs w v xs := by
  have h' := h
  rcases h.2 with ⟨rfl, hn⟩ | ⟨g, cap, cur, rfl, _, hg, _⟩
  · have : xs = [] := List.length_eq_zero_iff.1 hn
    subst this
    exact Strs.nil w
  · refine ⟨_, _, rfl, fun _ => ⟨g, 0, rfl, (Array.getElem?_eq_some_iff.1 hg).1, fun j hj => ?_⟩⟩
    have hc := World.ownsRow.cells h' (g := g) rfl j (.string (xs[j]?.getD ⟨#[]⟩)) (by
      rw [List.getElem?_map, List.getElem?_eq_getElem hj]; rfl)
    have e : (⟨g, 0, none⟩ : Addr).add j = ⟨g, 0 + j, none⟩ := by
      unfold Addr.add
      by_cases hj0 : j = 0
      · subst hj0; rfl
      · simp [hj0]
    rw [e] at hc
    exact hc
theorem Gath.iterAt {w : World} {k : Nat} {v : Value} {xs : List ByteArray} (h : Gath w (k + 1) v xs) (s : ByteArray) (p : Nat) : Gath (w.iterAt k s p) (k + 1) v xs := by
  refine ⟨h.1, ?_⟩
  rcases h.2 with hn | ⟨g, cap, cur, hv, hb, hg, r⟩
  · exact .inl hn
  · exact .inr ⟨g, cap, cur, hv, hb, (Lib.iterAt_other w k g s p (by omega)).trans hg, r⟩
theorem grown_kept {w0 wr w1 : World} {B : Nat} {v : Value} {xs : List ByteArray} {o : Obj} (hK : Kept w0 wr) (hown : Gath wr B v xs) (hB : w0.heap.size ≤ B) (hg : (wr.alloc o).grownBy w1 v.ownBlock) : Kept w0 w1 := by
  refine ⟨hg.os.trans hK.os, hg.tape.trans hK.tape, hg.output.trans hK.output, ?_, fun b hb => ?_⟩
  · have := hK.size; have h2 := hg.size; simp at h2; omega
  · have hs := hK.size
    rw [hg.block b (by simp; omega) (fun e => by have := (World.ownsRow.lt hown b e.symm).1; omega)]
    rw [Below.heap_alloc wr o b (by omega)]
    exact hK.block b hb
theorem grown_block {wr w1 : World} {B : Nat} {v : Value} {xs : List ByteArray} {o : Obj} (hown : Gath wr B v xs) (hg : (wr.alloc o).grownBy w1 v.ownBlock) {k : Nat} (hk : k < wr.heap.size) (hB : k < B) : w1.heap[k]? = wr.heap[k]? := by
  rw [hg.block k (by simp; omega) (fun e => by have := (World.ownsRow.lt hown k e.symm).1; omega)]
  exact Below.heap_alloc wr o k hk
theorem grown_size {wr w1 : World} {v : Value} {o : Obj} (hg : (wr.alloc o).grownBy w1 v.ownBlock) : wr.heap.size + 1 ≤ w1.heap.size := by
  have h2 := hg.size; simp at h2; omega
theorem iterPos_of {w : World} {k : Nat} {s : ByteArray} {p : Nat} (h : w.heap[k]? = some (.stringIter s p)) : w.iterPos k = p := by
  unfold World.iterPos; rw [h]
theorem Gath.fresh (w : World) (B : Nat) (hB : B ≤ w.heap.size) : Gath (w.alloc (.cells #[] 9)) B (.slice (some ⟨w.heap.size, 0, none⟩) 0 0) [] :=
  ⟨rfl, .inr ⟨w.heap.size, 0, #[], rfl, hB, heap_alloc_new w _, Nat.le_refl _, by decide, rfl, rfl⟩⟩
theorem Gath.snoc {w : World} {B : Nat} {v : Value} {xs : List ByteArray} {x : ByteArray} (h : w.ownsRow B 9 1 v (xs.length + 1) (xs.map Value.string ++ [.string x])) : Gath w B v (xs ++ [x]) := by
  unfold Gath
  rw [List.length_append, List.map_append]
  exact h
theorem Tryz.infoStr : (Tryz.prog.info? 9).map (fun i => (i.zero, i.size, i.bytes)) = some (some (.string ⟨#[]⟩), 1, 16) := by kernel_rfl
theorem one_cell {w : World} {s : ByteArray} {t : TypeId} : ∀ j u, [Value.string s][j]? = some u → (w.alloc (.cells #[.string s] t)).cell? ((⟨w.heap.size, 0, none⟩ : Addr).add j) = some u := by
  intro j u hj
  match j, hj with
  | 0, hj => simp at hj; subst hj; simp [Addr.add]
theorem one_cell' {s : ByteArray} : ∀ u ∈ [Value.string s], u.oneCell' = true := by
  intro u hu; simp at hu; subst hu; rfl
end Go.Proofs.YtdnjfpmngnkcfaaGreatDoor
