/- Slices of records: what a call has gathered, and how they stay. -/
import Derived.Test.YtdnjfpmngnkcfaaGreatDoorBlks
import Derived.Lib.OthersKept
import Derived.Laws.AppendOwn
import Derived.OwnWalk
namespace Go.Proofs.YtdnjfpmngnkcfaaGreatDoor
open Go.RowKit

/-- the slice value v reads as the records xs, each of k cells -/
def Recs {α : Type} (w : World) (f : α → List Value) (k : Nat) (v : Value) (xs : List α) : Prop :=
  ∃ A cap, v = .slice A xs.length cap ∧ (0 < xs.length → ∃ b off, A = some ⟨b, off, none⟩ ∧ b < w.heap.size ∧ ∀ j x, xs[j]? = some x → ∀ i u, (f x)[i]? = some u → w.cell? ⟨b, off + j * k + i, none⟩ = some u)
section
variable {α : Type} {f : α → List Value} {k : Nat}
theorem Recs.kept {w w' : World} {v : Value} {xs : List α} (h : Recs w f k v xs) (hk : Kept w w') : Recs w' f k v xs := by
  obtain ⟨A, cap, hv, hx⟩ := h
  refine ⟨A, cap, hv, fun hp => ?_⟩
  obtain ⟨b, off, hA, hb, hc⟩ := hx hp
  exact ⟨b, off, hA, Nat.lt_of_lt_of_le hb hk.size, fun j x hj i u hu => hk.cell (p := ⟨b, off + j * k + i, none⟩) hb (hc j x hj i u hu)⟩
theorem Recs.nil (w : World) (f : α → List Value) (k : Nat) : Recs w f k (.slice none 0 0) [] := ⟨none, 0, rfl, fun h => absurd h (by simp)⟩
theorem Recs.drew {w : World} {v : Value} {xs : List α} (h : Recs w f k v xs) : Recs w.drew f k v xs := h
/-- what a call has gathered in a row of its own, of blocks from B on -/
def GathR (w : World) (B : Nat) (e : TypeId) (f : α → List Value) (k : Nat) (v : Value) (xs : List α) : Prop := w.ownsRow B e k v xs.length (xs.flatMap f)
theorem GathR.nil (w : World) (B : Nat) (e : TypeId) : GathR w B e f k (.slice none 0 0) [] := World.ownsRow_nil _ _ _ _
theorem flat_get (hf : ∀ x, (f x).length = k) : ∀ (xs : List α) (j : Nat) (x : α), xs[j]? = some x → ∀ i u, (f x)[i]? = some u → (xs.flatMap f)[j * k + i]? = some u := by
  intro xs
  induction xs with
  | nil => intro j x h; simp at h
  | cons y ys ih =>
    intro j x h i u hu
    rw [List.flatMap_cons]
    have hi : i < (f x).length := (List.getElem?_eq_some_iff.1 hu).1
    rw [hf] at hi
    cases j with
    | zero =>
      have e : y = x := Option.some.inj h
      subst e
      rw [Nat.zero_mul, Nat.zero_add, List.getElem?_append_left (by rw [hf]; exact hi)]
      exact hu
    | succ j =>
      rw [List.getElem?_append_right (by rw [hf, Nat.succ_mul]; omega), hf, show (j + 1) * k + i - k = j * k + i by rw [Nat.succ_mul]; omega]
      exact ih j x (by simpa using h) i u hu
theorem GathR.recs {w : World} {B : Nat} {e : TypeId} {v : Value} {xs : List α} (hf : ∀ x, (f x).length = k) (h : GathR w B e f k v xs) : Recs w f k v xs := by
  have h' := h
  rcases h.2 with ⟨rfl, hn⟩ | ⟨g, cap, cur, rfl, _, hg, _⟩
  · have : xs = [] := List.length_eq_zero_iff.1 hn
    subst this
    exact Recs.nil w f k
  · refine ⟨_, _, rfl, fun _ => ⟨g, 0, rfl, (Array.getElem?_eq_some_iff.1 hg).1, fun j x hj i u hu => ?_⟩⟩
    have hc := World.ownsRow.cells h' (g := g) rfl (j * k + i) u (flat_get hf xs j x hj i u hu)
    have e : (⟨g, 0, none⟩ : Addr).add (j * k + i) = ⟨g, 0 + j * k + i, none⟩ := by
      unfold Addr.add
      by_cases h0 : j * k + i = 0
      · simp only [h0, if_true]
        congr 1; omega
      · rw [if_neg h0]; simp
    rw [e] at hc
    exact hc
theorem ownGrown_kept {w0 wr w1 : World} {B : Nat} {v : Value} {e : TypeId} {size n : Nat} {xs : List Value} {o : Obj} (hK : Kept w0 wr) (hown : wr.ownsRow B e size v n xs) (hB : w0.heap.size ≤ B) (hg : (wr.alloc o).grownBy w1 v.ownBlock) : Kept w0 w1 := by
  refine ⟨hg.os.trans hK.os, hg.tape.trans hK.tape, hg.output.trans hK.output, ?_, fun b hb => ?_⟩
  · have := hK.size; have h2 := hg.size; simp at h2; omega
  · have hs := hK.size
    rw [hg.block b (by simp; omega) (fun e => by have := (World.ownsRow.lt hown b e.symm).1; omega)]
    rw [Below.heap_alloc wr o b (by omega)]
    exact hK.block b hb
theorem ownGrown_block {wr w1 : World} {B : Nat} {v : Value} {e : TypeId} {size n : Nat} {xs : List Value} {o : Obj} (hown : wr.ownsRow B e size v n xs) (hg : (wr.alloc o).grownBy w1 v.ownBlock) {j : Nat} (hj : j < wr.heap.size) (hB : j < B) : w1.heap[j]? = wr.heap[j]? := by
  rw [hg.block j (by simp; omega) (fun e => by have := (World.ownsRow.lt hown j e.symm).1; omega)]
  exact Below.heap_alloc wr o j hj
theorem ownGrown_size {wr w1 : World} {v : Value} {o : Obj} (hg : (wr.alloc o).grownBy w1 v.ownBlock) : wr.heap.size + 1 ≤ w1.heap.size := by
  have h2 := hg.size; simp at h2; omega
theorem GathR.snoc {w : World} {B : Nat} {e : TypeId} {v : Value} {xs : List α} {x : α} (h : w.ownsRow B e k v (xs.length + 1) (xs.flatMap f ++ f x)) : GathR w B e f k v (xs ++ [x]) := by
  unfold GathR
  rw [List.length_append, List.flatMap_append]
  simpa using h
theorem GathR.keptOwn {w w' : World} {B : Nat} {e : TypeId} {v : Value} {xs : List α} (h : GathR w B e f k v xs) (hk : Kept w w') : GathR w' B e f k v xs := by
  refine ⟨h.1, ?_⟩
  rcases h.2 with hn | ⟨g, cap, cur, hv, hb, hg, r⟩
  · exact .inl hn
  · exact .inr ⟨g, cap, cur, hv, hb, (hk.block g (Array.getElem?_eq_some_iff.1 hg).1).trans hg, r⟩
/-- the cells of a fresh block of one record -/
theorem blk_cells {w : World} {t : TypeId} {l : List Value} : ∀ j u, l[j]? = some u → (w.alloc (.cells l.toArray t)).cell? ((⟨w.heap.size, 0, none⟩ : Addr).add j) = some u := by
  intro j u hj
  have e : (⟨w.heap.size, 0, none⟩ : Addr).add j = ⟨w.heap.size, j, none⟩ := by
    unfold Addr.add
    by_cases h0 : j = 0
    · subst h0; rfl
    · rw [if_neg h0]; simp
  rw [e, World.cell?_alloc_at _ _ _ _ rfl]
  simpa using hj
end
end Go.Proofs.YtdnjfpmngnkcfaaGreatDoor
