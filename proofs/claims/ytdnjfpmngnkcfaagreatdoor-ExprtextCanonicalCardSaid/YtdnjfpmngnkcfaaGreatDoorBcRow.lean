/- Rows of a call's own: what an append to one of them leaves of the others. -/
import Derived.Test.YtdnjfpmngnkcfaaGreatDoorBcStr
namespace Go.Proofs.YtdnjfpmngnkcfaaGreatDoor
open Go.RowKit

section
variable {α : Type} {f : α → List Value} {k : Nat} {w : World} {B : Nat} {e : TypeId}
theorem GathR.block {v : Value} {xs : List α} (h : GathR w B e f k v xs) {g : Nat} (hv : v.ownBlock = some g) : ∃ cur, w.heap[g]? = some (.cells cur e (0, 0)) := by
  rcases h.2 with ⟨rfl, _⟩ | ⟨g', cap, cur, rfl, _, hg, _⟩
  · cases hv
  · obtain rfl : g' = g := Option.some.inj hv
    exact ⟨cur, hg⟩
theorem GathR.frozen {v : Value} {xs : List α} (h : GathR w B e f k v xs) {g : Nat} (hv : v.ownBlock = some g) (i : Nat) : w.frozen? ⟨g, i, none⟩ = false := by
  obtain ⟨cur, hc⟩ := h.block hv
  simp [World.frozen?, hc]
/-- a row that is not the row that has grown -/
theorem GathR.grown {w' : World} {v : Value} {xs : List α} {row : Option Nat} (h : GathR w B e f k v xs) (hg : w.grownBy w' row) (hne : ∀ b, v.ownBlock = some b → row ≠ some b) : GathR w' B e f k v xs := by
  refine ⟨h.1, ?_⟩
  rcases h.2 with hn | ⟨g, cap, cur, rfl, hb, hc, r⟩
  · exact .inl hn
  · exact .inr ⟨g, cap, cur, rfl, hb, (hg.block g (Array.getElem?_eq_some_iff.1 hc).1 (fun e => hne g rfl e.symm)).trans hc, r⟩
/-- behind an append of a block of its own -/
theorem append_grew {wr w1 : World} {v : Value} {o : Obj} {g n cap : Nat} (hg : (wr.alloc o).grownBy w1 v.ownBlock) (hat : v.ownBlock = some g ∨ g = (wr.alloc o).heap.size) : Grew wr w1 v (.slice (some ⟨g, 0, none⟩) n cap) := by
  refine (Grew.kept ((Kept.refl wr).alloc o)).trans ⟨hg, fun b hb => ?_⟩
  obtain rfl : g = b := Option.some.inj hb
  rcases hat with h | h
  · exact .inl h
  · exact .inr (by rw [h]; exact Nat.le_refl _)
/-- the cells of a row that holds something -/
theorem GathR.cells {v : Value} {xs : List α} (hf : ∀ x, (f x).length = k) (h : GathR w B e f k v xs) (hp : 0 < xs.length) :
    ∃ g cap, v = .slice (some ⟨g, 0, none⟩) xs.length cap ∧ v.ownBlock = some g ∧ B ≤ g ∧ g < w.heap.size ∧ xs.length ≤ cap ∧ ∀ (j : Nat) (x : α), xs[j]? = some x → ∀ i u, (f x)[i]? = some u → w.cell? ⟨g, j * k + i, none⟩ = some u := by
  have hr := h.recs hf
  rcases h.2 with ⟨_, h0⟩ | ⟨g, cap, cur, rfl, hB, hg, hc, _⟩
  · omega
  · refine ⟨g, cap, rfl, rfl, hB, (Array.getElem?_eq_some_iff.1 hg).1, hc, fun j x hj i u hu => ?_⟩
    obtain ⟨A, c, hv, hx⟩ := hr
    simp only [Value.slice.injEq] at hv
    obtain ⟨rfl, _, rfl⟩ := hv
    obtain ⟨b, off, hA, _, hcc⟩ := hx hp
    simp only [Option.some.injEq, Addr.mk.injEq] at hA
    obtain ⟨rfl, rfl, _⟩ := hA
    have := hcc j x hj i u hu
    rwa [show 0 + j * k + i = j * k + i by omega] at this
end
theorem own_len (A : Option Addr) (n m c d : Nat) : (Value.slice A n c).ownBlock = (Value.slice A m d).ownBlock := by cases A <;> rfl
/-- a slice of natural numbers, read -/
theorem natR_at {w : World} {v : Value} {xs : List Nat} (h : Recs w natF 1 v xs) : ∃ A cap, v = .slice A xs.length cap ∧ (0 < xs.length → ∃ b off, A = some ⟨b, off, none⟩ ∧ b < w.heap.size ∧ ∀ (j x : Nat), xs[j]? = some x → w.cell? ⟨b, off + j, none⟩ = some (.int .i64 (x : Int))) := by
  obtain ⟨A, cap, hv, hx⟩ := h
  refine ⟨A, cap, hv, fun hp => ?_⟩
  obtain ⟨b, off, hA, hb, hc⟩ := hx hp
  refine ⟨b, off, hA, hb, fun j x hj => ?_⟩
  have := hc j x hj 0 _ rfl
  rwa [show off + j * 1 + 0 = off + j by omega] at this
end Go.Proofs.YtdnjfpmngnkcfaaGreatDoor
