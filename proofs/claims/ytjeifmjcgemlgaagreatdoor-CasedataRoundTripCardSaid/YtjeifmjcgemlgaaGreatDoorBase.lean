/- Words and small lemmas for the walks of this seat: results, slices of integers that came in, quiet calls. -/
import Derived.Test.YtjeifmjcgemlgaaGreatDoorRows
import Derived.WalkKit
import Derived.WalkSpells
import Derived.WalkLawsBesides
import Derived.Lib.Hide
import Derived.Deep.QuietTactic
import Derived.BigQuiet
import Derived.Below
import Derived.Laws.OwnMore
import Derived.Deep.AppendLies
import Derived.Deep.Draws
import Derived.Deep.RegionHeld3
import Derived.Deep.RegionWith
import Derived.IntWalk
namespace Go.Proofs.YtjeifmjcgemlgaaGreatDoor
open Go.RowKit

theorem ret_bool {a b : Bool} (h : a = b) : Ending.returned (.bool a) = .returned (.bool b) := by rw [h]
theorem ret_int {k : IntKind} {a b : Int} (h : a = b) : Ending.returned (.int k a) = .returned (.int k b) := by rw [h]
theorem ret_int2 {k l : IntKind} {a b c d : Int} (h : a = b) (h2 : c = d) : Ending.returned (.tuple #[.int k a, .int l c]) = .returned (.tuple #[.int k b, .int l d]) := by rw [h, h2]
theorem ret_val {a b : Value} (h : a = b) : Ending.returned a = .returned b := by rw [h]

theorem quiet_l {P : Program} {f : FuncId} {args : Array Value} {w : World} {v : Value}
    (h : Calls P f args w fun e w' => e = .returned v ∧ w = w') : Calls P f args w fun e w'' => e = .returned v ∧ w'' = w :=
  h.mono fun _ _ ⟨he, hm⟩ => ⟨he, hm.symm⟩

theorem block_of_add (a : Addr) (n : Nat) : (a.add n).block = a.block := by unfold Addr.add; split <;> rfl
theorem add_of_add (a : Addr) (i j : Nat) : (a.add i).add j = a.add (i + j) := by
  unfold Addr.add
  by_cases hi : i = 0 <;> by_cases hj : j = 0 <;> simp [hi, hj, Nat.add_assoc]

/-- below the heap's own size the world is as it was: what each call here leaves -/
def Kept (w w' : World) : Prop := Below w.heap.size w w'
theorem Kept.refl (w : World) : Kept w w := Below.refl _ _
theorem Kept.trans {a b c : World} (h : Kept a b) (k : Kept b c) : Kept a c := Below.trans h (Below.mono k h.size)
theorem Kept.alloc {a b : World} (h : Kept a b) (o : Obj) : Kept a (b.alloc o) := Below.alloc h h.size o
theorem Kept.drew {a b : World} (h : Kept a b) : Kept a b.drew := Below.drew h
theorem Kept.drewN {a b : World} (h : Kept a b) (n : Nat) : Kept a (b.drewN n) := ⟨h.os, h.tape, h.output, h.size, h.block⟩
theorem Kept.setCell {a b : World} (h : Kept a b) {p : Addr} (hp : a.heap.size ≤ p.block) (u : Value) : Kept a (b.setCell p u) := Below.setCell h hp u
theorem Kept.cell {w w' : World} (h : Kept w w') {p : Addr} {v : Value} (hb : p.block < w.heap.size) (hc : w.cell? p = some v) : w'.cell? p = some v := (Below.cell h hb).trans hc
/-- all old cells and all old marks read as before -/
theorem Kept.cells {W w1 : World} (hb : Kept W w1) : (∀ b o, b < W.heap.size → w1.cell? ⟨b, o, none⟩ = W.cell? ⟨b, o, none⟩) ∧ (∀ b o, b < W.heap.size → w1.frozen? ⟨b, o, none⟩ = W.frozen? ⟨b, o, none⟩) :=
  ⟨fun b o h => Below.cell hb (p := ⟨b, o, none⟩) h, fun b o h => Below.frozen hb (p := ⟨b, o, none⟩) h⟩

/-- one box laid at the call's head -/
theorem Kept.boxes1 {w W : World} {c1 : Array Value} {t1 : TypeId} (h : Kept (w.alloc (.cells c1 t1)) W) :
    (∀ i, W.cell? ⟨w.heap.size, i, none⟩ = c1[i]?) ∧ w.heap.size < W.heap.size := by
  refine ⟨fun i => ?_, ?_⟩
  · rw [Below.cell h (p := ⟨w.heap.size, i, none⟩) (by simp)]
    exact World.cell?_alloc_at c1 t1 _ i rfl
  · have := h.size; simp at this; omega
/-- two boxes laid at the call's head -/
theorem Kept.boxes2 {w W : World} {c1 c2 : Array Value} {t1 t2 : TypeId} (h : Kept ((w.alloc (.cells c1 t1)).alloc (.cells c2 t2)) W) :
    (∀ i, W.cell? ⟨w.heap.size, i, none⟩ = c1[i]?) ∧ (∀ i, W.cell? ⟨w.heap.size + 1, i, none⟩ = c2[i]?) ∧ w.heap.size + 1 < W.heap.size := by
  refine ⟨fun i => ?_, fun i => ?_, ?_⟩
  · rw [Below.cell h (p := ⟨w.heap.size, i, none⟩) (by simp; omega)]
    rw [World.cell?_alloc_past _ _ _ (by simp), World.cell?_alloc_at c1 t1 _ i rfl]
  · rw [Below.cell h (p := ⟨w.heap.size + 1, i, none⟩) (by simp)]
    exact World.cell?_alloc_at c2 t2 _ i (by simp)
  · have := h.size; simp at this; omega

/-- block g is just the cells cs of element type t, none frozen -/
def Blk (w : World) (g : Nat) (t : TypeId) (cs : Array Value) : Prop := w.heap[g]? = some (.cells cs t (0, 0))
section
variable {w w' : World} {g : Nat} {t : TypeId} {cs : Array Value}
theorem Blk.lt (h : Blk w g t cs) : g < w.heap.size := by
  rcases Nat.lt_or_ge g w.heap.size with hlt | hge
  · exact hlt
  · unfold Blk at h; rw [Array.getElem?_eq_none hge] at h; cases h
theorem Blk.cell (h : Blk w g t cs) (i : Nat) : w.cell? ⟨g, i, none⟩ = cs[i]? := cell_of_row w g i cs t (0, 0) h
theorem Blk.frozen (h : Blk w g t cs) (i : Nat) : w.frozen? ⟨g, i, none⟩ = false := by
  unfold Blk at h
  simp [World.frozen?, h]
theorem Blk.new (w : World) (t : TypeId) (cs : Array Value) : Blk (w.alloc (.cells cs t)) w.heap.size t cs := heap_alloc_new w _
theorem Blk.drew (h : Blk w g t cs) : Blk w.drew g t cs := h
theorem Blk.drewN (h : Blk w g t cs) (n : Nat) : Blk (w.drewN n) g t cs := h
theorem Blk.alloc (h : Blk w g t cs) (o : Obj) : Blk (w.alloc o) g t cs := (Below.heap_alloc w o g h.lt).trans h
theorem Blk.set_ (h : Blk w g t cs) (i : Nat) (u : Value) : Blk (w.setCell ⟨g, i, none⟩ u) g t (cs.setIfInBounds i u) := by
  unfold Blk at h ⊢
  simp [World.setCell, Array.getElem?_modify, h]
theorem Blk.far (h : Blk w g t cs) {p : Addr} (hp : g ≠ p.block) (u : Value) : Blk (w.setCell p u) g t cs := (Below.heap_setCell w p u g hp).trans h
theorem Blk.kept (h : Blk w g t cs) (hb : Kept w w') : Blk w' g t cs := (hb.block g h.lt).trans h
end

/-! A region that draws its order, whose loads lie in old memory and whose callees leave old memory alone: one walk in the order of the text. -/
structure KW (w : World) where
  W : World
  h : Kept w W
instance (w : World) : Nonempty (KW w) := ⟨⟨w, Kept.refl w⟩⟩
theorem wp_region_kept {P : Program} {id : Nat} {Q : Exit → Act → World → Prop} {a : Act} {w : World} {l : List Oper} (hm : P.follows .mixedOrders = true) (hB : Region.lexB .any l.toArray = true)
    (h : wpQuiet P l.toArray (fun w' => ∃ x : KW w, w' = x.W) (fun a' => ∀ w', (∃ x : KW w, w' = x.W) → Q .normal a' w') l a) : (Code.region id l.toArray true).wp P Q a w :=
  wp_region_quiet (C := fun w' => ∃ x : KW w, w' = x.W) hm hB ⟨⟨w.drew, (Kept.refl w).drew⟩, rfl⟩ (by simpa using h)
theorem KW.call {P : Program} {f : FuncId} {args : Array Value} {w : World} {x : KW w} {v : Value}
    (h : Calls P f args x.W fun e w' => e = .returned v ∧ Kept x.W w') : Calls P f args x.W fun e w'' => e = .returned v ∧ ∃ y : KW w, w'' = y.W :=
  h.mono fun _ w' ⟨he, hk⟩ => ⟨he, ⟨w', x.h.trans hk⟩, rfl⟩
theorem KW.pure {P : Program} {f : FuncId} {args : Array Value} {w : World} {x : KW w} {v : Value}
    (h : Calls P f args x.W fun e w' => e = .returned v ∧ x.W = w') : Calls P f args x.W fun e w'' => e = .returned v ∧ ∃ y : KW w, w'' = y.W :=
  h.mono fun _ w' ⟨he, hk⟩ => ⟨he, ⟨w', hk ▸ x.h⟩, rfl⟩
theorem KW.cell {w : World} {b o : Nat} {v : Value} (hb : b < w.heap.size) (hc : w.cell? ⟨b, o, none⟩ = some v) (x : KW w) : x.W.cell? ⟨b, o, none⟩ = some v := x.h.cell (p := ⟨b, o, none⟩) hb hc

/-- a slice of integers reads as xs (nil let in) -/
def Ints (w : World) (A : Option Addr) (n : Nat) (xs : List Int) : Prop :=
  xs.length = n ∧ (0 < n → ∃ b off, A = some ⟨b, off, none⟩ ∧ b < w.heap.size ∧ ∀ j, j < n → w.cell? ⟨b, off + j, none⟩ = some (.int .i64 (xs[j]?.getD 0)))
theorem Ints.kept {w w' : World} {A : Option Addr} {n : Nat} {xs : List Int} (h : Ints w A n xs) (hb : Kept w w') : Ints w' A n xs := by
  refine ⟨h.1, fun hn => ?_⟩
  obtain ⟨b, off, hA, hlt, hc⟩ := h.2 hn
  exact ⟨b, off, hA, Nat.lt_of_lt_of_le hlt hb.size, fun j hj => hb.cell (p := ⟨b, off + j, none⟩) hlt (hc j hj)⟩
theorem Ints.alloc {w : World} {A : Option Addr} {n : Nat} {xs : List Int} (h : Ints w A n xs) (o : Obj) : Ints (w.alloc o) A n xs :=
  h.kept ((Kept.refl _).alloc o)
theorem Ints.drew {w : World} {A : Option Addr} {n : Nat} {xs : List Int} (h : Ints w A n xs) : Ints w.drew A n xs := h
theorem Ints.drewN {w : World} {A : Option Addr} {n : Nat} {xs : List Int} (h : Ints w A n xs) (k : Nat) : Ints (w.drewN k) A n xs := h
theorem Ints.at_ {w : World} {A : Option Addr} {n : Nat} {xs : List Int} (h : Ints w A n xs) {k : Nat} (hk : k < n) :
    ∃ b off, A = some ⟨b, off, none⟩ ∧ b < w.heap.size ∧ ∀ j, j < n → w.cell? ⟨b, off + j, none⟩ = some (.int .i64 (xs[j]?.getD 0)) := h.2 (by omega)
end Go.Proofs.YtjeifmjcgemlgaaGreatDoor
