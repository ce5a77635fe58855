/- Blocks of a call's own behind its head: what lies in them. -/
import Derived.Test.YtdnjfpmngnkcfaaGreatDoorBase
namespace Go.Proofs.YtdnjfpmngnkcfaaGreatDoor
open Go.RowKit

theorem Kept.blk1 {w W : World} {c1 : Array Value} {t1 : TypeId} (h : Kept (w.alloc (.cells c1 t1)) W) : Blk W w.heap.size t1 c1 :=
  (Blk.new w t1 c1).kept h
theorem Kept.blk2 {w W : World} {c1 c2 : Array Value} {t1 t2 : TypeId} (h : Kept ((w.alloc (.cells c1 t1)).alloc (.cells c2 t2)) W) :
    Blk W w.heap.size t1 c1 ∧ Blk W (w.heap.size + 1) t2 c2 :=
  ⟨((Blk.new w t1 c1).alloc _).kept h, by have := (Blk.new (w.alloc (.cells c1 t1)) t2 c2).kept h; rwa [World.size_alloc] at this⟩
theorem Kept.blk3 {w W : World} {c1 c2 c3 : Array Value} {t1 t2 t3 : TypeId} (h : Kept (((w.alloc (.cells c1 t1)).alloc (.cells c2 t2)).alloc (.cells c3 t3)) W) :
    Blk W w.heap.size t1 c1 ∧ Blk W (w.heap.size + 1) t2 c2 ∧ Blk W (w.heap.size + 2) t3 c3 :=
  ⟨(((Blk.new w t1 c1).alloc _).alloc _).kept h, by have := ((Blk.new (w.alloc (.cells c1 t1)) t2 c2).alloc (.cells c3 t3)).kept h; rwa [World.size_alloc] at this,
    by have := (Blk.new ((w.alloc (.cells c1 t1)).alloc (.cells c2 t2)) t3 c3).kept h; rwa [World.size_alloc, World.size_alloc] at this⟩
theorem Kept.blk4 {w W : World} {c1 c2 c3 c4 : Array Value} {t1 t2 t3 t4 : TypeId} (h : Kept ((((w.alloc (.cells c1 t1)).alloc (.cells c2 t2)).alloc (.cells c3 t3)).alloc (.cells c4 t4)) W) :
    Blk W w.heap.size t1 c1 ∧ Blk W (w.heap.size + 1) t2 c2 ∧ Blk W (w.heap.size + 2) t3 c3 ∧ Blk W (w.heap.size + 3) t4 c4 :=
  ⟨((((Blk.new w t1 c1).alloc _).alloc _).alloc _).kept h, by have := (((Blk.new (w.alloc (.cells c1 t1)) t2 c2).alloc (.cells c3 t3)).alloc (.cells c4 t4)).kept h; rwa [World.size_alloc] at this,
    by have := ((Blk.new ((w.alloc (.cells c1 t1)).alloc (.cells c2 t2)) t3 c3).alloc (.cells c4 t4)).kept h; rwa [World.size_alloc, World.size_alloc] at this,
    by have := (Blk.new (((w.alloc (.cells c1 t1)).alloc (.cells c2 t2)).alloc (.cells c3 t3)) t4 c4).kept h; rwa [World.size_alloc, World.size_alloc, World.size_alloc] at this⟩
theorem Kept.size_le {w W : World} (h : Kept w W) : w.heap.size ≤ W.heap.size := h.size
end Go.Proofs.YtdnjfpmngnkcfaaGreatDoor
