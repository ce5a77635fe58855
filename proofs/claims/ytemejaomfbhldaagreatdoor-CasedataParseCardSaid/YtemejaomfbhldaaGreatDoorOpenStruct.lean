/- Structs and arrays that came in, opened field by field. -/
import Derived.Test.YtemejaomfbhldaaGreatDoorFrame
namespace Go.Proofs.YtemejaomfbhldaaGreatDoor
open Go.ChangeShapes Go.WideShapes Go.ChangeAt Go.RowKit Go.Joins
section
variable {H : Type} {enc : TypeId × Value → H} {w : World}
/-- the reading of an aggregate's cells -/
abbrev Reads (enc : TypeId × Value → H) (w : World) (t : TypeId) (cs : List Value) : Prop := ∃ fuel x, DataW.trod enc Tryz.prog w 0 (fun _ => true) true fuel t cs = some x
theorem Reads.field {t : TypeId} {fs : Array Field} {cs : List Value} (ht : Tryz.prog.underlying t = some (.struct fs)) (h : Reads enc w t cs) (i : Nat) (f : Field) (hf : fs[i]? = some f) :
    Reads enc w f.type ((cs.drop f.offset).take (Tryz.prog.cellsOf f.type)) := by
  obtain ⟨fuel, x, h⟩ := h
  obtain ⟨xs, n, _, _, _, hl, hg⟩ := DataW.trod_struct ht h
  have hi : i < fs.size := (Array.getElem?_eq_some_iff.1 hf).1
  have := hg i f hf
  rw [List.getElem?_eq_getElem (by omega)] at this
  exact ⟨n, _, this⟩
theorem Reads.length {t : TypeId} {fs : Array Field} {cs : List Value} (ht : Tryz.prog.underlying t = some (.struct fs)) (h : Reads enc w t cs) : cs.length = Tryz.prog.cellsOf t := by
  obtain ⟨fuel, x, h⟩ := h
  obtain ⟨xs, n, _, _, hl, _, _⟩ := DataW.trod_struct ht h
  exact hl
theorem Reads.elem {t e : TypeId} {n : Nat} {cs : List Value} (ht : Tryz.prog.underlying t = some (.array n e)) (h : Reads enc w t cs) (i : Nat) (hi : i < n) :
    Reads enc w e ((cs.drop (i * Tryz.prog.cellsOf e)).take (Tryz.prog.cellsOf e)) := by
  obtain ⟨fuel, x, h⟩ := h
  obtain ⟨xs, m, _, _, _, hl, hg⟩ := DataW.trod_array ht h
  have := hg i hi
  rw [List.getElem?_eq_getElem (by omega)] at this
  exact ⟨m, _, this⟩
theorem Reads.lengthA {t e : TypeId} {n : Nat} {cs : List Value} (ht : Tryz.prog.underlying t = some (.array n e)) (h : Reads enc w t cs) : cs.length = Tryz.prog.cellsOf t := by
  obtain ⟨fuel, x, h⟩ := h
  obtain ⟨xs, m, _, _, hl, _, _⟩ := DataW.trod_array ht h
  exact hl
theorem Reads.int {cs : List Value} (h : Reads enc w 3 cs) : ∃ n, cs = [.int .i64 n] ∧ (Lit.int .i64 n).wf = true := by
  obtain ⟨fuel, x, h⟩ := h
  obtain ⟨n, e, _, hw⟩ := DataW.trod_int Tryz.underlying3 h
  exact ⟨n, e, hw⟩
theorem cellInt : Tryz.prog.cellsOf 3 = 1 := by kernel_rfl
theorem Reads.of {t : TypeId} {cs : Array Value} {d : DataW H} {p : List MemPlace} (h : DataW.Trod enc Tryz.prog w 0 (fun _ => true) true t (.agg cs) d p) : Reads enc w t cs.toList := by
  obtain ⟨fuel, hf⟩ := h
  exact ⟨fuel, _, hf⟩
/-- a field of whatever type -/
theorem Reads.sub {t : TypeId} {fs : Array Field} {cs : List Value} (ht : Tryz.prog.underlying t = some (.struct fs)) (h : Reads enc w t cs) (i o k : Nat) (T : TypeId) (f : Field) (hf : fs[i]? = some f) (ho : f.offset = o) (hT : f.type = T)
    (hk : Tryz.prog.cellsOf T = k) : Reads enc w T ((cs.drop o).take k) := by
  have := h.field ht i f hf
  rw [hT, hk, ho] at this
  exact this
set_option maxRecDepth 100000 in
theorem okWide_arr {t e : TypeId} {n base : Nat} {v : Value} (ht : Tryz.prog.underlying t = some (.array n e)) (h : Value.okWide Tryz.prog w .any base t v) : ∃ cs, v = .agg cs ∧ cs.size = Tryz.prog.cellsOf t := by
  simp only [Value.okWide, ht] at h
  obtain ⟨cs, h1, h2, _⟩ := h
  exact ⟨cs, h1, h2⟩
set_option maxRecDepth 100000 in
/-- the i-th cell, behind the field that is an int -/
theorem Reads.intAt {t : TypeId} {fs : Array Field} {cs : List Value} (ht : Tryz.prog.underlying t = some (.struct fs)) (h : Reads enc w t cs) (i o : Nat) (f : Field) (hf : fs[i]? = some f) (ho : f.offset = o) (hi : f.type = 3) :
    ∃ n, cs[o]? = some (.int .i64 n) ∧ (Lit.int .i64 n).wf = true := by
  have h1 := h.field ht i f hf
  rw [hi, cellInt, ho] at h1
  obtain ⟨n, e, hw⟩ := h1.int
  refine ⟨n, ?_, hw⟩
  have : ((cs.drop o).take 1)[0]? = some (.int .i64 n) := by rw [e]; rfl
  simpa using this
theorem Reads.intElem {t : TypeId} {n : Nat} {cs : List Value} (ht : Tryz.prog.underlying t = some (.array n 3)) (h : Reads enc w t cs) (i : Nat) (hi : i < n) :
    ∃ k, cs[i]? = some (.int .i64 k) ∧ (Lit.int .i64 k).wf = true := by
  have h1 := h.elem ht i hi
  rw [cellInt, Nat.mul_one] at h1
  obtain ⟨k, e, hw⟩ := h1.int
  refine ⟨k, ?_, hw⟩
  have : ((cs.drop i).take 1)[0]? = some (.int .i64 k) := by rw [e]; rfl
  simpa using this
end
end Go.Proofs.YtemejaomfbhldaaGreatDoor
