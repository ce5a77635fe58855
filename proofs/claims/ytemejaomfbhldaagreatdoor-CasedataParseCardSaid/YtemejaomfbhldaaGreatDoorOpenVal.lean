/- Types, values and lists of enumerations that came in, opened. -/
import Derived.Test.YtemejaomfbhldaaGreatDoorOpenStruct
import Derived.Test.YtemejaomfbhldaaGreatDoorEnums
import Derived.Deep.Slices
import Derived.Deep.Fields
import Derived.ChangeSame
namespace Go.Proofs.YtemejaomfbhldaaGreatDoor
open Go.ChangeShapes Go.WideShapes Go.ChangeAt Go.RowKit Go.Joins Go.Deep
section
variable {H : Type} {enc : TypeId × Value → H} {P : Program} {w : World} {base : Nat} {spare : Nat → Bool} {held : Bool}
theorem open_slice_fieldsV {t e : TypeId} {fs : Array Field} {fuel : Nat} {cs : List Value} {x : DataW H × List MemPlace} (ht : P.underlying t = some (.slice e)) (he : P.underlying e = some (.struct fs))
    (hone : oneCellFields P fs = true) (hC : P.cellsOf e = fs.size) (h : DataW.trod enc P w base spare held fuel t cs = some x) :
    (cs = [.slice none 0 0] ∧ x = (.nil, [])) ∨
    ∃ (a : Addr) (len cap m : Nat), cs = [.slice (some a) len cap] ∧ len ≤ cap ∧ cap ≤ maxLen ∧ m = (if spare a.block then cap else len) ∧
      ∀ i, i < m → ∀ (j : Nat) (f : Field), fs[j]? = some f → ∃ (v : Value) (y : DataW H × List MemPlace) (n : Nat), w.cell? (a.add (i * fs.size + j)) = some v ∧ DataW.trod enc P w base spare held n f.type [v] = some y := by
  rcases open_slice ht h with h0 | ⟨a, len, cap, m, n, D, Pl, hcs, hb, hl, hm, hmm, hx, hi⟩
  · exact .inl h0
  · refine .inr ⟨a, len, cap, m, hcs, hl, hm, hmm, fun i him j f hj => ?_⟩
    obtain ⟨cs', hc, ht'⟩ := hi i him
    rw [hC] at hc
    obtain ⟨ys, n', hn', hy, hlen, hyl, hf⟩ := DataW.trod_struct he ht'
    obtain ⟨_, hcl, hat⟩ := World.cells?_some hc
    obtain ⟨ho, hk⟩ := hone_of hone j f hj
    have hjl : j < fs.size := (Array.getElem?_eq_some_iff.1 hj).1
    have hcell := hat j hjl
    have hv : cs'[j]? = some (cs'[j]'(by omega)) := List.getElem?_eq_getElem (by omega)
    have h1 := hf j f hj
    rw [ho, hk] at h1
    have hone' : (cs'.drop j).take 1 = [cs'[j]'(by omega)] := by
      rw [List.drop_eq_getElem_cons (by omega)]
      rfl
    rw [hone'] at h1
    have hys : ys[j]? = some (ys[j]'(by omega)) := List.getElem?_eq_getElem (by omega)
    refine ⟨_, _, _, ?_, h1.trans hys⟩
    rw [← Go.Deep.add_add, hcell, hv]
end
section
variable {H : Type} {enc : TypeId × Value → H} {w : World}
set_option maxRecDepth 100000 in
/-- a slice of strings, read -/
theorem open_strs {t e : TypeId} {fuel : Nat} {cs : List Value} {x : DataW H × List MemPlace} (ht : Tryz.prog.underlying t = some (.slice e)) (he : Tryz.prog.underlying e = some .string) (hC : Tryz.prog.cellsOf e = 1)
    (h : DataW.trod enc Tryz.prog w 0 (fun _ => true) true fuel t cs = some x) : ∃ (v : Value) (xs : List ByteArray), cs = [v] ∧ Strs w v xs ∧ xs.length ≤ maxLen := by
  rcases open_slice ht h with ⟨hcs, _⟩ | ⟨a, len, cap, m, n, D, Pl, hcs, hb, hl, hm, hmm, hx, hi⟩
  · exact ⟨_, [], hcs, Strs.nil w, by simp⟩
  · simp only [if_true] at hmm
    subst hmm
    have hex : ∀ i, i < len → ∃ s : ByteArray, w.cell? (a.add i) = some (.string s) := by
      intro i hil
      obtain ⟨cs', hc, ht'⟩ := hi i (by omega)
      rw [hC] at hc
      obtain ⟨s, e1, _, _⟩ := DataW.trod_string he ht'
      obtain ⟨_, hcl, hat⟩ := World.cells?_some hc
      have h0 := hat 0 (by omega)
      rw [e1] at h0
      refine ⟨s, ?_⟩
      have ea : (a.add (i * 1)).add 0 = a.add i := by rw [Nat.mul_one]; unfold Addr.add; simp
      rw [ea] at h0
      simpa using h0
    obtain ⟨f, hf'⟩ := Classical.axiomOfChoice (r := fun (i : Fin len) (s : ByteArray) => w.cell? (a.add i.1) = some (.string s)) (fun i => hex i.1 i.2)
    refine ⟨_, List.ofFn f, hcs, ⟨some a, m, by rw [List.length_ofFn], ?_⟩, by rw [List.length_ofFn]; omega⟩
    rw [List.length_ofFn]
    intro hp
    have c0 := hf' ⟨0, hp⟩
    have hb := cell_lt c0
    rw [block_of_add] at hb
    obtain ⟨b, o, sp⟩ := a
    have hsn : sp = none := by
      have := World.cell?_spot c0
      simpa [Addr.add] using this
    subst hsn
    refine ⟨b, o, rfl, hb, fun j hj => ?_⟩
    have hx := hf' ⟨j, hj⟩
    have ea : (⟨b, o, none⟩ : Addr).add j = ⟨b, o + j, none⟩ := by
      unfold Addr.add
      by_cases e : j = 0
      · subst e; rfl
      · simp [e]
    dsimp only at hx
    rw [ea] at hx
    rw [hx]
    simp [hj]
set_option maxRecDepth 100000 in
theorem open_enums {base : Nat} {v : Value} {d : DataW H} {p : List MemPlace} (hv : Value.okWide Tryz.prog w .any base 22 v) (h : DataW.Trod enc Tryz.prog w 0 (fun _ => true) true 22 v d p) :
    ∃ ms : List (List ByteArray), Enums w v ms := by
  have hu : Tryz.prog.underlying 22 = some (.slice 44) := by kernel_rfl
  have hus : Tryz.prog.underlying 42 = some (.slice 9) := by kernel_rfl
  have hc1 : Tryz.prog.cellsOf 9 = 1 := by kernel_rfl
  obtain ⟨A, len, cap, rfl⟩ := okWide_slice hu hv
  obtain ⟨fuel, hf⟩ := h
  rcases open_slice_fieldsV hu Tryz.underlying44 (by kernel_rfl) (by kernel_rfl) hf with ⟨hcs, _⟩ | ⟨a, len', cap', m, hcs, hl, hm, hmm, hi⟩
  · simp [Value.cells] at hcs
    obtain ⟨rfl, rfl, rfl⟩ := hcs
    exact ⟨[], Enums.nil w⟩
  · simp [Value.cells] at hcs
    obtain ⟨rfl, rfl, rfl⟩ := hcs
    simp only [if_true] at hmm
    subst hmm
    have hex : ∀ i, i < len → ∃ l : List ByteArray, l.length ≤ maxLen ∧ ∃ mv, w.cell? (a.add (i * 2 + 1)) = some mv ∧ Strs w mv l := by
      intro i hil
      obtain ⟨v1, y1, n1, c1, t1⟩ := hi i (by omega) 1 _ rfl
      obtain ⟨mv, l, e1, hs, hle⟩ := open_strs hus Tryz.underlying9 hc1 t1
      simp only [List.cons.injEq, and_true] at e1
      subst e1
      exact ⟨l, hle, v1, c1, hs⟩
    obtain ⟨f, hf'⟩ := Classical.axiomOfChoice (r := fun (i : Fin len) (l : List ByteArray) => l.length ≤ maxLen ∧ ∃ mv, w.cell? (a.add (i.1 * 2 + 1)) = some mv ∧ Strs w mv l) (fun i => hex i.1 i.2)
    unfold maxLen at hm hf'
    refine ⟨List.ofFn f, some a, m, by rw [List.length_ofFn], by rw [List.length_ofFn]; omega, ?_⟩
    rw [List.length_ofFn]
    intro hp
    obtain ⟨_, _, c0, _⟩ := hf' ⟨0, hp⟩
    have hb := cell_lt c0
    rw [block_of_add] at hb
    obtain ⟨_, _, _, c00, _⟩ := hi 0 (by omega) 0 _ rfl
    obtain ⟨b, o, sp⟩ := a
    have hsn : sp = none := by
      have := World.cell?_spot c00
      simpa [Addr.add] using this
    subst hsn
    refine ⟨b, o, rfl, hb, fun j l hj => ?_⟩
    have hjl : j < len := by
      have := (List.getElem?_eq_some_iff.1 hj).1
      simpa using this
    have hx : l = f ⟨j, hjl⟩ := by
      have : (List.ofFn f)[j]? = some (f ⟨j, hjl⟩) := by simp [hjl]
      rw [this] at hj
      exact (Option.some.inj hj).symm
    subst hx
    obtain ⟨q0, mv, q1, q2⟩ := hf' ⟨j, hjl⟩
    refine ⟨q0, mv, ?_, q2⟩
    have ea : (⟨b, o, none⟩ : Addr).add (j * 2 + 1) = ⟨b, o + j * 2 + 1, none⟩ := by
      unfold Addr.add
      rw [if_neg (by omega)]
      simp [Nat.add_assoc]
    rw [← ea]
    exact q1
theorem cellsTyp : Tryz.prog.cellsOf 46 = 2 := by kernel_rfl
theorem cellsVal : Tryz.prog.cellsOf 59 = 3 := by kernel_rfl
set_option maxRecDepth 100000 in
theorem open_typ {base : Nat} {v : Value} {d : DataW H} {p : List MemPlace} (hv : Value.okWide Tryz.prog w .any base 46 v) (h : DataW.Trod enc Tryz.prog w 0 (fun _ => true) true 46 v d p) :
    ∃ k e : Int, v = .agg #[.int .i64 k, .int .i64 e] := by
  obtain ⟨⟨cs⟩, rfl, hsz⟩ := okWide_struct Tryz.underlying46 hv
  rw [cellsTyp] at hsz
  have hr := Reads.of h
  obtain ⟨x0, e0, _⟩ := hr.intAt Tryz.underlying46 0 0 _ rfl rfl rfl
  obtain ⟨x1, e1, _⟩ := hr.intAt Tryz.underlying46 1 1 _ rfl rfl rfl
  match cs, hsz with
  | [c0, c1], _ =>
    simp at e0 e1
    subst e0 e1
    exact ⟨x0, x1, rfl⟩
set_option maxRecDepth 100000 in
theorem open_val {base : Nat} {v : Value} {d : DataW H} {p : List MemPlace} (hv : Value.okWide Tryz.prog w .any base 59 v) (h : DataW.Trod enc Tryz.prog w 0 (fun _ => true) true 59 v d p) :
    ∃ k e n : Int, v = .agg #[.int .i64 k, .int .i64 e, .int .i64 n] ∧ (Lit.int .i64 n).wf = true := by
  obtain ⟨⟨cs⟩, rfl, hsz⟩ := okWide_struct Tryz.underlying59 hv
  rw [cellsVal] at hsz
  have hr := Reads.of h
  obtain ⟨x0, e0, _⟩ := hr.intAt Tryz.underlying59 0 0 _ rfl rfl rfl
  obtain ⟨x1, e1, _⟩ := hr.intAt Tryz.underlying59 1 1 _ rfl rfl rfl
  obtain ⟨x2, e2, w2⟩ := hr.intAt Tryz.underlying59 2 2 _ rfl rfl rfl
  match cs, hsz with
  | [c0, c1, c2], _ =>
    simp at e0 e1 e2
    subst e0 e1 e2
    exact ⟨x0, x1, x2, rfl, w2⟩
end
end Go.Proofs.YtemejaomfbhldaaGreatDoor
