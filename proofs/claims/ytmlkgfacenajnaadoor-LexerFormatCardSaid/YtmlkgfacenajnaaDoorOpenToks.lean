/- An argument that is a list of tokens: opened to the cells of its elements. -/
import Derived.Test.YtmlkgfacenajnaaDoorOpenCal
import Derived.Test.YtmlkgfacenajnaaDoorLexG
import Derived.Deep.Slices
import Derived.Deep.Fields
import Derived.ChangeSame
namespace Go.Proofs.YtmlkgfacenajnaaDoor
open Go.ChangeShapes Go.WideShapes Go.ChangeAt Go.RowKit Go.Joins Go.Deep
section
variable {H : Type} {enc : TypeId × Value → H} {P : Program} {w : World} {base : Nat} {spare : Nat → Bool} {held : Bool}
theorem open_slice_fields {t e : TypeId} {fs : Array Field} {fuel : Nat} {cs : List Value} {x : DataW H × List MemPlace} (ht : P.underlying t = some (.slice e)) (he : P.underlying e = some (.struct fs))
    (hone : oneCellFields P fs = true) (hC : P.cellsOf e = fs.size) (h : DataW.trod enc P w base spare held fuel t cs = some x) :
    (cs = [.slice none 0 0] ∧ x = (.nil, [])) ∨
    ∃ (a : Addr) (len cap m : Nat), cs = [.slice (some a) len cap] ∧ len ≤ cap ∧ cap ≤ maxLen ∧ m = (if spare a.block then cap else len) ∧
      ∀ i, i < m → ∀ (j : Nat) (f : Field), fs[j]? = some f → ∃ (v : Value) (y : DataW H × List MemPlace) (n : Nat), w.cell? (a.add (i * fs.size + j)) = some v ∧ DataW.trod enc P w base spare held n f.type [v] = some y := by
  rcases open_slice ht h with h0 | ⟨a, len, cap, m, n, D, Pl, hcs, hb, hl, hm, hmm, hx, hi⟩
  · exact .inl h0
  · refine .inr ⟨a, len, cap, m, hcs, hl, hm, hmm, fun i him j f hj => ?_⟩
    obtain ⟨cs', hc, ht'⟩ := hi i him
    rw [hC] at hc
    obtain ⟨ys, n', hn', hy, hlen, hyl, hf⟩ := DataW.trod_struct he ht'
    obtain ⟨_, hcl, hat⟩ := World.cells?_some hc
    obtain ⟨ho, hk⟩ := hone_of hone j f hj
    have hjl : j < fs.size := (Array.getElem?_eq_some_iff.1 hj).1
    have hcell := hat j hjl
    have hv : cs'[j]? = some (cs'[j]'(by omega)) := List.getElem?_eq_getElem (by omega)
    have h1 := hf j f hj
    rw [ho, hk] at h1
    have hone' : (cs'.drop j).take 1 = [cs'[j]'(by omega)] := by
      rw [List.drop_eq_getElem_cons (by omega)]
      rfl
    rw [hone'] at h1
    have hys : ys[j]? = some (ys[j]'(by omega)) := List.getElem?_eq_getElem (by omega)
    refine ⟨_, _, _, ?_, h1.trans hys⟩
    rw [← Go.Deep.add_add, hcell, hv]
end

section
variable {H : Type} {enc : TypeId × Value → H} {w : World}
set_option maxRecDepth 100000 in
theorem open_toks {base : Nat} {v : Value} {d : DataW H} {p : List MemPlace} (hv : Value.okWide Tryd.prog w .any base 23 v) (h : DataW.Trod enc Tryd.prog w 0 (fun _ => true) true 23 v d p) :
    ∃ xs : List Tok, Toks w v xs ∧ xs.length ≤ maxLen ∧ ∀ t, t ∈ xs → t.t.length ≤ maxLen := by
  have hu : Tryd.prog.underlying 23 = some (.slice 30) := by kernel_rfl
  obtain ⟨A, len, cap, rfl⟩ := okWide_slice hu hv
  obtain ⟨fuel, hf⟩ := h
  rcases open_slice_fields hu Tryd.underlying30 (by kernel_rfl) (by kernel_rfl) hf with ⟨hcs, _⟩ | ⟨a, len', cap', m, hcs, hl, hm, hmm, hi⟩
  · simp [Value.cells] at hcs
    obtain ⟨rfl, rfl, rfl⟩ := hcs
    exact ⟨[], Recs.nil _ _ _, by simp, fun t ht => absurd ht (by simp)⟩
  · simp [Value.cells] at hcs
    obtain ⟨rfl, rfl, rfl⟩ := hcs
    simp only [if_true] at hmm
    subst hmm
    have hex : ∀ i, i < len → ∃ t : Tok, w.cell? (a.add (i * 4)) = some (.int .i64 t.k) ∧ w.cell? (a.add (i * 4 + 1)) = some (.string (bs t.t)) ∧ w.cell? (a.add (i * 4 + 2)) = some (.int .i64 t.n) ∧ w.cell? (a.add (i * 4 + 3)) = some (.int .i64 t.o) ∧ t.t.length ≤ maxLen := by
      intro i hil
      have him := hi i (by omega)
      obtain ⟨v0, y0, n0, c0, t0⟩ := him 0 _ rfl
      obtain ⟨v1, y1, n1, c1, t1⟩ := him 1 _ rfl
      obtain ⟨v2, y2, n2, c2, t2⟩ := him 2 _ rfl
      obtain ⟨v3, y3, n3, c3, t3⟩ := him 3 _ rfl
      obtain ⟨k, e0, _, _⟩ := DataW.trod_int Tryd.underlying3 t0
      obtain ⟨s, e1, _, hs⟩ := DataW.trod_string Tryd.underlying9 t1
      obtain ⟨n, e2, _, _⟩ := DataW.trod_int Tryd.underlying3 t2
      obtain ⟨o, e3, _, _⟩ := DataW.trod_int Tryd.underlying3 t3
      simp only [List.cons.injEq, and_true] at e0 e1 e2 e3
      subst e0 e1 e2 e3
      exact ⟨⟨k, L s, n, o⟩, c0, by rw [bs_L]; exact c1, c2, c3, by rw [L_length]; exact hs⟩
    obtain ⟨f, hf'⟩ := Classical.axiomOfChoice (r := fun (i : Fin len) (t : Tok) => w.cell? (a.add (i.1 * 4)) = some (.int .i64 t.k) ∧ w.cell? (a.add (i.1 * 4 + 1)) = some (.string (bs t.t)) ∧ w.cell? (a.add (i.1 * 4 + 2)) = some (.int .i64 t.n) ∧ w.cell? (a.add (i.1 * 4 + 3)) = some (.int .i64 t.o) ∧ t.t.length ≤ maxLen) (fun i => hex i.1 i.2)
    refine ⟨List.ofFn f, ⟨some a, m, by rw [List.length_ofFn], ?_⟩, by rw [List.length_ofFn]; omega, ?_⟩
    · rw [List.length_ofFn]
      intro hp
      have c0 := (hf' ⟨0, hp⟩).1
      have hb := cell_lt c0
      rw [block_of_add] at hb
      obtain ⟨b, o, sp⟩ := a
      have hsn : sp = none := by
        have := World.cell?_spot c0
        simpa [Addr.add] using this
      subst hsn
      refine ⟨b, o, rfl, hb, ?_⟩
      have ea : ∀ q, (⟨b, o, none⟩ : Addr).add q = ⟨b, o + q, none⟩ := by
        intro q
        unfold Addr.add
        by_cases e : q = 0
        · subst e; rfl
        · simp [e]
      intro j x hj i u hu'
      have hjl : j < len := by
        have := (List.getElem?_eq_some_iff.1 hj).1
        simpa using this
      have hx : x = f ⟨j, hjl⟩ := by
        have : (List.ofFn f)[j]? = some (f ⟨j, hjl⟩) := by simp [hjl]
        rw [this] at hj
        exact (Option.some.inj hj).symm
      subst hx
      obtain ⟨q0, q1, q2, q3, _⟩ := hf' ⟨j, hjl⟩
      rw [ea] at q0 q1 q2 q3
      dsimp only at q0 q1 q2 q3
      simp only [← Nat.add_assoc] at q0 q1 q2 q3
      match i, hu' with
      | 0, hu' => simp only [tokF, List.getElem?_cons_zero, Option.some.injEq] at hu'; subst hu'; exact q0
      | 1, hu' => simp only [tokF, List.getElem?_cons_zero, List.getElem?_cons_succ, Option.some.injEq] at hu'; subst hu'; exact q1
      | 2, hu' => simp only [tokF, List.getElem?_cons_zero, List.getElem?_cons_succ, Option.some.injEq] at hu'; subst hu'; exact q2
      | 3, hu' => simp only [tokF, List.getElem?_cons_zero, List.getElem?_cons_succ, Option.some.injEq] at hu'; subst hu'; exact q3
      | i + 4, hu' => simp [tokF] at hu'
    · intro t ht
      rw [List.mem_ofFn] at ht
      obtain ⟨i, rfl⟩ := ht
      exact (hf' i).2.2.2.2
end
end Go.Proofs.YtmlkgfacenajnaaDoor
