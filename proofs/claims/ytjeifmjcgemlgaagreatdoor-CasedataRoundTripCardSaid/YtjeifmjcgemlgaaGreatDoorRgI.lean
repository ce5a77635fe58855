/- Types, values and lists of enumerations that came in, opened. -/
import Derived.Test.YtjeifmjcgemlgaaGreatDoorRgC
import Derived.Test.YtjeifmjcgemlgaaGreatDoorRgF
import Derived.Deep.Slices
import Derived.Deep.Fields
import Derived.ChangeSame
import Derived.Test.YtjeifmjcgemlgaaGreatDoorRgA
import Derived.Test.YtjeifmjcgemlgaaGreatDoorRgH
import Derived.SizedLaws
namespace Go.Proofs.YtjeifmjcgemlgaaGreatDoor
open Go.ChangeShapes Go.WideShapes Go.ChangeAt Go.RowKit Go.Joins Go.Deep
section
variable {H : Type} {enc : TypeId × Value → H} {P : Program} {w : World} {base : Nat} {spare : Nat → Bool} {held : Bool}
theorem open_slice_fieldsV {t e : TypeId} {fs : Array Field} {fuel : Nat} {cs : List Value} {x : DataW H × List MemPlace} (ht : P.underlying t = some (.slice e)) (he : P.underlying e = some (.struct fs))
    (hone : oneCellFields P fs = true) (hC : P.cellsOf e = fs.size) (h : DataW.trod enc P w base spare held fuel t cs = some x) :
    (cs = [.slice none 0 0] ∧ x = (.nil, [])) ∨
    ∃ (a : Addr) (len cap m : Nat), cs = [.slice (some a) len cap] ∧ len ≤ cap ∧ cap ≤ maxLen ∧ m = (if spare a.block then cap else len) ∧
      ∀ i, i < m → ∀ (j : Nat) (f : Field), fs[j]? = some f → ∃ (v : Value) (y : DataW H × List MemPlace) (n : Nat), w.cell? (a.add (i * fs.size + j)) = some v ∧ DataW.trod enc P w base spare held n f.type [v] = some y := by
  rcases open_slice ht h with h0 | ⟨a, len, cap, m, n, D, Pl, hcs, hb, hl, hm, hmm, hx, hi⟩
  · exact .inl h0
  · refine .inr ⟨a, len, cap, m, hcs, hl, hm, hmm, fun i him j f hj => ?_⟩
    obtain ⟨cs', hc, ht'⟩ := hi i him
    rw [hC] at hc
    obtain ⟨ys, n', hn', hy, hlen, hyl, hf⟩ := DataW.trod_struct he ht'
    obtain ⟨_, hcl, hat⟩ := World.cells?_some hc
    obtain ⟨ho, hk⟩ := hone_of hone j f hj
    have hjl : j < fs.size := (Array.getElem?_eq_some_iff.1 hj).1
    have hcell := hat j hjl
    have hv : cs'[j]? = some (cs'[j]'(by omega)) := List.getElem?_eq_getElem (by omega)
    have h1 := hf j f hj
    rw [ho, hk] at h1
    have hone' : (cs'.drop j).take 1 = [cs'[j]'(by omega)] := by
      rw [List.drop_eq_getElem_cons (by omega)]
      rfl
    rw [hone'] at h1
    have hys : ys[j]? = some (ys[j]'(by omega)) := List.getElem?_eq_getElem (by omega)
    refine ⟨_, _, _, ?_, h1.trans hys⟩
    rw [← Go.Deep.add_add, hcell, hv]
end
section
variable {H : Type} {enc : TypeId × Value → H} {w : World}
set_option maxRecDepth 100000 in
/-- a slice of strings, read -/
theorem open_strs {t e : TypeId} {fuel : Nat} {cs : List Value} {x : DataW H × List MemPlace} (ht : Tryz.prog.underlying t = some (.slice e)) (he : Tryz.prog.underlying e = some .string) (hC : Tryz.prog.cellsOf e = 1)
    (h : DataW.trod enc Tryz.prog w 0 (fun _ => true) true fuel t cs = some x) : ∃ (v : Value) (xs : List ByteArray), cs = [v] ∧ Strs w v xs ∧ xs.length ≤ maxLen := by
  rcases open_slice ht h with ⟨hcs, _⟩ | ⟨a, len, cap, m, n, D, Pl, hcs, hb, hl, hm, hmm, hx, hi⟩
  · exact ⟨_, [], hcs, Strs.nil w, by simp⟩
  · simp only [if_true] at hmm
    subst hmm
    have hex : ∀ i, i < len → ∃ s : ByteArray, w.cell? (a.add i) = some (.string s) := by
      intro i hil
      obtain ⟨cs', hc, ht'⟩ := hi i (by omega)
      rw [hC] at hc
      obtain ⟨s, e1, _, _⟩ := DataW.trod_string he ht'
      obtain ⟨_, hcl, hat⟩ := World.cells?_some hc
      have h0 := hat 0 (by omega)
      rw [e1] at h0
      refine ⟨s, ?_⟩
      have ea : (a.add (i * 1)).add 0 = a.add i := by rw [Nat.mul_one]; unfold Addr.add; simp
      rw [ea] at h0
      simpa using h0
    obtain ⟨f, hf'⟩ := Classical.axiomOfChoice (r := fun (i : Fin len) (s : ByteArray) => w.cell? (a.add i.1) = some (.string s)) (fun i => hex i.1 i.2)
    refine ⟨_, List.ofFn f, hcs, ⟨some a, m, by rw [List.length_ofFn], ?_⟩, by rw [List.length_ofFn]; omega⟩
    rw [List.length_ofFn]
    intro hp
    have c0 := hf' ⟨0, hp⟩
    have hb := cell_lt c0
    rw [block_of_add] at hb
    obtain ⟨b, o, sp⟩ := a
    have hsn : sp = none := by
      have := World.cell?_spot c0
      simpa [Addr.add] using this
    subst hsn
    refine ⟨b, o, rfl, hb, fun j hj => ?_⟩
    have hx := hf' ⟨j, hj⟩
    have ea : (⟨b, o, none⟩ : Addr).add j = ⟨b, o + j, none⟩ := by
      unfold Addr.add
      by_cases e : j = 0
      · subst e; rfl
      · simp [e]
    dsimp only at hx
    rw [ea] at hx
    rw [hx]
    simp [hj]
set_option maxRecDepth 100000 in
theorem open_enums {base : Nat} {v : Value} {d : DataW H} {p : List MemPlace} (hv : Value.okWide Tryz.prog w .any base 22 v) (h : DataW.Trod enc Tryz.prog w 0 (fun _ => true) true 22 v d p) :
    ∃ ms : List (List ByteArray), Enums w v ms := by
  have hu : Tryz.prog.underlying 22 = some (.slice 45) := by kernel_rfl
  have hus : Tryz.prog.underlying 43 = some (.slice 9) := by kernel_rfl
  have hc1 : Tryz.prog.cellsOf 9 = 1 := by kernel_rfl
  obtain ⟨A, len, cap, rfl⟩ := okWide_slice hu hv
  obtain ⟨fuel, hf⟩ := h
  rcases open_slice_fieldsV hu Tryz.underlying45 (by kernel_rfl) (by kernel_rfl) hf with ⟨hcs, _⟩ | ⟨a, len', cap', m, hcs, hl, hm, hmm, hi⟩
  · simp [Value.cells] at hcs
    obtain ⟨rfl, rfl, rfl⟩ := hcs
    exact ⟨[], Enums.nil w⟩
  · simp [Value.cells] at hcs
    obtain ⟨rfl, rfl, rfl⟩ := hcs
    simp only [if_true] at hmm
    subst hmm
    have hex : ∀ i, i < len → ∃ l : List ByteArray, l.length ≤ maxLen ∧ ∃ mv, w.cell? (a.add (i * 2 + 1)) = some mv ∧ Strs w mv l := by
      intro i hil
      obtain ⟨v1, y1, n1, c1, t1⟩ := hi i (by omega) 1 _ rfl
      obtain ⟨mv, l, e1, hs, hle⟩ := open_strs hus Tryz.underlying9 hc1 t1
      simp only [List.cons.injEq, and_true] at e1
      subst e1
      exact ⟨l, hle, v1, c1, hs⟩
    obtain ⟨f, hf'⟩ := Classical.axiomOfChoice (r := fun (i : Fin len) (l : List ByteArray) => l.length ≤ maxLen ∧ ∃ mv, w.cell? (a.add (i.1 * 2 + 1)) = some mv ∧ Strs w mv l) (fun i => hex i.1 i.2)
    unfold maxLen at hm hf'
    refine ⟨List.ofFn f, some a, m, by rw [List.length_ofFn], by rw [List.length_ofFn]; omega, ?_⟩
    rw [List.length_ofFn]
    intro hp
    obtain ⟨_, _, c0, _⟩ := hf' ⟨0, hp⟩
    have hb := cell_lt c0
    rw [block_of_add] at hb
    obtain ⟨_, _, _, c00, _⟩ := hi 0 (by omega) 0 _ rfl
    obtain ⟨b, o, sp⟩ := a
    have hsn : sp = none := by
      have := World.cell?_spot c00
      simpa [Addr.add] using this
    subst hsn
    refine ⟨b, o, rfl, hb, fun j l hj => ?_⟩
    have hjl : j < len := by
      have := (List.getElem?_eq_some_iff.1 hj).1
      simpa using this
    have hx : l = f ⟨j, hjl⟩ := by
      have : (List.ofFn f)[j]? = some (f ⟨j, hjl⟩) := by simp [hjl]
      rw [this] at hj
      exact (Option.some.inj hj).symm
    subst hx
    obtain ⟨q0, mv, q1, q2⟩ := hf' ⟨j, hjl⟩
    refine ⟨q0, mv, ?_, q2⟩
    have ea : (⟨b, o, none⟩ : Addr).add (j * 2 + 1) = ⟨b, o + j * 2 + 1, none⟩ := by
      unfold Addr.add
      rw [if_neg (by omega)]
      simp [Nat.add_assoc]
    rw [← ea]
    exact q1
theorem cellsTyp : Tryz.prog.cellsOf 47 = 2 := by kernel_rfl
theorem cellsVal : Tryz.prog.cellsOf 61 = 3 := by kernel_rfl
set_option maxRecDepth 100000 in
theorem open_typ {base : Nat} {v : Value} {d : DataW H} {p : List MemPlace} (hv : Value.okWide Tryz.prog w .any base 47 v) (h : DataW.Trod enc Tryz.prog w 0 (fun _ => true) true 47 v d p) :
    ∃ k e : Int, v = .agg #[.int .i64 k, .int .i64 e] := by
  obtain ⟨⟨cs⟩, rfl, hsz⟩ := okWide_struct Tryz.underlying47 hv
  rw [cellsTyp] at hsz
  have hr := Reads.of h
  obtain ⟨x0, e0, _⟩ := hr.intAt Tryz.underlying47 0 0 _ rfl rfl rfl
  obtain ⟨x1, e1, _⟩ := hr.intAt Tryz.underlying47 1 1 _ rfl rfl rfl
  match cs, hsz with
  | [c0, c1], _ =>
    simp at e0 e1
    subst e0 e1
    exact ⟨x0, x1, rfl⟩
set_option maxRecDepth 100000 in
theorem open_val {base : Nat} {v : Value} {d : DataW H} {p : List MemPlace} (hv : Value.okWide Tryz.prog w .any base 61 v) (h : DataW.Trod enc Tryz.prog w 0 (fun _ => true) true 61 v d p) :
    ∃ k e n : Int, v = .agg #[.int .i64 k, .int .i64 e, .int .i64 n] ∧ (Lit.int .i64 n).wf = true := by
  obtain ⟨⟨cs⟩, rfl, hsz⟩ := okWide_struct Tryz.underlying61 hv
  rw [cellsVal] at hsz
  have hr := Reads.of h
  obtain ⟨x0, e0, _⟩ := hr.intAt Tryz.underlying61 0 0 _ rfl rfl rfl
  obtain ⟨x1, e1, _⟩ := hr.intAt Tryz.underlying61 1 1 _ rfl rfl rfl
  obtain ⟨x2, e2, w2⟩ := hr.intAt Tryz.underlying61 2 2 _ rfl rfl rfl
  match cs, hsz with
  | [c0, c1, c2], _ =>
    simp at e0 e1 e2
    subst e0 e1 e2
    exact ⟨x0, x1, x2, rfl, w2⟩
end
end Go.Proofs.YtjeifmjcgemlgaaGreatDoor
/- Cases: what package casedata and its reference compute, in plain Lean. -/
namespace Go.Proofs.YtjeifmjcgemlgaaGreatDoor
open Go.RowKit

/-- a value: kind, enumeration, number -/
structure Vl where
  k : Int
  e : Int
  n : Int
def vlF (x : Vl) : List Value := [.int .i64 x.k, .int .i64 x.e, .int .i64 x.n]
theorem vlF_len (x : Vl) : (vlF x).length = 3 := rfl
abbrev Vals (w : World) (v : Value) (xs : List Vl) : Prop := Recs w vlF 3 v xs
/-- the type of an input -/
structure Ty where
  k : Int
  e : Int
/-- a scope: the scope of its members, and its inputs -/
structure Sc where
  m : Int
  ins : List Ty
/-- the first error of a list of values, from index i on -/
def chkF (ms : List (List ByteArray)) : Nat → List Ty → List Vl → Nat × Int
  | i, t :: ts, v :: vs => if v.k = t.k ∧ v.e = t.e then (if inB v.n t.k t.e ms then chkF ms (i + 1) ts vs else (i, 3)) else (i, 8)
  | _, _, _ => (0, 0)
def chkV (ms : List (List ByteArray)) (ts : List Ty) (vs : List Vl) : Nat × Int :=
  if vs.length < ts.length then (vs.length, 5) else if ts.length < vs.length then (ts.length, 4) else chkF ms 0 ts vs
/-- the inputs of the members, and how many there may be -/
def memI (scs : List Sc) (s : Sc) : List Ty × Nat := if s.m < 0 ∨ (scs.length : Int) ≤ s.m then ([], 0) else ((scs[s.m.toNat]?.getD ⟨0, []⟩).ins, 8)
/-- the first error of the members, from member m on -/
def chkM (ms : List (List ByteArray)) (ts : List Ty) : Nat → List (List Vl) → Int × Int × Int
  | _, [] => (0, 0, 0)
  | m, vs :: r => if (chkV ms ts vs).2 = 0 then chkM ms ts (m + 1) r else (m, (chkV ms ts vs).1, (chkV ms ts vs).2)
/-- the first error of a case: member, input, code -/
def valC (ms : List (List ByteArray)) (scs : List Sc) (sc d : Int) (ins : List Vl) (mem : List (List Vl)) : Int × Int × Int :=
  if sc < 0 ∨ (scs.length : Int) ≤ sc then (-1, -1, 6)
  else if d < 0 ∨ 109572 < d then (-1, -1, 3)
  else
    let s := scs[sc.toNat]?.getD ⟨0, []⟩
    if (chkV ms s.ins ins).2 = 0 then
      (if (memI scs s).2 < mem.length then ((memI scs s).2, -1, 4) else chkM ms (memI scs s).1 0 mem)
    else (-1, (chkV ms s.ins ins).1, (chkV ms s.ins ins).2)
/-- a line of values -/
noncomputable def lineV (ms : List (List ByteArray)) (word : List UInt8) (vs : List Vl) : List UInt8 :=
  word ++ vs.flatMap fun v => 32 :: L (vfmtS v.k v.e v.n ms).1
noncomputable def caseT (ms : List (List ByteArray)) (d : Int) (ins : List Vl) (mem : List (List Vl)) : List (List UInt8) :=
  ([100, 97, 116, 101, 32] ++ L (dateS d)) :: lineV ms [105, 110] ins :: mem.map (lineV ms [109, 101, 109, 98, 101, 114])
noncomputable def fmtCs (ms : List (List ByteArray)) (scs : List Sc) (sc d : Int) (ins : List Vl) (mem : List (List Vl)) : ByteArray × Int :=
  if (valC ms scs sc d ins mem).2.2 = 0 then (bs (textL (caseT ms d ins mem)), 0) else (⟨#[]⟩, (valC ms scs sc d ins mem).2.2)
/-- a text split at each blank -/
def spl (acc : List UInt8) : List UInt8 → List (List UInt8)
  | [] => [acc]
  | c :: r => if c = 32 then acc :: spl [] r else spl (acc ++ [c]) r
/-- the values of texts, or the first error -/
noncomputable def parV (ms : List (List ByteArray)) : List Ty → List (List UInt8) → List Vl → List Vl × Int
  | t :: ts, w :: ws, acc => if (vparS (bs w) t.k t.e ms).2.2.2 = 0 then parV ms ts ws (acc ++ [⟨(vparS (bs w) t.k t.e ms).1, (vparS (bs w) t.k t.e ms).2.1, (vparS (bs w) t.k t.e ms).2.2.1⟩]) else ([], (vparS (bs w) t.k t.e ms).2.2.2)
  | _, _, acc => (acc, 0)
/-- an input line with the word -/
noncomputable def parI (ms : List (List ByteArray)) (word : List UInt8) (ts : List Ty) (l : List UInt8) : List Vl × Int :=
  if (spl [] l).head? ≠ some word ∨ [] ∈ (spl [] l).drop 1 then ([], 2)
  else if ((spl [] l).drop 1).length < ts.length then ([], 5)
  else if ts.length < ((spl [] l).drop 1).length then ([], 4)
  else parV ms ts ((spl [] l).drop 1) []
/-- the member lines, from line i on -/
noncomputable def parM (ms : List (List ByteArray)) (ts : List Ty) (lim : Nat) : Nat → List (List UInt8) → List (List Vl) → List (List Vl) × Nat × Int
  | _, [], acc => (acc, 0, 0)
  | i, l :: r, acc => if lim ≤ acc.length then ([], i, 4) else if (parI ms [109, 101, 109, 98, 101, 114] ts l).2 = 0 then parM ms ts lim (i + 1) r (acc ++ [(parI ms [109, 101, 109, 98, 101, 114] ts l).1]) else ([], i, (parI ms [109, 101, 109, 98, 101, 114] ts l).2)
/-- a case: date, inputs, members -/
structure Cs where
  d : Int
  ins : List Vl
  mem : List (List Vl)
def cs0 : Cs := ⟨0, [], []⟩
def datW : List UInt8 := [100, 97, 116, 101, 32]
noncomputable def parCs (ms : List (List ByteArray)) (scs : List Sc) (sc : Int) (s : ByteArray) : Cs × Nat × Int :=
  if sc < 0 ∨ (scs.length : Int) ≤ sc then (cs0, 0, 6)
  else if (linR s).2 ≠ 0 then (cs0, 0, (linR s).2)
  else match (linR s).1.map L with
    | [] => (cs0, 0, 5)
    | l0 :: r =>
      if l0.take 5 ≠ datW then (cs0, 0, 2)
      else if (dparS (bs (l0.drop 5))).2 ≠ 0 then (cs0, 0, (dparS (bs (l0.drop 5))).2)
      else match r with
        | [] => (cs0, 1, 5)
        | l1 :: r =>
          let x := scs[sc.toNat]?.getD ⟨0, []⟩
          if (parI ms [105, 110] x.ins l1).2 ≠ 0 then (cs0, 1, (parI ms [105, 110] x.ins l1).2)
          else if (parM ms (memI scs x).1 (memI scs x).2 2 r []).2.2 ≠ 0 then (cs0, (parM ms (memI scs x).1 (memI scs x).2 2 r []).2.1, (parM ms (memI scs x).1 (memI scs x).2 2 r []).2.2)
          else (⟨(dparS (bs (l0.drop 5))).1, (parI ms [105, 110] x.ins l1).1, (parM ms (memI scs x).1 (memI scs x).2 2 r []).1⟩, 0, 0)
end Go.Proofs.YtjeifmjcgemlgaaGreatDoor
/- Laws and cases in memory, as far as package casedata reads them; what checkValues and memberInputs compute. -/
namespace Go.Proofs.YtjeifmjcgemlgaaGreatDoor
open Go.RowKit

/-- a field of a scope: its name and its type -/
structure Fd where
  nm : ByteArray
  k : Int
  e : Int
def fdF (x : Fd) : List Value := [.string x.nm, .int .i64 x.k, .int .i64 x.e]
theorem fdF_len (x : Fd) : (fdF x).length = 3 := rfl
/-- the slice value v reads as fields of the types ts -/
def Fds (w : World) (v : Value) (ts : List Ty) : Prop :=
  ∃ A cap, v = .slice A ts.length cap ∧ (0 < ts.length → ∃ b off, A = some ⟨b, off, none⟩ ∧ b < w.heap.size ∧
    ∀ j t, ts[j]? = some t → w.cell? ⟨b, off + j * 3 + 1, none⟩ = some (.int .i64 t.k) ∧ w.cell? ⟨b, off + j * 3 + 2, none⟩ = some (.int .i64 t.e))
theorem Fds.kept {w w' : World} {v : Value} {ts : List Ty} (h : Fds w v ts) (hk : Kept w w') : Fds w' v ts := by
  obtain ⟨A, cap, hv, hx⟩ := h
  refine ⟨A, cap, hv, fun hp => ?_⟩
  obtain ⟨b, off, hA, hb, hc⟩ := hx hp
  exact ⟨b, off, hA, Nat.lt_of_lt_of_le hb hk.size, fun j t hj => ⟨hk.cell (p := ⟨b, _, none⟩) hb (hc j t hj).1, hk.cell (p := ⟨b, _, none⟩) hb (hc j t hj).2⟩⟩
theorem Fds.nil (w : World) : Fds w (.slice none 0 0) [] := ⟨none, 0, rfl, fun h => absurd h (by simp)⟩
/-- the slice value v reads as the scopes scs -/
def Scs (w : World) (v : Value) (scs : List Sc) : Prop :=
  ∃ A cap, v = .slice A scs.length cap ∧ scs.length ≤ 9223372036854775807 ∧ (0 < scs.length → ∃ b off, A = some ⟨b, off, none⟩ ∧ b < w.heap.size ∧
    ∀ j s, scs[j]? = some s → s.ins.length ≤ 9223372036854775807 ∧ w.cell? ⟨b, off + j * 5 + 1, none⟩ = some (.int .i64 s.m) ∧ ∃ iv, w.cell? ⟨b, off + j * 5 + 2, none⟩ = some iv ∧ Fds w iv s.ins)
theorem Scs.kept {w w' : World} {v : Value} {scs : List Sc} (h : Scs w v scs) (hk : Kept w w') : Scs w' v scs := by
  obtain ⟨A, cap, hv, hl, hx⟩ := h
  refine ⟨A, cap, hv, hl, fun hp => ?_⟩
  obtain ⟨b, off, hA, hb, hc⟩ := hx hp
  refine ⟨b, off, hA, Nat.lt_of_lt_of_le hb hk.size, fun j s hj => ?_⟩
  obtain ⟨h0, h1, iv, h2, h3⟩ := hc j s hj
  exact ⟨h0, hk.cell (p := ⟨b, _, none⟩) hb h1, iv, hk.cell (p := ⟨b, _, none⟩) hb h2, h3.kept hk⟩
/-- a law, as far as cases ask of it -/
def LawM (w : World) (v : Value) (ms : List (List ByteArray)) (scs : List Sc) : Prop :=
  ∃ ev At nt ct sv, v = .agg #[ev, .slice At nt ct, sv] ∧ Enums w ev ms ∧ Scs w sv scs
theorem LawM.kept {w w' : World} {v : Value} {ms : List (List ByteArray)} {scs : List Sc} (h : LawM w v ms scs) (hk : Kept w w') : LawM w' v ms scs := by
  obtain ⟨ev, At, nt, ct, sv, hv, hE, hS⟩ := h
  exact ⟨ev, At, nt, ct, sv, hv, hE.kept hk, hS.kept hk⟩
/-- lists of values -/
def Mems (w : World) (v : Value) (mem : List (List Vl)) : Prop :=
  ∃ A cap, v = .slice A mem.length cap ∧ mem.length ≤ 9223372036854775807 ∧ (0 < mem.length → ∃ b off, A = some ⟨b, off, none⟩ ∧ b < w.heap.size ∧
    ∀ j l, mem[j]? = some l → l.length ≤ 9223372036854775807 ∧ ∃ lv, w.cell? ⟨b, off + j, none⟩ = some lv ∧ Vals w lv l)
theorem Mems.kept {w w' : World} {v : Value} {mem : List (List Vl)} (h : Mems w v mem) (hk : Kept w w') : Mems w' v mem := by
  obtain ⟨A, cap, hv, hl, hx⟩ := h
  refine ⟨A, cap, hv, hl, fun hp => ?_⟩
  obtain ⟨b, off, hA, hb, hc⟩ := hx hp
  refine ⟨b, off, hA, Nat.lt_of_lt_of_le hb hk.size, fun j s hj => ?_⟩
  obtain ⟨h0, lv, h1, h2⟩ := hc j s hj
  exact ⟨h0, lv, hk.cell (p := ⟨b, _, none⟩) hb h1, h2.kept hk⟩
theorem Mems.nil (w : World) : Mems w (.slice none 0 0) [] := ⟨none, 0, rfl, by decide, fun h => absurd h (by simp)⟩
theorem Vals.at_ {w : World} {v : Value} {xs : List Vl} (h : Vals w v xs) : ∃ A cap, v = .slice A xs.length cap ∧ (0 < xs.length → ∃ b off, A = some ⟨b, off, none⟩ ∧ b < w.heap.size ∧
    ∀ j t, xs[j]? = some t → w.cell? ⟨b, off + j * 3, none⟩ = some (.int .i64 t.k) ∧ w.cell? ⟨b, off + j * 3 + 1, none⟩ = some (.int .i64 t.e) ∧ w.cell? ⟨b, off + j * 3 + 2, none⟩ = some (.int .i64 t.n)) := by
  obtain ⟨A, cap, hv, hx⟩ := h
  refine ⟨A, cap, hv, fun hp => ?_⟩
  obtain ⟨b, off, hA, hb, hc⟩ := hx hp
  exact ⟨b, off, hA, hb, fun j t hj => ⟨hc j t hj 0 _ rfl, hc j t hj 1 _ rfl, hc j t hj 2 _ rfl⟩⟩

theorem bne_noC {a b : Int} (h : a ≠ b) : (a != b) = true := by simpa using h
theorem chkF_at {ms : List (List ByteArray)} {ts : List Ty} {vs : List Vl} {i : Nat} {t : Ty} {v : Vl} (h1 : ts[i]? = some t) (h2 : vs[i]? = some v) :
    chkF ms i (ts.drop i) (vs.drop i) = if v.k = t.k ∧ v.e = t.e then (if inB v.n t.k t.e ms then chkF ms (i + 1) (ts.drop (i + 1)) (vs.drop (i + 1)) else (i, 3)) else (i, 8) := by
  obtain ⟨hi, rfl⟩ := List.getElem?_eq_some_iff.1 h1
  obtain ⟨hj, rfl⟩ := List.getElem?_eq_some_iff.1 h2
  rw [List.drop_eq_getElem_cons hi, List.drop_eq_getElem_cons hj, chkF]
theorem chkF_end {ms : List (List ByteArray)} {ts : List Ty} {vs : List Vl} {i : Nat} (h : ¬ i < vs.length) : chkF ms i (ts.drop i) (vs.drop i) = (0, 0) := by
  rw [List.drop_eq_nil_iff.2 (show vs.length ≤ i by omega)]
  cases ts.drop i <;> rfl
def ckPost (R : Nat × Int) (w : World) (e : Ending) (w' : World) : Prop := e = .returned (.tuple #[.int .i64 R.1, .int .i64 R.2]) ∧ Kept w w'
set_option maxRecDepth 100000 in
set_option maxHeartbeats 8000000 in
theorem check_any (ev : Value) (At As : Option Addr) (nt ct ns cs : Nat) (vv iv : Value) (ms : List (List ByteArray)) (ts : List Ty) (vs : List Vl) (w : World) (hE : Enums w ev ms) (hV : Vals w vv vs) (hI : Fds w iv ts) (hl : vs.length ≤ 9223372036854775807) :
    Calls Tryz.prog 16 #[.agg #[ev, .slice At nt ct, .slice As ns cs], vv, iv] w (ckPost (chkV ms ts vs) w) := by
  unfold ckPost
  obtain ⟨AV, cv, rfl, hAV⟩ := hV.at_
  obtain ⟨AI, ci, rfl, hAI⟩ := id hI
  have HBN := Lib.hid (fun (k e : Int) (w1 : World) (hk : Kept w w1) => bounds_any k e ev ms w1 (hE.kept hk))
  obtain ⟨AE, ce, rfl, _, _⟩ := id hE
  by_cases h1 : vs.length < ts.length
  · have HR := Lib.hid (show chkV ms ts vs = (vs.length, 5) by rw [chkV, if_pos h1])
    have h1i : (vs.length : Int) < ts.length := by omega
    rw [HR.out]
    clear hAV hAI hV hI hE h1
    go_enter Tryz.func16, Tryz.ntmps16
    go_wp2_with fail
    go_ret2
    exact ⟨rfl, (Kept.refl _).alloc _⟩
  by_cases h2 : ts.length < vs.length
  · have HR := Lib.hid (show chkV ms ts vs = (ts.length, 4) by rw [chkV, if_neg h1, if_pos h2])
    have h1i : ¬ ((vs.length : Int) < ts.length) := by omega
    have h2i : (ts.length : Int) < vs.length := by omega
    rw [HR.out]
    clear hAV hAI hV hI hE h1 h2
    go_enter Tryz.func16, Tryz.ntmps16
    go_wp2_with fail
    go_ret2
    exact ⟨rfl, (Kept.refl _).alloc _⟩
  have hlen : ts.length = vs.length := by omega
  have HR := Lib.hid (show chkV ms ts vs = chkF ms 0 (ts.drop 0) (vs.drop 0) by rw [chkV, if_neg h1, if_neg h2]; rfl)
  obtain ⟨n, hn⟩ : ∃ n, n = vs.length := ⟨_, rfl⟩
  rw [hlen, ← hn] at hAI
  rw [← hn] at hAV hl
  rw [hlen, ← hn]
  have HN := Lib.hid hn
  have HNT := Lib.hid (hn.trans hlen.symm)
  clear hV hI hE h1 h2 hlen hn
  go_enter Tryz.func16, Tryz.ntmps16
  go_wp2_with fail
  have hBx := Blk.new w 26 #[.slice AE ms.length ce, .slice At nt ct, .slice As ns cs]
  have hKx := (Kept.refl w).alloc (.cells #[.slice AE ms.length ce, .slice At nt ct, .slice As ns cs] 26)
  generalize w.alloc (.cells #[.slice AE ms.length ce, .slice At nt ct, .slice As ns cs] 26) = W at *
  go_loopw [29] (fun y wr => ∃ i : Nat, y = .int .i64 i ∧ i ≤ n ∧ Kept w wr ∧ Blk wr w.heap.size 26 #[.slice AE ms.length ce, .slice At nt ct, .slice As ns cs] ∧ chkF ms i (ts.drop i) (vs.drop i) = chkV ms ts vs) (fun y _ => n - (intOf y).toNat)
  case atStart => exact ⟨0, rfl, Nat.zero_le _, hKx, hBx, HR.out.symm⟩
  case round =>
    obtain ⟨i, rfl, hin, hK, hB, hrun⟩ := hrel
    clear hKx hBx
    by_cases hlt : i < n
    · obtain ⟨b1, o1, rfl, hb1, hc1⟩ := hAV (by omega)
      obtain ⟨b2, o2, rfl, hb2, hc2⟩ := hAI (by omega)
      have hg1 : vs[i]? = some (vs[i]'(by have := HN.out; omega)) := List.getElem?_eq_getElem _
      have hg2 : ts[i]? = some (ts[i]'(by have := HNT.out; omega)) := List.getElem?_eq_getElem _
      obtain ⟨x0, x1, x2⟩ := hc1 i _ hg1
      obtain ⟨y0, y1⟩ := hc2 i _ hg2
      rw [chkF_at hg2 hg1] at hrun
      generalize vs[i]'(by have := HN.out; omega) = V at *
      generalize ts[i]'(by have := HNT.out; omega) = T at *
      have X0 := hK.cell (p := ⟨b1, _, none⟩) hb1 x0
      have X1 := hK.cell (p := ⟨b1, _, none⟩) hb1 x1
      have X2 := hK.cell (p := ⟨b1, _, none⟩) hb1 x2
      have Y0 := hK.cell (p := ⟨b2, _, none⟩) hb2 y0
      have Y1 := hK.cell (p := ⟨b2, _, none⟩) hb2 y1
      have hii : (i : Int) < n := by omega
      have c0 := hB.cell 0
      have cl := hB.lt
      have b1r := Nat.lt_of_lt_of_le hb1 hK.size
      have b2r := Nat.lt_of_lt_of_le hb2 hK.size
      clear x0 x1 x2 y0 y1 hc1 hc2 hg1 hg2 hAV hAI
      obtain ⟨vk, ve, vn⟩ := V
      obtain ⟨tk, te⟩ := T
      dsimp only at hrun X0 X1 X2 Y0 Y1
      by_cases hk1 : vk = tk
      · by_cases hk2 : ve = te
        · subst hk1 hk2
          rw [if_pos ⟨rfl, rfl⟩] at hrun
          have HBB := Lib.hid (HBN.out vk ve)
          have hib : inB vn vk ve ms = (decide ((bndS vk ve ms).1 ≤ vn) && decide (vn ≤ (bndS vk ve ms).2)) := rfl
          rw [hib] at hrun
          generalize bndS vk ve ms = R at *
          obtain ⟨lo, hi⟩ := R
          dsimp only at HBB hrun
          have hself1 : (vk != vk) = false := by simp
          have hself2 : (ve != ve) = false := by simp
          have HB := Lib.hid (fun w2 (h : Kept ((wr.alloc (.cells #[.int .i64 vk, .int .i64 ve, .int .i64 vn] 61)).alloc (.cells #[.int .i64 vk, .int .i64 ve] 47)) w2) => ((hB.alloc (.cells #[.int .i64 vk, .int .i64 ve, .int .i64 vn] 61)).alloc (.cells #[.int .i64 vk, .int .i64 ve] 47)).kept h)
          have hP1 := (Blk.new wr 61 #[.int .i64 vk, .int .i64 ve, .int .i64 vn]).alloc (.cells #[.int .i64 vk, .int .i64 ve] 47)
          have HP := Lib.hid (fun w2 (h : Kept ((wr.alloc (.cells #[.int .i64 vk, .int .i64 ve, .int .i64 vn] 61)).alloc (.cells #[.int .i64 vk, .int .i64 ve] 47)) w2) => (hP1.kept h).cell 2)
          have HKK := Lib.hid ((hK.alloc (.cells #[.int .i64 vk, .int .i64 ve, .int .i64 vn] 61)).alloc (.cells #[.int .i64 vk, .int .i64 ve] 47))
          have hc2 : W.heap.size ≤ W.heap.size := Nat.le_refl _
          clear hP1 hc2
          by_cases hlo : lo ≤ vn
          · have hlo2 : ¬ vn < lo := by omega
            by_cases hhi : vn ≤ hi
            · rw [decide_eq_true hlo, decide_eq_true hhi, if_pos (by decide)] at hrun
              have hhi2 : ¬ hi < vn := by omega
              have HRUN := Lib.hid hrun
              clear hB hrun hib HBN hlo hhi
              go_wp2_with (go_at_call 34; refine (HBB.out _ HKK.out).mono ?_; rintro e w2 ⟨rfl, k2⟩; have p2 := HP.out w2 k2)
              go_roundw
              case rel => exact ⟨i + 1, rfl, hlt, HKK.out.trans k2, HB.out w2 k2, HRUN.out⟩
              case measure => simp [intOf]; omega
            · rw [decide_eq_true hlo, decide_eq_false hhi, if_neg (by decide)] at hrun
              have hhi2 : hi < vn := by omega
              have HRUN := Lib.hid hrun
              clear hB hrun hib HBN hlo hhi
              go_wp2_with (go_at_call 34; refine (HBB.out _ HKK.out).mono ?_; rintro e w2 ⟨rfl, k2⟩; have p2 := HP.out w2 k2)
              go_ret2
              rw [← HRUN.out]
              exact ⟨rfl, HKK.out.trans k2⟩
          · rw [decide_eq_false hlo, Bool.false_and, if_neg (by decide)] at hrun
            have hlo2 : vn < lo := by omega
            have HRUN := Lib.hid hrun
            clear hB hrun hib HBN hlo
            go_wp2_with (go_at_call 34; refine (HBB.out _ HKK.out).mono ?_; rintro e w2 ⟨rfl, k2⟩; have p2 := HP.out w2 k2)
            go_ret2
            rw [← HRUN.out]
            exact ⟨rfl, HKK.out.trans k2⟩
        · subst hk1
          rw [if_neg (fun h => hk2 h.2)] at hrun
          have hself1 : (vk != vk) = false := by simp
          have hb2 := bne_noC hk2
          have HRUN := Lib.hid hrun
          have HKK := Lib.hid ((hK.alloc (.cells #[.int .i64 vk, .int .i64 ve, .int .i64 vn] 61)).alloc (.cells #[.int .i64 vk, .int .i64 te] 47))
          clear hB hrun HBN hk2
          go_wp2_with fail
          go_ret2
          rw [← HRUN.out]
          exact ⟨rfl, HKK.out⟩
      · rw [if_neg (fun h => hk1 h.1)] at hrun
        have hb2 := bne_noC hk1
        have HRUN := Lib.hid hrun
        have HKK := Lib.hid ((hK.alloc (.cells #[.int .i64 vk, .int .i64 ve, .int .i64 vn] 61)).alloc (.cells #[.int .i64 tk, .int .i64 te] 47))
        clear hB hrun HBN hk1
        go_wp2_with fail
        go_ret2
        rw [← HRUN.out]
        exact ⟨rfl, HKK.out⟩
    · have hii : ¬ ((i : Int) < n) := by omega
      rw [chkF_end (by have := HN.out; omega)] at hrun
      have HRUN := Lib.hid hrun
      clear hrun hB
      go_wp2_with fail
      go_ret2
      rw [← HRUN.out]
      exact ⟨rfl, hK⟩
end Go.Proofs.YtjeifmjcgemlgaaGreatDoor
/- Laws and cases that came in, opened: what package casedata, its reference and the size tests read of them. -/
namespace Go.Proofs.YtjeifmjcgemlgaaGreatDoor
open Go.ChangeShapes Go.WideShapes Go.ChangeAt Go.RowKit Go.Joins Go.Deep

theorem choose_list {α : Type} {p : Nat → α → Prop} : ∀ (n : Nat), (∀ i, i < n → ∃ x, p i x) → ∃ xs : List α, xs.length = n ∧ ∀ (i : Nat) x, xs[i]? = some x → p i x
  | 0, _ => ⟨[], rfl, fun i x h => by simp at h⟩
  | n + 1, h => by
    obtain ⟨xs, hl, hx⟩ := choose_list n (fun i hi => h i (by omega))
    obtain ⟨y, hy⟩ := h n (by omega)
    refine ⟨xs ++ [y], by simp [hl], fun i x hi => ?_⟩
    by_cases hlt : i < xs.length
    · rw [List.getElem?_append_left hlt] at hi
      exact hx i x hi
    · have hin : i = n := by
        have := (List.getElem?_eq_some_iff.1 hi).1
        rw [List.length_append, List.length_singleton] at this
        omega
      subst hin
      rw [List.getElem?_append_right (by omega), hl, Nat.sub_self] at hi
      obtain rfl : y = x := Option.some.inj hi
      exact hy
/-- a slice whose every element, of k cells, is as p says -/
def SlW (w : World) (k : Nat) (p : World → Nat → Nat → Prop) (v : Value) : Prop :=
  ∃ A n cap, v = .slice A n cap ∧ n ≤ 9223372036854775807 ∧ (0 < n → ∃ b off, A = some ⟨b, off, none⟩ ∧ b < w.heap.size ∧ ∀ j, j < n → p w b (off + j * k))
def KeptP (p : World → Nat → Nat → Prop) : Prop := ∀ w w' b o, Kept w w' → b < w.heap.size → p w b o → p w' b o
theorem SlW.kept {w w' : World} {k : Nat} {p : World → Nat → Nat → Prop} {v : Value} (hp : KeptP p) (h : SlW w k p v) (hk : Kept w w') : SlW w' k p v := by
  obtain ⟨A, n, cap, hv, hn, hx⟩ := h
  refine ⟨A, n, cap, hv, hn, fun h0 => ?_⟩
  obtain ⟨b, off, hA, hb, hc⟩ := hx h0
  exact ⟨b, off, hA, Nat.lt_of_lt_of_le hb hk.size, fun j hj => hp _ _ _ _ hk hb (hc j hj)⟩
/-- a string, an int, a slice in a cell -/
def StrAt (w : World) (b o : Nat) : Prop := ∃ s, w.cell? ⟨b, o, none⟩ = some (.string s)
def IntAt (w : World) (b o : Nat) : Prop := ∃ n, w.cell? ⟨b, o, none⟩ = some (.int .i64 n)
def SlAt (w : World) (b o : Nat) : Prop := ∃ A n c, w.cell? ⟨b, o, none⟩ = some (.slice A n c) ∧ n ≤ 9223372036854775807
theorem StrAt.kept : KeptP StrAt := fun _ _ b o hk hb ⟨s, h⟩ => ⟨s, hk.cell (p := ⟨b, o, none⟩) hb h⟩
theorem IntAt.kept : KeptP IntAt := fun _ _ b o hk hb ⟨s, h⟩ => ⟨s, hk.cell (p := ⟨b, o, none⟩) hb h⟩
theorem SlAt.kept : KeptP SlAt := fun _ _ b o hk hb ⟨A, n, c, h, hn⟩ => ⟨A, n, c, hk.cell (p := ⟨b, o, none⟩) hb h, hn⟩
/-- a rule; a scope; a table -/
def RuP (w : World) (b o : Nat) : Prop := StrAt w b o ∧ IntAt w b (o + 1) ∧ IntAt w b (o + 2) ∧ IntAt w b (o + 3) ∧ IntAt w b (o + 4) ∧ IntAt w b (o + 5) ∧ SlAt w b (o + 6) ∧ SlAt w b (o + 7) ∧ StrAt w b (o + 8)
theorem RuP.kept : KeptP RuP := fun _ _ _ _ hk hb ⟨h0, h1, h2, h3, h4, h5, h6, h7, h8⟩ =>
  ⟨StrAt.kept _ _ _ _ hk hb h0, IntAt.kept _ _ _ _ hk hb h1, IntAt.kept _ _ _ _ hk hb h2, IntAt.kept _ _ _ _ hk hb h3, IntAt.kept _ _ _ _ hk hb h4, IntAt.kept _ _ _ _ hk hb h5, SlAt.kept _ _ _ _ hk hb h6, SlAt.kept _ _ _ _ hk hb h7, StrAt.kept _ _ _ _ hk hb h8⟩
def ScP (w : World) (b o : Nat) : Prop := StrAt w b o ∧ IntAt w b (o + 1) ∧ (∃ v, w.cell? ⟨b, o + 2, none⟩ = some v ∧ SlW w 3 StrAt v) ∧ (∃ v, w.cell? ⟨b, o + 3, none⟩ = some v ∧ SlW w 3 StrAt v) ∧ ∃ v, w.cell? ⟨b, o + 4, none⟩ = some v ∧ SlW w 9 RuP v
theorem ScP.kept : KeptP ScP := fun _ _ b o hk hb ⟨h0, h1, ⟨v2, h2, g2⟩, ⟨v3, h3, g3⟩, ⟨v4, h4, g4⟩⟩ =>
  ⟨StrAt.kept _ _ _ _ hk hb h0, IntAt.kept _ _ _ _ hk hb h1, ⟨v2, hk.cell (p := ⟨b, o + 2, none⟩) hb h2, g2.kept StrAt.kept hk⟩, ⟨v3, hk.cell (p := ⟨b, o + 3, none⟩) hb h3, g3.kept StrAt.kept hk⟩, ⟨v4, hk.cell (p := ⟨b, o + 4, none⟩) hb h4, g4.kept RuP.kept hk⟩⟩
def TbP (w : World) (b o : Nat) : Prop := StrAt w b o ∧ SlAt w b (o + 5)
theorem TbP.kept : KeptP TbP := fun _ _ _ _ hk hb ⟨h0, h1⟩ => ⟨StrAt.kept _ _ _ _ hk hb h0, SlAt.kept _ _ _ _ hk hb h1⟩
/-- a law, as far as the size tests read it -/
def LawR (w : World) (v : Value) : Prop := ∃ ev tv sv, v = .agg #[ev, tv, sv] ∧ SlW w 2 StrAt ev ∧ SlW w 6 TbP tv ∧ SlW w 5 ScP sv
theorem LawR.kept {w w' : World} {v : Value} (h : LawR w v) (hk : Kept w w') : LawR w' v := by
  obtain ⟨ev, tv, sv, hv, h0, h1, h2⟩ := h
  exact ⟨ev, tv, sv, hv, h0.kept StrAt.kept hk, h1.kept TbP.kept hk, h2.kept ScP.kept hk⟩

section
variable {H : Type} {enc : TypeId × Value → H} {w : World}
theorem addr_none (b o q : Nat) : (⟨b, o, none⟩ : Addr).add q = ⟨b, o + q, none⟩ := by
  unfold Addr.add
  by_cases e : q = 0
  · subst e; rfl
  · simp [e]
/-- a slice, element by element -/
theorem Reads.slice {t e : TypeId} {k : Nat} {v : Value} (ht : Tryz.prog.underlying t = some (.slice e)) (hC : Tryz.prog.cellsOf e = k) (hk : 0 < k) (hlen : ∀ cs, Reads enc w e cs → cs.length = k) (h : Reads enc w t [v]) :
    ∃ A n cap, v = .slice A n cap ∧ n ≤ 9223372036854775807 ∧ (n = 0 → A = none ∨ True) ∧ (0 < n → ∃ b off, A = some ⟨b, off, none⟩ ∧ b < w.heap.size ∧
      ∀ i, i < n → ∃ cs, cs.length = k ∧ (∀ j, j < k → w.cell? ⟨b, off + i * k + j, none⟩ = cs[j]?) ∧ Reads enc w e cs) := by
  obtain ⟨fuel, x, h⟩ := h
  rcases open_slice ht h with ⟨hcs, _⟩ | ⟨a, len, cap, m, n, D, Pl, hcs, hb, hl, hm, hmm, hx, hi⟩
  · simp only [List.cons.injEq, and_true] at hcs
    exact ⟨none, 0, 0, hcs, by omega, fun _ => .inl rfl, fun h => absurd h (by decide)⟩
  · simp only [if_true] at hmm
    subst hmm
    simp only [List.cons.injEq, and_true] at hcs
    unfold maxLen at hm
    refine ⟨some a, len, _, hcs, by omega, fun _ => .inr trivial, fun hp => ?_⟩
    have hex : ∀ i, i < len → ∃ cs, cs.length = k ∧ (∀ j, j < k → w.cell? ((a.add (i * k)).add j) = cs[j]?) ∧ Reads enc w e cs := by
      intro i hil
      obtain ⟨cs', hc, ht'⟩ := hi i (by omega)
      rw [hC] at hc
      obtain ⟨_, hcl, hat⟩ := World.cells?_some hc
      have hr : Reads enc w e cs' := ⟨_, _, ht'⟩
      exact ⟨cs', hlen _ hr, fun j hj => hat j hj, hr⟩
    obtain ⟨cs0, hl0, hc0, _⟩ := hex 0 hp
    have c0 : w.cell? ((a.add (0 * k)).add 0) = some (cs0[0]'(by omega)) := by rw [hc0 0 hk, List.getElem?_eq_getElem]
    have hb := cell_lt c0
    rw [block_of_add, block_of_add] at hb
    obtain ⟨b, o, sp⟩ := a
    have hsn : sp = none := by
      have := World.cell?_spot c0
      simpa [Addr.add] using this
    subst hsn
    refine ⟨b, o, rfl, hb, fun i hil => ?_⟩
    obtain ⟨cs, q0, q1, q2⟩ := hex i hil
    refine ⟨cs, q0, fun j hj => ?_, q2⟩
    rw [← q1 j hj, addr_none, addr_none]
/-- a field of one cell -/
theorem Reads.oneAt {t : TypeId} {fs : Array Field} {cs : List Value} (ht : Tryz.prog.underlying t = some (.struct fs)) (h : Reads enc w t cs) (i o : Nat) (T : TypeId) (f : Field) (hf : fs[i]? = some f) (ho : f.offset = o) (hT : f.type = T) (hk : Tryz.prog.cellsOf T = 1) (hlt : o < cs.length) :
    ∃ u, cs[o]? = some u ∧ Reads enc w T [u] := by
  have h1 := h.sub ht i o 1 T f hf ho hT hk
  refine ⟨cs[o], List.getElem?_eq_getElem hlt, ?_⟩
  rw [List.drop_eq_getElem_cons hlt] at h1
  exact h1
theorem Reads.str1 {u : Value} (h : Reads enc w 9 [u]) : ∃ s : ByteArray, u = .string s := by
  obtain ⟨fuel, x, h⟩ := h
  obtain ⟨s, e1, _, _⟩ := DataW.trod_string Tryz.underlying9 h
  simp only [List.cons.injEq, and_true] at e1
  exact ⟨s, e1⟩
theorem Reads.int1 {u : Value} (h : Reads enc w 3 [u]) : ∃ n : Int, u = .int .i64 n := by
  obtain ⟨n, e, _⟩ := h.int
  simp only [List.cons.injEq, and_true] at e
  exact ⟨n, e⟩
theorem Reads.lenS {t : TypeId} {fs : Array Field} {k : Nat} (ht : Tryz.prog.underlying t = some (.struct fs)) (hC : Tryz.prog.cellsOf t = k) {cs : List Value} (h : Reads enc w t cs) : cs.length = k := (h.length ht).trans hC
theorem cStr : Tryz.prog.cellsOf 9 = 1 := by kernel_rfl
theorem cTyp : Tryz.prog.cellsOf 47 = 2 := by kernel_rfl
theorem cFld : Tryz.prog.cellsOf 88 = 3 := by kernel_rfl
theorem cVal : Tryz.prog.cellsOf 61 = 3 := by kernel_rfl
theorem cRul : Tryz.prog.cellsOf 93 = 9 := by kernel_rfl
theorem cScp : Tryz.prog.cellsOf 54 = 5 := by kernel_rfl
theorem cTab : Tryz.prog.cellsOf 50 = 6 := by kernel_rfl
theorem cEnm : Tryz.prog.cellsOf 45 = 2 := by kernel_rfl
theorem cNod : Tryz.prog.cellsOf 171 = 2 := by kernel_rfl
theorem cRow : Tryz.prog.cellsOf 131 = 5 := by kernel_rfl
theorem cSlV : Tryz.prog.cellsOf 27 = 1 := by kernel_rfl
theorem uStrs : Tryz.prog.underlying 43 = some (.slice 9) := by kernel_rfl
theorem uFlds : Tryz.prog.underlying 51 = some (.slice 88) := by kernel_rfl
theorem uVals : Tryz.prog.underlying 27 = some (.slice 61) := by kernel_rfl
theorem uMems : Tryz.prog.underlying 28 = some (.slice 27) := by kernel_rfl
theorem uRuls : Tryz.prog.underlying 52 = some (.slice 93) := by kernel_rfl
theorem uScps : Tryz.prog.underlying 24 = some (.slice 54) := by kernel_rfl
theorem uTabs : Tryz.prog.underlying 23 = some (.slice 50) := by kernel_rfl
theorem uEnms : Tryz.prog.underlying 22 = some (.slice 45) := by kernel_rfl
theorem uNods : Tryz.prog.underlying 91 = some (.slice 171) := by kernel_rfl
theorem uRows : Tryz.prog.underlying 48 = some (.slice 131) := by kernel_rfl
/-- the lists of values -/
theorem open_vals {v : Value} (h : Reads enc w 27 [v]) : ∃ xs : List Vl, Vals w v xs ∧ xs.length ≤ 9223372036854775807 := by
  obtain ⟨A, n, cap, rfl, hn, _, hx⟩ := h.slice uVals cVal (by decide) (fun cs h => h.lenS Tryz.underlying61 cVal)
  rcases Nat.eq_zero_or_pos n with h0 | hp
  · subst h0
    exact ⟨[], ⟨A, cap, rfl, fun h => absurd h (by simp)⟩, by simp⟩
  obtain ⟨b, off, rfl, hb, hc⟩ := hx hp
  obtain ⟨xs, hl, hxs⟩ := choose_list (p := fun i (x : Vl) => ∀ j u, (vlF x)[j]? = some u → w.cell? ⟨b, off + i * 3 + j, none⟩ = some u) n (fun i hi => by
    obtain ⟨cs, hcl, hcc, hr⟩ := hc i hi
    obtain ⟨x0, e0, _⟩ := hr.intAt Tryz.underlying61 0 0 _ rfl rfl rfl
    obtain ⟨x1, e1, _⟩ := hr.intAt Tryz.underlying61 1 1 _ rfl rfl rfl
    obtain ⟨x2, e2, _⟩ := hr.intAt Tryz.underlying61 2 2 _ rfl rfl rfl
    refine ⟨⟨x0, x1, x2⟩, fun j u hu => ?_⟩
    match j, hu with
    | 0, hu => obtain rfl := Option.some.inj hu; rw [hcc 0 (by decide), e0]
    | 1, hu => obtain rfl := Option.some.inj hu; rw [hcc 1 (by decide), e1]
    | 2, hu => obtain rfl := Option.some.inj hu; rw [hcc 2 (by decide), e2]
    | j + 3, hu => simp [vlF] at hu)
  subst hl
  exact ⟨xs, ⟨_, cap, rfl, fun _ => ⟨b, off, rfl, hb, fun j x hj i u hu => hxs j x hj i u hu⟩⟩, hn⟩
theorem open_mems {v : Value} (h : Reads enc w 28 [v]) : ∃ mem : List (List Vl), Mems w v mem := by
  obtain ⟨A, n, cap, rfl, hn, _, hx⟩ := h.slice uMems cSlV (by decide) (fun cs h => by
    obtain ⟨fuel, x, h⟩ := h
    rcases open_slice uVals h with ⟨hcs, _⟩ | ⟨a, len, cap, m, n, D, Pl, hcs, _⟩ <;> rw [hcs] <;> rfl)
  rcases Nat.eq_zero_or_pos n with h0 | hp
  · subst h0
    exact ⟨[], ⟨A, cap, rfl, by simp, fun h => absurd h (by simp)⟩⟩
  obtain ⟨b, off, rfl, hb, hc⟩ := hx hp
  obtain ⟨xs, hl, hxs⟩ := choose_list (p := fun i (l : List Vl) => l.length ≤ 9223372036854775807 ∧ ∃ lv, w.cell? ⟨b, off + i, none⟩ = some lv ∧ Vals w lv l) n (fun i hi => by
    obtain ⟨cs, hcl, hcc, hr⟩ := hc i hi
    match cs, hcl with
    | [u], _ =>
      obtain ⟨l, h1, h2⟩ := open_vals hr
      have := hcc 0 (by decide)
      exact ⟨l, h2, u, by rw [show off + i = off + i * 1 + 0 by omega, this]; rfl, h1⟩)
  subst hl
  exact ⟨xs, ⟨_, cap, rfl, hn, fun _ => ⟨b, off, rfl, hb, hxs⟩⟩⟩
theorem open_fds {v : Value} (h : Reads enc w 51 [v]) : ∃ ts : List Ty, Fds w v ts ∧ ts.length ≤ 9223372036854775807 ∧ SlW w 3 StrAt v := by
  obtain ⟨A, n, cap, rfl, hn, _, hx⟩ := h.slice uFlds cFld (by decide) (fun cs h => h.lenS Tryz.underlying88 cFld)
  rcases Nat.eq_zero_or_pos n with h0 | hp
  · subst h0
    exact ⟨[], ⟨A, cap, rfl, fun h => absurd h (by simp)⟩, by simp, ⟨A, 0, cap, rfl, by omega, fun h => absurd h (by simp)⟩⟩
  obtain ⟨b, off, rfl, hb, hc⟩ := hx hp
  obtain ⟨xs, hl, hxs⟩ := choose_list (p := fun i (x : Ty) => w.cell? ⟨b, off + i * 3 + 1, none⟩ = some (.int .i64 x.k) ∧ w.cell? ⟨b, off + i * 3 + 2, none⟩ = some (.int .i64 x.e)) n (fun i hi => by
    obtain ⟨cs, hcl, hcc, hr⟩ := hc i hi
    have h1 := hr.sub Tryz.underlying88 1 1 2 47 _ rfl rfl rfl cTyp
    obtain ⟨x0, e0, _⟩ := h1.intAt Tryz.underlying47 0 0 _ rfl rfl rfl
    obtain ⟨x1, e1, _⟩ := h1.intAt Tryz.underlying47 1 1 _ rfl rfl rfl
    match cs, hcl with
    | [u0, u1, u2], _ =>
      simp at e0 e1
      subst e0 e1
      exact ⟨⟨x0, x1⟩, hcc 1 (by decide), hcc 2 (by decide)⟩)
  subst hl
  refine ⟨xs, ⟨_, cap, rfl, fun _ => ⟨b, off, rfl, hb, hxs⟩⟩, hn, ⟨_, _, cap, rfl, hn, fun _ => ⟨b, off, rfl, hb, fun i hi => ?_⟩⟩⟩
  obtain ⟨cs, hcl, hcc, hr⟩ := hc i hi
  obtain ⟨u, hu, hr0⟩ := hr.oneAt Tryz.underlying88 0 0 9 _ rfl rfl rfl cStr (by omega)
  obtain ⟨s, rfl⟩ := hr0.str1
  exact ⟨s, by rw [← hu]; exact hcc 0 (by decide)⟩
theorem open_nods {v : Value} (h : Reads enc w 91 [v]) : ∃ A n c, v = .slice A n c ∧ n ≤ 9223372036854775807 := by
  obtain ⟨A, n, cap, rfl, hn, _⟩ := h.slice uNods cNod (by decide) (fun cs h => h.lenS Tryz.underlying171 cNod)
  exact ⟨A, n, cap, rfl, hn⟩
theorem open_rows {v : Value} (h : Reads enc w 48 [v]) : ∃ A n c, v = .slice A n c ∧ n ≤ 9223372036854775807 := by
  obtain ⟨A, n, cap, rfl, hn, _⟩ := h.slice uRows cRow (by decide) (fun cs h => h.lenS Tryz.underlying131 cRow)
  exact ⟨A, n, cap, rfl, hn⟩
theorem open_rules {v : Value} (h : Reads enc w 52 [v]) : SlW w 9 RuP v := by
  obtain ⟨A, n, cap, rfl, hn, _, hx⟩ := h.slice uRuls cRul (by decide) (fun cs h => h.lenS Tryz.underlying93 cRul)
  refine ⟨A, n, cap, rfl, hn, fun hp => ?_⟩
  obtain ⟨b, off, rfl, hb, hc⟩ := hx hp
  refine ⟨b, off, rfl, hb, fun i hi => ?_⟩
  obtain ⟨cs, hcl, hcc, hr⟩ := hc i hi
  obtain ⟨u0, g0, r0⟩ := hr.oneAt Tryz.underlying93 0 0 9 _ rfl rfl rfl cStr (by omega)
  obtain ⟨s0, rfl⟩ := r0.str1
  obtain ⟨n1, g1, _⟩ := hr.intAt Tryz.underlying93 1 1 _ rfl rfl rfl
  obtain ⟨n2, g2, _⟩ := hr.intAt Tryz.underlying93 2 2 _ rfl rfl rfl
  obtain ⟨n3, g3, _⟩ := hr.intAt Tryz.underlying93 3 3 _ rfl rfl rfl
  have h4 := hr.sub Tryz.underlying93 4 4 2 90 _ rfl rfl rfl (by kernel_rfl)
  obtain ⟨n4, g4, _⟩ := h4.intAt Tryz.underlying90 0 0 _ rfl rfl rfl
  obtain ⟨n5, g5, _⟩ := h4.intAt Tryz.underlying90 1 1 _ rfl rfl rfl
  obtain ⟨u6, g6, r6⟩ := hr.oneAt Tryz.underlying93 5 6 91 _ rfl rfl rfl (by kernel_rfl) (by omega)
  obtain ⟨A6, n6, c6, rfl, l6⟩ := open_nods r6
  obtain ⟨u7, g7, r7⟩ := hr.oneAt Tryz.underlying93 6 7 91 _ rfl rfl rfl (by kernel_rfl) (by omega)
  obtain ⟨A7, n7, c7, rfl, l7⟩ := open_nods r7
  obtain ⟨u8, g8, r8⟩ := hr.oneAt Tryz.underlying93 7 8 9 _ rfl rfl rfl cStr (by omega)
  obtain ⟨s8, rfl⟩ := r8.str1
  match cs, hcl with
  | [v0, v1, v2, v3, v4, v5, v6, v7, v8], _ =>
    simp at g0 g1 g2 g3 g4 g5 g6 g7 g8
    subst g0 g1 g2 g3 g4 g5 g6 g7 g8
    exact ⟨⟨s0, hcc 0 (by decide)⟩, ⟨n1, hcc 1 (by decide)⟩, ⟨n2, hcc 2 (by decide)⟩, ⟨n3, hcc 3 (by decide)⟩, ⟨n4, hcc 4 (by decide)⟩, ⟨n5, hcc 5 (by decide)⟩, ⟨A6, n6, c6, hcc 6 (by decide), l6⟩, ⟨A7, n7, c7, hcc 7 (by decide), l7⟩, ⟨s8, hcc 8 (by decide)⟩⟩
theorem open_tabs {v : Value} (h : Reads enc w 23 [v]) : SlW w 6 TbP v := by
  obtain ⟨A, n, cap, rfl, hn, _, hx⟩ := h.slice uTabs cTab (by decide) (fun cs h => h.lenS Tryz.underlying50 cTab)
  refine ⟨A, n, cap, rfl, hn, fun hp => ?_⟩
  obtain ⟨b, off, rfl, hb, hc⟩ := hx hp
  refine ⟨b, off, rfl, hb, fun i hi => ?_⟩
  obtain ⟨cs, hcl, hcc, hr⟩ := hc i hi
  obtain ⟨u0, g0, r0⟩ := hr.oneAt Tryz.underlying50 0 0 9 _ rfl rfl rfl cStr (by omega)
  obtain ⟨s0, rfl⟩ := r0.str1
  obtain ⟨u5, g5, r5⟩ := hr.oneAt Tryz.underlying50 3 5 48 _ rfl rfl rfl (by kernel_rfl) (by omega)
  obtain ⟨A5, n5, c5, rfl, l5⟩ := open_rows r5
  exact ⟨⟨s0, by rw [← g0]; exact hcc 0 (by decide)⟩, ⟨A5, n5, c5, by rw [← g5]; exact hcc 5 (by decide), l5⟩⟩
theorem open_scs {v : Value} (h : Reads enc w 24 [v]) : ∃ scs : List Sc, Scs w v scs ∧ SlW w 5 ScP v := by
  obtain ⟨A, n, cap, rfl, hn, _, hx⟩ := h.slice uScps cScp (by decide) (fun cs h => h.lenS Tryz.underlying54 cScp)
  rcases Nat.eq_zero_or_pos n with h0 | hp
  · subst h0
    exact ⟨[], ⟨A, cap, rfl, by simp, fun h => absurd h (by simp)⟩, ⟨A, 0, cap, rfl, by omega, fun h => absurd h (by simp)⟩⟩
  obtain ⟨b, off, rfl, hb, hc⟩ := hx hp
  have hex : ∀ i, i < n → ∃ s : Sc, (s.ins.length ≤ 9223372036854775807 ∧ w.cell? ⟨b, off + i * 5 + 1, none⟩ = some (.int .i64 s.m) ∧ ∃ iv, w.cell? ⟨b, off + i * 5 + 2, none⟩ = some iv ∧ Fds w iv s.ins) ∧ ScP w b (off + i * 5) := by
    intro i hi
    obtain ⟨cs, hcl, hcc, hr⟩ := hc i hi
    obtain ⟨u0, g0, r0⟩ := hr.oneAt Tryz.underlying54 0 0 9 _ rfl rfl rfl cStr (by omega)
    obtain ⟨s0, rfl⟩ := r0.str1
    obtain ⟨n1, g1, _⟩ := hr.intAt Tryz.underlying54 1 1 _ rfl rfl rfl
    obtain ⟨u2, g2, r2⟩ := hr.oneAt Tryz.underlying54 2 2 51 _ rfl rfl rfl (by kernel_rfl) (by omega)
    obtain ⟨ts, q1, q2, q3⟩ := open_fds r2
    obtain ⟨u3, g3, r3⟩ := hr.oneAt Tryz.underlying54 3 3 51 _ rfl rfl rfl (by kernel_rfl) (by omega)
    obtain ⟨_, _, _, q4⟩ := open_fds r3
    obtain ⟨u4, g4, r4⟩ := hr.oneAt Tryz.underlying54 4 4 52 _ rfl rfl rfl (by kernel_rfl) (by omega)
    have q5 := open_rules r4
    have c0 := (hcc 0 (by decide)).trans g0
    have c1 := (hcc 1 (by decide)).trans g1
    have c2 := (hcc 2 (by decide)).trans g2
    have c3 := (hcc 3 (by decide)).trans g3
    have c4 := (hcc 4 (by decide)).trans g4
    exact ⟨⟨n1, ts⟩, ⟨q2, c1, u2, c2, q1⟩, ⟨s0, c0⟩, ⟨n1, c1⟩, ⟨u2, c2, q3⟩, ⟨u3, c3, q4⟩, u4, c4, q5⟩
  obtain ⟨xs, hl, hxs⟩ := choose_list n (fun i hi => (hex i hi).imp fun _ h => h.1)
  subst hl
  exact ⟨xs, ⟨_, cap, rfl, hn, fun _ => ⟨b, off, rfl, hb, hxs⟩⟩, ⟨_, _, cap, rfl, hn, fun _ => ⟨b, off, rfl, hb, fun i hi => (hex i hi).elim fun _ h => h.2⟩⟩⟩
theorem open_enm {v : Value} (h : Reads enc w 22 [v]) : ∃ ms : List (List ByteArray), Enums w v ms ∧ SlW w 2 StrAt v := by
  obtain ⟨A, n, cap, rfl, hn, _, hx⟩ := h.slice uEnms cEnm (by decide) (fun cs h => h.lenS Tryz.underlying45 cEnm)
  rcases Nat.eq_zero_or_pos n with h0 | hp
  · subst h0
    exact ⟨[], ⟨A, cap, rfl, by simp, fun h => absurd h (by simp)⟩, ⟨A, 0, cap, rfl, by omega, fun h => absurd h (by simp)⟩⟩
  obtain ⟨b, off, rfl, hb, hc⟩ := hx hp
  have hex : ∀ i, i < n → ∃ l : List ByteArray, (l.length ≤ 9223372036854775807 ∧ ∃ mv, w.cell? ⟨b, off + i * 2 + 1, none⟩ = some mv ∧ Strs w mv l) ∧ StrAt w b (off + i * 2) := by
    intro i hi
    obtain ⟨cs, hcl, hcc, hr⟩ := hc i hi
    obtain ⟨u0, g0, r0⟩ := hr.oneAt Tryz.underlying45 0 0 9 _ rfl rfl rfl cStr (by omega)
    obtain ⟨s0, rfl⟩ := r0.str1
    obtain ⟨u1, g1, r1⟩ := hr.oneAt Tryz.underlying45 1 1 43 _ rfl rfl rfl (by kernel_rfl) (by omega)
    obtain ⟨f, x, r1⟩ := r1
    obtain ⟨mv, l, e1, hs, hle⟩ := open_strs uStrs Tryz.underlying9 cStr r1
    simp only [List.cons.injEq, and_true] at e1
    subst e1
    unfold maxLen at hle
    exact ⟨l, ⟨hle, u1, (hcc 1 (by decide)).trans g1, hs⟩, s0, (hcc 0 (by decide)).trans g0⟩
  obtain ⟨xs, hl, hxs⟩ := choose_list n (fun i hi => (hex i hi).imp fun _ h => h.1)
  subst hl
  exact ⟨xs, ⟨_, cap, rfl, hn, fun _ => ⟨b, off, rfl, hb, hxs⟩⟩, ⟨_, _, cap, rfl, hn, fun _ => ⟨b, off, rfl, hb, fun i hi => (hex i hi).elim fun _ h => h.2⟩⟩⟩
set_option maxRecDepth 100000 in
theorem open_law {base : Nat} {v : Value} {d : DataW H} {p : List MemPlace} (hv : Value.okWide Tryz.prog w .any base 26 v) (h : DataW.Trod enc Tryz.prog w 0 (fun _ => true) true 26 v d p) :
    ∃ (ms : List (List ByteArray)) (scs : List Sc), LawM w v ms scs ∧ LawR w v := by
  obtain ⟨⟨cs⟩, rfl, hsz⟩ := okWide_struct Tryz.underlying26 hv
  rw [show Tryz.prog.cellsOf 26 = 3 by kernel_rfl] at hsz
  have hr := Reads.of h
  have hsl : cs.length = 3 := hsz
  obtain ⟨u0, g0, r0⟩ := hr.oneAt Tryz.underlying26 0 0 22 _ rfl rfl rfl (by kernel_rfl) (show 0 < cs.length by omega)
  obtain ⟨u1, g1, r1⟩ := hr.oneAt Tryz.underlying26 1 1 23 _ rfl rfl rfl (by kernel_rfl) (show 1 < cs.length by omega)
  obtain ⟨u2, g2, r2⟩ := hr.oneAt Tryz.underlying26 2 2 24 _ rfl rfl rfl (by kernel_rfl) (show 2 < cs.length by omega)
  obtain ⟨ms, e1, e2⟩ := open_enm r0
  have t1 := open_tabs r1
  obtain ⟨scs, s1, s2⟩ := open_scs r2
  obtain ⟨At, nt, ct, rfl, _⟩ := id t1
  match cs, hsl with
  | [c0, c1, c2], _ =>
    simp at g0 g1 g2
    subst g0 g1 g2
    exact ⟨ms, scs, ⟨_, At, nt, ct, _, rfl, e1, s1⟩, ⟨_, _, _, rfl, e2, t1, s2⟩⟩
set_option maxRecDepth 100000 in
theorem open_case {base : Nat} {v : Value} {d : DataW H} {p : List MemPlace} (hv : Value.okWide Tryz.prog w .any base 30 v) (h : DataW.Trod enc Tryz.prog w 0 (fun _ => true) true 30 v d p) :
    ∃ (dt : Int) (iv mv : Value) (ins : List Vl) (mem : List (List Vl)), v = .agg #[.int .i64 dt, iv, mv] ∧ Vals w iv ins ∧ ins.length ≤ 9223372036854775807 ∧ Mems w mv mem := by
  obtain ⟨⟨cs⟩, rfl, hsz⟩ := okWide_struct Tryz.underlying30 hv
  rw [show Tryz.prog.cellsOf 30 = 3 by kernel_rfl] at hsz
  have hr := Reads.of h
  have hsl : cs.length = 3 := hsz
  obtain ⟨dt, g0, _⟩ := hr.intAt Tryz.underlying30 0 0 _ rfl rfl rfl
  obtain ⟨u1, g1, r1⟩ := hr.oneAt Tryz.underlying30 1 1 27 _ rfl rfl rfl (by kernel_rfl) (show 1 < cs.length by omega)
  obtain ⟨u2, g2, r2⟩ := hr.oneAt Tryz.underlying30 2 2 28 _ rfl rfl rfl (by kernel_rfl) (show 2 < cs.length by omega)
  obtain ⟨ins, i1, i2⟩ := open_vals r1
  obtain ⟨mem, m1⟩ := open_mems r2
  match cs, hsl with
  | [c0, c1, c2], _ =>
    simp at g0 g1 g2
    subst g0 g1 g2
    exact ⟨dt, _, _, ins, mem, rfl, i1, i2, m1⟩
end
end Go.Proofs.YtjeifmjcgemlgaaGreatDoor
/- Laws that came in, opened in depth, with the sizes of their lists: what the reference of package law reads of them. -/
namespace Go.Proofs.YtjeifmjcgemlgaaGreatDoor
open Go.ChangeShapes Go.WideShapes Go.ChangeAt Go.RowKit Go.Joins Go.Deep

/-- a slice of at most 2^43 elements of k cells each, all as p says -/
def SlZ (w : World) (k : Nat) (p : World → Nat → Nat → Prop) (v : Value) : Prop :=
  ∃ A n cap, v = .slice A n cap ∧ n ≤ cap ∧ n ≤ 8796093022208 ∧ (0 < n → ∃ b off, A = some ⟨b, off, none⟩ ∧ b < w.heap.size ∧ ∀ j, j < n → p w b (off + j * k))
theorem SlZ.kept {w w' : World} {k : Nat} {p : World → Nat → Nat → Prop} {v : Value} (hp : KeptP p) (h : SlZ w k p v) (hk : Kept w w') : SlZ w' k p v := by
  obtain ⟨A, n, cap, hv, hc, hn, hx⟩ := h
  refine ⟨A, n, cap, hv, hc, hn, fun h0 => ?_⟩
  obtain ⟨b, off, hA, hb, hc⟩ := hx h0
  exact ⟨b, off, hA, Nat.lt_of_lt_of_le hb hk.size, fun j hj => hp _ _ _ _ hk hb (hc j hj)⟩
theorem SlZ.at_ {w : World} {k : Nat} {p : World → Nat → Nat → Prop} {v : Value} (h : SlZ w k p v) : ∃ A n cap, v = .slice A n cap ∧ n ≤ cap ∧ n ≤ 8796093022208 ∧ (0 < n → ∃ b off, A = some ⟨b, off, none⟩ ∧ b < w.heap.size ∧ ∀ j, j < n → p w b (off + j * k)) := h
/-- a slice in a cell -/
def SlC (k : Nat) (p : World → Nat → Nat → Prop) (w : World) (b o : Nat) : Prop := ∃ v, w.cell? ⟨b, o, none⟩ = some v ∧ SlZ w k p v
theorem SlC.kept {k : Nat} {p : World → Nat → Nat → Prop} (hp : KeptP p) : KeptP (SlC k p) := fun _ _ b o hk hb ⟨v, h, g⟩ => ⟨v, hk.cell (p := ⟨b, o, none⟩) hb h, g.kept hp hk⟩
/-- nodes in a cell -/
def NdC (w : World) (b o : Nat) : Prop := ∃ v xs, w.cell? ⟨b, o, none⟩ = some v ∧ Nds w v xs ∧ xs.length ≤ 8796093022208 ∧ ∀ x ∈ xs, -9223372036854775808 ≤ x.n ∧ x.n ≤ 9223372036854775807
theorem NdC.kept : KeptP NdC := fun _ _ b o hk hb ⟨v, xs, h, g, l⟩ => ⟨v, xs, hk.cell (p := ⟨b, o, none⟩) hb h, g.kept hk, l⟩
/-- a type, a field, a row, a table, a rule, a scope -/
def TyP (w : World) (b o : Nat) : Prop := IntAt w b o ∧ IntAt w b (o + 1)
theorem TyP.kept : KeptP TyP := fun _ _ _ _ hk hb ⟨h0, h1⟩ => ⟨IntAt.kept _ _ _ _ hk hb h0, IntAt.kept _ _ _ _ hk hb h1⟩
def FdP (w : World) (b o : Nat) : Prop := StrAt w b o ∧ IntAt w b (o + 1) ∧ IntAt w b (o + 2)
theorem FdP.kept : KeptP FdP := fun _ _ _ _ hk hb ⟨h0, h1, h2⟩ => ⟨StrAt.kept _ _ _ _ hk hb h0, IntAt.kept _ _ _ _ hk hb h1, IntAt.kept _ _ _ _ hk hb h2⟩
def RwP (w : World) (b o : Nat) : Prop := IntAt w b o ∧ IntAt w b (o + 1) ∧ IntAt w b (o + 2) ∧ IntAt w b (o + 3) ∧ IntAt w b (o + 4)
theorem RwP.kept : KeptP RwP := fun _ _ _ _ hk hb ⟨h0, h1, h2, h3, h4⟩ => ⟨IntAt.kept _ _ _ _ hk hb h0, IntAt.kept _ _ _ _ hk hb h1, IntAt.kept _ _ _ _ hk hb h2, IntAt.kept _ _ _ _ hk hb h3, IntAt.kept _ _ _ _ hk hb h4⟩
def TaP (w : World) (b o : Nat) : Prop := StrAt w b o ∧ IntAt w b (o + 1) ∧ IntAt w b (o + 2) ∧ IntAt w b (o + 3) ∧ IntAt w b (o + 4) ∧ SlC 5 RwP w b (o + 5)
theorem TaP.kept : KeptP TaP := fun _ _ _ _ hk hb ⟨h0, h1, h2, h3, h4, h5⟩ => ⟨StrAt.kept _ _ _ _ hk hb h0, IntAt.kept _ _ _ _ hk hb h1, IntAt.kept _ _ _ _ hk hb h2, IntAt.kept _ _ _ _ hk hb h3, IntAt.kept _ _ _ _ hk hb h4, SlC.kept RwP.kept _ _ _ _ hk hb h5⟩
/-- a string in a cell, within an address space -/
def StrZ (w : World) (b o : Nat) : Prop := ∃ s : ByteArray, w.cell? ⟨b, o, none⟩ = some (.string s) ∧ s.size ≤ 140737488355328
theorem StrZ.kept : KeptP StrZ := fun _ _ b o hk hb ⟨s, h, g⟩ => ⟨s, hk.cell (p := ⟨b, o, none⟩) hb h, g⟩
def RlP (w : World) (b o : Nat) : Prop := StrAt w b o ∧ IntAt w b (o + 1) ∧ IntAt w b (o + 2) ∧ IntAt w b (o + 3) ∧ IntAt w b (o + 4) ∧ IntAt w b (o + 5) ∧ NdC w b (o + 6) ∧ NdC w b (o + 7) ∧ StrZ w b (o + 8)
theorem RlP.kept : KeptP RlP := fun _ _ _ _ hk hb ⟨h0, h1, h2, h3, h4, h5, h6, h7, h8⟩ =>
  ⟨StrAt.kept _ _ _ _ hk hb h0, IntAt.kept _ _ _ _ hk hb h1, IntAt.kept _ _ _ _ hk hb h2, IntAt.kept _ _ _ _ hk hb h3, IntAt.kept _ _ _ _ hk hb h4, IntAt.kept _ _ _ _ hk hb h5, NdC.kept _ _ _ _ hk hb h6, NdC.kept _ _ _ _ hk hb h7, StrZ.kept _ _ _ _ hk hb h8⟩
def SpP (w : World) (b o : Nat) : Prop := StrAt w b o ∧ IntAt w b (o + 1) ∧ SlC 3 FdP w b (o + 2) ∧ SlC 3 FdP w b (o + 3) ∧ SlC 9 RlP w b (o + 4)
theorem SpP.kept : KeptP SpP := fun _ _ _ _ hk hb ⟨h0, h1, h2, h3, h4⟩ => ⟨StrAt.kept _ _ _ _ hk hb h0, IntAt.kept _ _ _ _ hk hb h1, SlC.kept FdP.kept _ _ _ _ hk hb h2, SlC.kept FdP.kept _ _ _ _ hk hb h3, SlC.kept RlP.kept _ _ _ _ hk hb h4⟩
/-- a law in depth, without the members of the enumerations -/
def LawD (w : World) (v : Value) : Prop := ∃ ev tv sv, v = .agg #[ev, tv, sv] ∧ SlZ w 2 StrAt ev ∧ SlZ w 6 TaP tv ∧ SlZ w 5 SpP sv
theorem LawD.kept {w w' : World} {v : Value} (h : LawD w v) (hk : Kept w w') : LawD w' v := by
  obtain ⟨ev, tv, sv, hv, h0, h1, h2⟩ := h
  exact ⟨ev, tv, sv, hv, h0.kept StrAt.kept hk, h1.kept TaP.kept hk, h2.kept SpP.kept hk⟩

section
variable {H : Type} {enc : TypeId × Value → H} {w : World}
/-- no slice and no string in a reading takes more bytes than an address space has -/
def WtB (t : TypeId) (d : DataW H) : Prop := ∀ n ∈ d.weights Tryz.prog t, n ≤ 140737488355328
/-- the reading of some cells, its weights bounded -/
def RW (enc : TypeId × Value → H) (w : World) (t : TypeId) (cs : List Value) : Prop := ∃ fuel x, DataW.trod enc Tryz.prog w 0 (fun _ => true) true fuel t cs = some x ∧ WtB t x.1
theorem weights_all {e : TypeId} {d : DataW H} {l : List (DataW H)} (hd : d ∈ l) {n : Nat} (hn : n ∈ d.weights Tryz.prog e) : n ∈ DataW.weightsAll Tryz.prog e l := by
  induction l with
  | nil => cases hd
  | cons x r ih =>
    rw [DataW.weightsAll]
    rcases List.mem_cons.1 hd with rfl | hd
    · exact List.mem_append_left _ hn
    · exact List.mem_append_right _ (ih hd)
theorem RW.reads {t : TypeId} {cs : List Value} (h : RW enc w t cs) : Reads enc w t cs := by
  obtain ⟨fuel, x, h1, _⟩ := h
  exact ⟨fuel, x, h1⟩
theorem RW.sub {t : TypeId} {fs : Array Field} {cs : List Value} (ht : Tryz.prog.underlying t = some (.struct fs)) (h : RW enc w t cs) (i o k : Nat) (T : TypeId) (f : Field) (hf : fs[i]? = some f) (ho : f.offset = o) (hT : f.type = T)
    (hk : Tryz.prog.cellsOf T = k) : RW enc w T ((cs.drop o).take k) := by
  obtain ⟨fuel, x, h, hw⟩ := h
  obtain ⟨xs, n, _, hx, _, hl, hg⟩ := DataW.trod_struct ht h
  have hi : i < fs.size := (Array.getElem?_eq_some_iff.1 hf).1
  have := hg i f hf
  rw [List.getElem?_eq_getElem (by omega), hT, hk, ho] at this
  refine ⟨n, _, this, fun m hm => hw m ?_⟩
  rw [hx]
  simp only [DataW.weights, ht]
  refine DataW.weights_mem_each (j := i) (t := T) (d := xs[i].1) ?_ ?_ m hm
  · rw [List.getElem?_map, Array.getElem?_toList, hf]
    simp [hT]
  · rw [List.getElem?_map, List.getElem?_eq_getElem (by omega)]; rfl
theorem RW.oneAt {t : TypeId} {fs : Array Field} {cs : List Value} (ht : Tryz.prog.underlying t = some (.struct fs)) (h : RW enc w t cs) (i o : Nat) (T : TypeId) (f : Field) (hf : fs[i]? = some f) (ho : f.offset = o) (hT : f.type = T) (hk : Tryz.prog.cellsOf T = 1) (hlt : o < cs.length) :
    ∃ u, cs[o]? = some u ∧ RW enc w T [u] := by
  have h1 := h.sub ht i o 1 T f hf ho hT hk
  refine ⟨cs[o], List.getElem?_eq_getElem hlt, ?_⟩
  rw [List.drop_eq_getElem_cons hlt] at h1
  exact h1
/-- a slice, element by element -/
theorem RW.slice {t e : TypeId} {k : Nat} {v : Value} (ht : Tryz.prog.underlying t = some (.slice e)) (hC : Tryz.prog.cellsOf e = k) (hk : 0 < k) (z : Nat) (hz : Tryz.prog.bytesOf e = z) (hz16 : 16 ≤ z) (hlen : ∀ cs, Reads enc w e cs → cs.length = k) (h : RW enc w t [v]) :
    ∃ A n cap, v = .slice A n cap ∧ n ≤ cap ∧ n ≤ 8796093022208 ∧ (0 < n → ∃ b off, A = some ⟨b, off, none⟩ ∧ b < w.heap.size ∧
      ∀ i, i < n → ∃ cs, cs.length = k ∧ (∀ j, j < k → w.cell? ⟨b, off + i * k + j, none⟩ = cs[j]?) ∧ RW enc w e cs) := by
  obtain ⟨fuel, x, h, hw⟩ := h
  rcases open_slice ht h with ⟨hcs, _⟩ | ⟨a, len, cap, m, n, D, Pl, hcs, hb, hl, hm, hmm, hx, hi⟩
  · simp only [List.cons.injEq, and_true] at hcs
    exact ⟨none, 0, 0, hcs, Nat.le_refl _, by omega, fun h => absurd h (by decide)⟩
  · simp only [if_true] at hmm
    subst hmm
    simp only [List.cons.injEq, and_true] at hcs
    unfold maxLen at hm
    have hlb : len ≤ 8796093022208 := by
      have hw1 := hw ((len + (m - len)) * Tryz.prog.bytesOf e) (by
        rw [hx]
        simp only [DataW.weights, ht]
        exact List.mem_cons.2 (.inl (by simp)))
      rw [hz] at hw1
      have h16 : len * 16 ≤ (len + (m - len)) * z := Nat.mul_le_mul (by omega) hz16
      omega
    refine ⟨some a, len, _, hcs, hl, hlb, fun hp => ?_⟩
    have hex : ∀ i, i < len → ∃ cs, cs.length = k ∧ (∀ j, j < k → w.cell? ((a.add (i * k)).add j) = cs[j]?) ∧ RW enc w e cs := by
      intro i hil
      obtain ⟨cs', hc, ht'⟩ := hi i (by omega)
      rw [hC] at hc
      obtain ⟨_, hcl, hat⟩ := World.cells?_some hc
      have hr : RW enc w e cs' := ⟨_, _, ht', fun q hq => hw q (by
        rw [hx]
        simp only [DataW.weights, ht]
        exact List.mem_cons_of_mem _ (List.mem_append_left _ (weights_all (List.mem_map.2 ⟨i, List.mem_range.2 hil, rfl⟩) hq)))⟩
      exact ⟨cs', hlen _ hr.reads, fun j hj => hat j hj, hr⟩
    obtain ⟨cs0, hl0, hc0, _⟩ := hex 0 hp
    have c0 : w.cell? ((a.add (0 * k)).add 0) = some (cs0[0]'(by omega)) := by rw [hc0 0 hk, List.getElem?_eq_getElem]
    have hb := cell_lt c0
    rw [block_of_add, block_of_add] at hb
    obtain ⟨b, o, sp⟩ := a
    have hsn : sp = none := by
      have := World.cell?_spot c0
      simpa [Addr.add] using this
    subst hsn
    refine ⟨b, o, rfl, hb, fun i hil => ?_⟩
    obtain ⟨cs, q0, q1, q2⟩ := hex i hil
    refine ⟨cs, q0, fun j hj => ?_, q2⟩
    rw [← q1 j hj, addr_none, addr_none]
theorem lenR {t : TypeId} {fs : Array Field} {k : Nat} (ht : Tryz.prog.underlying t = some (.struct fs)) (hC : Tryz.prog.cellsOf t = k) {cs : List Value} (h : Reads enc w t cs) : cs.length = k := (h.length ht).trans hC
theorem RW.strC {t : TypeId} {fs : Array Field} {cs : List Value} {b o : Nat} {k : Nat} (h : RW enc w t cs) (hl : cs.length = k) (hc : ∀ j, j < k → w.cell? ⟨b, o + j, none⟩ = cs[j]?) (ht : Tryz.prog.underlying t = some (.struct fs)) (i q : Nat) (f : Field) (hf : fs[i]? = some f) (ho : f.offset = q) (hT : f.type = 9) (hq : q < k) : StrAt w b (o + q) := by
  obtain ⟨u, g, r⟩ := h.oneAt ht i q 9 f hf ho hT (by kernel_rfl) (by omega)
  obtain ⟨s, rfl⟩ := r.reads.str1
  exact ⟨s, (hc q hq).trans g⟩
theorem RW.str1 {u : Value} (h : RW enc w 9 [u]) : ∃ s : ByteArray, u = .string s ∧ s.size ≤ 140737488355328 := by
  obtain ⟨fuel, x, h, hw⟩ := h
  obtain ⟨s, e1, e2, _⟩ := DataW.trod_string Tryz.underlying9 h
  simp only [List.cons.injEq, and_true] at e1
  refine ⟨s, e1, ?_⟩
  have := hw s.data.toList.length (by rw [e2]; simp [DataW.weights])
  rw [Array.length_toList] at this
  exact this
theorem RW.strZ {t : TypeId} {fs : Array Field} {cs : List Value} {b o : Nat} {k : Nat} (h : RW enc w t cs) (hl : cs.length = k) (hc : ∀ j, j < k → w.cell? ⟨b, o + j, none⟩ = cs[j]?) (ht : Tryz.prog.underlying t = some (.struct fs)) (i q : Nat) (f : Field) (hf : fs[i]? = some f) (ho : f.offset = q) (hT : f.type = 9) (hq : q < k) : StrZ w b (o + q) := by
  obtain ⟨u, g, r⟩ := h.oneAt ht i q 9 f hf ho hT (by kernel_rfl) (by omega)
  obtain ⟨s, rfl, hs⟩ := r.str1
  exact ⟨s, (hc q hq).trans g, hs⟩
theorem RW.intC {t : TypeId} {fs : Array Field} {cs : List Value} {b o : Nat} {k : Nat} (h : RW enc w t cs) (hl : cs.length = k) (hc : ∀ j, j < k → w.cell? ⟨b, o + j, none⟩ = cs[j]?) (ht : Tryz.prog.underlying t = some (.struct fs)) (i q : Nat) (f : Field) (hf : fs[i]? = some f) (ho : f.offset = q) (hT : f.type = 3) (hq : q < k) : IntAt w b (o + q) := by
  obtain ⟨u, g, r⟩ := h.oneAt ht i q 3 f hf ho hT (by kernel_rfl) (by omega)
  obtain ⟨n, rfl⟩ := r.reads.int1
  exact ⟨n, (hc q hq).trans g⟩
/-- two ints of a struct inside a struct -/
theorem RW.twoC {t T : TypeId} {fs gs : Array Field} {cs : List Value} {b o : Nat} {k : Nat} (h : RW enc w t cs) (hl : cs.length = k) (hc : ∀ j, j < k → w.cell? ⟨b, o + j, none⟩ = cs[j]?) (ht : Tryz.prog.underlying t = some (.struct fs)) (i q : Nat) (f : Field) (hf : fs[i]? = some f) (ho : f.offset = q) (hT : f.type = T) (hk2 : Tryz.prog.cellsOf T = 2)
    (hu : Tryz.prog.underlying T = some (.struct gs)) (g0 g1 : Field) (e0 : gs[0]? = some g0) (e1 : gs[1]? = some g1) (a0 : g0.offset = 0) (a1 : g1.offset = 1) (b0 : g0.type = 3) (b1 : g1.type = 3) (hq : q + 1 < k) : IntAt w b (o + q) ∧ IntAt w b (o + (q + 1)) := by
  have h2 := h.sub ht i q 2 T f hf ho hT hk2
  have hl2 : ((cs.drop q).take 2).length = 2 := by rw [List.length_take, List.length_drop]; omega
  have hc2 : ∀ j, j < 2 → w.cell? ⟨b, o + q + j, none⟩ = ((cs.drop q).take 2)[j]? := fun j hj => by
    rw [List.getElem?_take_of_lt hj, List.getElem?_drop, ← hc (q + j) (by omega), Nat.add_assoc]
  have i0 := h2.intC hl2 hc2 hu 0 0 g0 e0 a0 b0 (by decide)
  have i1 := h2.intC hl2 hc2 hu 1 1 g1 e1 a1 b1 (by decide)
  exact ⟨i0, by rw [← Nat.add_assoc]; exact i1⟩
theorem uTyp : Tryz.prog.cellsOf 47 = 2 := by kernel_rfl
theorem open_fdsZ {v : Value} (h : RW enc w 51 [v]) : SlZ w 3 FdP v := by
  obtain ⟨A, n, cap, rfl, hc, hn, hx⟩ := h.slice uFlds cFld (by decide) 32 (by kernel_rfl) (by decide) (fun cs h => lenR Tryz.underlying88 cFld h)
  refine ⟨A, n, cap, rfl, hc, hn, fun hp => ?_⟩
  obtain ⟨b, off, rfl, hb, hcs⟩ := hx hp
  refine ⟨b, off, rfl, hb, fun i hi => ?_⟩
  obtain ⟨cs, q0, q1, q2⟩ := hcs i hi
  obtain ⟨i1, i2⟩ := q2.twoC q0 q1 Tryz.underlying88 1 1 _ rfl rfl rfl uTyp Tryz.underlying47 _ _ rfl rfl rfl rfl rfl rfl (by decide)
  exact ⟨q2.strC q0 q1 Tryz.underlying88 0 0 _ rfl rfl rfl (by decide), i1, i2⟩
theorem open_rowsZ {v : Value} (h : RW enc w 48 [v]) : SlZ w 5 RwP v := by
  obtain ⟨A, n, cap, rfl, hc, hn, hx⟩ := h.slice uRows cRow (by decide) 40 (by kernel_rfl) (by decide) (fun cs h => lenR Tryz.underlying131 cRow h)
  refine ⟨A, n, cap, rfl, hc, hn, fun hp => ?_⟩
  obtain ⟨b, off, rfl, hb, hcs⟩ := hx hp
  refine ⟨b, off, rfl, hb, fun i hi => ?_⟩
  obtain ⟨cs, q0, q1, q2⟩ := hcs i hi
  obtain ⟨i1, i2⟩ := q2.twoC q0 q1 Tryz.underlying131 0 0 _ rfl rfl rfl (by kernel_rfl) Tryz.underlying90 _ _ rfl rfl rfl rfl rfl rfl (by decide)
  exact ⟨i1, i2, q2.intC q0 q1 Tryz.underlying131 1 2 _ rfl rfl rfl (by decide), q2.intC q0 q1 Tryz.underlying131 2 3 _ rfl rfl rfl (by decide), q2.intC q0 q1 Tryz.underlying131 3 4 _ rfl rfl rfl (by decide)⟩
theorem Reads.int64 {u : Value} (h : Reads enc w 3 [u]) : ∃ n : Int, u = .int .i64 n ∧ -9223372036854775808 ≤ n ∧ n ≤ 9223372036854775807 := by
  obtain ⟨n, e, hw⟩ := h.int
  simp only [List.cons.injEq, and_true] at e
  refine ⟨n, e, ?_⟩
  rw [Lit.wf, Bool.and_eq_true] at hw
  have h1 : IntKind.i64.min ≤ n := of_decide_eq_true hw.1
  have h2 : n ≤ IntKind.i64.max := of_decide_eq_true hw.2
  rw [show IntKind.i64.min = -9223372036854775808 from by decide] at h1
  rw [show IntKind.i64.max = 9223372036854775807 from by decide] at h2
  exact ⟨h1, h2⟩
theorem open_nodsZ {v : Value} (h : RW enc w 91 [v]) : ∃ xs : List Nd, Nds w v xs ∧ xs.length ≤ 8796093022208 ∧ ∀ x ∈ xs, -9223372036854775808 ≤ x.n ∧ x.n ≤ 9223372036854775807 := by
  obtain ⟨A, n, cap, rfl, hc, hn, hx⟩ := h.slice uNods cNod (by decide) 16 (by kernel_rfl) (by decide) (fun cs h => lenR Tryz.underlying171 cNod h)
  rcases Nat.eq_zero_or_pos n with h0 | hp
  · subst h0
    exact ⟨[], ⟨A, cap, rfl, fun h => absurd h (by simp)⟩, by simp, fun x h => (by cases h)⟩
  obtain ⟨b, off, rfl, hb, hcs⟩ := hx hp
  obtain ⟨xs, hl, hxs⟩ := choose_list (p := fun i (x : Nd) => (∀ j u, (ndF x)[j]? = some u → w.cell? ⟨b, off + i * 2 + j, none⟩ = some u) ∧ (-9223372036854775808 ≤ x.n ∧ x.n ≤ 9223372036854775807)) n (fun i hi => by
    obtain ⟨cs, q0, q1, q2⟩ := hcs i hi
    obtain ⟨o, ho⟩ := q2.intC q0 q1 Tryz.underlying171 0 0 _ rfl rfl rfl (by decide)
    obtain ⟨u1, g1, r1⟩ := q2.oneAt Tryz.underlying171 1 1 3 _ rfl rfl rfl (by kernel_rfl) (by omega)
    obtain ⟨m, rfl, hmr⟩ := r1.reads.int64
    have hm := (q1 1 (by decide)).trans g1
    refine ⟨⟨o, m⟩, fun j u hu => ?_, hmr⟩
    match j, hu with
    | 0, hu => obtain rfl := Option.some.inj hu; exact ho
    | 1, hu => obtain rfl := Option.some.inj hu; exact hm
    | j + 2, hu => simp [ndF] at hu)
  refine ⟨xs, ⟨_, cap, by rw [hl], fun _ => ⟨b, off, rfl, hb, fun j x hx i u hu => (hxs j x hx).1 i u hu⟩⟩, by omega, fun x hx => ?_⟩
  obtain ⟨j, hj⟩ := List.getElem?_of_mem hx
  exact (hxs j x hj).2
theorem open_rulesZ {v : Value} (h : RW enc w 52 [v]) : SlZ w 9 RlP v := by
  obtain ⟨A, n, cap, rfl, hc, hn, hx⟩ := h.slice uRuls cRul (by decide) 120 (by kernel_rfl) (by decide) (fun cs h => lenR Tryz.underlying93 cRul h)
  refine ⟨A, n, cap, rfl, hc, hn, fun hp => ?_⟩
  obtain ⟨b, off, rfl, hb, hcs⟩ := hx hp
  refine ⟨b, off, rfl, hb, fun i hi => ?_⟩
  obtain ⟨cs, q0, q1, q2⟩ := hcs i hi
  obtain ⟨i4, i5⟩ := q2.twoC q0 q1 Tryz.underlying93 4 4 _ rfl rfl rfl (by kernel_rfl) Tryz.underlying90 _ _ rfl rfl rfl rfl rfl rfl (by decide)
  obtain ⟨u6, g6, r6⟩ := q2.oneAt Tryz.underlying93 5 6 91 _ rfl rfl rfl (by kernel_rfl) (by omega)
  obtain ⟨x6, n6, l6, b6⟩ := open_nodsZ r6
  obtain ⟨u7, g7, r7⟩ := q2.oneAt Tryz.underlying93 6 7 91 _ rfl rfl rfl (by kernel_rfl) (by omega)
  obtain ⟨x7, n7, l7, b7⟩ := open_nodsZ r7
  exact ⟨q2.strC q0 q1 Tryz.underlying93 0 0 _ rfl rfl rfl (by decide), q2.intC q0 q1 Tryz.underlying93 1 1 _ rfl rfl rfl (by decide), q2.intC q0 q1 Tryz.underlying93 2 2 _ rfl rfl rfl (by decide), q2.intC q0 q1 Tryz.underlying93 3 3 _ rfl rfl rfl (by decide), i4, i5,
    ⟨u6, x6, (q1 6 (by decide)).trans g6, n6, l6, b6⟩, ⟨u7, x7, (q1 7 (by decide)).trans g7, n7, l7, b7⟩, q2.strZ q0 q1 Tryz.underlying93 7 8 _ rfl rfl rfl (by decide)⟩
theorem open_tabsZ {v : Value} (h : RW enc w 23 [v]) : SlZ w 6 TaP v := by
  obtain ⟨A, n, cap, rfl, hc, hn, hx⟩ := h.slice uTabs cTab (by decide) 72 (by kernel_rfl) (by decide) (fun cs h => lenR Tryz.underlying50 cTab h)
  refine ⟨A, n, cap, rfl, hc, hn, fun hp => ?_⟩
  obtain ⟨b, off, rfl, hb, hcs⟩ := hx hp
  refine ⟨b, off, rfl, hb, fun i hi => ?_⟩
  obtain ⟨cs, q0, q1, q2⟩ := hcs i hi
  obtain ⟨i1, i2⟩ := q2.twoC q0 q1 Tryz.underlying50 1 1 _ rfl rfl rfl uTyp Tryz.underlying47 _ _ rfl rfl rfl rfl rfl rfl (by decide)
  obtain ⟨i3, i4⟩ := q2.twoC q0 q1 Tryz.underlying50 2 3 _ rfl rfl rfl uTyp Tryz.underlying47 _ _ rfl rfl rfl rfl rfl rfl (by decide)
  obtain ⟨u5, g5, r5⟩ := q2.oneAt Tryz.underlying50 3 5 48 _ rfl rfl rfl (by kernel_rfl) (by omega)
  exact ⟨q2.strC q0 q1 Tryz.underlying50 0 0 _ rfl rfl rfl (by decide), i1, i2, i3, i4, u5, (q1 5 (by decide)).trans g5, open_rowsZ r5⟩
theorem open_enmsZ {v : Value} (h : RW enc w 22 [v]) : SlZ w 2 StrAt v := by
  obtain ⟨A, n, cap, rfl, hc, hn, hx⟩ := h.slice uEnms cEnm (by decide) 40 (by kernel_rfl) (by decide) (fun cs h => lenR Tryz.underlying45 cEnm h)
  refine ⟨A, n, cap, rfl, hc, hn, fun hp => ?_⟩
  obtain ⟨b, off, rfl, hb, hcs⟩ := hx hp
  refine ⟨b, off, rfl, hb, fun i hi => ?_⟩
  obtain ⟨cs, q0, q1, q2⟩ := hcs i hi
  exact q2.strC q0 q1 Tryz.underlying45 0 0 _ rfl rfl rfl (by decide)
theorem open_scsZ {v : Value} (h : RW enc w 24 [v]) : SlZ w 5 SpP v := by
  obtain ⟨A, n, cap, rfl, hc, hn, hx⟩ := h.slice uScps cScp (by decide) 96 (by kernel_rfl) (by decide) (fun cs h => lenR Tryz.underlying54 cScp h)
  refine ⟨A, n, cap, rfl, hc, hn, fun hp => ?_⟩
  obtain ⟨b, off, rfl, hb, hcs⟩ := hx hp
  refine ⟨b, off, rfl, hb, fun i hi => ?_⟩
  obtain ⟨cs, q0, q1, q2⟩ := hcs i hi
  obtain ⟨u2, g2, r2⟩ := q2.oneAt Tryz.underlying54 2 2 51 _ rfl rfl rfl (by kernel_rfl) (by omega)
  obtain ⟨u3, g3, r3⟩ := q2.oneAt Tryz.underlying54 3 3 51 _ rfl rfl rfl (by kernel_rfl) (by omega)
  obtain ⟨u4, g4, r4⟩ := q2.oneAt Tryz.underlying54 4 4 52 _ rfl rfl rfl (by kernel_rfl) (by omega)
  exact ⟨q2.strC q0 q1 Tryz.underlying54 0 0 _ rfl rfl rfl (by decide), q2.intC q0 q1 Tryz.underlying54 1 1 _ rfl rfl rfl (by decide), ⟨u2, (q1 2 (by decide)).trans g2, open_fdsZ r2⟩, ⟨u3, (q1 3 (by decide)).trans g3, open_fdsZ r3⟩, ⟨u4, (q1 4 (by decide)).trans g4, open_rulesZ r4⟩⟩
set_option maxRecDepth 100000 in
/-- the law in depth -/
theorem open_lawD {base : Nat} {v : Value} {d : DataW H} {p : List MemPlace} (hv : Value.okWide Tryz.prog w .any base 26 v) (h : DataW.Trod enc Tryz.prog w 0 (fun _ => true) true 26 v d p) (hw : WtB 26 d) : LawD w v := by
  obtain ⟨⟨cs⟩, rfl, hsz⟩ := okWide_struct Tryz.underlying26 hv
  rw [show Tryz.prog.cellsOf 26 = 3 by kernel_rfl] at hsz
  have hr : RW enc w 26 cs := by
    obtain ⟨fuel, hf⟩ := h
    exact ⟨fuel, _, hf, hw⟩
  have hsl : cs.length = 3 := hsz
  obtain ⟨u0, g0, r0⟩ := hr.oneAt Tryz.underlying26 0 0 22 _ rfl rfl rfl (by kernel_rfl) (show 0 < cs.length by omega)
  obtain ⟨u1, g1, r1⟩ := hr.oneAt Tryz.underlying26 1 1 23 _ rfl rfl rfl (by kernel_rfl) (show 1 < cs.length by omega)
  obtain ⟨u2, g2, r2⟩ := hr.oneAt Tryz.underlying26 2 2 24 _ rfl rfl rfl (by kernel_rfl) (show 2 < cs.length by omega)
  match cs, hsl with
  | [c0, c1, c2], _ =>
    simp at g0 g1 g2
    subst g0 g1 g2
    exact ⟨_, _, _, rfl, open_enmsZ r0, open_tabsZ r1, open_scsZ r2⟩
/-- the weights of each argument -/
theorem wt_arg {ts : List TypeId} {ds : List (DataW H)} (h : (DataW.weightsEach Tryz.prog ts ds).all (· ≤ reachBytes) = true) {j : Nat} {t : TypeId} {d : DataW H} (ht : ts[j]? = some t) (hd : ds[j]? = some d) : WtB t d := by
  intro n hn
  have := List.all_eq_true.1 h n (DataW.weights_mem_each ht hd n hn)
  have h2 := reachBytes_lt
  simp only [decide_eq_true_eq] at this
  omega
set_option maxRecDepth 100000 in
theorem law_liftedSW {F : FuncId} {fn : Func} {s : ChangeSpec} {os : Os} {laid : List (String × DataW Unit)} (started : os.Started) (noInit : Tryz.prog.inits.idxOf? F = none) (hfn : Tryz.prog.funcs[F]? = some fn)
    (hs0 : s.vars = []) (hres : fn.resultTypes = #[4])
    (hspec : ∀ ds : List (DataW H), ds.length = fn.params.toList.length → s.fn H (ds ++ []) = { results := [.lit (.bool true)], args := ds })
    (hread : fn.params.toList.all (fun t => Tryz.prog.readableRec t && decide (t < Tryz.prog.types.size)) = true)
    (witness : ∃ (w : World) (tape : Tape) (i : Input), w.os = os ∧ (w.forCall tape i).Shaped Tryz.checked.prog ∧ i.vars = [] ∧ Input.okWide Tryz.checked.prog (w.forCall tape i) .any w.heap.size F i ∧
      (OpenSpec.ofChange s).preRow enc Tryz.checked.prog fn [] false laid (w.forCall tape i).memory i.args ∧ ({} : Assume).holds Tryz.checked.prog (lone (Frame.enter Tryz.checked.prog F i.args .normal) [] (w.forCall tape i)))
    (walk : ∀ (W : World) (base : Nat) (args : Array Value) (ds : List (DataW H)) (ps : List MemPlace),
      (∀ (j : Nat) t v, fn.params[j]? = some t → args[j]? = some v → Value.okWide Tryz.prog W .any base t v) →
      DataW.TrodAll enc Tryz.prog W 0 (fun _ => true) true fn.params.toList args.toList ds ps → laidMetH Tryz.prog laid W → (∀ (j : Nat) t d, fn.params.toList[j]? = some t → ds[j]? = some d → WtB t d) → W.ShapedOpen Tryz.prog → Calls Tryz.prog F args W (LawPost W)) (I : Stop.Interp) :
    ReturnsInHanded {} Tryz.checked os F .any ((OpenSpec.ofChange s).preRow enc Tryz.prog fn [] false laid) (((OpenSpec.ofChange s).at I).post enc Tryz.prog fn false true false false) := by
  refine returnsInHanded_of_row (C := Tryz.checked) (s := OpenSpec.ofChange s) own started noInit hfn witness ?_
  intro W base args ds gs before hval hW _ _ hWt hL hSh _
  have hW' := hW
  obtain ⟨p, q, hA, hV, rfl, _, _⟩ := hW
  have hv0 : (OpenSpec.ofChange s).vars = [] := hs0
  rw [hv0] at hV
  obtain ⟨rfl, rfl⟩ := trodVars_none hV
  have hA' : DataW.TrodAll enc Tryz.prog W 0 (fun _ => true) true fn.params.toList args.toList ds p := hA
  refine (walk W base args ds p hval hA' hL (fun j t d ht hd => wt_arg hWt (j := j) (by rw [List.getElem?_append_left (List.getElem?_eq_some_iff.1 ht).1]; exact ht) (by rw [List.append_nil]; exact hd)) hSh).mono fun e W' ⟨he, hk⟩ => ?_
  subst he
  have hsp := hspec ds (trodAll_length hA').1
  refine ⟨_, rfl, ds, [], _, [], p, [], hW', ?_, ?_, ?_, hk.frame _, fun h => by cases h⟩
  · show DataW.TrodAll _ _ _ _ _ _ _ _ (s.fn H (ds ++ [])).results _
    rw [hsp, hres]
    exact trodAll_mk1 (shut_bool underBool true)
  · show DataW.TrodAll _ _ _ _ _ _ _ _ (s.fn H (ds ++ [])).args _
    rw [hsp]
    exact trodAll_below hread hk hA'
  · show DataW.TrodVars _ _ _ _ s.vars (s.fn H (ds ++ [])).vars _
    rw [hsp, hs0]
    rfl
end
end Go.Proofs.YtjeifmjcgemlgaaGreatDoor
