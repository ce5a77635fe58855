/- The step from a walk to the given statement, once for all laws of the seat: a walk that returns true and leaves old memory alone proves the law's row. And the openers of the arguments' readings. -/
import Derived.Test.YtjeifmjcgemlgaaGreatDoorBase
import Derived.ProofKit
import Derived.OpenShut
import Derived.ShutString
import Derived.ChangeOld
import Derived.Lib.SmallJoins
import Derived.Test.YtjeifmjcgemlgaaGreatDoorCards
import Derived.Test.YtjeifmjcgemlgaaGreatDoorTie
import Derived.Deep.DeepHandedRow
import Derived.Lib.LaidTab
namespace Go.Proofs.YtjeifmjcgemlgaaGreatDoor
open Go.ChangeShapes Go.WideShapes Go.ChangeAt Go.RowKit Go.Joins
open Go.ChangeMaps (open_string shut_string)

def LawPost (w : World) (e : Ending) (w' : World) : Prop := e = .returned (.bool true) ∧ Kept w w'

theorem own : ownKnob Tryz.prog.godebug = none := by kernel_rfl
theorem laidOut : laidOutB Tryz.prog = true := by kernel_rfl
theorem underBool : Tryz.prog.underlying 4 = some .bool := by kernel_rfl

section
variable {H : Type} {enc : TypeId × Value → H}

theorem trodAll_below {ts : List TypeId} (hr : ts.all (fun t => Tryz.prog.readableRec t && decide (t < Tryz.prog.types.size)) = true) {W W' : World} (hb : Kept W W') :
    ∀ {vs : List Value} {ds : List (DataW H)} {ps : List MemPlace}, DataW.TrodAll enc Tryz.prog W 0 (fun _ => true) true ts vs ds ps →
    DataW.TrodAll enc Tryz.prog W' 0 (fun b => decide (b < W.heap.size)) true ts vs ds ps := by
  induction ts with
  | nil => intro vs ds ps h; cases vs <;> cases ds <;> simp_all [DataW.TrodAll]
  | cons t ts ih =>
    intro vs ds ps h
    simp only [List.all_cons, Bool.and_eq_true, decide_eq_true_eq] at hr
    obtain ⟨v, vs', d, ds', p, q, rfl, rfl, rfl, h1, h2⟩ := trodAll_cons h
    refine ⟨p, q, Below.trod laidOut hr.1.1 hr.1.2 h1 hb ?_, ih hr.2 h2, rfl⟩
    obtain ⟨m, hm⟩ := h1
    exact DataW.trod_lt m _ _ _ hm

theorem trodAll_length {ts : List TypeId} {W : World} {B : Nat} {sp : Nat → Bool} {hd : Bool} : ∀ {vs : List Value} {ds : List (DataW H)} {ps : List MemPlace}, DataW.TrodAll enc Tryz.prog W B sp hd ts vs ds ps → ds.length = ts.length ∧ vs.length = ts.length := by
  induction ts with
  | nil => intro vs ds ps h; cases vs <;> cases ds <;> simp_all [DataW.TrodAll]
  | cons t ts ih =>
    intro vs ds ps h
    obtain ⟨v, vs', d, ds', p, q, rfl, rfl, rfl, h1, h2⟩ := trodAll_cons h
    have := ih h2
    simp [this.1, this.2]

set_option maxRecDepth 100000 in
/-- **A walk that returns true and leaves old memory alone proves the row's step.** -/
theorem law_lifted {F : FuncId} {fn : Func} {s : ChangeSpec} {os : Os} (started : os.Started) (noInit : Tryz.prog.inits.idxOf? F = none) (hfn : Tryz.prog.funcs[F]? = some fn)
    (hs0 : s.vars = []) (hres : fn.resultTypes = #[4])
    (hspec : ∀ ds : List (DataW H), ds.length = fn.params.toList.length → s.fn H (ds ++ []) = { results := [.lit (.bool true)], args := ds })
    (hread : fn.params.toList.all (fun t => Tryz.prog.readableRec t && decide (t < Tryz.prog.types.size)) = true)
    (witness : ∃ (w : World) (tape : Tape) (i : Input), w.os = os ∧ (w.forCall tape i).Shaped Tryz.checked.prog ∧ i.vars = [] ∧ Input.okWide Tryz.checked.prog (w.forCall tape i) .any w.heap.size F i ∧
      s.pre6 enc Tryz.checked.prog fn [] false (w.forCall tape i).memory i.args ∧ ({} : Assume).holds Tryz.checked.prog (lone (Frame.enter Tryz.checked.prog F i.args .normal) [] (w.forCall tape i)))
    (walk : ∀ (W : World) (base : Nat) (args : Array Value) (ds : List (DataW H)) (ps : List MemPlace),
      (∀ (j : Nat) t v, fn.params[j]? = some t → args[j]? = some v → Value.okWide Tryz.prog W .any base t v) →
      DataW.TrodAll enc Tryz.prog W 0 (fun _ => true) true fn.params.toList args.toList ds ps → Calls Tryz.prog F args W (LawPost W)) :
    ReturnsInHanded {} Tryz.checked os F .any (s.pre6 enc Tryz.prog fn [] false) (s.post enc Tryz.prog fn false true false false) := by
  refine returnsInHanded_of_change (C := Tryz.checked) own started noInit hfn witness ?_
  intro W base args ds gs before hval hW _ _
  have hW' := hW
  obtain ⟨p, q, hA, hV, rfl, _, _⟩ := hW
  rw [hs0] at hV
  obtain ⟨rfl, rfl⟩ := trodVars_none hV
  have hA' : DataW.TrodAll enc Tryz.prog W 0 (fun _ => true) true fn.params.toList args.toList ds p := hA
  refine (walk W base args ds p hval hA').mono fun e W' ⟨he, hk⟩ => ?_
  subst he
  have hsp := hspec ds (trodAll_length hA').1
  refine ⟨_, rfl, ds, [], _, [], p, [], hW', ?_, ?_, ?_, hk.frame _, fun h => by cases h⟩
  · rw [hsp, hres]
    exact trodAll_mk1 (shut_bool underBool true)
  · rw [hsp]
    exact trodAll_below hread hk hA'
  · rw [hsp, hs0]
    rfl

/-! The openers -/
variable {w : World} {sp : Nat → Bool} {hd : Bool} {m : Nat}
theorem cell_lt {W : World} {a : Addr} {v : Value} (h : W.cell? a = some v) : a.block < W.heap.size := by
  rcases Nat.lt_or_ge a.block W.heap.size with hlt | hge
  · exact hlt
  · have hs := World.cell?_spot h
    obtain ⟨b, o, s⟩ := a
    simp only at hs hge
    subst hs
    simp [World.cell?, Array.getElem?_eq_none hge] at h
theorem open_Ints {t e : TypeId} {cs : List Value} {x : DataW H × List MemPlace} (ht : Tryz.prog.underlying t = some (.slice e)) (he : Tryz.prog.underlying e = some (.int .i64)) (hc : Tryz.prog.cellsOf e = 1)
    (h : DataW.trod enc Tryz.prog w 0 (fun _ => true) true m t cs = some x) : ∃ (A : Option Addr) (n c : Nat) (xs : List Int), cs = [.slice A n c] ∧ Ints w A n xs ∧ n ≤ maxLen := by
  rcases open_ints ht he hc h with ⟨hcs, _⟩ | ⟨a, len, cap, zs, hcs, _, hl, hm, hz, _, hcell, _⟩
  · exact ⟨none, 0, 0, [], hcs, ⟨rfl, fun h => absurd h (by omega)⟩, by omega⟩
  · simp only [if_true] at hz
    refine ⟨some a, len, cap, zs.take len, hcs, ⟨by simp; omega, fun hn => ?_⟩, by omega⟩
    have c0 := hcell 0 (by omega)
    have hb := cell_lt c0
    rw [block_of_add] at hb
    obtain ⟨b, o, s⟩ := a
    have hs : s = none := by
      have := World.cell?_spot c0
      simpa [Addr.add] using this
    subst hs
    refine ⟨b, o, rfl, hb, fun j hj => ?_⟩
    have cj := hcell j (by omega)
    have ea : (⟨b, o, none⟩ : Addr).add j = ⟨b, o + j, none⟩ := by
      unfold Addr.add
      by_cases e : j = 0
      · subst e; rfl
      · simp [e]
    rw [ea] at cj
    rw [cj, List.getElem?_take_of_lt (by omega)]
    simp
end
end Go.Proofs.YtjeifmjcgemlgaaGreatDoor
/- The step from a walk to the given card, once for all laws whose row lists tables: what the row says of the tables, the world of the witness, and the frame. -/
namespace Go.Proofs.YtjeifmjcgemlgaaGreatDoor
open Go.ChangeShapes Go.WideShapes Go.ChangeAt Go.RowKit Go.Joins

/-- the cells that a table of integers reads from -/
def litCell : DataW Unit → Value
  | .lit (.int k z) => .int k z
  | _ => .int .i64 0
def tabCells : DataW Unit → Array Value
  | .agg xs => (xs.flatMap fun | .agg ys => ys.map litCell | d => [litCell d]).toArray
  | _ => #[]
def layTabs (w : World) : List (Nat × DataW Unit) → World
  | [] => w
  | (g, d) :: r => layTabs { w with heap := w.heap.modify g fun
      | .cells _ t frozen => .cells (tabCells d) t frozen
      | o => o } r
noncomputable def laidWorld (os : Os) : World := layTabs (World.holding Tryz.prog os ⟨#[], #[], []⟩) [(5, Rows.laid_math_bits_deBruijn32tab), (6, Rows.laid_math_bits_deBruijn64tab), (4, Rows.laid_internal_strconv_uint64pow10), (3, Rows.laid_unicode_utf8_acceptRanges), (0, Rows.laid_guerdon_date_monthLengths), (2, Rows.laid_unicode_utf8_first)]

section
variable {H : Type} {enc : TypeId × Value → H}
set_option maxRecDepth 100000 in
theorem law_liftedL {F : FuncId} {fn : Func} {s : ChangeSpec} {os : Os} {laid : List (String × DataW Unit)} (started : os.Started) (noInit : Tryz.prog.inits.idxOf? F = none) (hfn : Tryz.prog.funcs[F]? = some fn)
    (hs0 : s.vars = []) (hres : fn.resultTypes = #[4])
    (hspec : ∀ ds : List (DataW H), ds.length = fn.params.toList.length → s.fn H (ds ++ []) = { results := [.lit (.bool true)], args := ds })
    (hread : fn.params.toList.all (fun t => Tryz.prog.readableRec t && decide (t < Tryz.prog.types.size)) = true)
    (witness : ∃ (w : World) (tape : Tape) (i : Input), w.os = os ∧ (w.forCall tape i).Shaped Tryz.checked.prog ∧ i.vars = [] ∧ Input.okWide Tryz.checked.prog (w.forCall tape i) .any w.heap.size F i ∧
      (OpenSpec.ofChange s).preRow enc Tryz.checked.prog fn [] false laid (w.forCall tape i).memory i.args ∧ ({} : Assume).holds Tryz.checked.prog (lone (Frame.enter Tryz.checked.prog F i.args .normal) [] (w.forCall tape i)))
    (walk : ∀ (W : World) (base : Nat) (args : Array Value) (ds : List (DataW H)) (ps : List MemPlace),
      (∀ (j : Nat) t v, fn.params[j]? = some t → args[j]? = some v → Value.okWide Tryz.prog W .any base t v) →
      DataW.TrodAll enc Tryz.prog W 0 (fun _ => true) true fn.params.toList args.toList ds ps → laidMetH Tryz.prog laid W → Calls Tryz.prog F args W (LawPost W)) (I : Stop.Interp) :
    ReturnsInHanded {} Tryz.checked os F .any ((OpenSpec.ofChange s).preRow enc Tryz.prog fn [] false laid) (((OpenSpec.ofChange s).at I).post enc Tryz.prog fn false true false false) := by
  refine returnsInHanded_of_row (C := Tryz.checked) (s := OpenSpec.ofChange s) own started noInit hfn witness ?_
  intro W base args ds gs before hval hW _ _ _ hL _ _
  have hW' := hW
  obtain ⟨p, q, hA, hV, rfl, _, _⟩ := hW
  have hv0 : (OpenSpec.ofChange s).vars = [] := hs0
  rw [hv0] at hV
  obtain ⟨rfl, rfl⟩ := trodVars_none hV
  have hA' : DataW.TrodAll enc Tryz.prog W 0 (fun _ => true) true fn.params.toList args.toList ds p := hA
  refine (walk W base args ds p hval hA' hL).mono fun e W' ⟨he, hk⟩ => ?_
  subst he
  have hsp := hspec ds (trodAll_length hA').1
  refine ⟨_, rfl, ds, [], _, [], p, [], hW', ?_, ?_, ?_, hk.frame _, fun h => by cases h⟩
  · show DataW.TrodAll _ _ _ _ _ _ _ _ (s.fn H (ds ++ [])).results _
    rw [hsp, hres]
    exact trodAll_mk1 (shut_bool underBool true)
  · show DataW.TrodAll _ _ _ _ _ _ _ _ (s.fn H (ds ++ [])).args _
    rw [hsp]
    exact trodAll_below hread hk hA'
  · show DataW.TrodVars _ _ _ _ s.vars (s.fn H (ds ++ [])).vars _
    rw [hsp, hs0]
    rfl
set_option maxRecDepth 100000 in
theorem law_liftedS {F : FuncId} {fn : Func} {s : ChangeSpec} {os : Os} {laid : List (String × DataW Unit)} (started : os.Started) (noInit : Tryz.prog.inits.idxOf? F = none) (hfn : Tryz.prog.funcs[F]? = some fn)
    (hs0 : s.vars = []) (hres : fn.resultTypes = #[4])
    (hspec : ∀ ds : List (DataW H), ds.length = fn.params.toList.length → s.fn H (ds ++ []) = { results := [.lit (.bool true)], args := ds })
    (hread : fn.params.toList.all (fun t => Tryz.prog.readableRec t && decide (t < Tryz.prog.types.size)) = true)
    (witness : ∃ (w : World) (tape : Tape) (i : Input), w.os = os ∧ (w.forCall tape i).Shaped Tryz.checked.prog ∧ i.vars = [] ∧ Input.okWide Tryz.checked.prog (w.forCall tape i) .any w.heap.size F i ∧
      (OpenSpec.ofChange s).preRow enc Tryz.checked.prog fn [] false laid (w.forCall tape i).memory i.args ∧ ({} : Assume).holds Tryz.checked.prog (lone (Frame.enter Tryz.checked.prog F i.args .normal) [] (w.forCall tape i)))
    (walk : ∀ (W : World) (base : Nat) (args : Array Value) (ds : List (DataW H)) (ps : List MemPlace),
      (∀ (j : Nat) t v, fn.params[j]? = some t → args[j]? = some v → Value.okWide Tryz.prog W .any base t v) →
      DataW.TrodAll enc Tryz.prog W 0 (fun _ => true) true fn.params.toList args.toList ds ps → laidMetH Tryz.prog laid W → W.ShapedOpen Tryz.prog → Calls Tryz.prog F args W (LawPost W)) (I : Stop.Interp) :
    ReturnsInHanded {} Tryz.checked os F .any ((OpenSpec.ofChange s).preRow enc Tryz.prog fn [] false laid) (((OpenSpec.ofChange s).at I).post enc Tryz.prog fn false true false false) := by
  refine returnsInHanded_of_row (C := Tryz.checked) (s := OpenSpec.ofChange s) own started noInit hfn witness ?_
  intro W base args ds gs before hval hW _ _ _ hL hSh _
  have hW' := hW
  obtain ⟨p, q, hA, hV, rfl, _, _⟩ := hW
  have hv0 : (OpenSpec.ofChange s).vars = [] := hs0
  rw [hv0] at hV
  obtain ⟨rfl, rfl⟩ := trodVars_none hV
  have hA' : DataW.TrodAll enc Tryz.prog W 0 (fun _ => true) true fn.params.toList args.toList ds p := hA
  refine (walk W base args ds p hval hA' hL hSh).mono fun e W' ⟨he, hk⟩ => ?_
  subst he
  have hsp := hspec ds (trodAll_length hA').1
  refine ⟨_, rfl, ds, [], _, [], p, [], hW', ?_, ?_, ?_, hk.frame _, fun h => by cases h⟩
  · show DataW.TrodAll _ _ _ _ _ _ _ _ (s.fn H (ds ++ [])).results _
    rw [hsp, hres]
    exact trodAll_mk1 (shut_bool underBool true)
  · show DataW.TrodAll _ _ _ _ _ _ _ _ (s.fn H (ds ++ [])).args _
    rw [hsp]
    exact trodAll_below hread hk hA'
  · show DataW.TrodVars _ _ _ _ s.vars (s.fn H (ds ++ [])).vars _
    rw [hsp, hs0]
    rfl
end
theorem plain_of {F : FuncId} {fN : Func} {name : String} (hn : Tryz.prog.funcNamed name = some F) (hF : Tryz.prog.funcs[F]? = some fN) (hl : false = Tryz.pinned.checked.prog.looks [])
    (ha : fN.params.toList.all (fun t => !(Tryz.prog.wantsStandIn t)) = true) (f : FuncId) (fn : Func) (hf : Tryz.pinned.checked.prog.funcNamed name = some f) (hfn : Tryz.pinned.checked.prog.funcs[f]? = some fn) :
    false = Tryz.pinned.checked.prog.looks [] ∧ ∀ (j : Nat) t, fn.params[j]? = some t → Tryz.pinned.checked.prog.wantsStandIn t = false := by
  obtain rfl : F = f := Option.some.inj (hn.symm.trans hf)
  obtain rfl : fN = fn := Option.some.inj (hF.symm.trans hfn)
  refine ⟨hl, fun j t ht => ?_⟩
  have := List.all_eq_true.1 ha t (by simpa using Array.mem_of_getElem? ht)
  have h2 : Tryz.prog.wantsStandIn t = false := by simpa using this
  exact h2
end Go.Proofs.YtjeifmjcgemlgaaGreatDoor
/- Structs and arrays that came in, opened field by field. -/
namespace Go.Proofs.YtjeifmjcgemlgaaGreatDoor
open Go.ChangeShapes Go.WideShapes Go.ChangeAt Go.RowKit Go.Joins
section
variable {H : Type} {enc : TypeId × Value → H} {w : World}
/-- the reading of an aggregate's cells -/
abbrev Reads (enc : TypeId × Value → H) (w : World) (t : TypeId) (cs : List Value) : Prop := ∃ fuel x, DataW.trod enc Tryz.prog w 0 (fun _ => true) true fuel t cs = some x
theorem Reads.field {t : TypeId} {fs : Array Field} {cs : List Value} (ht : Tryz.prog.underlying t = some (.struct fs)) (h : Reads enc w t cs) (i : Nat) (f : Field) (hf : fs[i]? = some f) :
    Reads enc w f.type ((cs.drop f.offset).take (Tryz.prog.cellsOf f.type)) := by
  obtain ⟨fuel, x, h⟩ := h
  obtain ⟨xs, n, _, _, _, hl, hg⟩ := DataW.trod_struct ht h
  have hi : i < fs.size := (Array.getElem?_eq_some_iff.1 hf).1
  have := hg i f hf
  rw [List.getElem?_eq_getElem (by omega)] at this
  exact ⟨n, _, this⟩
theorem Reads.length {t : TypeId} {fs : Array Field} {cs : List Value} (ht : Tryz.prog.underlying t = some (.struct fs)) (h : Reads enc w t cs) : cs.length = Tryz.prog.cellsOf t := by
  obtain ⟨fuel, x, h⟩ := h
  obtain ⟨xs, n, _, _, hl, _, _⟩ := DataW.trod_struct ht h
  exact hl
theorem Reads.elem {t e : TypeId} {n : Nat} {cs : List Value} (ht : Tryz.prog.underlying t = some (.array n e)) (h : Reads enc w t cs) (i : Nat) (hi : i < n) :
    Reads enc w e ((cs.drop (i * Tryz.prog.cellsOf e)).take (Tryz.prog.cellsOf e)) := by
  obtain ⟨fuel, x, h⟩ := h
  obtain ⟨xs, m, _, _, _, hl, hg⟩ := DataW.trod_array ht h
  have := hg i hi
  rw [List.getElem?_eq_getElem (by omega)] at this
  exact ⟨m, _, this⟩
theorem Reads.lengthA {t e : TypeId} {n : Nat} {cs : List Value} (ht : Tryz.prog.underlying t = some (.array n e)) (h : Reads enc w t cs) : cs.length = Tryz.prog.cellsOf t := by
  obtain ⟨fuel, x, h⟩ := h
  obtain ⟨xs, m, _, _, hl, _, _⟩ := DataW.trod_array ht h
  exact hl
theorem Reads.int {cs : List Value} (h : Reads enc w 3 cs) : ∃ n, cs = [.int .i64 n] ∧ (Lit.int .i64 n).wf = true := by
  obtain ⟨fuel, x, h⟩ := h
  obtain ⟨n, e, _, hw⟩ := DataW.trod_int Tryz.underlying3 h
  exact ⟨n, e, hw⟩
theorem cellInt : Tryz.prog.cellsOf 3 = 1 := by kernel_rfl
theorem Reads.of {t : TypeId} {cs : Array Value} {d : DataW H} {p : List MemPlace} (h : DataW.Trod enc Tryz.prog w 0 (fun _ => true) true t (.agg cs) d p) : Reads enc w t cs.toList := by
  obtain ⟨fuel, hf⟩ := h
  exact ⟨fuel, _, hf⟩
/-- a field of whatever type -/
theorem Reads.sub {t : TypeId} {fs : Array Field} {cs : List Value} (ht : Tryz.prog.underlying t = some (.struct fs)) (h : Reads enc w t cs) (i o k : Nat) (T : TypeId) (f : Field) (hf : fs[i]? = some f) (ho : f.offset = o) (hT : f.type = T)
    (hk : Tryz.prog.cellsOf T = k) : Reads enc w T ((cs.drop o).take k) := by
  have := h.field ht i f hf
  rw [hT, hk, ho] at this
  exact this
set_option maxRecDepth 100000 in
theorem okWide_arr {t e : TypeId} {n base : Nat} {v : Value} (ht : Tryz.prog.underlying t = some (.array n e)) (h : Value.okWide Tryz.prog w .any base t v) : ∃ cs, v = .agg cs ∧ cs.size = Tryz.prog.cellsOf t := by
  simp only [Value.okWide, ht] at h
  obtain ⟨cs, h1, h2, _⟩ := h
  exact ⟨cs, h1, h2⟩
set_option maxRecDepth 100000 in
/-- the i-th cell, behind the field that is an int -/
theorem Reads.intAt {t : TypeId} {fs : Array Field} {cs : List Value} (ht : Tryz.prog.underlying t = some (.struct fs)) (h : Reads enc w t cs) (i o : Nat) (f : Field) (hf : fs[i]? = some f) (ho : f.offset = o) (hi : f.type = 3) :
    ∃ n, cs[o]? = some (.int .i64 n) ∧ (Lit.int .i64 n).wf = true := by
  have h1 := h.field ht i f hf
  rw [hi, cellInt, ho] at h1
  obtain ⟨n, e, hw⟩ := h1.int
  refine ⟨n, ?_, hw⟩
  have : ((cs.drop o).take 1)[0]? = some (.int .i64 n) := by rw [e]; rfl
  simpa using this
theorem Reads.intElem {t : TypeId} {n : Nat} {cs : List Value} (ht : Tryz.prog.underlying t = some (.array n 3)) (h : Reads enc w t cs) (i : Nat) (hi : i < n) :
    ∃ k, cs[i]? = some (.int .i64 k) ∧ (Lit.int .i64 k).wf = true := by
  have h1 := h.elem ht i hi
  rw [cellInt, Nat.mul_one] at h1
  obtain ⟨k, e, hw⟩ := h1.int
  refine ⟨k, ?_, hw⟩
  have : ((cs.drop i).take 1)[0]? = some (.int .i64 k) := by rw [e]; rfl
  simpa using this
end
end Go.Proofs.YtjeifmjcgemlgaaGreatDoor
