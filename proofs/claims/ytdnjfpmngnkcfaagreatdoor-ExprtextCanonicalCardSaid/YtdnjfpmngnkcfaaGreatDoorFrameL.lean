/- The step from a walk to the given card, once for all laws whose row lists tables: what the row says of the tables, the world of the witness, and the frame. -/
import Derived.Test.YtdnjfpmngnkcfaaGreatDoorFrame
import Derived.Test.YtdnjfpmngnkcfaaGreatDoorCards
import Derived.Test.YtdnjfpmngnkcfaaGreatDoorTie
import Derived.Deep.DeepHandedRow
import Derived.Lib.LaidTab
namespace Go.Proofs.YtdnjfpmngnkcfaaGreatDoor
open Go.ChangeShapes Go.WideShapes Go.ChangeAt Go.RowKit Go.Joins

/-- the cells that a table of integers reads from -/
def litCell : DataW Unit → Value
  | .lit (.int k z) => .int k z
  | _ => .int .i64 0
def tabCells : DataW Unit → Array Value
  | .agg xs => (xs.flatMap fun | .agg ys => ys.map litCell | d => [litCell d]).toArray
  | _ => #[]
def layTabs (w : World) : List (Nat × DataW Unit) → World
  | [] => w
  | (g, d) :: r => layTabs { w with heap := w.heap.modify g fun
      | .cells _ t frozen => .cells (tabCells d) t frozen
      | o => o } r
noncomputable def laidWorld (os : Os) : World := layTabs (World.holding Tryz.prog os ⟨#[], #[], []⟩) [(3, Rows.laid_math_bits_deBruijn32tab), (4, Rows.laid_math_bits_deBruijn64tab), (2, Rows.laid_internal_strconv_uint64pow10), (1, Rows.laid_guerdon_date_monthLengths)]

section
variable {H : Type} {enc : TypeId × Value → H}
set_option maxRecDepth 100000 in
theorem law_liftedL {F : FuncId} {fn : Func} {s : ChangeSpec} {os : Os} {laid : List (String × DataW Unit)} (started : os.Started) (noInit : Tryz.prog.inits.idxOf? F = none) (hfn : Tryz.prog.funcs[F]? = some fn)
    (hs0 : s.vars = []) (hres : fn.resultTypes = #[4])
    (hspec : ∀ ds : List (DataW H), ds.length = fn.params.toList.length → s.fn H (ds ++ []) = { results := [.lit (.bool true)], args := ds })
    (hread : fn.params.toList.all (fun t => Tryz.prog.readableRec t && decide (t < Tryz.prog.types.size)) = true)
    (witness : ∃ (w : World) (tape : Tape) (i : Input), w.os = os ∧ (w.forCall tape i).Shaped Tryz.checked.prog ∧ i.vars = [] ∧ Input.okWide Tryz.checked.prog (w.forCall tape i) .any w.heap.size F i ∧
      (OpenSpec.ofChange s).preRow enc Tryz.checked.prog fn [] false laid (w.forCall tape i).memory i.args ∧ ({} : Assume).holds Tryz.checked.prog (lone (Frame.enter Tryz.checked.prog F i.args .normal) [] (w.forCall tape i)))
    (walk : ∀ (W : World) (base : Nat) (args : Array Value) (ds : List (DataW H)) (ps : List MemPlace),
      (∀ (j : Nat) t v, fn.params[j]? = some t → args[j]? = some v → Value.okWide Tryz.prog W .any base t v) →
      DataW.TrodAll enc Tryz.prog W 0 (fun _ => true) true fn.params.toList args.toList ds ps → laidMetH Tryz.prog laid W → Calls Tryz.prog F args W (LawPost W)) (I : Stop.Interp) :
    ReturnsInHanded {} Tryz.checked os F .any ((OpenSpec.ofChange s).preRow enc Tryz.prog fn [] false laid) (((OpenSpec.ofChange s).at I).post enc Tryz.prog fn false true false false) := by
  refine returnsInHanded_of_row (C := Tryz.checked) (s := OpenSpec.ofChange s) own started noInit hfn witness ?_
  intro W base args ds gs before hval hW _ _ _ hL _ _
  have hW' := hW
  obtain ⟨p, q, hA, hV, rfl, _, _⟩ := hW
  have hv0 : (OpenSpec.ofChange s).vars = [] := hs0
  rw [hv0] at hV
  obtain ⟨rfl, rfl⟩ := trodVars_none hV
  have hA' : DataW.TrodAll enc Tryz.prog W 0 (fun _ => true) true fn.params.toList args.toList ds p := hA
  refine (walk W base args ds p hval hA' hL).mono fun e W' ⟨he, hk⟩ => ?_
  subst he
  have hsp := hspec ds (trodAll_length hA').1
  refine ⟨_, rfl, ds, [], _, [], p, [], hW', ?_, ?_, ?_, hk.frame _, fun h => by cases h⟩
  · show DataW.TrodAll _ _ _ _ _ _ _ _ (s.fn H (ds ++ [])).results _
    rw [hsp, hres]
    exact trodAll_mk1 (shut_bool underBool true)
  · show DataW.TrodAll _ _ _ _ _ _ _ _ (s.fn H (ds ++ [])).args _
    rw [hsp]
    exact trodAll_below hread hk hA'
  · show DataW.TrodVars _ _ _ _ s.vars (s.fn H (ds ++ [])).vars _
    rw [hsp, hs0]
    rfl
set_option maxRecDepth 100000 in
theorem law_liftedS {F : FuncId} {fn : Func} {s : ChangeSpec} {os : Os} {laid : List (String × DataW Unit)} (started : os.Started) (noInit : Tryz.prog.inits.idxOf? F = none) (hfn : Tryz.prog.funcs[F]? = some fn)
    (hs0 : s.vars = []) (hres : fn.resultTypes = #[4])
    (hspec : ∀ ds : List (DataW H), ds.length = fn.params.toList.length → s.fn H (ds ++ []) = { results := [.lit (.bool true)], args := ds })
    (hread : fn.params.toList.all (fun t => Tryz.prog.readableRec t && decide (t < Tryz.prog.types.size)) = true)
    (witness : ∃ (w : World) (tape : Tape) (i : Input), w.os = os ∧ (w.forCall tape i).Shaped Tryz.checked.prog ∧ i.vars = [] ∧ Input.okWide Tryz.checked.prog (w.forCall tape i) .any w.heap.size F i ∧
      (OpenSpec.ofChange s).preRow enc Tryz.checked.prog fn [] false laid (w.forCall tape i).memory i.args ∧ ({} : Assume).holds Tryz.checked.prog (lone (Frame.enter Tryz.checked.prog F i.args .normal) [] (w.forCall tape i)))
    (walk : ∀ (W : World) (base : Nat) (args : Array Value) (ds : List (DataW H)) (ps : List MemPlace),
      (∀ (j : Nat) t v, fn.params[j]? = some t → args[j]? = some v → Value.okWide Tryz.prog W .any base t v) →
      DataW.TrodAll enc Tryz.prog W 0 (fun _ => true) true fn.params.toList args.toList ds ps → laidMetH Tryz.prog laid W → W.ShapedOpen Tryz.prog → Calls Tryz.prog F args W (LawPost W)) (I : Stop.Interp) :
    ReturnsInHanded {} Tryz.checked os F .any ((OpenSpec.ofChange s).preRow enc Tryz.prog fn [] false laid) (((OpenSpec.ofChange s).at I).post enc Tryz.prog fn false true false false) := by
  refine returnsInHanded_of_row (C := Tryz.checked) (s := OpenSpec.ofChange s) own started noInit hfn witness ?_
  intro W base args ds gs before hval hW _ _ _ hL hSh _
  have hW' := hW
  obtain ⟨p, q, hA, hV, rfl, _, _⟩ := hW
  have hv0 : (OpenSpec.ofChange s).vars = [] := hs0
  rw [hv0] at hV
  obtain ⟨rfl, rfl⟩ := trodVars_none hV
  have hA' : DataW.TrodAll enc Tryz.prog W 0 (fun _ => true) true fn.params.toList args.toList ds p := hA
  refine (walk W base args ds p hval hA' hL hSh).mono fun e W' ⟨he, hk⟩ => ?_
  subst he
  have hsp := hspec ds (trodAll_length hA').1
  refine ⟨_, rfl, ds, [], _, [], p, [], hW', ?_, ?_, ?_, hk.frame _, fun h => by cases h⟩
  · show DataW.TrodAll _ _ _ _ _ _ _ _ (s.fn H (ds ++ [])).results _
    rw [hsp, hres]
    exact trodAll_mk1 (shut_bool underBool true)
  · show DataW.TrodAll _ _ _ _ _ _ _ _ (s.fn H (ds ++ [])).args _
    rw [hsp]
    exact trodAll_below hread hk hA'
  · show DataW.TrodVars _ _ _ _ s.vars (s.fn H (ds ++ [])).vars _
    rw [hsp, hs0]
    rfl
end
theorem plain_of {F : FuncId} {fN : Func} {name : String} (hn : Tryz.prog.funcNamed name = some F) (hF : Tryz.prog.funcs[F]? = some fN) (hl : false = Tryz.pinned.checked.prog.looks [])
    (ha : fN.params.toList.all (fun t => !(Tryz.prog.wantsStandIn t)) = true) (f : FuncId) (fn : Func) (hf : Tryz.pinned.checked.prog.funcNamed name = some f) (hfn : Tryz.pinned.checked.prog.funcs[f]? = some fn) :
    false = Tryz.pinned.checked.prog.looks [] ∧ ∀ (j : Nat) t, fn.params[j]? = some t → Tryz.pinned.checked.prog.wantsStandIn t = false := by
  obtain rfl : F = f := Option.some.inj (hn.symm.trans hf)
  obtain rfl : fN = fn := Option.some.inj (hF.symm.trans hfn)
  refine ⟨hl, fun j t ht => ?_⟩
  have := List.all_eq_true.1 ha t (by simpa using Array.mem_of_getElem? ht)
  have h2 : Tryz.prog.wantsStandIn t = false := by simpa using this
  exact h2
end Go.Proofs.YtdnjfpmngnkcfaaGreatDoor
