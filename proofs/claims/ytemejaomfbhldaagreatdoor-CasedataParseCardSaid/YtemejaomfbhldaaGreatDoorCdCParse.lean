/- The law CasedataParse returns true: Parse returns the case with a text, or the first invalid line and its code, as the reference does. For every input that the row allows; the tables that it lists hold what their text lays. -/
import Derived.Test.YtemejaomfbhldaaGreatDoorCdM2
namespace Go.Proofs.YtemejaomfbhldaaGreatDoor
open Go.ChangeShapes Go.WideShapes Go.ChangeAt Go.RowKit Go.Joins
open Go.ChangeMaps (open_string shut_string)

set_option maxRecDepth 100000 in
theorem casedataParse_step {H : Type} {enc : TypeId × Value → H} (W : World) (base : Nat) (args : Array Value) (ds : List (DataW H)) (ps : List MemPlace)
    (hval : ∀ (j : Nat) t v, Tryz.f4.params[j]? = some t → args[j]? = some v → Value.okWide Tryz.prog W .any base t v)
    (hA : DataW.TrodAll enc Tryz.prog W 0 (fun _ => true) true Tryz.f4.params.toList args.toList ds ps) (hL : laidMetH Tryz.prog Rows.casedataParseRow.laid W) (hS : W.ShapedOpen Tryz.prog) : Calls Tryz.prog 4 args W (LawPost W) := by
  rw [Tryz.params4] at hA hval
  obtain ⟨v0, vs0, d0, ds0, p0, q0, hargs, rfl, rfl, h0, r0⟩ := trodAll_cons hA
  obtain ⟨v1, vs1, d1, ds1, p1, q1, rfl, rfl, rfl, h1, r1⟩ := trodAll_cons r0
  obtain ⟨v2, vs2, d2, ds2, p2, q2, rfl, rfl, rfl, h2, r2⟩ := trodAll_cons r1
  obtain ⟨rfl, rfl, rfl⟩ := trodAll_nil r2
  obtain rfl : args = #[v0, v1, v2] := by cases args; simp_all
  obtain ⟨ms, scs, hms, rms⟩ := open_law (hval 0 26 v0 rfl rfl) h0
  obtain ⟨sc, rfl, _, _, wsc⟩ := open_int Tryz.underlying3 (hval 1 3 v1 rfl rfl) h1
  obtain ⟨s, rfl, _, _, ws⟩ := open_string Tryz.underlying9 (hval 2 9 v2 rfl rfl) h2
  exact lawCdParse _ ms scs sc s W hms rms (env19 hL).1 (env19 hL).2 (envMax19 hS)
theorem casedataParse_met (os : Os) : laidMet Tryz.prog Rows.casedataParseRow.laid ((laidWorld os).forCall (fun _ _ => 0) ⟨#[], #[.agg #[.slice none 0 0, .slice none 0 0, .slice none 0 0], .int .i64 0, .string ⟨#[]⟩], []⟩).memory :=
  laidMet_of_run' 8 (by kernel_rfl) (by kernel_rfl)
set_option maxRecDepth 100000 in
theorem casedataParse_lifted (os : Os) (started : os.Started) (H : Type) (enc : TypeId × Value → H) (F : Stop.Interp) :
    ReturnsInHanded {} Tryz.checked os 4 .any ((OpenSpec.ofChange Rows.casedataParseSpec).preRow enc Tryz.prog Tryz.f4 Rows.casedataParseRow.domain false Rows.casedataParseRow.laid) (((OpenSpec.ofChange Rows.casedataParseSpec).at F).post enc Tryz.prog Tryz.f4 false true false false) := by
  obtain ⟨places, hx⟩ : ∃ places, DataW.whole enc Tryz.prog ((laidWorld os).forCall (fun _ _ => 0) ⟨#[], #[.agg #[.slice none 0 0, .slice none 0 0, .slice none 0 0], .int .i64 0, .string ⟨#[]⟩], []⟩).memory Tryz.f4.params.toList Rows.casedataParseSpec.vars false #[.agg #[.slice none 0 0, .slice none 0 0, .slice none 0 0], .int .i64 0, .string ⟨#[]⟩].toList 8 = some ([.agg [.nil, .nil, .nil], .lit (.int .i64 0), .lit (.string [])], [], places) := ⟨[], by kernel_rfl⟩
  exact law_liftedS (s := Rows.casedataParseSpec) (laid := Rows.casedataParseRow.laid) started (by kernel_rfl) Tryz.func4 rfl (by kernel_rfl) (by intro ds hl; match ds, hl with | [_, _, _], _ => rfl) (by kernel_rfl)
    (witness_row_at (enc := enc) (C := Tryz.checked) false (laidWorld os) #[.agg #[.slice none 0 0, .slice none 0 0, .slice none 0 0], .int .i64 0, .string ⟨#[]⟩] rfl (by kernel_rfl) (by kernel_rfl) (by kernel_rfl)
      (OpenSpec.preRow_of_cond 8 hx (by kernel_rfl) (fun k hk => by cases hk) (by kernel_rfl) (casedataParse_met os))) casedataParse_step F
set_option maxRecDepth 100000 in
theorem casedataParse_said : Rows.CasedataParseSaid :=
  OpenClaim.holds_of_cond 4 Tryz.f4 rfl rfl rfl rfl rfl rfl rfl ⟨rfl, rfl, rfl, rfl, rfl⟩ rfl rfl rfl rfl rfl (by kernel_rfl) Tryz.func4 (by kernel_rfl)
    (of_decide_eq_true (by kernel_rfl)) (by unfold Func.isWrapper; first | (rw [if_pos (by decide +kernel)]; kernel_rfl) | (rw [if_neg (by decide +kernel)]; exact ⟨rfl, rfl⟩))
    (fun os started H enc _ F => by rw [OpenClaim.pre_eq_preRow]; exact casedataParse_lifted os started H enc F)
theorem casedataParse_holds : Rows.CasedataParseCardSaid :=
  Claim7.holds_tied_plain_at .later [] _ _ _ _ casedataParse_said (fun _ h => by cases h) (by kernel_rfl) (fun _ h => by cases h) casedataParse_row_tie rfl ⟨rfl, rfl⟩ (by kernel_rfl) rfl (fun f fn hf hfn => plain_of (show Tryz.prog.funcNamed "guerdon/guerdonlaw19.CasedataParse" = some 4 by kernel_rfl) Tryz.func4 (by kernel_rfl) (by kernel_rfl) f fn hf hfn) (by kernel_rfl)
#print axioms casedataParse_holds
end Go.Proofs.YtemejaomfbhldaaGreatDoor
