/- The law NoticeFormat returns true: Format agrees with the reference. For every input that the row allows; the tables that it lists hold what their text lays. -/
import Derived.Test.YtjdljholajacdaaDoorNoteM2
namespace Go.Proofs.YtjdljholajacdaaDoor
open Go.ChangeShapes Go.WideShapes Go.ChangeAt Go.RowKit Go.Joins
open Go.ChangeMaps (open_string shut_string)

set_option maxRecDepth 100000 in
theorem noticeFormat_step {H : Type} {enc : TypeId × Value → H} (W : World) (base : Nat) (args : Array Value) (ds : List (DataW H)) (ps : List MemPlace)
    (hval : ∀ (j : Nat) t v, Tryd.f11.params[j]? = some t → args[j]? = some v → Value.okWide Tryd.prog W .any base t v)
    (hA : DataW.TrodAll enc Tryd.prog W 0 (fun _ => true) true Tryd.f11.params.toList args.toList ds ps) (hL : laidMetH Tryd.prog Rows.noticeFormatRow.laid W) (hS : W.ShapedOpen Tryd.prog) : Calls Tryd.prog 11 args W (LawPost W) := by
  rw [Tryd.params11] at hA hval
  obtain ⟨v0, vs0, d0, ds0, p0, q0, hargs, rfl, rfl, h0, r0⟩ := trodAll_cons hA
  obtain ⟨rfl, rfl, rfl⟩ := trodAll_nil r0
  obtain rfl : args = #[v0] := by cases args; simp_all
  obtain ⟨i, h, m, k, c, rfl⟩ := open_note (hval 0 54 v0 rfl rfl) h0
  exact lawNoteFormat i h m k c W (env45 hL) (envMax hS)
theorem noticeFormat_met (os : Os) : laidMet Tryd.prog Rows.noticeFormatRow.laid ((laidWorld os).forCall (fun _ _ => 0) ⟨#[], #[.agg #[.int .i64 0, .int .i64 0, .int .i64 0, .int .i64 0, .int .i64 0]], []⟩).memory :=
  laidMet_of_run' 8 (by kernel_rfl) (by kernel_rfl)
set_option maxRecDepth 100000 in
theorem noticeFormat_lifted (os : Os) (started : os.Started) (H : Type) (enc : TypeId × Value → H) (F : Stop.Interp) :
    ReturnsInHanded {} Tryd.checked os 11 .any ((OpenSpec.ofChange Rows.noticeFormatSpec).preRow enc Tryd.prog Tryd.f11 Rows.noticeFormatRow.domain false Rows.noticeFormatRow.laid) (((OpenSpec.ofChange Rows.noticeFormatSpec).at F).post enc Tryd.prog Tryd.f11 false true false false) := by
  obtain ⟨places, hx⟩ : ∃ places, DataW.whole enc Tryd.prog ((laidWorld os).forCall (fun _ _ => 0) ⟨#[], #[.agg #[.int .i64 0, .int .i64 0, .int .i64 0, .int .i64 0, .int .i64 0]], []⟩).memory Tryd.f11.params.toList Rows.noticeFormatSpec.vars false #[.agg #[.int .i64 0, .int .i64 0, .int .i64 0, .int .i64 0, .int .i64 0]].toList 8 = some ([.agg [.lit (.int .i64 0), .lit (.int .i64 0), .lit (.int .i64 0), .lit (.int .i64 0), .lit (.int .i64 0)]], [], places) := ⟨[], by kernel_rfl⟩
  exact law_liftedS (s := Rows.noticeFormatSpec) (laid := Rows.noticeFormatRow.laid) started (by kernel_rfl) Tryd.func11 rfl (by kernel_rfl) (by intro ds hl; match ds, hl with | [_], _ => rfl) (by kernel_rfl)
    (witness_row_at (enc := enc) (C := Tryd.checked) false (laidWorld os) #[.agg #[.int .i64 0, .int .i64 0, .int .i64 0, .int .i64 0, .int .i64 0]] rfl (by kernel_rfl) (by kernel_rfl) (by kernel_rfl)
      (OpenSpec.preRow_of_cond 8 hx (by kernel_rfl) (fun k hk => by cases hk) (by kernel_rfl) (noticeFormat_met os))) noticeFormat_step F
set_option maxRecDepth 100000 in
theorem noticeFormat_said : Rows.NoticeFormatSaid :=
  OpenClaim.holds_of_cond 11 Tryd.f11 rfl rfl rfl rfl rfl rfl rfl ⟨rfl, rfl, rfl, rfl, rfl⟩ rfl rfl rfl rfl rfl (by kernel_rfl) Tryd.func11 (by kernel_rfl)
    (of_decide_eq_true (by kernel_rfl)) (by unfold Func.isWrapper; first | (rw [if_pos (by decide +kernel)]; kernel_rfl) | (rw [if_neg (by decide +kernel)]; exact ⟨rfl, rfl⟩))
    (fun os started H enc _ F => by rw [OpenClaim.pre_eq_preRow]; exact noticeFormat_lifted os started H enc F)
theorem noticeFormat_holds : Rows.NoticeFormatCardSaid :=
  Claim7.holds_tied_plain_at .later [] _ _ _ _ noticeFormat_said (fun _ h => by cases h) (by kernel_rfl) (fun _ h => by cases h) noticeFormat_row_tie rfl ⟨rfl, rfl⟩ (by kernel_rfl) rfl (fun f fn hf hfn => plain_of (show Tryd.prog.funcNamed "guerdon/guerdonlaw45.NoticeFormat" = some 11 by kernel_rfl) Tryd.func11 (by kernel_rfl) (by kernel_rfl) f fn hf hfn) (by kernel_rfl)
#print axioms noticeFormat_holds
end Go.Proofs.YtjdljholajacdaaDoor
