/- What package value, and its reference, compute: valid values. -/
import Derived.Test.YtemejaomfbhldaaDoorValB
namespace Go.Proofs.YtemejaomfbhldaaDoor
open Go.RowKit

set_option maxRecDepth 100000 in
theorem rtype_any (k e n : Int) (w : World) :
    Calls Tryd.prog 35 #[.agg #[.int .i64 k, .int .i64 e, .int .i64 n]] w fun r w' => r = .returned (.agg #[.int .i64 k, .int .i64 e]) ∧ Kept w w' := by
  go_enter Tryd.func35, Tryd.ntmps35
  go_wp2_with fail
  exact bodyPost_ret (v := .agg #[.int .i64 k, .int .i64 e]) (by simp [results, Tryd.results35, go_sem]) rfl ⟨rfl, by repeat first | exact Kept.refl _ | refine Kept.alloc ?_ _ | refine Kept.setCell ?_ (by simp) _⟩
end Go.Proofs.YtemejaomfbhldaaDoor
