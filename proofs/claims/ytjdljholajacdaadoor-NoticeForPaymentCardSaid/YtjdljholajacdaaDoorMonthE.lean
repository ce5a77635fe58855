/- What month.pad computes. -/
import Derived.Test.YtjdljholajacdaaDoorDateE
namespace Go.Proofs.YtjdljholajacdaaDoor
open Go.RowKit

set_option maxRecDepth 100000 in
set_option maxHeartbeats 1000000 in
theorem mpad_any (n k : Int) (h0 : -9223372036854775808 ≤ n) (h1 : n ≤ 9223372036854775807) (k0 : 0 ≤ k) (k1 : k ≤ 9) (w : World) (hP : Pow w) :
    Calls Tryd.prog 81 #[.int .i64 n, .int .i64 k] w fun e w' => e = .returned (.string (padS n k)) ∧ Kept w w' := by
  have hs := numS_size n h0 h1
  have HR := Lib.hid (padS_yes (n := n) (k := k))
  have e1 : (max 0 (k - (numS n).size)).toNat = k.toNat - (numS n).size := by omega
  go_enter Tryd.func81, Tryd.ntmps81
  go_wp2_with (first
    | (go_at_call 39; refine (fmtInt_any n h0 h1 _ hP).mono ?_; rintro e w' ⟨rfl, hk⟩)
    | (go_at_call 67; refine (zeros_any (max 0 (k - (numS n).size)) (by omega) (by omega) _).mono ?_; rintro e w2 ⟨rfl, hk2⟩; rw [e1]))
  go_ret
  exact ⟨congrArg (fun x => Ending.returned (Value.string x)) HR.out, hk.trans hk2⟩

end Go.Proofs.YtjdljholajacdaaDoor
