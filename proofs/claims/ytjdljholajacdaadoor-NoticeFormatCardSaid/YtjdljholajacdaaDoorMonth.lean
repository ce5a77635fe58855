/- What FromDate, Range and Days of package month, and of the reference, compute. -/
import Derived.Test.YtjdljholajacdaaDoorMonthMath
import Derived.Test.YtjdljholajacdaaDoorDateC
import Derived.Test.YtjdljholajacdaaDoorRefDateB
namespace Go.Proofs.YtjdljholajacdaaDoor
open Go.RowKit

/-- the range of a month, and the code -/
def rgS (m : Int) : Int × Int × Int := if monB m then (firstM m, firstM m + daysM m, 0) else (0, 0, 3)
theorem rgS_yes {m : Int} (h : monB m = true) : rgS m = (firstM m, firstM m + daysM m, 0) := by rw [rgS, if_pos h]
theorem rgS_no {m : Int} (h : monB m = false) : rgS m = (0, 0, 3) := by rw [rgS, h]; rfl
theorem rg_ret {r : Int × Int × Int} {a b c : Int} (h : r = (a, b, c)) : Ending.returned (.tuple #[.agg #[.int .i64 a, .int .i64 b], .int .i64 c]) = .returned (.tuple #[.agg #[.int .i64 r.1, .int .i64 r.2.1], .int .i64 r.2.2]) := by rw [h]

theorem mvalid_any (m : Int) (w : World) :
    Calls Tryd.prog 80 #[.int .i64 m] w fun e w' => e = .returned (.bool (monB m)) ∧ w = w' := by
  by_cases h : 0 ≤ m
  · go_enter Tryd.func80, Tryd.ntmps80
    go_wp2_with fail
    go_ret
    exact ⟨ret_bool (by simp [monB, h]), rfl⟩
  · go_enter Tryd.func80, Tryd.ntmps80
    go_wp2_with fail
    go_ret
    exact ⟨ret_bool (by simp [monB]; omega), rfl⟩
theorem rmvalid_any (m : Int) (w : World) :
    Calls Tryd.prog 85 #[.int .i64 m] w fun e w' => e = .returned (.bool (monB m)) ∧ w = w' := by
  by_cases h : 0 ≤ m
  · go_enter Tryd.func85, Tryd.ntmps85
    go_wp2_with fail
    go_ret
    exact ⟨ret_bool (by simp [monB, h]), rfl⟩
  · go_enter Tryd.func85, Tryd.ntmps85
    go_wp2_with fail
    go_ret
    exact ⟨ret_bool (by simp [monB]; omega), rfl⟩

end Go.Proofs.YtjdljholajacdaaDoor
