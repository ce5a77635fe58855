/- What month.Overlap computes, and the reference's. -/
import Derived.Test.YtmlkgfacenajnaaDoorMonthC
namespace Go.Proofs.YtmlkgfacenajnaaDoor
open Go.RowKit

theorem ov_int {m a b x y : Int} {z : Bool} (hm : monB m = true) (h : intS (firstM m) (firstM m + daysM m) a b = (x, y, z)) :
    (z = false ∧ ovS m a b = 0) ∨ (z = true ∧ ovS m a b = y - x ∧ 0 ≤ x ∧ x ≤ 109573 ∧ 0 ≤ y ∧ y ≤ 109573) := by
  have hf := firstM_bd hm
  have hd := daysM_bd hm
  have he := firstM_end hm
  have h1 : hdB (firstM m) (firstM m + daysM m) = true := hdB_iff.2 ⟨by omega, by omega, by omega⟩
  unfold intS at h
  rw [h1, Bool.true_and] at h
  cases h2 : hdB a b
  · rw [h2] at h
    have hz : false = z := congrArg (fun p => p.2.2) h
    refine .inl ⟨hz.symm, ?_⟩
    by_cases hv : 0 ≤ a ∧ a ≤ b ∧ b ≤ 109573
    · have : ¬ (0 ≤ a ∧ a < b ∧ b ≤ 109573) := fun e => by rw [hdB_iff.2 e] at h2; cases h2
      rw [ovS_yes hm hv.1 hv.2.1 hv.2.2]; omega
    · exact ovS_bad (by omega)
  · have h2' := hdB_iff.1 h2
    rw [h2, Bool.true_and] at h
    by_cases h3 : max (firstM m) a < min (firstM m + daysM m) b
    · rw [if_pos (by simpa using h3)] at h
      have hx : max (firstM m) a = x := congrArg (fun p => p.1) h
      have hy : min (firstM m + daysM m) b = y := congrArg (fun p => p.2.1) h
      have hz : true = z := congrArg (fun p => p.2.2) h
      refine .inr ⟨hz.symm, ?_⟩
      rw [ovS_yes hm (by omega) (by omega) (by omega), hx, hy]
      omega
    · rw [if_neg (by simpa using h3)] at h
      have hz : false = z := congrArg (fun p => p.2.2) h
      refine .inl ⟨hz.symm, ?_⟩
      rw [ovS_yes hm (by omega) (by omega) (by omega)]
      omega
theorem vrB_iff {a b : Int} : vrB a b = true ↔ 0 ≤ a ∧ a ≤ b ∧ b ≤ 109573 := by
  unfold vrB; simp

set_option maxRecDepth 100000 in
set_option maxHeartbeats 4000000 in
theorem overlap_any (m a b : Int) (w : World) (hM : Mon w) :
    Calls Tryd.prog 28 #[.int .i64 m, .agg #[.int .i64 a, .int .i64 b]] w fun e w' => e = .returned (.int .i64 (ovS m a b)) ∧ Kept w w' := by
  have hME := Mon.kept hM ((Kept.refl w).alloc (.cells #[.int .i64 a, .int .i64 b] 35))
  cases hm : monB m
  · have HR := Lib.hid (ovS_not (a := a) (b := b) hm)
    have HG := Lib.hid (rgS_no hm)
    clear hm
    go_enter Tryd.func28, Tryd.ntmps28
    go_wp2_with fail
    refine (mrange_any _ _ hME).mono ?_
    rintro e w1 ⟨rfl, k1⟩
    rw [HG.out]
    go_wp2_with fail
    go_ret
    exact ⟨ret_int HR.out.symm, (((Kept.refl _).alloc _).trans k1).alloc _⟩
  · have HG := Lib.hid (rgS_yes hm)
    obtain ⟨⟨x, y, z⟩, hi⟩ : ∃ p, intS (firstM m) (firstM m + daysM m) a b = p := ⟨_, rfl⟩
    have HI := Lib.hid hi
    have ho := ov_int hm hi
    clear hi hm
    generalize firstM m = f at *
    generalize f + daysM m = t at *
    rcases ho with ⟨rfl, ho⟩ | ⟨rfl, ho, x0, x1, y0, y1⟩
    all_goals
      have HR := Lib.hid ho
      clear ho
      go_enter Tryd.func28, Tryd.ntmps28
      go_wp2_with fail
      refine (mrange_any _ _ hME).mono ?_
      rintro e w1 ⟨rfl, k1⟩
      rw [HG.out]
      have B0 := k1.blk1
      have b0 := B0.cell
      have l0 := B0.lt
      go_wp2_with fail
      refine (intersect_any _ _ _ _ _).mono ?_
      rintro e w2 ⟨rfl, k2⟩
      rw [HI.out]
      go_wp2_with fail
      go_ret
      exact ⟨ret_int HR.out.symm, (((((Kept.refl _).alloc _).trans k1).alloc _).trans k2).alloc _⟩

set_option maxRecDepth 100000 in
set_option maxHeartbeats 4000000 in
theorem roverlap_any (m a b : Int) (w : World) :
    Calls Tryd.prog 29 #[.int .i64 m, .agg #[.int .i64 a, .int .i64 b]] w fun e w' => e = .returned (.int .i64 (ovS m a b)) ∧ Kept w w' := by
  cases hm : monB m
  · have HR := Lib.hid (ovS_not (a := a) (b := b) hm)
    have HG := Lib.hid (rgS_no hm)
    clear hm
    go_enter Tryd.func29, Tryd.ntmps29
    go_wp2_with fail
    refine (rmrange_any _ _).mono ?_
    rintro e w1 ⟨rfl, k1⟩
    rw [HG.out]
    go_wp2_with fail
    go_ret
    exact ⟨ret_int HR.out.symm, (((Kept.refl _).alloc _).trans k1).alloc _⟩
  · have HG := Lib.hid (rgS_yes hm)
    have f0 := (firstM_bd hm).1
    have f1 := firstM_end hm
    have f2 := (daysM_bd hm).1
    cases hv : vrB a b
    · have HR := Lib.hid (show ovS m a b = 0 from ovS_bad (by
        have : ¬ (0 ≤ a ∧ a ≤ b ∧ b ≤ 109573) := fun e => by rw [vrB_iff.2 e] at hv; cases hv
        omega))
      have HV := Lib.hid hv
      clear hm hv
      generalize firstM m = f at *
      generalize f + daysM m = t at *
      go_enter Tryd.func29, Tryd.ntmps29
      go_wp2_with fail
      refine (rmrange_any _ _).mono ?_
      rintro e w1 ⟨rfl, k1⟩
      rw [HG.out]
      have B0 := k1.blk1
      have b0 := B0.cell
      have l0 := B0.lt
      go_wp2_with fail
      refine (rdrvalid_any _ _ _).mono ?_
      rintro e w2 ⟨rfl, k2⟩
      rw [HV.out]
      go_wp2_with fail
      go_ret
      exact ⟨ret_int HR.out.symm, ((((Kept.refl _).alloc _).trans k1).alloc _).trans k2⟩
    · have hv' := vrB_iff.1 hv
      obtain ⟨a0, a1, a2⟩ := hv'
      have HR := Lib.hid (ovS_yes hm a0 a1 a2)
      have HV := Lib.hid hv
      clear hm hv
      generalize firstM m = f at *
      generalize ht : f + daysM m = t at *
      go_enter Tryd.func29, Tryd.ntmps29
      go_wp2_with fail
      refine (rmrange_any _ _).mono ?_
      rintro e w1 ⟨rfl, k1⟩
      rw [HG.out]
      have B0 := k1.blk1
      have b0 := B0.cell
      have l0 := B0.lt
      go_wp2_with fail
      refine (rdrvalid_any _ _ _).mono ?_
      rintro e w2 ⟨rfl, k2⟩
      rw [HV.out]
      have B2 := (B0.alloc (.cells #[.int .i64 f, .int .i64 t] 35)).kept k2
      have B3 := (Blk.new w1 35 #[.int .i64 f, .int .i64 t]).kept k2
      have b2 := B2.cell
      have l2 := B2.lt
      have b3 := B3.cell
      have l3 := B3.lt
      clear b0 l0
      go_wp2_with fail
      all_goals
        go_ret
        exact ⟨ret_int (by rw [HR.out]; omega), ((((Kept.refl _).alloc _).trans k1).alloc _).trans k2⟩
end Go.Proofs.YtmlkgfacenajnaaDoor
