/- What month.PayDate computes, and the reference's. -/
import Derived.Test.YtmlkgfacenajnaaDoorMonthB
import Derived.Test.YtmlkgfacenajnaaDoorBlks
import Derived.Test.YtmlkgfacenajnaaDoorCalRef
namespace Go.Proofs.YtmlkgfacenajnaaDoor
open Go.RowKit

/-- the last day before n for which f holds -/
def downTo (f : Int → Bool) : Nat → Int × Int
  | 0 => (0, 6)
  | k + 1 => if f k then ((k : Int), 0) else downTo f k
theorem down_hit {f : Int → Bool} {k : Nat} (h : f k = true) : downTo f (k + 1) = ((k : Int), 0) := by rw [downTo, if_pos h]
theorem down_no {f : Int → Bool} {k : Nat} (h : f k = false) : downTo f (k + 1) = downTo f k := by rw [downTo, h]; rfl
def payS (wk : Int) (hs : List Int) (m day : Int) : Int × Int :=
  if Cal.vcalB wk hs && (decide (1 ≤ day) && decide (day ≤ 31)) then (if monB m then downTo (Cal.isWorkB wk hs) (firstM m + min day (daysM m)).toNat else (0, 3)) else (0, 1)
theorem mn_cases' (a b : Int) : (b < a ∧ min a b = b) ∨ (a ≤ b ∧ min a b = a) := by omega

theorem mdays_is {m v : Int} (w : World) (hM : Mon w) (h : daysM m = v) : Calls Tryd.prog 26 #[.int .i64 m] w fun e w' => e = .returned (.int .i64 v) ∧ w = w' := by rw [← h]; exact mdays_any m w hM
theorem rmdays_is {m v : Int} (w : World) (h : daysM m = v) : Calls Tryd.prog 27 #[.int .i64 m] w fun e w' => e = .returned (.int .i64 v) ∧ w = w' := by rw [← h]; exact rmdays_any m w
section
variable (wk : Int) (A : Option Addr) (n c : Nat) (hs : List Int) (w : World) (hr : Ints w A n hs) (hn : n ≤ 100)
include hr hn

set_option maxRecDepth 100000 in
set_option maxHeartbeats 4000000 in
theorem payDate_any (hM : Mon w) (m day : Int) :
    Calls Tryd.prog 31 #[.int .i64 m, .agg #[.int .i64 wk, .slice A n c], .int .i64 day] w fun e w' => e = .returned (.tuple #[.int .i64 (payS wk hs m day).1, .int .i64 (payS wk hs m day).2]) ∧ Kept w w' := by
  have hri := hr.alloc (.cells #[.int .i64 wk, .slice A n c] 43)
  have hME := Mon.kept hM ((Kept.refl w).alloc (.cells #[.int .i64 wk, .slice A n c] 43))
  by_cases hbad : ¬ (Cal.vcalB wk hs = true ∧ 1 ≤ day ∧ day ≤ 31)
  · have HR := Lib.hid (show payS wk hs m day = (0, 1) by rw [payS, if_neg]; simpa using hbad)
    have hr' : Cal.vcalB wk hs = false ∨ (Cal.vcalB wk hs = true ∧ day < 1) ∨ (Cal.vcalB wk hs = true ∧ 1 ≤ day ∧ 31 < day) := by
      cases hv : Cal.vcalB wk hs
      · exact .inl rfl
      · rw [hv] at hbad
        simp only [true_and] at hbad
        by_cases h1 : day < 1
        · exact .inr (.inl ⟨rfl, h1⟩)
        · exact .inr (.inr ⟨rfl, by omega, by omega⟩)
    clear hbad
    rcases hr' with h1 | ⟨h1, h2⟩ | ⟨h1, h2, h3⟩
    all_goals
      have HV := Lib.hid h1
      clear h1
      go_enter Tryd.func31, Tryd.ntmps31
      go_wp2_with fail
      refine (Cal.wvalid_any wk A n c hs _ hri hn).mono ?_
      rintro e w1 ⟨rfl, k1⟩
      rw [HV.out]
      go_wp2_with fail
      go_ret2
      exact ⟨from_ret HR.out, ((Kept.refl _).alloc _).trans k1⟩
  · have hok : Cal.vcalB wk hs = true ∧ 1 ≤ day ∧ day ≤ 31 := by simpa using hbad
    clear hbad
    obtain ⟨hv, d1, d2⟩ := hok
    have HV := Lib.hid hv
    cases hm : monB m
    · have HR := Lib.hid (show payS wk hs m day = (0, 3) by rw [payS, hv, hm]; simp [d1, d2])
      have HG := Lib.hid (rgS_no hm)
      clear hv hm
      go_enter Tryd.func31, Tryd.ntmps31
      go_wp2_with fail
      refine (Cal.wvalid_any wk A n c hs _ hri hn).mono ?_
      rintro e w1 ⟨rfl, k1⟩
      rw [HV.out]
      go_wp2_with fail
      refine (mrange_any _ _ (hME.kept k1)).mono ?_
      rintro e w2 ⟨rfl, k2⟩
      rw [HG.out]
      go_wp2_with fail
      go_ret2
      exact ⟨from_ret HR.out, ((((Kept.refl _).alloc _).trans k1).trans k2).alloc _⟩
    · have hR : payS wk hs m day = downTo (Cal.isWorkB wk hs) (firstM m + min day (daysM m)).toNat := by rw [payS, hv, hm]; simp [d1, d2]
      have HG := Lib.hid (rgS_yes hm)
      have fb := firstM_bd hm
      have db := daysM_bd hm
      clear hv hm
      generalize hf : firstM m = f at *
      generalize hdd : daysM m = dd at *
      obtain ⟨f0, f1⟩ := fb
      obtain ⟨g0, g1⟩ := db
      rcases mn_cases' day dd with ⟨e1, m1⟩ | ⟨e1, m1⟩
      all_goals
        rw [m1] at hR
        clear m1
        have HR := Lib.hid hR
        clear hR
        have HDD := Lib.hid hdd
        clear hf hdd
        go_enter Tryd.func31, Tryd.ntmps31
        go_wp2_with fail
        refine (Cal.wvalid_any wk A n c hs _ hri hn).mono ?_
        rintro e w1 ⟨rfl, k1⟩
        rw [HV.out]
        go_wp2_with fail
        refine (mrange_any _ _ (hME.kept k1)).mono ?_
        rintro e w2 ⟨rfl, k2⟩
        rw [HG.out]
        have c0 : (w2.alloc (.cells #[.int .i64 f, .int .i64 (f + dd)] 35)).cell? ⟨w2.heap.size, 0, none⟩ = some (.int .i64 f) := (Blk.new w2 _ _).cell 0
        have q0 := KW.cell (w := w2.alloc (.cells #[.int .i64 f, .int .i64 (f + dd)] 35)) (by simp) c0
        have hMD := fun x : KW (w2.alloc (.cells #[.int .i64 f, .int .i64 (f + dd)] 35)) => (((hME.kept k1).kept k2).kept ((Kept.refl _).alloc _)).kept x.h
        clear c0
        go_wp2_with fail
        refine wp_region_kept (by kernel_rfl) (by kernel_rfl) ?_
        have s1 : IntKind.i64.wrap (f + dd) = f + dd := IntWalk.i64_in _ (by omega)
        have s2 : IntKind.i64.wrap (f + day) = f + day := IntWalk.i64_in _ (by omega)
        have s3 : IntKind.i64.wrap (f + dd - 1) = f + dd - 1 := IntWalk.i64_in _ (by omega)
        have s4 : IntKind.i64.wrap (f + day - 1) = f + day - 1 := IntWalk.i64_in _ (by omega)
        repeat (go_big_quiet_step ((go_at_call 26; exact KW.pure (mdays_is _ (hMD _) HDD.out))))
        clear s1 s2 s3 s4 q0 hMD
        refine wpQuiet_nil ?_
        rintro _ ⟨⟨wx, hx⟩, rfl⟩
        have hK0 := ((k1.trans k2).alloc _).trans hx
        clear hx
        go_wp2_with fail
        go_loopw [10] (fun d wr => ∃ z : Int, d = .int .i64 z ∧ -1 ≤ z ∧ z ≤ 200000 ∧ payS wk hs m day = downTo (Cal.isWorkB wk hs) (z + 1).toNat ∧ Kept (w.alloc (.cells #[.int .i64 wk, .slice A n c] 43)) wr) (fun d _ => (intOf d + 1).toNat)
        case atStart => exact ⟨_, rfl, by omega, by omega, by rw [HR.out]; congr 1; omega, hK0⟩
        case round =>
          obtain ⟨z, rfl, z0, z1, hp, hK⟩ := hrel
          have HP := Lib.hid hp
          clear hp
          by_cases hz : 0 ≤ z
          · have B := hK.blk1
            have b0 := B.cell
            have l0 := B.lt
            have hS : (z + 1).toNat = z.toNat + 1 := by omega
            have hzz : ((z.toNat : Nat) : Int) = z := by omega
            cases hw : Cal.isWorkB wk hs z
            · have HN := Lib.hid (show payS wk hs m day = downTo (Cal.isWorkB wk hs) z.toNat by rw [HP.out, hS, down_no (by rw [hzz]; exact hw)])
              have HW := Lib.hid hw
              clear hw hS hzz
              go_wp2_with (go_at_call 63; refine (Cal.isWork_any wk A n c hs z _ (hri.kept hK) hn).mono ?_; rintro e w5 ⟨rfl, k5⟩; rw [HW.out])
              go_roundw
              case rel => exact ⟨z - 1, rfl, by omega, by omega, by rw [HN.out]; congr 1; omega, hK.trans k5⟩
              case measure => simp [intOf]; omega
            · have HN := Lib.hid (show payS wk hs m day = (z, 0) by rw [HP.out, hS, down_hit (by rw [hzz]; exact hw), hzz])
              have HW := Lib.hid hw
              clear hw hS hzz
              go_wp2_with (go_at_call 63; refine (Cal.isWork_any wk A n c hs z _ (hri.kept hK) hn).mono ?_; rintro e w5 ⟨rfl, k5⟩; rw [HW.out])
              go_ret2
              exact ⟨from_ret HN.out, ((Kept.refl _).alloc _).trans (hK.trans k5)⟩
          · have HN := Lib.hid (show payS wk hs m day = (0, 6) by rw [HP.out, show (z + 1).toNat = 0 by omega]; rfl)
            go_wp2_with fail
            go_ret2
            exact ⟨from_ret HN.out, ((Kept.refl _).alloc _).trans hK⟩

set_option maxRecDepth 100000 in
set_option maxHeartbeats 4000000 in
theorem rpayDate_any (m day : Int) :
    Calls Tryd.prog 32 #[.int .i64 m, .agg #[.int .i64 wk, .slice A n c], .int .i64 day] w fun e w' => e = .returned (.tuple #[.int .i64 (payS wk hs m day).1, .int .i64 (payS wk hs m day).2]) ∧ Kept w w' := by
  have hri := hr.alloc (.cells #[.int .i64 wk, .slice A n c] 43)
  by_cases hbad : ¬ (Cal.vcalB wk hs = true ∧ 1 ≤ day ∧ day ≤ 31)
  · have HR := Lib.hid (show payS wk hs m day = (0, 1) by rw [payS, if_neg]; simpa using hbad)
    have hr' : Cal.vcalB wk hs = false ∨ (Cal.vcalB wk hs = true ∧ day < 1) ∨ (Cal.vcalB wk hs = true ∧ 1 ≤ day ∧ 31 < day) := by
      cases hv : Cal.vcalB wk hs
      · exact .inl rfl
      · rw [hv] at hbad
        simp only [true_and] at hbad
        by_cases h1 : day < 1
        · exact .inr (.inl ⟨rfl, h1⟩)
        · exact .inr (.inr ⟨rfl, by omega, by omega⟩)
    clear hbad
    rcases hr' with h1 | ⟨h1, h2⟩ | ⟨h1, h2, h3⟩
    all_goals
      have HV := Lib.hid h1
      clear h1
      go_enter Tryd.func32, Tryd.ntmps32
      go_wp2_with fail
      refine (Cal.rwvalid_any wk A n c hs _ hri hn).mono ?_
      rintro e w1 ⟨rfl, k1⟩
      rw [HV.out]
      go_wp2_with fail
      go_ret2
      exact ⟨from_ret HR.out, ((Kept.refl _).alloc _).trans k1⟩
  · have hok : Cal.vcalB wk hs = true ∧ 1 ≤ day ∧ day ≤ 31 := by simpa using hbad
    clear hbad
    obtain ⟨hv, d1, d2⟩ := hok
    have HV := Lib.hid hv
    cases hm : monB m
    · have HR := Lib.hid (show payS wk hs m day = (0, 3) by rw [payS, hv, hm]; simp [d1, d2])
      have HG := Lib.hid (rgS_no hm)
      clear hv hm
      go_enter Tryd.func32, Tryd.ntmps32
      go_wp2_with fail
      refine (Cal.rwvalid_any wk A n c hs _ hri hn).mono ?_
      rintro e w1 ⟨rfl, k1⟩
      rw [HV.out]
      go_wp2_with fail
      refine (rmrange_any _ _).mono ?_
      rintro e w2 ⟨rfl, k2⟩
      rw [HG.out]
      go_wp2_with fail
      go_ret2
      exact ⟨from_ret HR.out, ((((Kept.refl _).alloc _).trans k1).trans k2).alloc _⟩
    · have hR : payS wk hs m day = downTo (Cal.isWorkB wk hs) (firstM m + min day (daysM m)).toNat := by rw [payS, hv, hm]; simp [d1, d2]
      have HG := Lib.hid (rgS_yes hm)
      have fb := firstM_bd hm
      have db := daysM_bd hm
      clear hv hm
      generalize hf : firstM m = f at *
      generalize hdd : daysM m = dd at *
      obtain ⟨f0, f1⟩ := fb
      obtain ⟨g0, g1⟩ := db
      rcases mn_cases' day dd with ⟨e1, m1⟩ | ⟨e1, m1⟩
      all_goals
        rw [m1] at hR
        clear m1
        have HR := Lib.hid hR
        clear hR
        have HDD := Lib.hid hdd
        clear hf hdd
        go_enter Tryd.func32, Tryd.ntmps32
        go_wp2_with fail
        refine (Cal.rwvalid_any wk A n c hs _ hri hn).mono ?_
        rintro e w1 ⟨rfl, k1⟩
        rw [HV.out]
        go_wp2_with fail
        refine (rmrange_any _ _).mono ?_
        rintro e w2 ⟨rfl, k2⟩
        rw [HG.out]
        have c0 : (w2.alloc (.cells #[.int .i64 f, .int .i64 (f + dd)] 35)).cell? ⟨w2.heap.size, 0, none⟩ = some (.int .i64 f) := (Blk.new w2 _ _).cell 0
        have q0 := KW.cell (w := w2.alloc (.cells #[.int .i64 f, .int .i64 (f + dd)] 35)) (by simp) c0
        clear c0
        go_wp2_with fail
        refine wp_region_kept (by kernel_rfl) (by kernel_rfl) ?_
        have s1 : IntKind.i64.wrap (f + dd) = f + dd := IntWalk.i64_in _ (by omega)
        have s2 : IntKind.i64.wrap (f + day) = f + day := IntWalk.i64_in _ (by omega)
        have s3 : IntKind.i64.wrap (f + dd - 1) = f + dd - 1 := IntWalk.i64_in _ (by omega)
        have s4 : IntKind.i64.wrap (f + day - 1) = f + day - 1 := IntWalk.i64_in _ (by omega)
        repeat (go_big_quiet_step ((go_at_call 27; exact KW.pure (rmdays_is _ HDD.out))))
        clear s1 s2 s3 s4 q0
        refine wpQuiet_nil ?_
        rintro _ ⟨⟨wx, hx⟩, rfl⟩
        have hK0 := ((k1.trans k2).alloc _).trans hx
        clear hx
        go_wp2_with fail
        go_loopw [10] (fun d wr => ∃ z : Int, d = .int .i64 z ∧ -1 ≤ z ∧ z ≤ 200000 ∧ payS wk hs m day = downTo (Cal.isWorkB wk hs) (z + 1).toNat ∧ Kept (w.alloc (.cells #[.int .i64 wk, .slice A n c] 43)) wr) (fun d _ => (intOf d + 1).toNat)
        case atStart => exact ⟨_, rfl, by omega, by omega, by rw [HR.out]; congr 1; omega, hK0⟩
        case round =>
          obtain ⟨z, rfl, z0, z1, hp, hK⟩ := hrel
          have HP := Lib.hid hp
          clear hp
          by_cases hz : 0 ≤ z
          · have B := hK.blk1
            have b0 := B.cell
            have l0 := B.lt
            have hS : (z + 1).toNat = z.toNat + 1 := by omega
            have hzz : ((z.toNat : Nat) : Int) = z := by omega
            cases hw : Cal.isWorkB wk hs z
            · have HN := Lib.hid (show payS wk hs m day = downTo (Cal.isWorkB wk hs) z.toNat by rw [HP.out, hS, down_no (by rw [hzz]; exact hw)])
              have HW := Lib.hid hw
              clear hw hS hzz
              go_wp2_with (go_at_call 65; refine (Cal.rwork_any wk A n c hs z _ (hri.kept hK) hn).mono ?_; rintro e w5 ⟨rfl, k5⟩; rw [HW.out])
              go_roundw
              case rel => exact ⟨z - 1, rfl, by omega, by omega, by rw [HN.out]; congr 1; omega, hK.trans k5⟩
              case measure => simp [intOf]; omega
            · have HN := Lib.hid (show payS wk hs m day = (z, 0) by rw [HP.out, hS, down_hit (by rw [hzz]; exact hw), hzz])
              have HW := Lib.hid hw
              clear hw hS hzz
              go_wp2_with (go_at_call 65; refine (Cal.rwork_any wk A n c hs z _ (hri.kept hK) hn).mono ?_; rintro e w5 ⟨rfl, k5⟩; rw [HW.out])
              go_ret2
              exact ⟨from_ret HN.out, ((Kept.refl _).alloc _).trans (hK.trans k5)⟩
          · have HN := Lib.hid (show payS wk hs m day = (0, 6) by rw [HP.out, show (z + 1).toNat = 0 by omega]; rfl)
            go_wp2_with fail
            go_ret2
            exact ⟨from_ret HN.out, ((Kept.refl _).alloc _).trans hK⟩
end
end Go.Proofs.YtmlkgfacenajnaaDoor
