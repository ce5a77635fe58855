/- The walk of the law MonthPartition. -/
import Derived.Test.YtmlkgfacenajnaaDoorLaw07A
namespace Go.Proofs.YtmlkgfacenajnaaDoor
open Go.RowKit

theorem overlap_is {m a b v : Int} (w : World) (hM : Mon w) (h : ovS m a b = v) : Calls Tryd.prog 28 #[.int .i64 m, .agg #[.int .i64 a, .int .i64 b]] w fun e w' => e = .returned (.int .i64 v) ∧ Kept w w' := by
  rw [← h]; exact overlap_any m a b w hM

set_option maxRecDepth 100000 in
set_option maxHeartbeats 8000000 in
theorem lawMPartition (d m : Int) (w : World) (hM : Mon w) (hP : Pow w) :
    Calls Tryd.prog 11 #[.int .i64 d, .int .i64 m] w (LawPost w) := by
  unfold LawPost
  have hm : (monB m = false ∧ m < 0) ∨ (monB m = false ∧ 0 ≤ m ∧ 3599 < m) ∨ (monB m = true ∧ m = 3599) ∨ (monB m = true ∧ 0 ≤ m ∧ m < 3599) := by
    cases h : monB m
    · have := monB_not.1 h
      by_cases h0 : m < 0
      · exact .inl ⟨rfl, h0⟩
      · exact .inr (.inl ⟨rfl, by omega, by omega⟩)
    · have := monB_iff.1 h
      by_cases h0 : m = 3599
      · exact .inr (.inr (.inl ⟨rfl, h0⟩))
      · exact .inr (.inr (.inr ⟨rfl, by omega, by omega⟩))
  have hd : (fromD d = -1 ∧ d < 0) ∨ (fromD d = -1 ∧ 0 ≤ d ∧ 109572 < d) ∨ (isDate d = true ∧ 0 ≤ d ∧ d ≤ 109572) := by
    cases h : isDate d
    · have := isDate_not.1 h
      by_cases h0 : d < 0
      · exact .inl ⟨fromD_no h, h0⟩
      · exact .inr (.inl ⟨fromD_no h, by omega, by omega⟩)
    · exact .inr (.inr ⟨rfl, isDate_iff.1 h⟩)
  rcases hd with ⟨hd, d0⟩ | ⟨hd, d0, d1⟩ | ⟨hd, d0, d1⟩
  iterate 2
    · have HD := Lib.hid hd
      clear hd
      rcases hm with ⟨hm, m0⟩ | ⟨hm, m0, m1⟩ | ⟨hm, rfl⟩ | ⟨hm, m0, m1⟩
      · have HG := Lib.hid (rgS_no hm)
        have HS := Lib.hid (monthS_no hm)
        have HDA := Lib.hid (daysM_no hm)
        clear hm
        have hK := Kept.refl w
        go_enter Tryd.func11, Tryd.ntmps11
        go_wp2_with (go_at_call 24; refine (mfromDate_any _ _ hM).mono ?_; rintro e w5 ⟨rfl, rfl⟩; rw [HD.out])
        refine (mrange_any _ _ (hM.kept hK)).mono ?_
        rintro e w6 ⟨rfl, k6⟩
        rw [HG.out]
        have hK6 := (hK.trans k6).alloc (.cells #[.int .i64 0, .int .i64 0] 35)
        clear hK
        go_wp2_with (first
          | (go_at_call 35; refine (mformat_any _ _ (hP.kept hK6)).mono ?_; rintro e w' ⟨rfl, hk⟩; have hK7 := hK6.trans hk; rw [HS.out])
          | (go_at_call 26; refine (mdays_any _ _ (hM.kept hK7)).mono ?_; rintro e w' ⟨rfl, rfl⟩; rw [HDA.out])
          | (go_at_call 30; refine (awake07_any _ (hM.kept hK7) (hP.kept hK7)).mono ?_; rintro e w' ⟨rfl, hk8⟩))
        go_ret
        exact ⟨rfl, hK7.trans hk8⟩
      · have HG := Lib.hid (rgS_no hm)
        have HS := Lib.hid (monthS_no hm)
        have HDA := Lib.hid (daysM_no hm)
        clear hm
        have hK := Kept.refl w
        go_enter Tryd.func11, Tryd.ntmps11
        go_wp2_with (go_at_call 24; refine (mfromDate_any _ _ hM).mono ?_; rintro e w5 ⟨rfl, rfl⟩; rw [HD.out])
        refine (mrange_any _ _ (hM.kept hK)).mono ?_
        rintro e w6 ⟨rfl, k6⟩
        rw [HG.out]
        have hK6 := (hK.trans k6).alloc (.cells #[.int .i64 0, .int .i64 0] 35)
        clear hK
        go_wp2_with (first
          | (go_at_call 35; refine (mformat_any _ _ (hP.kept hK6)).mono ?_; rintro e w' ⟨rfl, hk⟩; have hK7 := hK6.trans hk; rw [HS.out])
          | (go_at_call 26; refine (mdays_any _ _ (hM.kept hK7)).mono ?_; rintro e w' ⟨rfl, rfl⟩; rw [HDA.out])
          | (go_at_call 30; refine (awake07_any _ (hM.kept hK7) (hP.kept hK7)).mono ?_; rintro e w' ⟨rfl, hk8⟩))
        go_ret
        exact ⟨rfl, hK7.trans hk8⟩
      · have hG := rgS_yes hm
        have db := daysM_bd hm
        have fb := firstM_bd hm
        have fe := firstM_end hm
        have hF1 : fromD (firstM 3599) = 3599 := (toS_month hm (Int.le_refl _) (by omega)).2.2
        have hF2 : fromD (firstM 3599 + daysM 3599 - 1) = 3599 := (toS_month hm (by omega) (by omega)).2.2
        have HPM := Lib.hid (mparS_monthS hm)
        have HG2 := Lib.hid (rgS_no (m := 3600) (by decide))
        have hlast : firstM 3599 + daysM 3599 = 109573 := firstM_last
        generalize hFF : firstM 3599 = F at *
        generalize hTT : F + daysM 3599 = T at *
        have HG := Lib.hid hG
        have HF1 := Lib.hid hF1
        have HF2 := Lib.hid hF2
        obtain ⟨fb0, fb1⟩ := fb
        have t0 : F + 28 ≤ T := by omega
        have hl : T = 109573 := by omega
        clear hG hF1 hF2 hFF hTT db hm hlast
        subst hl
        replace HF2 := Lib.hid (show fromD 109572 = 3599 from HF2.out)
        have hK := Kept.refl w
        go_enter Tryd.func11, Tryd.ntmps11
        go_wp2_with (go_at_call 24; refine (mfromDate_any _ _ hM).mono ?_; rintro e w5 ⟨rfl, rfl⟩; rw [HD.out])
        refine (mrange_any _ _ (hM.kept hK)).mono ?_
        rintro e w6 ⟨rfl, k6⟩
        rw [HG.out]
        have hK6 := (hK.trans k6).alloc (.cells #[.int .i64 F, .int .i64 109573] 35)
        clear hK
        go_wp2_with fail
        refine (mformat_any _ _ (hP.kept hK6)).mono ?_
        rintro e w7 ⟨rfl, k7⟩
        go_wp2_with fail
        refine (mparse_any _ _).mono ?_
        rintro e w8 ⟨rfl, k8⟩
        rw [HPM.out]
        have B := ((Blk.new w6 35 #[.int .i64 F, .int .i64 109573]).kept k7).kept k8
        have hK8 := (hK6.trans k7).trans k8
        have b := B.cell
        have l := B.lt
        clear hK6
        go_wp2_with (go_at_call 24; refine (mfromDate_any _ _ (hM.kept hK8)).mono ?_; rintro e w' ⟨rfl, rfl⟩; first | rw [HF1.out] | rw [HF2.out])
        refine (mrange_any _ _ (hM.kept hK8)).mono ?_
        rintro e w9 ⟨rfl, k9⟩
        rw [HG2.out]
        replace B := B.kept k9
        have hK9 := (hK8.trans k9).alloc (.cells #[.int .i64 0, .int .i64 0] 35)
        clear hK8 b l
        have b := B.cell
        have l := B.lt
        go_wp2_with (go_at_call 30; refine (awake07_any _ (hM.kept hK9) (hP.kept hK9)).mono ?_; rintro e w' ⟨rfl, hk8⟩)
        go_ret
        exact ⟨rfl, hK9.trans hk8⟩
      · have hG := rgS_yes hm
        have db := daysM_bd hm
        have fb := firstM_bd hm
        have fe := firstM_end hm
        have hF1 : fromD (firstM m) = m := (toS_month hm (Int.le_refl _) (by omega)).2.2
        have hF2 : fromD (firstM m + daysM m - 1) = m := (toS_month hm (by omega) (by omega)).2.2
        have HPM := Lib.hid (mparS_monthS hm)
        have hG2 := rgS_yes (m := m + 1) (monB_iff.2 ⟨by omega, by omega⟩)
        rw [firstM_next hm m1] at hG2
        have hz : m = 0 → firstM m = 0 := fun e => by rw [e]; exact firstM_0
        generalize hFF : firstM m = F at *
        generalize hTT : F + daysM m = T at *
        have HG := Lib.hid hG
        generalize T + daysM (m + 1) = T2 at *
        have HG2 := Lib.hid hG2
        have HF1 := Lib.hid hF1
        have HF2 := Lib.hid hF2
        obtain ⟨fb0, fb1⟩ := fb
        have t0 : F + 28 ≤ T := by omega
        clear hG2 hG hF1 hF2 hFF hTT db hm
        have h3599 : (m == 3599) = false := by rw [beq_eq_false_iff_ne]; omega
        by_cases h0 : m = 0
        · have hF0 := hz h0
          clear hz h3599
          subst h0
          subst hF0
          replace HG2 := Lib.hid (show rgS 1 = (T, T2, 0) from HG2.out)
          have hK := Kept.refl w
          go_enter Tryd.func11, Tryd.ntmps11
          go_wp2_with (go_at_call 24; refine (mfromDate_any _ _ hM).mono ?_; rintro e w5 ⟨rfl, rfl⟩; rw [HD.out])
          refine (mrange_any _ _ (hM.kept hK)).mono ?_
          rintro e w6 ⟨rfl, k6⟩
          rw [HG.out]
          have hK6 := (hK.trans k6).alloc (.cells #[.int .i64 0, .int .i64 T] 35)
          clear hK
          go_wp2_with fail
          refine (mformat_any _ _ (hP.kept hK6)).mono ?_
          rintro e w7 ⟨rfl, k7⟩
          go_wp2_with fail
          refine (mparse_any _ _).mono ?_
          rintro e w8 ⟨rfl, k8⟩
          rw [HPM.out]
          have B := ((Blk.new w6 35 #[.int .i64 0, .int .i64 T]).kept k7).kept k8
          have hK8 := (hK6.trans k7).trans k8
          have b := B.cell
          have l := B.lt
          clear hK6
          go_wp2_with (go_at_call 24; refine (mfromDate_any _ _ (hM.kept hK8)).mono ?_; rintro e w' ⟨rfl, rfl⟩; first | rw [HF1.out] | rw [HF2.out])
          refine (mrange_any _ _ (hM.kept hK8)).mono ?_
          rintro e w9 ⟨rfl, k9⟩
          rw [HG2.out]
          replace B := B.kept k9
          have hK9 := (hK8.trans k9).alloc (.cells #[.int .i64 T, .int .i64 T2] 35)
          clear hK8 b l
          have b := B.cell
          have l := B.lt
          go_wp2_with (go_at_call 30; refine (awake07_any _ (hM.kept hK9) (hP.kept hK9)).mono ?_; rintro e w' ⟨rfl, hk8⟩)
          go_ret
          exact ⟨rfl, hK9.trans hk8⟩
        · have h0' : 0 < m := by omega
          clear hz h0
          have hK := Kept.refl w
          go_enter Tryd.func11, Tryd.ntmps11
          go_wp2_with (go_at_call 24; refine (mfromDate_any _ _ hM).mono ?_; rintro e w5 ⟨rfl, rfl⟩; rw [HD.out])
          refine (mrange_any _ _ (hM.kept hK)).mono ?_
          rintro e w6 ⟨rfl, k6⟩
          rw [HG.out]
          have hK6 := (hK.trans k6).alloc (.cells #[.int .i64 F, .int .i64 T] 35)
          clear hK
          go_wp2_with fail
          refine (mformat_any _ _ (hP.kept hK6)).mono ?_
          rintro e w7 ⟨rfl, k7⟩
          go_wp2_with fail
          refine (mparse_any _ _).mono ?_
          rintro e w8 ⟨rfl, k8⟩
          rw [HPM.out]
          have B := ((Blk.new w6 35 #[.int .i64 F, .int .i64 T]).kept k7).kept k8
          have hK8 := (hK6.trans k7).trans k8
          have b := B.cell
          have l := B.lt
          clear hK6
          go_wp2_with (go_at_call 24; refine (mfromDate_any _ _ (hM.kept hK8)).mono ?_; rintro e w' ⟨rfl, rfl⟩; first | rw [HF1.out] | rw [HF2.out])
          refine (mrange_any _ _ (hM.kept hK8)).mono ?_
          rintro e w9 ⟨rfl, k9⟩
          rw [HG2.out]
          replace B := B.kept k9
          have hK9 := (hK8.trans k9).alloc (.cells #[.int .i64 T, .int .i64 T2] 35)
          clear hK8 b l
          have b := B.cell
          have l := B.lt
          go_wp2_with (go_at_call 30; refine (awake07_any _ (hM.kept hK9) (hP.kept hK9)).mono ?_; rintro e w' ⟨rfl, hk8⟩)
          go_ret
          exact ⟨rfl, hK9.trans hk8⟩
  · obtain ⟨hk, hk1, hk2⟩ := fromD_in hd
    have hov := ovS_one hd
    have kG := rgS_yes hk
    have kb := firstM_bd hk
    have kd := daysM_bd hk
    clear hd
    generalize hkk : fromD d = k at *
    generalize hD1 : daysM k = D1 at *
    generalize firstM k = F1 at *
    have HD := Lib.hid hkk
    have HD1 := Lib.hid hD1
    have HOV := Lib.hid hov
    have HG1 := Lib.hid kG
    obtain ⟨kb0, kb1⟩ := kb
    obtain ⟨kd0, kd1⟩ := kd
    have hr1 : decide (d < F1) = false := by rw [decide_eq_false_iff_not]; omega
    have hr2 : decide (F1 + D1 ≤ d) = false := by rw [decide_eq_false_iff_not]; omega
    clear hkk hD1 hov kG hk
    rcases hm with ⟨hm, m0⟩ | ⟨hm, m0, m1⟩ | ⟨hm, rfl⟩ | ⟨hm, m0, m1⟩
    · have HG := Lib.hid (rgS_no hm)
      have HS := Lib.hid (monthS_no hm)
      have HDA := Lib.hid (daysM_no hm)
      clear hm
      go_enter Tryd.func11, Tryd.ntmps11
      go_wp2_with (go_at_call 24; refine (mfromDate_any _ _ hM).mono ?_; rintro e w5 ⟨rfl, rfl⟩; rw [HD.out])
      refine (mrange_any _ _ hM).mono ?_
      rintro e w1 ⟨rfl, k1⟩
      rw [HG1.out]
      have hKa := k1.alloc (.cells #[.int .i64 F1, .int .i64 (F1 + D1)] 35)
      have BB0 := Blk.new w1 35 #[.int .i64 F1, .int .i64 (F1 + D1)]
      have q0 := KW.cell BB0.lt (BB0.cell 0)
      have q1 := KW.cell BB0.lt (BB0.cell 1)
      have hMx := fun x : KW (w1.alloc (.cells #[.int .i64 F1, .int .i64 (F1 + D1)] 35)) => (hM.kept hKa).kept x.h
      go_wp2_with fail
      have s1 : IntKind.i64.wrap (F1 + D1 - F1) = D1 := by rw [IntWalk.i64_in _ (by omega)]; omega
      have s2 : IntKind.i64.wrap (d + 1) = d + 1 := IntWalk.i64_in _ (by omega)
      refine wp_region_kept (by kernel_rfl) (by kernel_rfl) ?_
      repeat (go_big_quiet_step (first
        | (go_at_call 26; exact KW.pure (mdays_is _ (hMx _) HD1.out))
        | (go_at_call 28; exact KW.call (overlap_is _ (hMx _) HOV.out))))
      refine wpQuiet_nil ?_
      rintro _ ⟨⟨wx, hx⟩, rfl⟩
      have hK := hKa.trans hx
      clear q0 q1 hMx s1 s2 BB0 hKa hx
      go_wp2_with fail
      refine (mrange_any _ _ (hM.kept hK)).mono ?_
      rintro e w6 ⟨rfl, k6⟩
      rw [HG.out]
      have hK6 := (hK.trans k6).alloc (.cells #[.int .i64 0, .int .i64 0] 35)
      clear hK
      go_wp2_with (first
        | (go_at_call 35; refine (mformat_any _ _ (hP.kept hK6)).mono ?_; rintro e w' ⟨rfl, hk⟩; have hK7 := hK6.trans hk; rw [HS.out])
        | (go_at_call 26; refine (mdays_any _ _ (hM.kept hK7)).mono ?_; rintro e w' ⟨rfl, rfl⟩; rw [HDA.out])
        | (go_at_call 30; refine (awake07_any _ (hM.kept hK7) (hP.kept hK7)).mono ?_; rintro e w' ⟨rfl, hk8⟩))
      go_ret
      exact ⟨rfl, hK7.trans hk8⟩
    · have HG := Lib.hid (rgS_no hm)
      have HS := Lib.hid (monthS_no hm)
      have HDA := Lib.hid (daysM_no hm)
      clear hm
      go_enter Tryd.func11, Tryd.ntmps11
      go_wp2_with (go_at_call 24; refine (mfromDate_any _ _ hM).mono ?_; rintro e w5 ⟨rfl, rfl⟩; rw [HD.out])
      refine (mrange_any _ _ hM).mono ?_
      rintro e w1 ⟨rfl, k1⟩
      rw [HG1.out]
      have hKa := k1.alloc (.cells #[.int .i64 F1, .int .i64 (F1 + D1)] 35)
      have BB0 := Blk.new w1 35 #[.int .i64 F1, .int .i64 (F1 + D1)]
      have q0 := KW.cell BB0.lt (BB0.cell 0)
      have q1 := KW.cell BB0.lt (BB0.cell 1)
      have hMx := fun x : KW (w1.alloc (.cells #[.int .i64 F1, .int .i64 (F1 + D1)] 35)) => (hM.kept hKa).kept x.h
      go_wp2_with fail
      have s1 : IntKind.i64.wrap (F1 + D1 - F1) = D1 := by rw [IntWalk.i64_in _ (by omega)]; omega
      have s2 : IntKind.i64.wrap (d + 1) = d + 1 := IntWalk.i64_in _ (by omega)
      refine wp_region_kept (by kernel_rfl) (by kernel_rfl) ?_
      repeat (go_big_quiet_step (first
        | (go_at_call 26; exact KW.pure (mdays_is _ (hMx _) HD1.out))
        | (go_at_call 28; exact KW.call (overlap_is _ (hMx _) HOV.out))))
      refine wpQuiet_nil ?_
      rintro _ ⟨⟨wx, hx⟩, rfl⟩
      have hK := hKa.trans hx
      clear q0 q1 hMx s1 s2 BB0 hKa hx
      go_wp2_with fail
      refine (mrange_any _ _ (hM.kept hK)).mono ?_
      rintro e w6 ⟨rfl, k6⟩
      rw [HG.out]
      have hK6 := (hK.trans k6).alloc (.cells #[.int .i64 0, .int .i64 0] 35)
      clear hK
      go_wp2_with (first
        | (go_at_call 35; refine (mformat_any _ _ (hP.kept hK6)).mono ?_; rintro e w' ⟨rfl, hk⟩; have hK7 := hK6.trans hk; rw [HS.out])
        | (go_at_call 26; refine (mdays_any _ _ (hM.kept hK7)).mono ?_; rintro e w' ⟨rfl, rfl⟩; rw [HDA.out])
        | (go_at_call 30; refine (awake07_any _ (hM.kept hK7) (hP.kept hK7)).mono ?_; rintro e w' ⟨rfl, hk8⟩))
      go_ret
      exact ⟨rfl, hK7.trans hk8⟩
    · have hG := rgS_yes hm
      have db := daysM_bd hm
      have fb := firstM_bd hm
      have fe := firstM_end hm
      have hF1 : fromD (firstM 3599) = 3599 := (toS_month hm (Int.le_refl _) (by omega)).2.2
      have hF2 : fromD (firstM 3599 + daysM 3599 - 1) = 3599 := (toS_month hm (by omega) (by omega)).2.2
      have HPM := Lib.hid (mparS_monthS hm)
      have HG2 := Lib.hid (rgS_no (m := 3600) (by decide))
      have hlast : firstM 3599 + daysM 3599 = 109573 := firstM_last
      generalize hFF : firstM 3599 = F at *
      generalize hTT : F + daysM 3599 = T at *
      have HG := Lib.hid hG
      have HF1 := Lib.hid hF1
      have HF2 := Lib.hid hF2
      obtain ⟨fb0, fb1⟩ := fb
      have t0 : F + 28 ≤ T := by omega
      have hl : T = 109573 := by omega
      clear hG hF1 hF2 hFF hTT db hm hlast
      subst hl
      replace HF2 := Lib.hid (show fromD 109572 = 3599 from HF2.out)
      go_enter Tryd.func11, Tryd.ntmps11
      go_wp2_with (go_at_call 24; refine (mfromDate_any _ _ hM).mono ?_; rintro e w5 ⟨rfl, rfl⟩; rw [HD.out])
      refine (mrange_any _ _ hM).mono ?_
      rintro e w1 ⟨rfl, k1⟩
      rw [HG1.out]
      have hKa := k1.alloc (.cells #[.int .i64 F1, .int .i64 (F1 + D1)] 35)
      have BB0 := Blk.new w1 35 #[.int .i64 F1, .int .i64 (F1 + D1)]
      have q0 := KW.cell BB0.lt (BB0.cell 0)
      have q1 := KW.cell BB0.lt (BB0.cell 1)
      have hMx := fun x : KW (w1.alloc (.cells #[.int .i64 F1, .int .i64 (F1 + D1)] 35)) => (hM.kept hKa).kept x.h
      go_wp2_with fail
      have s1 : IntKind.i64.wrap (F1 + D1 - F1) = D1 := by rw [IntWalk.i64_in _ (by omega)]; omega
      have s2 : IntKind.i64.wrap (d + 1) = d + 1 := IntWalk.i64_in _ (by omega)
      refine wp_region_kept (by kernel_rfl) (by kernel_rfl) ?_
      repeat (go_big_quiet_step (first
        | (go_at_call 26; exact KW.pure (mdays_is _ (hMx _) HD1.out))
        | (go_at_call 28; exact KW.call (overlap_is _ (hMx _) HOV.out))))
      refine wpQuiet_nil ?_
      rintro _ ⟨⟨wx, hx⟩, rfl⟩
      have hK := hKa.trans hx
      clear q0 q1 hMx s1 s2 BB0 hKa hx
      go_wp2_with fail
      refine (mrange_any _ _ (hM.kept hK)).mono ?_
      rintro e w6 ⟨rfl, k6⟩
      rw [HG.out]
      have hK6 := (hK.trans k6).alloc (.cells #[.int .i64 F, .int .i64 109573] 35)
      clear hK
      go_wp2_with fail
      refine (mformat_any _ _ (hP.kept hK6)).mono ?_
      rintro e w7 ⟨rfl, k7⟩
      go_wp2_with fail
      refine (mparse_any _ _).mono ?_
      rintro e w8 ⟨rfl, k8⟩
      rw [HPM.out]
      have B := ((Blk.new w6 35 #[.int .i64 F, .int .i64 109573]).kept k7).kept k8
      have hK8 := (hK6.trans k7).trans k8
      have b := B.cell
      have l := B.lt
      clear hK6
      go_wp2_with (go_at_call 24; refine (mfromDate_any _ _ (hM.kept hK8)).mono ?_; rintro e w' ⟨rfl, rfl⟩; first | rw [HF1.out] | rw [HF2.out])
      refine (mrange_any _ _ (hM.kept hK8)).mono ?_
      rintro e w9 ⟨rfl, k9⟩
      rw [HG2.out]
      replace B := B.kept k9
      have hK9 := (hK8.trans k9).alloc (.cells #[.int .i64 0, .int .i64 0] 35)
      clear hK8 b l
      have b := B.cell
      have l := B.lt
      go_wp2_with (go_at_call 30; refine (awake07_any _ (hM.kept hK9) (hP.kept hK9)).mono ?_; rintro e w' ⟨rfl, hk8⟩)
      go_ret
      exact ⟨rfl, hK9.trans hk8⟩
    · have hG := rgS_yes hm
      have db := daysM_bd hm
      have fb := firstM_bd hm
      have fe := firstM_end hm
      have hF1 : fromD (firstM m) = m := (toS_month hm (Int.le_refl _) (by omega)).2.2
      have hF2 : fromD (firstM m + daysM m - 1) = m := (toS_month hm (by omega) (by omega)).2.2
      have HPM := Lib.hid (mparS_monthS hm)
      have hG2 := rgS_yes (m := m + 1) (monB_iff.2 ⟨by omega, by omega⟩)
      rw [firstM_next hm m1] at hG2
      have hz : m = 0 → firstM m = 0 := fun e => by rw [e]; exact firstM_0
      generalize hFF : firstM m = F at *
      generalize hTT : F + daysM m = T at *
      have HG := Lib.hid hG
      generalize T + daysM (m + 1) = T2 at *
      have HG2 := Lib.hid hG2
      have HF1 := Lib.hid hF1
      have HF2 := Lib.hid hF2
      obtain ⟨fb0, fb1⟩ := fb
      have t0 : F + 28 ≤ T := by omega
      clear hG2 hG hF1 hF2 hFF hTT db hm
      have h3599 : (m == 3599) = false := by rw [beq_eq_false_iff_ne]; omega
      by_cases h0 : m = 0
      · have hF0 := hz h0
        clear hz h3599
        subst h0
        subst hF0
        replace HG2 := Lib.hid (show rgS 1 = (T, T2, 0) from HG2.out)
        go_enter Tryd.func11, Tryd.ntmps11
        go_wp2_with (go_at_call 24; refine (mfromDate_any _ _ hM).mono ?_; rintro e w5 ⟨rfl, rfl⟩; rw [HD.out])
        refine (mrange_any _ _ hM).mono ?_
        rintro e w1 ⟨rfl, k1⟩
        rw [HG1.out]
        have hKa := k1.alloc (.cells #[.int .i64 F1, .int .i64 (F1 + D1)] 35)
        have BB0 := Blk.new w1 35 #[.int .i64 F1, .int .i64 (F1 + D1)]
        have q0 := KW.cell BB0.lt (BB0.cell 0)
        have q1 := KW.cell BB0.lt (BB0.cell 1)
        have hMx := fun x : KW (w1.alloc (.cells #[.int .i64 F1, .int .i64 (F1 + D1)] 35)) => (hM.kept hKa).kept x.h
        go_wp2_with fail
        have s1 : IntKind.i64.wrap (F1 + D1 - F1) = D1 := by rw [IntWalk.i64_in _ (by omega)]; omega
        have s2 : IntKind.i64.wrap (d + 1) = d + 1 := IntWalk.i64_in _ (by omega)
        refine wp_region_kept (by kernel_rfl) (by kernel_rfl) ?_
        repeat (go_big_quiet_step (first
          | (go_at_call 26; exact KW.pure (mdays_is _ (hMx _) HD1.out))
          | (go_at_call 28; exact KW.call (overlap_is _ (hMx _) HOV.out))))
        refine wpQuiet_nil ?_
        rintro _ ⟨⟨wx, hx⟩, rfl⟩
        have hK := hKa.trans hx
        clear q0 q1 hMx s1 s2 BB0 hKa hx
        go_wp2_with fail
        refine (mrange_any _ _ (hM.kept hK)).mono ?_
        rintro e w6 ⟨rfl, k6⟩
        rw [HG.out]
        have hK6 := (hK.trans k6).alloc (.cells #[.int .i64 0, .int .i64 T] 35)
        clear hK
        go_wp2_with fail
        refine (mformat_any _ _ (hP.kept hK6)).mono ?_
        rintro e w7 ⟨rfl, k7⟩
        go_wp2_with fail
        refine (mparse_any _ _).mono ?_
        rintro e w8 ⟨rfl, k8⟩
        rw [HPM.out]
        have B := ((Blk.new w6 35 #[.int .i64 0, .int .i64 T]).kept k7).kept k8
        have hK8 := (hK6.trans k7).trans k8
        have b := B.cell
        have l := B.lt
        clear hK6
        go_wp2_with (go_at_call 24; refine (mfromDate_any _ _ (hM.kept hK8)).mono ?_; rintro e w' ⟨rfl, rfl⟩; first | rw [HF1.out] | rw [HF2.out])
        refine (mrange_any _ _ (hM.kept hK8)).mono ?_
        rintro e w9 ⟨rfl, k9⟩
        rw [HG2.out]
        replace B := B.kept k9
        have hK9 := (hK8.trans k9).alloc (.cells #[.int .i64 T, .int .i64 T2] 35)
        clear hK8 b l
        have b := B.cell
        have l := B.lt
        go_wp2_with (go_at_call 30; refine (awake07_any _ (hM.kept hK9) (hP.kept hK9)).mono ?_; rintro e w' ⟨rfl, hk8⟩)
        go_ret
        exact ⟨rfl, hK9.trans hk8⟩
      · have h0' : 0 < m := by omega
        clear hz h0
        go_enter Tryd.func11, Tryd.ntmps11
        go_wp2_with (go_at_call 24; refine (mfromDate_any _ _ hM).mono ?_; rintro e w5 ⟨rfl, rfl⟩; rw [HD.out])
        refine (mrange_any _ _ hM).mono ?_
        rintro e w1 ⟨rfl, k1⟩
        rw [HG1.out]
        have hKa := k1.alloc (.cells #[.int .i64 F1, .int .i64 (F1 + D1)] 35)
        have BB0 := Blk.new w1 35 #[.int .i64 F1, .int .i64 (F1 + D1)]
        have q0 := KW.cell BB0.lt (BB0.cell 0)
        have q1 := KW.cell BB0.lt (BB0.cell 1)
        have hMx := fun x : KW (w1.alloc (.cells #[.int .i64 F1, .int .i64 (F1 + D1)] 35)) => (hM.kept hKa).kept x.h
        go_wp2_with fail
        have s1 : IntKind.i64.wrap (F1 + D1 - F1) = D1 := by rw [IntWalk.i64_in _ (by omega)]; omega
        have s2 : IntKind.i64.wrap (d + 1) = d + 1 := IntWalk.i64_in _ (by omega)
        refine wp_region_kept (by kernel_rfl) (by kernel_rfl) ?_
        repeat (go_big_quiet_step (first
          | (go_at_call 26; exact KW.pure (mdays_is _ (hMx _) HD1.out))
          | (go_at_call 28; exact KW.call (overlap_is _ (hMx _) HOV.out))))
        refine wpQuiet_nil ?_
        rintro _ ⟨⟨wx, hx⟩, rfl⟩
        have hK := hKa.trans hx
        clear q0 q1 hMx s1 s2 BB0 hKa hx
        go_wp2_with fail
        refine (mrange_any _ _ (hM.kept hK)).mono ?_
        rintro e w6 ⟨rfl, k6⟩
        rw [HG.out]
        have hK6 := (hK.trans k6).alloc (.cells #[.int .i64 F, .int .i64 T] 35)
        clear hK
        go_wp2_with fail
        refine (mformat_any _ _ (hP.kept hK6)).mono ?_
        rintro e w7 ⟨rfl, k7⟩
        go_wp2_with fail
        refine (mparse_any _ _).mono ?_
        rintro e w8 ⟨rfl, k8⟩
        rw [HPM.out]
        have B := ((Blk.new w6 35 #[.int .i64 F, .int .i64 T]).kept k7).kept k8
        have hK8 := (hK6.trans k7).trans k8
        have b := B.cell
        have l := B.lt
        clear hK6
        go_wp2_with (go_at_call 24; refine (mfromDate_any _ _ (hM.kept hK8)).mono ?_; rintro e w' ⟨rfl, rfl⟩; first | rw [HF1.out] | rw [HF2.out])
        refine (mrange_any _ _ (hM.kept hK8)).mono ?_
        rintro e w9 ⟨rfl, k9⟩
        rw [HG2.out]
        replace B := B.kept k9
        have hK9 := (hK8.trans k9).alloc (.cells #[.int .i64 T, .int .i64 T2] 35)
        clear hK8 b l
        have b := B.cell
        have l := B.lt
        go_wp2_with (go_at_call 30; refine (awake07_any _ (hM.kept hK9) (hP.kept hK9)).mono ?_; rintro e w' ⟨rfl, hk8⟩)
        go_ret
        exact ⟨rfl, hK9.trans hk8⟩
end Go.Proofs.YtmlkgfacenajnaaDoor
