/- The walk of the law CasedataEqual: what slices.Equal, slices.EqualFunc and Equal of package casedata compute. -/
import Derived.Test.YtemejaomfbhldaaDoorCdM2
namespace Go.Proofs.YtemejaomfbhldaaDoor
open Go.RowKit

set_option maxRecDepth 100000 in
set_option maxHeartbeats 4000000 in
theorem eqVals_any (va vb : Value) (xs ys : List Vl) (w : World) (ha : Vals w va xs) (hb : Vals w vb ys) (hx : xs.length ≤ 9223372036854775807) :
    Calls Tryd.prog 31 #[va, vb] w (smPost (vlsB xs ys) w) := by
  unfold smPost
  obtain ⟨A, ca, rfl, hA⟩ := ha.at_
  obtain ⟨B, cb, rfl, hB⟩ := hb.at_
  by_cases hl : xs.length = ys.length
  · obtain ⟨n, hxn⟩ : ∃ n, n = xs.length := ⟨_, rfl⟩
    have hyn : n = ys.length := hxn.trans hl
    rw [← hxn] at hA hx ⊢
    rw [← hyn] at hB ⊢
    have HX := Lib.hid hxn
    have HY := Lib.hid hyn
    clear hxn hyn ha hb hl
    go_enter Tryd.func31, Tryd.ntmps31
    go_wp2_with fail
    go_loopw [13] (fun z wr => ∃ i : Nat, i ≤ n ∧ z = .int .i64 i ∧ Kept w wr ∧ vlsB (xs.drop i) (ys.drop i) = vlsB xs ys) (fun z _ => (n - intOf z).toNat)
    case atStart => exact ⟨0, Nat.zero_le _, rfl, Kept.refl _, rfl⟩
    case round =>
      obtain ⟨i, hin, rfl, hK, hrun⟩ := hrel
      by_cases hp : i < n
      · obtain ⟨b1, o1, rfl, hb1, hc1⟩ := hA (by omega)
        obtain ⟨b2, o2, rfl, hb2, hc2⟩ := hB (by omega)
        have hg1 : xs[i]? = some (xs[i]'(by have := HX.out; omega)) := List.getElem?_eq_getElem _
        have hg2 : ys[i]? = some (ys[i]'(by have := HY.out; omega)) := List.getElem?_eq_getElem _
        obtain ⟨x0, x1, x2⟩ := hc1 i _ hg1
        obtain ⟨y0, y1, y2⟩ := hc2 i _ hg2
        rw [vlsB_at hg1 hg2] at hrun
        clear hc1 hc2 hA hB hg1 hg2
        generalize xs[i]'(by have := HX.out; omega) = X at *
        generalize ys[i]'(by have := HY.out; omega) = Y at *
        have hw1 := Nat.lt_of_lt_of_le hb1 hK.size
        have hw2 := Nat.lt_of_lt_of_le hb2 hK.size
        have k0 := KW.cell hw1 (hK.cell (p := ⟨b1, _, none⟩) hb1 x0)
        have k1 := KW.cell hw1 (hK.cell (p := ⟨b1, _, none⟩) hb1 x1)
        have k2 := KW.cell hw1 (hK.cell (p := ⟨b1, _, none⟩) hb1 x2)
        have m0 := KW.cell hw2 (hK.cell (p := ⟨b2, _, none⟩) hb2 y0)
        have m1 := KW.cell hw2 (hK.cell (p := ⟨b2, _, none⟩) hb2 y1)
        have m2 := KW.cell hw2 (hK.cell (p := ⟨b2, _, none⟩) hb2 y2)
        clear x0 x1 x2 y0 y1 y2
        have hpi : (i : Int) < n := by omega
        obtain ⟨xk, xe, xn⟩ := X
        obtain ⟨yk, ye, yn⟩ := Y
        dsimp only at k0 k1 k2 m0 m1 m2
        rcases vlB_ways ⟨xk, xe, xn⟩ ⟨yk, ye, yn⟩ with ⟨hv, he⟩ | ⟨hv, he⟩
        · rw [hv, Bool.true_and] at hrun
          obtain ⟨rfl, rfl, rfl⟩ : xk = yk ∧ xe = ye ∧ xn = yn := by simpa using he
          have HR := Lib.hid hrun
          clear hrun he hv
          go_wp2_with fail
          refine wp_region_kept (by kernel_rfl) (by kernel_rfl) ?_
          repeat (go_big_quiet_step (fail))
          refine wpQuiet_nil ?_
          rintro _ ⟨⟨wx, hx2⟩, rfl⟩
          go_wp2_with fail
          go_roundw
          case rel => exact ⟨i + 1, hp, by go_num, hK.trans hx2, HR.out⟩
          case measure => simp only [intOf]; omega
        · rw [hv, Bool.false_and] at hrun
          have HR := Lib.hid hrun
          dsimp only at he
          clear hrun hv
          rcases he with h | ⟨h1, h⟩ | ⟨h1, h2, h⟩
          all_goals
            have hne := beq_noS h
            have hne2 := bne_noS h
            (try subst h1)
            (try subst h2)
            clear h
            go_wp2_with fail
            refine wp_region_kept (by kernel_rfl) (by kernel_rfl) ?_
            repeat (go_big_quiet_step (fail))
            refine wpQuiet_nil ?_
            rintro _ ⟨⟨wx, hx2⟩, rfl⟩
            go_wp2_with fail
            go_ret
            rw [← HR.out]
            exact ⟨rfl, hK.trans hx2⟩
      · have hpi : ¬ ((i : Int) < n) := by omega
        have hr : vlsB xs ys = true := by
          rw [← hrun, List.drop_eq_nil_iff.2 (by have := HX.out; omega), List.drop_eq_nil_iff.2 (by have := HY.out; omega)]; rfl
        have HR := Lib.hid hr
        clear hrun hr
        go_wp2_with fail
        go_ret
        rw [HR.out]
        exact ⟨rfl, hK⟩
  · have HR := Lib.hid (vlsB_len xs ys hl)
    have hli : ((xs.length : Int) != ys.length) = true := bne_noS (by omega)
    rw [HR.out]
    clear hl ha hb hA hB
    go_enter Tryd.func31, Tryd.ntmps31
    go_wp2_with fail
    go_ret
    exact ⟨rfl, Kept.refl _⟩
theorem eqClo_any (va vb : Value) (xs ys : List Vl) (w : World) (ha : Vals w va xs) (hb : Vals w vb ys) (hx : xs.length ≤ 9223372036854775807) :
    Calls Tryd.prog 33 #[va, vb] w (smPost (vlsB xs ys) w) := by
  have HE := Lib.hid (eqVals_any va vb xs ys w ha hb hx)
  unfold smPost at HE ⊢
  obtain ⟨A, ca, rfl⟩ := Vals.form ha
  obtain ⟨B, cb, rfl⟩ := Vals.form hb
  generalize vlsB xs ys = r at *
  clear ha hb hx
  go_enter Tryd.func33, Tryd.ntmps33
  go_wp2_with (go_at_call 31; refine HE.out.mono ?_; rintro e w1 ⟨rfl, k1⟩)
  go_ret
  exact ⟨rfl, k1⟩
set_option maxRecDepth 100000 in
set_option maxHeartbeats 4000000 in
theorem eqLists_any (va vb : Value) (xs ys : List (List Vl)) (w : World) (ha : Mems w va xs) (hb : Mems w vb ys) :
    Calls Tryd.prog 32 #[va, vb, .func (.func 33) #[] #[]] w (smPost (memB xs ys) w) := by
  unfold smPost
  obtain ⟨A, ca, rfl, hx, hA⟩ := ha.at_
  obtain ⟨B, cb, rfl, hy, hB⟩ := hb.at_
  by_cases hl : xs.length = ys.length
  · obtain ⟨n, hxn⟩ : ∃ n, n = xs.length := ⟨_, rfl⟩
    have hyn : n = ys.length := hxn.trans hl
    rw [← hxn] at hA hx ⊢
    rw [← hyn] at hB ⊢
    have HX := Lib.hid hxn
    have HY := Lib.hid hyn
    clear hxn hyn ha hb hl hy
    go_enter Tryd.func32, Tryd.ntmps32
    go_wp2_with fail
    go_loopw [17] (fun z wr => ∃ i : Nat, i ≤ n ∧ z = .int .i64 i ∧ Kept w wr ∧ memB (xs.drop i) (ys.drop i) = memB xs ys) (fun z _ => (n - intOf z).toNat)
    case atStart => exact ⟨0, Nat.zero_le _, rfl, Kept.refl _, rfl⟩
    case round =>
      obtain ⟨i, hin, rfl, hK, hrun⟩ := hrel
      by_cases hp : i < n
      · obtain ⟨b1, o1, rfl, hb1, hc1⟩ := hA (by omega)
        obtain ⟨b2, o2, rfl, hb2, hc2⟩ := hB (by omega)
        have hg1 : xs[i]? = some (xs[i]'(by have := HX.out; omega)) := List.getElem?_eq_getElem _
        have hg2 : ys[i]? = some (ys[i]'(by have := HY.out; omega)) := List.getElem?_eq_getElem _
        obtain ⟨hl1, A1, e1, x0, hv1⟩ := hc1 i _ hg1
        obtain ⟨hl2, A2, e2, y0, hv2⟩ := hc2 i _ hg2
        rw [memB_at hg1 hg2] at hrun
        clear hc1 hc2 hA hB hg1 hg2
        generalize xs[i]'(by have := HX.out; omega) = X at *
        generalize ys[i]'(by have := HY.out; omega) = Y at *
        have hw1 := Nat.lt_of_lt_of_le hb1 hK.size
        have hw2 := Nat.lt_of_lt_of_le hb2 hK.size
        have k0 := hK.cell (p := ⟨b1, _, none⟩) hb1 x0
        have m0 := hK.cell (p := ⟨b2, _, none⟩) hb2 y0
        have HV := Lib.hid (eqClo_any _ _ X Y wr (hv1.kept hK) (hv2.kept hK) hl1)
        unfold smPost at HV
        clear x0 y0 hv1 hv2 hl1 hl2
        have hpi : (i : Int) < n := by omega
        generalize vlsB X Y = r at *
        cases r
        · rw [Bool.false_and] at hrun
          have HR := Lib.hid hrun
          clear hrun
          go_wp2_with (go_at_call 33; refine HV.out.mono ?_; rintro e w1 ⟨rfl, k1⟩)
          go_ret
          rw [← HR.out]
          exact ⟨rfl, hK.trans k1⟩
        · rw [Bool.true_and] at hrun
          have HR := Lib.hid hrun
          clear hrun
          go_wp2_with (go_at_call 33; refine HV.out.mono ?_; rintro e w1 ⟨rfl, k1⟩)
          go_roundw
          case rel => exact ⟨i + 1, hp, by go_num, hK.trans k1, HR.out⟩
          case measure => simp only [intOf]; omega
      · have hpi : ¬ ((i : Int) < n) := by omega
        have hr : memB xs ys = true := by
          rw [← hrun, List.drop_eq_nil_iff.2 (by have := HX.out; omega), List.drop_eq_nil_iff.2 (by have := HY.out; omega)]; rfl
        have HR := Lib.hid hr
        clear hrun hr
        go_wp2_with fail
        go_ret
        rw [HR.out]
        exact ⟨rfl, hK⟩
  · have HR := Lib.hid (memB_len xs ys hl)
    have hli : ((xs.length : Int) != ys.length) = true := bne_noS (by omega)
    rw [HR.out]
    clear hl ha hb hA hB
    go_enter Tryd.func32, Tryd.ntmps32
    go_wp2_with fail
    go_ret
    exact ⟨rfl, Kept.refl _⟩
set_option maxRecDepth 100000 in
set_option maxHeartbeats 4000000 in
theorem eqCase_any (d d' : Int) (iv mv iv' mv' : Value) (ins ins' : List Vl) (mem mem' : List (List Vl)) (w : World) (hI : Vals w iv ins) (hM : Mems w mv mem) (hI' : Vals w iv' ins') (hM' : Mems w mv' mem')
    (hl : ins.length ≤ 9223372036854775807) :
    Calls Tryd.prog 14 #[.agg #[.int .i64 d, iv, mv], .agg #[.int .i64 d', iv', mv']] w (smPost (csB d ins mem d' ins' mem') w) := by
  unfold smPost
  obtain ⟨A1, c1, rfl⟩ := hI.form
  obtain ⟨A1', c1', rfl⟩ := hI'.form
  obtain ⟨A2, c2, rfl, _⟩ := id hM
  obtain ⟨A2', c2', rfl, _⟩ := id hM'
  have HV := Lib.hid (fun w1 (h : Kept w w1) => eqVals_any _ _ ins ins' w1 (hI.kept h) (hI'.kept h) hl)
  have HL := Lib.hid (fun w1 (h : Kept w w1) => eqLists_any _ _ mem mem' w1 (hM.kept h) (hM'.kept h))
  unfold smPost at HV HL
  have K0 := Lib.hid (((Kept.refl w).alloc (.cells #[.int .i64 d, .slice A1 ins.length c1, .slice A2 mem.length c2] 30)).alloc (.cells #[.int .i64 d', .slice A1' ins'.length c1', .slice A2' mem'.length c2'] 30))
  have hcs : csB d ins mem d' ins' mem' = (decide (d = d') && (vlsB ins ins' && memB mem mem')) := rfl
  generalize csB d ins mem d' ins' mem' = R at *
  generalize vlsB ins ins' = r1 at *
  generalize memB mem mem' = r2 at *
  clear hI hI' hM hM' hl
  by_cases hd : d = d'
  · subst hd
    rw [decide_eq_true rfl, Bool.true_and] at hcs
    have hself : (d == d) = true := by simp
    cases r1
    · have HR := Lib.hid hcs
      clear hcs
      go_enter Tryd.func14, Tryd.ntmps14
      go_wp2_with (go_at_call 31; refine (HV.out _ K0.out).mono ?_; rintro e w1 ⟨rfl, k1⟩)
      go_ret
      rw [HR.out]
      exact ⟨rfl, K0.out.trans k1⟩
    · rw [Bool.true_and] at hcs
      have HR := Lib.hid hcs
      clear hcs
      go_enter Tryd.func14, Tryd.ntmps14
      go_wp2_with (first
        | (go_at_call 31; refine (HV.out _ K0.out).mono ?_; rintro e w1 ⟨rfl, k1⟩; have K1 := K0.out.trans k1; obtain ⟨B1, B2⟩ := k1.blk2; have b1 := B1.cell 2; have b2 := B2.cell 2; have l1 := B1.lt; have l2 := B2.lt)
        | (go_at_call 32; refine (HL.out _ K1).mono ?_; rintro e w2 ⟨rfl, k2⟩))
      go_ret
      rw [HR.out]
      exact ⟨rfl, K1.trans k2⟩
  · rw [decide_eq_false hd, Bool.false_and] at hcs
    have hne := beq_noS hd
    have HR := Lib.hid hcs
    clear hcs hd
    go_enter Tryd.func14, Tryd.ntmps14
    go_wp2_with fail
    go_ret
    rw [HR.out]
    exact ⟨rfl, K0.out⟩
set_option maxRecDepth 100000 in
set_option maxHeartbeats 8000000 in
theorem lawCdEqual (d d' : Int) (iv mv iv' mv' : Value) (ins ins' : List Vl) (mem mem' : List (List Vl)) (w : World) (hI : Vals w iv ins) (hil : ins.length ≤ 9223372036854775807) (hM : Mems w mv mem) (hI' : Vals w iv' ins') (hil' : ins'.length ≤ 9223372036854775807) (hM' : Mems w mv' mem')
    (hMo : Mon w) (hP : Pow w) (hX : MaxV w) : Calls Tryd.prog 5 #[.agg #[.int .i64 d, iv, mv], .agg #[.int .i64 d', iv', mv']] w (LawPost w) := by
  unfold LawPost
  have HC := Lib.hid (fun w1 (h : Kept w w1) => smallCase_any d iv mv ins mem w1 (hI.kept h) (hM.kept h))
  have HC' := Lib.hid (fun w1 (h : Kept w w1) => smallCase_any d' iv' mv' ins' mem' w1 (hI'.kept h) (hM'.kept h))
  have HAB := Lib.hid (fun w1 (h : Kept w w1) => eqCase_any d d' iv mv iv' mv' ins ins' mem mem' w1 (hI.kept h) (hM.kept h) (hI'.kept h) (hM'.kept h) hil)
  have HBA := Lib.hid (fun w1 (h : Kept w w1) => eqCase_any d' d iv' mv' iv mv ins' ins mem' mem w1 (hI'.kept h) (hM'.kept h) (hI.kept h) (hM.kept h) hil')
  have HAA := Lib.hid (fun w1 (h : Kept w w1) => eqCase_any d d iv mv iv mv ins ins mem mem w1 (hI.kept h) (hM.kept h) (hI.kept h) (hM.kept h) hil)
  have HSC := Lib.hid (fun w1 (h : Kept w w1) => sameCase_any d d' iv mv iv' mv' ins ins' mem mem' w1 (hI.kept h) (hM.kept h) (hI'.kept h) (hM'.kept h) hil hil')
  have HA := Lib.hid (fun w1 (h : Kept w w1) => awake19_any w1 (hMo.kept h) (hP.kept h) (hX.kept h))
  unfold SmallB at HC HC'
  unfold smPost at HAB HBA HAA HSC
  rw [csB_comm] at HBA
  rw [csB_self] at HAA
  obtain ⟨AI, ci, rfl⟩ := Vals.form hI
  obtain ⟨AM, cm, rfl⟩ := hM.form
  obtain ⟨AI', ci', rfl⟩ := Vals.form hI'
  obtain ⟨AM', cm', rfl⟩ := hM'.form
  generalize csB d ins mem d' ins' mem' = c at *
  have K0 := Lib.hid (((Kept.refl w).alloc (.cells #[.int .i64 d, .slice AI ins.length ci, .slice AM mem.length cm] 30)).alloc (.cells #[.int .i64 d', .slice AI' ins'.length ci', .slice AM' mem'.length cm'] 30))
  clear hI hil hM hI' hil' hM' hMo hP hX
  go_enter Tryd.func5, Tryd.ntmps5
  go_wp2_with fail
  refine (HC.out _ K0.out).mono ?_
  rintro r w1 ⟨b, rfl, k1, _⟩
  have K1 := K0.out.trans k1
  obtain ⟨B1, B2⟩ := k1.blk2
  cases b
  · go_wp2_with (go_at_call 8; refine (HA.out _ K1).mono ?_; rintro r w' ⟨rfl, hk⟩)
    go_ret
    exact ⟨rfl, K1.trans hk⟩
  · have b20 := B2.cell 0
    have b21 := B2.cell 1
    have b22 := B2.cell 2
    have b2l := B2.lt
    go_wp2_with fail
    refine (HC'.out _ K1).mono ?_
    rintro r w2 ⟨b, rfl, k2, _⟩
    have K2 := K1.trans k2
    have C1 := B1.kept k2
    have C2 := B2.kept k2
    clear b20 b21 b22 b2l B1 B2 k1
    cases b
    · go_wp2_with (go_at_call 8; refine (HA.out _ K2).mono ?_; rintro r w' ⟨rfl, hk⟩)
      go_ret
      exact ⟨rfl, K2.trans hk⟩
    · have a0 := KW.cell C1.lt (C1.cell 0)
      have a1 := KW.cell C1.lt (C1.cell 1)
      have a2 := KW.cell C1.lt (C1.cell 2)
      have e0 := KW.cell C2.lt (C2.cell 0)
      have e1 := KW.cell C2.lt (C2.cell 1)
      have e2 := KW.cell C2.lt (C2.cell 2)
      clear HC HC'
      cases c
      all_goals
        go_wp2_with fail
        refine wp_region_kept (by kernel_rfl) (by kernel_rfl) ?_
        repeat (go_big_quiet_step (first
          | (go_at_call 14; with_reducible exact KW.call (HAB.out _ (K2.trans (KW.h _))))
          | (go_at_call 14; with_reducible exact KW.call (HAA.out _ (K2.trans (KW.h _))))
          | (go_at_call 14; with_reducible exact KW.call (HBA.out _ (K2.trans (KW.h _))))
          | (go_at_call 12; with_reducible exact KW.call (HSC.out _ (K2.trans (KW.h _))))
          | (go_at_call 8; with_reducible exact KW.call (HA.out _ (K2.trans (KW.h _))))))
        refine wpQuiet_nil ?_
        rintro w3 ⟨⟨wx, hx2⟩, hh⟩
        obtain rfl : w3 = wx := hh
        go_wp2_with fail
        go_ret
        exact ⟨rfl, K2.trans hx2⟩
end Go.Proofs.YtemejaomfbhldaaDoor
