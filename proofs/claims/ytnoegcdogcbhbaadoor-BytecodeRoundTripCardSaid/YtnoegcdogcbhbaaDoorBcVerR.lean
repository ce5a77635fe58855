/- What step and Verify of the reference of package bytecode compute. -/
import Derived.Test.YtnoegcdogcbhbaaDoorBcVerC
import Derived.Deep.DeepCutAuto
namespace Go.Proofs.YtnoegcdogcbhbaaDoor
open Go.RowKit

theorem arC_bd (op : Int) : -1 ≤ arC op ∧ arC op ≤ 3 := by
  unfold arC
  split
  · decide
  · split
    · decide
    · split
      · decide
      · exact arS_bd op
set_option maxRecDepth 100000 in
set_option maxHeartbeats 1000000 in
theorem rstep_any (x : Nd) (d : Int) (h0 : 0 ≤ d) (h12 : d ≤ 12) (w : World) : Calls Tryd.prog 37 #[.agg #[.int .i64 x.o, .int .i64 x.n], .int .i64 d] w fun r w' => r = .returned (.tuple #[.int .i64 (nextS x d), .int .i64 (targS x d)]) ∧ Kept w w' := by
  obtain ⟨op, N⟩ := x
  have HA := Lib.hid (fun w => rarC_any op w)
  have hb := arC_bd op
  by_cases h5 : op = 51
  · subst h5
    clear HA hb
    go_enter Tryd.func37, Tryd.ntmps37
    go_wp2_with fail
    go_ret2
    exact ⟨rfl, (Kept.refl _).alloc _⟩
  by_cases h50 : op = 50
  · subst h50
    clear HA hb
    go_enter Tryd.func37, Tryd.ntmps37
    go_wp2_with fail
    go_ret2
    exact ⟨rfl, (Kept.refl _).alloc _⟩
  by_cases h52 : op = 52
  · subst h52
    clear HA hb
    go_enter Tryd.func37, Tryd.ntmps37
    go_wp2_with fail
    go_ret2
    exact ⟨rfl, (Kept.refl _).alloc _⟩
  by_cases h53 : op = 53
  · subst h53
    clear HA hb
    go_enter Tryd.func37, Tryd.ntmps37
    go_wp2_with fail
    go_ret2
    exact ⟨rfl, (Kept.refl _).alloc _⟩
  have hj : jmpB op = false := jmpB_no.2 (by omega)
  have q1 := beq_noB h5
  have q2 := beq_noB h50
  have q3 := beq_noB h52
  have q4 := beq_noB h53
  have HR := Lib.hid (show nextS ⟨op, N⟩ d = d - arC op + 1 ∧ targS ⟨op, N⟩ d = -1 by
    unfold nextS targS
    dsimp only
    rw [if_neg h5, if_neg h5, hj]
    exact ⟨rfl, rfl⟩)
  clear h5 h50 h52 h53 hj
  rw [HR.out.1, HR.out.2]
  generalize arC op = a at *
  go_enter Tryd.func37, Tryd.ntmps37
  go_wp2_with (go_at_call 35; refine (HA.out _).mono ?_; rintro e w' ⟨rfl, rfl⟩)
  go_ret2
  exact ⟨rfl, (Kept.refl _).alloc _⟩

theorem note_of {ds : List Int} {a : Nat} {d e : Int} (h0 : 0 ≤ d) (hx : ds[a]? = some e) : noteS2 ds a d = if 0 ≤ e ∧ e ≠ d then (ds, 9) else (ds.set a d, 0) := by
  rw [noteS2, if_pos h0, reachS, hx]; rfl
theorem note_len (ds : List Int) (a : Nat) (d : Int) : (noteS2 ds a d).1.length = ds.length := by
  unfold noteS2
  split
  · exact reach_len _ _ _
  · rfl
theorem neg_step (j k : Nat) : (0 :: (List.replicate j (-1 : Int) ++ List.replicate (k + 1) 0)).set (j + 1) (-1) = 0 :: (List.replicate (j + 1) (-1) ++ List.replicate k 0) := by
  rw [List.set_cons_succ, neg_set]

set_option maxRecDepth 100000 in
set_option maxHeartbeats 16000000 in
theorem rverify_any (v : Value) (xs : List Nd) (w : World) (hN : Nds w v xs) (hn : xs.length ≤ 9223372036854775807) : Calls Tryd.prog 17 #[v] w (verPost xs w) := by
  obtain ⟨A, cap, rfl, hA⟩ := hN.at_
  obtain ⟨n, hxn⟩ : ∃ n, n = xs.length := ⟨_, rfl⟩
  rw [← hxn] at hA hn ⊢
  have HX := Lib.hid hxn
  clear hxn hN
  unfold verPost
  by_cases hb : 128 < n
  · have hbi : (128 : Int) < n := by omega
    have HR := Lib.hid (show verS xs = (0, 4) by rw [verS, if_pos (by have := HX.out; omega)])
    rw [HR.out]
    go_enter Tryd.func17, Tryd.ntmps17
    go_wp2_with fail
    go_ret2
    exact ⟨rfl, Kept.refl _⟩
  by_cases h0 : n = 0
  · subst h0
    have HR := Lib.hid (show verS xs = (0, 5) by rw [verS, if_neg (by have := HX.out; omega), if_pos (by have := HX.out; omega)])
    rw [HR.out]
    go_enter Tryd.func17, Tryd.ntmps17
    go_wp2_with fail
    go_ret2
    exact ⟨rfl, Kept.refl _⟩
  have HV := Lib.hid (verS_of (c := xs) (by have := HX.out; omega) (by have := HX.out; omega))
  have HR0 := Lib.hid (show verF n (xs.drop 0) 0 (0 :: List.replicate n (-1)) = verR xs by rw [verR, ← HX.out]; rfl)
  obtain ⟨i0, hi, hz0, hz1, hz2⟩ := info_parts Tryd.infoInt
  obtain ⟨b1, o1, rfl, hb1, hc1⟩ := hA (by omega)
  have hp : ¬ ((128 : Int) < n) := by omega
  have hn128 : n ≤ 128 := by omega
  have hq : ((n : Int) == 0) = false := by simp; omega
  clear hA hn
  have HC1 := Lib.hid hc1
  clear hc1
  go_enter Tryd.func17, Tryd.ntmps17
  go_wp2_with (at_make; refine wpList_make_full _ rfl _ _ 57 rfl w.heap.size 3 i0 (.int .i64 0) 1 Tryd.underlying57 hi hz0 hz1 _ _ _ _ (n + 1) rfl rfl rfl rfl (by rw [hz2]; omega) (by unfold maxLen; omega) (Nat.le_refl _) ?_; intro w1 hown hgrow)
  obtain ⟨hB1, hK1⟩ := made_ints hown hgrow
  clear hown hgrow
  obtain ⟨g, hg⟩ : ∃ g, g = w.heap.size := ⟨_, rfl⟩
  rw [← hg] at hB1 ⊢
  have hbg : b1 < g := by omega
  have hwg : w.heap.size ≤ g := by omega
  clear hg
  go_wp2_with fail
  go_loopw [5] (fun y wr => ∃ j k : Nat, y = .int .i64 ((j + 1 : Nat) : Int) ∧ j + k = n ∧ Kept w wr ∧ Blk wr g 3 (intC (0 :: (List.replicate j (-1) ++ List.replicate k 0)))) (fun y _ => n + 1 - (intOf y).toNat)
  case atStart => exact ⟨0, n, rfl, by omega, hK1, hB1⟩
  case round =>
    obtain ⟨j, k, rfl, hik, hK, hB⟩ := hrel
    clear hK1 hB1
    cases k with
    | succ k =>
      have hii : ((j + 1 : Nat) : Int) ≤ n := by omega
      have hii2 : ((j + 1 : Nat) : Int) < (n : Int) + 1 := by omega
      have hi128 : ((j + 1 : Nat) : Int) ≤ 128 := by omega
      have c0 : wr.cell? ⟨g, j + 1, none⟩ = some (.int .i64 0) := by
        rw [hB.cell]
        exact intC_get (by rw [List.getElem?_cons_succ, List.getElem?_append_right (by simp), List.length_replicate, Nat.sub_self, List.getElem?_replicate, if_pos (by omega)])
      have f := hB.frozen
      have BN := hB.set_ (j + 1) (.int .i64 (-1))
      rw [intC_set, neg_step] at BN
      have KN := hK.setCell (p := ⟨g, j + 1, none⟩) hwg (.int .i64 (-1))
      have HB2 := Lib.hid BN
      have HIK := Lib.hid hik
      clear hB hK BN hik
      generalize hjj : j + 1 = q at *
      go_wp2_with fail
      go_roundw
      case rel => exact ⟨q, k, rfl, by have := HIK.out; omega, KN, by rw [← hjj]; rw [← hjj] at HB2; exact HB2.out⟩
      case measure => simp [intOf]; omega
    | zero =>
      obtain rfl : n = j := by omega
      have hii : ¬ (((n + 1 : Nat) : Int) ≤ n) := by omega
      rw [List.replicate_zero, List.append_nil] at hB
      go_wp2_with fail
      go_loopw [7] (fun y wr => ∃ (i : Nat) (ds : List Int), y = .int .i64 i ∧ i ≤ n ∧ ds.length = n + 1 ∧ Le12 ds ∧ verF n (xs.drop i) i ds = verR xs ∧ Kept w wr ∧ Blk wr g 3 (intC ds)) (fun y _ => n - (intOf y).toNat)
      case atStart => exact ⟨0, _, rfl, Nat.zero_le _, by simp, le12_start n, HR0.out, hK, hB⟩
      case round =>
        obtain ⟨i, ds, rfl, hin, hdl, h12, hrun, hK2, hB2⟩ := hrel
        clear hK hB hii hik
        have hdx : ds[i]? = some (ds[i]'(by omega)) := List.getElem?_eq_getElem (by omega)
        have hd12 := h12 i _ hdx
        generalize ds[i]'(by omega) = d at *
        by_cases hlt : i < n
        · have hgx : xs[i]? = some (xs[i]'(by have := HX.out; omega)) := List.getElem?_eq_getElem _
          generalize xs[i]'(by have := HX.out; omega) = T at *
          obtain ⟨x0, x1⟩ := HC1.out i _ hgx
          have X0 := hK2.cell (p := ⟨b1, _, none⟩) hb1 x0
          have X1 := hK2.cell (p := ⟨b1, _, none⟩) hb1 x1
          have hii : (i : Int) < n := by omega
          have hii2 : (i : Int) < (n : Int) + 1 := by omega
          have hi128 : (i : Int) ≤ 128 := by omega
          have gl := hB2.lt
          have c0 : wr.cell? ⟨g, i, none⟩ = some (.int .i64 d) := by rw [hB2.cell]; exact intC_get hdx
          clear x0 x1
          by_cases hd : d < 0
          · have HRUN := Lib.hid ((verF_neg (len := n) hgx (by rw [hdx]; exact hd)).symm.trans hrun)
            have HK := Lib.hid hK2
            have HB := Lib.hid hB2
            have HDL := Lib.hid hdl
            clear hK2 hB2 hdl hrun hdx hgx
            go_wp2_with fail
            go_roundw
            case rel => exact ⟨i + 1, ds, rfl, hlt, HDL.out, h12, HRUN.out, HK.out, HB.out⟩
            case measure => simp [intOf]; omega
          · have hK1 := hK2.alloc (.cells #[.int .i64 T.o, .int .i64 T.n] 34)
            have hB1 := hB2.alloc (.cells #[.int .i64 T.o, .int .i64 T.n] 34)
            have hP1 := Blk.new wr 34 #[.int .i64 T.o, .int .i64 T.n]
            have hd0 : 0 ≤ ds[i]?.getD 0 := by rw [hdx, Option.getD_some]; omega
            have hnd : ¬ ds[i]?.getD 0 < 0 := by omega
            have hd02 : 0 ≤ d := by omega
            have hsr := step_ref (len := n) (x := T) (i := i) (ds := ds) hd0 (by rw [hdx, Option.getD_some]; exact hd12)
            rw [hdx, Option.getD_some] at hsr
            have hsl := (step_len n T i ds).trans hdl
            have hsle := step_le h12 n T i
            have hok := fun h => (verF_ok (len := n) hgx hnd h).symm.trans hrun
            have hbad := fun (z : Int) (hz : z ≠ 0) (h : (stepC n T i ds).2 = z) => (show verS xs = (0, z) by
              rw [HV.out, ← (verF_bad (len := n) hgx hnd (by rw [h]; exact hz)).symm.trans hrun, if_neg (by rw [h]; exact hz), h])
            have HAR := Lib.hid (fun w => rarC_any T.o w)
            have HJM := Lib.hid (fun w => rjmp_any T.o w)
            have HST := Lib.hid (fun w => rstep_any T d hd02 hd12 w)
            generalize stepC n T i ds = R at *
            have HSL := Lib.hid hsl
            have HOK := Lib.hid hok
            have HBAD := Lib.hid hbad
            have HK1 := Lib.hid hK1
            have HB1 := Lib.hid hB1
            have HP1 := Lib.hid hP1
            have HDL := Lib.hid hdl
            have HDX := Lib.hid hdx
            clear hK2 hB2 hdl hrun hdx hgx hK1 hB1 hP1 hsl hd0 hnd hok hbad
            by_cases ha : arC T.o < 0
            · rw [if_pos (.inl ha)] at hsr
              have HR := Lib.hid (HBAD.out 2 (by decide) (by rw [hsr]))
              clear hsr HBAD HOK HST HJM
              generalize arC T.o = a at *
              go_wp2_with (go_at_call 35; refine (HAR.out _).mono ?_; rintro e w' ⟨rfl, rfl⟩)
              go_ret2
              rw [HR.out]
              exact ⟨rfl, HK1.out⟩
            · have hjr : ∀ b : Bool, jmpB T.o = b → Hid (∀ w, Calls Tryd.prog 36 #[.int .i64 T.o] w fun e w' => e = .returned (.bool b) ∧ w = w') := fun b hb => Lib.hid (fun w => hb ▸ HJM.out w)
              by_cases hN : jmpB T.o = true ∧ (T.n ≤ i ∨ (n : Int) < T.n)
              · rw [if_pos (.inr hN)] at hsr
                have HR := Lib.hid (HBAD.out 2 (by decide) (by rw [hsr]))
                have HJ := hjr true hN.1
                obtain ⟨_, hN⟩ := hN
                clear hsr HBAD HOK HST hjr HJM
                generalize arC T.o = a at *
                by_cases hN1 : T.n ≤ i
                · clear hN
                  go_wp2_with (first
                    | (go_at_call 35; refine (HAR.out _).mono ?_; rintro e w' ⟨rfl, rfl⟩)
                    | (go_at_call 36; refine (HJ.out _).mono ?_; rintro e w' ⟨rfl, rfl⟩))
                  go_ret2
                  rw [HR.out]
                  exact ⟨rfl, HK1.out⟩
                · have hN2 : (n : Int) < T.n := by omega
                  clear hN
                  go_wp2_with (first
                    | (go_at_call 35; refine (HAR.out _).mono ?_; rintro e w' ⟨rfl, rfl⟩)
                    | (go_at_call 36; refine (HJ.out _).mono ?_; rintro e w' ⟨rfl, rfl⟩))
                  go_ret2
                  rw [HR.out]
                  exact ⟨rfl, HK1.out⟩
              · rw [if_neg (fun h => h.elim ha hN)] at hsr
                -- the test of the instruction is over: where it is a jump, its target lies in the code
                have htg : 0 ≤ targS T d → (i : Int) < T.n ∧ T.n ≤ n := fun h => by
                  have hj : jmpB T.o = true := by
                    unfold targS at h
                    split at h
                    · rename_i h5; rw [h5]; rfl
                    · split at h
                      · assumption
                      · exact absurd h (by decide)
                  have : ¬ (T.n ≤ i ∨ (n : Int) < T.n) := fun h2 => hN ⟨hj, h2⟩
                  omega
                cases hj : jmpB T.o
                · have HJ := hjr false hj
                  have h51 : T.o ≠ 51 := by have := jmpB_no.1 hj; omega
                  have hnx : nextS T d = d - arC T.o + 1 := by rw [nextS, if_neg h51, hj]; rfl
                  have htt : targS T d = -1 := by rw [targS, if_neg h51, hj]; rfl
                  have hbd := arC_bd T.o
                  rw [hnx, htt] at HST hsr
                  rw [show ∀ ds N, noteS2 ds N (-1) = (ds, 0) from fun _ _ => rfl] at hsr
                  clear hjr HJM htg hnx htt h51 hj hN
                  generalize arC T.o = a at *
                  by_cases htr : d < a
                  · rw [if_pos htr] at hsr
                    have HR := Lib.hid (HBAD.out 5 (by decide) (by rw [hsr]))
                    clear hsr HBAD HOK HST
                    go_wp2_with (first
                      | (go_at_call 35; refine (HAR.out _).mono ?_; rintro e w' ⟨rfl, rfl⟩)
                      | (go_at_call 36; refine (HJ.out _).mono ?_; rintro e w' ⟨rfl, rfl⟩))
                    go_ret2
                    rw [HR.out]
                    exact ⟨rfl, HK1.out⟩
                  · rw [if_neg htr] at hsr
                    by_cases hde : 12 < d - a + 1
                    · rw [if_pos hde] at hsr
                      have HR := Lib.hid (HBAD.out 16 (by decide) (by rw [hsr]))
                      clear hsr HBAD HOK
                      have k0 := KW.cell HP1.out.lt (HP1.out.cell 0)
                      have k1 := KW.cell HP1.out.lt (HP1.out.cell 1)
                      have k2 := KW.cell HB1.out.lt ((HB1.out.cell i).trans (intC_get HDX.out))
                      go_wp2_with (first
                        | (go_at_call 35; refine (HAR.out _).mono ?_; rintro e w' ⟨rfl, rfl⟩)
                        | (go_at_call 36; refine (HJ.out _).mono ?_; rintro e w' ⟨rfl, rfl⟩))
                      refine wp_region_kept (by kernel_rfl) (by kernel_rfl) ?_
                      repeat (go_big_quiet_step (first | (go_at_call 37; exact KW.call (HST.out _))))
                      refine wpQuiet_nil ?_
                      rintro w2 ⟨⟨wx, hx2⟩, hh⟩
                      obtain rfl : w2 = wx := hh
                      have HB2 := Lib.hid (HB1.out.kept hx2)
                      have HP2 := Lib.hid (HP1.out.kept hx2)
                      have HK2 := Lib.hid (HK1.out.trans hx2)
                      clear k0 k1 k2
                      go_wp2_with fail
                      go_ret2
                      rw [HR.out]
                      exact ⟨rfl, HK2.out⟩
                    · rw [if_neg hde] at hsr
                      have hnx0 : 0 ≤ d - a + 1 := by omega
                      have hx1 : ds[i + 1]? = some (ds[i + 1]'(by have := HDL.out; omega)) := List.getElem?_eq_getElem (by have := HDL.out; omega)
                      generalize ds[i + 1]'(by have := HDL.out; omega) = e1 at *
                      have hno := note_of hnx0 hx1
                      have HX1 := Lib.hid hx1
                      by_cases hc_1 : 0 ≤ e1 ∧ e1 ≠ d - a + 1
                      · rw [hno, if_pos hc_1, if_neg (show ¬ ((9 : Int) = 0) by decide)] at hsr
                        have HR := Lib.hid (HBAD.out 9 (by decide) (by rw [hsr]))
                        have hq1 := bne_noB hc_1.2
                        have hq2 := hc_1.1
                        clear hsr HBAD HOK hc_1 hno hx1
                        have k0 := KW.cell HP1.out.lt (HP1.out.cell 0)
                        have k1 := KW.cell HP1.out.lt (HP1.out.cell 1)
                        have k2 := KW.cell HB1.out.lt ((HB1.out.cell i).trans (intC_get HDX.out))
                        go_wp2_with (first
                          | (go_at_call 35; refine (HAR.out _).mono ?_; rintro e w' ⟨rfl, rfl⟩)
                          | (go_at_call 36; refine (HJ.out _).mono ?_; rintro e w' ⟨rfl, rfl⟩))
                        refine wp_region_kept (by kernel_rfl) (by kernel_rfl) ?_
                        repeat (go_big_quiet_step (first | (go_at_call 37; exact KW.call (HST.out _))))
                        refine wpQuiet_nil ?_
                        rintro w2 ⟨⟨wx, hx2⟩, hh⟩
                        obtain rfl : w2 = wx := hh
                        have HB2 := Lib.hid (HB1.out.kept hx2)
                        have HP2 := Lib.hid (HP1.out.kept hx2)
                        have HK2 := Lib.hid (HK1.out.trans hx2)
                        clear k0 k1 k2
                        have m1 := (HB2.out.cell (i + 1)).trans (intC_get HX1.out)
                        go_wp2_with fail
                        go_ret2
                        rw [HR.out]
                        exact ⟨rfl, HK2.out⟩
                      · rw [hno, if_neg hc_1, if_pos rfl] at hsr
                        have hs_1 : (e1 < 0) ∨ (0 ≤ e1 ∧ (e1 != (d - a + 1)) = false) := by
                          rcases Int.lt_or_le e1 0 with h | h
                          · exact .inl h
                          · exact .inr ⟨h, by simpa using fun hne => hc_1 ⟨h, hne⟩⟩
                        have HRUN := Lib.hid (HOK.out (by rw [hsr]))
                        have HR1 : Hid (R.1 = ds.set (i + 1) (d - a + 1)) := Lib.hid (by rw [hsr])
                        clear hsr HBAD HOK hc_1 hno hx1
                        rcases hs_1 with hq1 | ⟨hq1, hq2⟩
                        all_goals
                          have k0 := KW.cell HP1.out.lt (HP1.out.cell 0)
                          have k1 := KW.cell HP1.out.lt (HP1.out.cell 1)
                          have k2 := KW.cell HB1.out.lt ((HB1.out.cell i).trans (intC_get HDX.out))
                          go_wp2_with (first
                            | (go_at_call 35; refine (HAR.out _).mono ?_; rintro e w' ⟨rfl, rfl⟩)
                            | (go_at_call 36; refine (HJ.out _).mono ?_; rintro e w' ⟨rfl, rfl⟩))
                          refine wp_region_kept (by kernel_rfl) (by kernel_rfl) ?_
                          repeat (go_big_quiet_step (first | (go_at_call 37; exact KW.call (HST.out _))))
                          refine wpQuiet_nil ?_
                          rintro w2 ⟨⟨wx, hx2⟩, hh⟩
                          obtain rfl : w2 = wx := hh
                          have HB2 := Lib.hid (HB1.out.kept hx2)
                          have HP2 := Lib.hid (HP1.out.kept hx2)
                          have HK2 := Lib.hid (HK1.out.trans hx2)
                          clear k0 k1 k2
                          have m1 := (HB2.out.cell (i + 1)).trans (intC_get HX1.out)
                          have f2 := HB2.out.frozen
                          go_wp2_with fail
                          go_roundw
                          case rel => exact ⟨i + 1, R.1, rfl, hlt, HSL.out, hsle, HRUN.out, HK2.out.setCell (p := ⟨g, i + 1, none⟩) hwg _, by rw [HR1.out, ← intC_set]; exact HB2.out.set_ (i + 1) _⟩
                          case measure => simp [intOf]; omega
                · have HJ := hjr true hj
                  have hab := jmpB_iff.1 hj
                  obtain ⟨M, hM⟩ : ∃ M : Nat, T.n = M := ⟨T.n.toNat, by
                    have : ¬ (T.n ≤ i ∨ (n : Int) < T.n) := fun h2 => hN ⟨hj, h2⟩
                    omega⟩
                  have hM1 : ¬ ((M : Int) ≤ i) := fun h => hN ⟨hj, .inl (by rw [hM]; exact h)⟩
                  have hM2 : ¬ ((n : Int) < M) := fun h => hN ⟨hj, .inr (by rw [hM]; exact h)⟩
                  have hM3 : (M : Int) < (n : Int) + 1 := by omega
                  have hM4 : M < n + 1 := by omega
                  clear hjr HJM htg
                  obtain ⟨op, N⟩ := T
                  dsimp only at *
                  subst hM
                  rw [Int.toNat_natCast] at hsr
                  clear hN
                  by_cases h51 : op = 51
                  · subst h51
                    rw [show nextS ⟨51, (M : Int)⟩ d = -1 from rfl, show targS ⟨51, (M : Int)⟩ d = d from rfl] at HST hsr
                    rw [show arC 51 = 0 from rfl] at hsr HAR
                    rw [if_neg (by omega), if_neg (by decide), show noteS2 ds (i + 1) (-1) = (ds, 0) from rfl, if_pos rfl] at hsr
                    have hx1 : ds[M]? = some (ds[M]'(by have := HDL.out; omega)) := List.getElem?_eq_getElem (by have := HDL.out; omega)
                    generalize ds[M]'(by have := HDL.out; omega) = e1 at *
                    have hno := note_of hd02 hx1
                    have HX1 := Lib.hid hx1
                    clear hj hab ha
                    by_cases hc_1 : 0 ≤ e1 ∧ e1 ≠ d
                    · rw [hno, if_pos hc_1] at hsr
                      have HR := Lib.hid (HBAD.out 9 (by decide) (by rw [hsr]))
                      have hq1 := bne_noB hc_1.2
                      have hq2 := hc_1.1
                      clear hsr HBAD HOK hc_1 hno hx1
                      have k0 := KW.cell HP1.out.lt (HP1.out.cell 0)
                      have k1 := KW.cell HP1.out.lt (HP1.out.cell 1)
                      have k2 := KW.cell HB1.out.lt ((HB1.out.cell i).trans (intC_get HDX.out))
                      go_wp2_with (first
                        | (go_at_call 35; refine (HAR.out _).mono ?_; rintro e w' ⟨rfl, rfl⟩)
                        | (go_at_call 36; refine (HJ.out _).mono ?_; rintro e w' ⟨rfl, rfl⟩))
                      refine wp_region_kept (by kernel_rfl) (by kernel_rfl) ?_
                      repeat (go_big_quiet_step (first | (go_at_call 37; exact KW.call (HST.out _))))
                      refine wpQuiet_nil ?_
                      rintro w2 ⟨⟨wx, hx2⟩, hh⟩
                      obtain rfl : w2 = wx := hh
                      have HB2 := Lib.hid (HB1.out.kept hx2)
                      have HP2 := Lib.hid (HP1.out.kept hx2)
                      have HK2 := Lib.hid (HK1.out.trans hx2)
                      clear k0 k1 k2
                      have m1 := (HB2.out.cell M).trans (intC_get HX1.out)
                      have p1 := HP2.out.cell 1
                      go_wp2_with fail
                      go_ret2
                      rw [HR.out]
                      exact ⟨rfl, HK2.out⟩
                    · rw [hno, if_neg hc_1] at hsr
                      have hs_1 : (e1 < 0) ∨ (0 ≤ e1 ∧ (e1 != d) = false) := by
                        rcases Int.lt_or_le e1 0 with h | h
                        · exact .inl h
                        · exact .inr ⟨h, by simpa using fun hne => hc_1 ⟨h, hne⟩⟩
                      have HRUN := Lib.hid (HOK.out (by rw [hsr]))
                      have HR1 : Hid (R.1 = ds.set M d) := Lib.hid (by rw [hsr])
                      clear hsr HBAD HOK hc_1 hno hx1
                      rcases hs_1 with hq1 | ⟨hq1, hq2⟩
                      all_goals
                        have k0 := KW.cell HP1.out.lt (HP1.out.cell 0)
                        have k1 := KW.cell HP1.out.lt (HP1.out.cell 1)
                        have k2 := KW.cell HB1.out.lt ((HB1.out.cell i).trans (intC_get HDX.out))
                        go_wp2_with (first
                          | (go_at_call 35; refine (HAR.out _).mono ?_; rintro e w' ⟨rfl, rfl⟩)
                          | (go_at_call 36; refine (HJ.out _).mono ?_; rintro e w' ⟨rfl, rfl⟩))
                        refine wp_region_kept (by kernel_rfl) (by kernel_rfl) ?_
                        repeat (go_big_quiet_step (first | (go_at_call 37; exact KW.call (HST.out _))))
                        refine wpQuiet_nil ?_
                        rintro w2 ⟨⟨wx, hx2⟩, hh⟩
                        obtain rfl : w2 = wx := hh
                        have HB2 := Lib.hid (HB1.out.kept hx2)
                        have HP2 := Lib.hid (HP1.out.kept hx2)
                        have HK2 := Lib.hid (HK1.out.trans hx2)
                        clear k0 k1 k2
                        have m1 := (HB2.out.cell M).trans (intC_get HX1.out)
                        have f2 := HB2.out.frozen
                        have p1 := HP2.out.cell 1
                        go_wp2_with fail
                        go_roundw
                        case rel => exact ⟨i + 1, R.1, rfl, hlt, HSL.out, hsle, HRUN.out, HK2.out.setCell (p := ⟨g, M, none⟩) hwg _, by rw [HR1.out, ← intC_set]; exact HB2.out.set_ M _⟩
                        case measure => simp [intOf]; omega
                  · have hac : arC op = 1 := by rw [arC_jmp hj, if_neg h51]
                    have hnx : nextS ⟨op, (M : Int)⟩ d = d - 1 := by rw [nextS, if_neg h51, if_pos hj]
                    have htt : targS ⟨op, (M : Int)⟩ d = if op = 50 then d - 1 else d := by rw [targS, if_neg h51, if_pos hj]
                    rw [hnx, htt] at HST hsr
                    rw [hac] at hsr HAR
                    by_cases htr : d < 1
                    · rw [if_pos htr] at hsr
                      have HR := Lib.hid (HBAD.out 5 (by decide) (by rw [hsr]))
                      clear hsr HBAD HOK HST
                      go_wp2_with (first
                        | (go_at_call 35; refine (HAR.out _).mono ?_; rintro e w' ⟨rfl, rfl⟩)
                        | (go_at_call 36; refine (HJ.out _).mono ?_; rintro e w' ⟨rfl, rfl⟩))
                      go_ret2
                      rw [HR.out]
                      exact ⟨rfl, HK1.out⟩
                    · rw [if_neg htr, if_neg (by omega)] at hsr
                      obtain ⟨t, ht⟩ : ∃ t, t = if op = 50 then d - 1 else d := ⟨_, rfl⟩
                      rw [← ht] at HST hsr
                      have ht0 : 0 ≤ t := by rw [ht]; split <;> omega
                      have ht12 : t ≤ 12 := by rw [ht]; split <;> omega
                      have hnx0 : 0 ≤ d - 1 := by omega
                      have hx1 : ds[i + 1]? = some (ds[i + 1]'(by have := HDL.out; omega)) := List.getElem?_eq_getElem (by have := HDL.out; omega)
                      generalize ds[i + 1]'(by have := HDL.out; omega) = e1 at *
                      have hno := note_of hnx0 hx1
                      have HX1 := Lib.hid hx1
                      have hlen2 : (ds.set (i + 1) (d - 1)).length = n + 1 := by rw [List.length_set]; exact HDL.out
                      clear hj hab ha hac hnx htt ht
                      by_cases hc_1 : 0 ≤ e1 ∧ e1 ≠ d - 1
                      · rw [hno, if_pos hc_1, if_neg (show ¬ ((9 : Int) = 0) by decide)] at hsr
                        have HR := Lib.hid (HBAD.out 9 (by decide) (by rw [hsr]))
                        have hq1 := bne_noB hc_1.2
                        have hq2 := hc_1.1
                        clear hsr HBAD HOK hc_1 hno hx1
                        have k0 := KW.cell HP1.out.lt (HP1.out.cell 0)
                        have k1 := KW.cell HP1.out.lt (HP1.out.cell 1)
                        have k2 := KW.cell HB1.out.lt ((HB1.out.cell i).trans (intC_get HDX.out))
                        go_wp2_with (first
                          | (go_at_call 35; refine (HAR.out _).mono ?_; rintro e w' ⟨rfl, rfl⟩)
                          | (go_at_call 36; refine (HJ.out _).mono ?_; rintro e w' ⟨rfl, rfl⟩))
                        refine wp_region_kept (by kernel_rfl) (by kernel_rfl) ?_
                        repeat (go_big_quiet_step (first | (go_at_call 37; exact KW.call (HST.out _))))
                        refine wpQuiet_nil ?_
                        rintro w2 ⟨⟨wx, hx2⟩, hh⟩
                        obtain rfl : w2 = wx := hh
                        have HB2 := Lib.hid (HB1.out.kept hx2)
                        have HP2 := Lib.hid (HP1.out.kept hx2)
                        have HK2 := Lib.hid (HK1.out.trans hx2)
                        clear k0 k1 k2
                        have m1 := (HB2.out.cell (i + 1)).trans (intC_get HX1.out)
                        go_wp2_with fail
                        go_ret2
                        rw [HR.out]
                        exact ⟨rfl, HK2.out⟩
                      · rw [hno, if_neg hc_1, if_pos rfl] at hsr
                        have hs_1 : (e1 < 0) ∨ (0 ≤ e1 ∧ (e1 != (d - 1)) = false) := by
                          rcases Int.lt_or_le e1 0 with h | h
                          · exact .inl h
                          · exact .inr ⟨h, by simpa using fun hne => hc_1 ⟨h, hne⟩⟩
                        have hx2 : (ds.set (i + 1) (d - 1))[M]? = some ((ds.set (i + 1) (d - 1))[M]'(by omega)) := List.getElem?_eq_getElem (by omega)
                        generalize (ds.set (i + 1) (d - 1))[M]'(by omega) = e2 at *
                        have hno2 := note_of ht0 hx2
                        have HX2 := Lib.hid hx2
                        rw [hno2] at hsr
                        clear hno hno2 hx1 hx2 hc_1
                        by_cases hc_2 : 0 ≤ e2 ∧ e2 ≠ t
                        · rw [if_pos hc_2] at hsr
                          have HR := Lib.hid (HBAD.out 9 (by decide) (by rw [hsr]))
                          have hq3 := bne_noB hc_2.2
                          have hq4 := hc_2.1
                          clear hsr HBAD HOK hc_2
                          rcases hs_1 with hq1 | ⟨hq1, hq2⟩
                          all_goals
                            have k0 := KW.cell HP1.out.lt (HP1.out.cell 0)
                            have k1 := KW.cell HP1.out.lt (HP1.out.cell 1)
                            have k2 := KW.cell HB1.out.lt ((HB1.out.cell i).trans (intC_get HDX.out))
                            go_wp2_with (first
                              | (go_at_call 35; refine (HAR.out _).mono ?_; rintro e w' ⟨rfl, rfl⟩)
                              | (go_at_call 36; refine (HJ.out _).mono ?_; rintro e w' ⟨rfl, rfl⟩))
                            refine wp_region_kept (by kernel_rfl) (by kernel_rfl) ?_
                            repeat (go_big_quiet_step (first | (go_at_call 37; exact KW.call (HST.out _))))
                            refine wpQuiet_nil ?_
                            rintro w2 ⟨⟨wx, hx2⟩, hh⟩
                            obtain rfl : w2 = wx := hh
                            have HB2 := Lib.hid (HB1.out.kept hx2)
                            have HP2 := Lib.hid (HP1.out.kept hx2)
                            have HK2 := Lib.hid (HK1.out.trans hx2)
                            clear k0 k1 k2
                            have m1 := (HB2.out.cell (i + 1)).trans (intC_get HX1.out)
                            have f2 := HB2.out.frozen
                            have p1 := HP2.out.cell 1
                            have BS := HB2.out.set_ (i + 1) (.int .i64 (d - 1))
                            rw [intC_set] at BS
                            have m2 := (BS.cell M).trans (intC_get HX2.out)
                            have hgP : g ≠ wr.heap.size := by omega
                            have KS := Lib.hid (HK2.out.setCell (p := ⟨g, i + 1, none⟩) hwg (.int .i64 (d - 1)))
                            clear BS
                            go_wp2_with fail
                            go_ret2
                            rw [HR.out]
                            exact ⟨rfl, KS.out⟩
                        · rw [if_neg hc_2] at hsr
                          have hs_2 : (e2 < 0) ∨ (0 ≤ e2 ∧ (e2 != t) = false) := by
                            rcases Int.lt_or_le e2 0 with h | h
                            · exact .inl h
                            · exact .inr ⟨h, by simpa using fun hne => hc_2 ⟨h, hne⟩⟩
                          have HRUN := Lib.hid (HOK.out (by rw [hsr]))
                          have HR1 : Hid (R.1 = (ds.set (i + 1) (d - 1)).set M t) := Lib.hid (by rw [hsr])
                          clear hsr HBAD HOK hc_2
                          rcases hs_1 with hq1 | ⟨hq1, hq2⟩
                          all_goals
                            rcases hs_2 with hq3 | ⟨hq3, hq4⟩
                            all_goals
                              have k0 := KW.cell HP1.out.lt (HP1.out.cell 0)
                              have k1 := KW.cell HP1.out.lt (HP1.out.cell 1)
                              have k2 := KW.cell HB1.out.lt ((HB1.out.cell i).trans (intC_get HDX.out))
                              go_wp2_with (first
                                | (go_at_call 35; refine (HAR.out _).mono ?_; rintro e w' ⟨rfl, rfl⟩)
                                | (go_at_call 36; refine (HJ.out _).mono ?_; rintro e w' ⟨rfl, rfl⟩))
                              refine wp_region_kept (by kernel_rfl) (by kernel_rfl) ?_
                              repeat (go_big_quiet_step (first | (go_at_call 37; exact KW.call (HST.out _))))
                              refine wpQuiet_nil ?_
                              rintro w2 ⟨⟨wx, hx2⟩, hh⟩
                              obtain rfl : w2 = wx := hh
                              have HB2 := Lib.hid (HB1.out.kept hx2)
                              have HP2 := Lib.hid (HP1.out.kept hx2)
                              have HK2 := Lib.hid (HK1.out.trans hx2)
                              clear k0 k1 k2
                              have m1 := (HB2.out.cell (i + 1)).trans (intC_get HX1.out)
                              have f2 := HB2.out.frozen
                              have p1 := HP2.out.cell 1
                              have BS := HB2.out.set_ (i + 1) (.int .i64 (d - 1))
                              rw [intC_set] at BS
                              have m2 := (BS.cell M).trans (intC_get HX2.out)
                              have BS2 := BS.set_ M (.int .i64 t)
                              rw [intC_set, ← HR1.out] at BS2
                              have hgP : g ≠ wr.heap.size := by omega
                              have KS := Lib.hid ((HK2.out.setCell (p := ⟨g, i + 1, none⟩) hwg (.int .i64 (d - 1))).setCell (p := ⟨g, M, none⟩) hwg (.int .i64 t))
                              have HBS := Lib.hid BS2
                              clear BS BS2
                              go_wp2_with fail
                              go_roundw
                              case rel => exact ⟨i + 1, R.1, rfl, hlt, HSL.out, hsle, HRUN.out, KS.out, HBS.out⟩
                              case measure => simp [intOf]; omega
        · obtain rfl : n = i := by omega
          have hlti : ¬ ((n : Int) < n) := by omega
          have hvr := (verF_end (len := n) (c := xs) (ds := ds) (by have := HX.out; omega)).symm.trans hrun
          have hvs := HV.out
          rw [← hvr, if_pos rfl, ← HX.out, hdx, Option.getD_some] at hvs
          have HVS := Lib.hid hvs
          have HMA := Lib.hid (show maxS (ds.take (n + 1)) = maxS ds by rw [List.take_of_length_le (by omega)])
          have HDX := Lib.hid hdx
          have HDL := Lib.hid hdl
          clear hvs hvr hrun hdx hdl
          go_wp2_with fail
          go_loopw [6, 12] (fun z y wx => ∃ (j : Nat) (m : Int), y = .int .i64 j ∧ z = .int .i64 m ∧ j ≤ n + 1 ∧ maxS (ds.take j) = m ∧ 0 ≤ m ∧ m ≤ 12 ∧ Kept w wx ∧ Blk wx g 3 (intC ds)) (fun _ y _ => n + 1 - (intOf y).toNat)
          case atStart => exact ⟨0, 0, rfl, rfl, by omega, rfl, Int.le_refl _, by decide, hK2, hB2⟩
          case round =>
            obtain ⟨j, m, rfl, rfl, hjn, hmx, hm0, hm12, hK3, hB3⟩ := hrel
            clear hK2 hB2
            by_cases hj : j < n + 1
            · have hex : ds[j]? = some (ds[j]'(by have := HDL.out; omega)) := List.getElem?_eq_getElem (by have := HDL.out; omega)
              have he12 := h12 j _ hex
              generalize ds[j]'(by have := HDL.out; omega) = e at *
              have hmt := max_take hex
              rw [hmx] at hmt
              have c0 := (hB3.cell j).trans (intC_get hex)
              have hji : (j : Int) ≤ n := by omega
              have hji2 : (j : Int) < (n : Int) + 1 := by omega
              have hj128 : (j : Int) ≤ 128 := by omega
              have HMT := Lib.hid hmt
              have HK := Lib.hid hK3
              have HB := Lib.hid hB3
              clear hmt hmx hK3 hB3 hex
              go_wp2_with fail
              go_roundw
              case rel => exact ⟨j + 1, max m e, rfl, congrArg (Value.int IntKind.i64) (by split <;> omega), hj, HMT.out, by omega, by omega, HK.out, HB.out⟩
              case measure => simp [intOf]; omega
            · obtain rfl : j = n + 1 := by omega
              rw [HMA.out] at hmx
              have hji : ¬ (((n + 1 : Nat) : Int) ≤ n) := by omega
              have c0 := (hB3.cell n).trans (intC_get HDX.out)
              have hni : (n : Int) < (n : Int) + 1 := by omega
              rw [hmx] at HVS
              have HK := Lib.hid hK3
              clear hmx hK3 hB3 HMA
              by_cases hd1 : d < 1
              · have HR := Lib.hid (HVS.out.trans (if_pos hd1))
                clear HVS
                go_wp2_with fail
                go_ret2
                rw [HR.out]
                exact ⟨rfl, HK.out⟩
              · have HVS2 := Lib.hid (HVS.out.trans (if_neg hd1))
                clear HVS
                by_cases hd3 : 1 < d
                · have HR := Lib.hid (HVS2.out.trans (if_pos hd3))
                  clear HVS2
                  go_wp2_with fail
                  go_ret2
                  rw [HR.out]
                  exact ⟨rfl, HK.out⟩
                · have HR := Lib.hid (HVS2.out.trans (if_neg hd3))
                  clear HVS2
                  go_wp2_with fail
                  go_ret2
                  rw [HR.out]
                  exact ⟨rfl, HK.out⟩
end Go.Proofs.YtnoegcdogcbhbaaDoor
