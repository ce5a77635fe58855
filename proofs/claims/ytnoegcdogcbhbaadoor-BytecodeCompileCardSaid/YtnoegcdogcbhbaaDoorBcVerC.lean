/- What Verify of package bytecode computes. -/
import Derived.Test.YtnoegcdogcbhbaaDoorBcVerB
namespace Go.Proofs.YtnoegcdogcbhbaaDoor
open Go.RowKit

theorem grownBy_below {w0 w w' : World} {g : Nat} (h : w.grownBy w' (some g)) (hk : Kept w0 w) (hg : w0.heap.size ≤ g) : Kept w0 w' :=
  ⟨h.os.trans hk.os, h.tape.trans hk.tape, h.output.trans hk.output, Nat.le_trans hk.size h.size, fun b hb => by
    rw [h.block b (Nat.lt_of_lt_of_le hb hk.size) (fun e => by have := Option.some.inj e; omega)]; exact hk.block b hb⟩
theorem grownBy_blk {w w' : World} {g b : Nat} {t : TypeId} {cs : Array Value} (h : w.grownBy w' (some g)) (hb : Blk w b t cs) (hn : b ≠ g) : Blk w' b t cs :=
  (h.block b hb.lt (fun e => hn (Option.some.inj e))).trans hb
theorem neg_set (i k : Nat) : (List.replicate i (-1 : Int) ++ List.replicate (k + 1) 0).set i (-1) = List.replicate (i + 1) (-1) ++ List.replicate k 0 := by
  rw [List.set_append_right _ _ (by simp), List.length_replicate, Nat.sub_self, List.replicate_succ, List.set_cons_zero, List.replicate_succ' (n := i), List.append_assoc]
  rfl
theorem neg_zero (n : Nat) : (List.replicate (n + 1) (-1 : Int)).set 0 0 = 0 :: List.replicate n (-1) := by rw [List.replicate_succ, List.set_cons_zero]
def verR (c : List Nd) : List Int × Int := verF c.length c 0 (0 :: List.replicate c.length (-1))
theorem verF_neg {len i : Nat} {c : List Nd} {x : Nd} {ds : List Int} (hx : c[i]? = some x) (h : ds[i]?.getD 0 < 0) : verF len (c.drop i) i ds = verF len (c.drop (i + 1)) (i + 1) ds := by
  obtain ⟨hi, rfl⟩ := List.getElem?_eq_some_iff.1 hx
  rw [List.drop_eq_getElem_cons hi, verF, if_pos h]
theorem verF_ok {len i : Nat} {c : List Nd} {x : Nd} {ds : List Int} (hx : c[i]? = some x) (h : ¬ ds[i]?.getD 0 < 0) (hs : (stepC len x i ds).2 = 0) : verF len (c.drop i) i ds = verF len (c.drop (i + 1)) (i + 1) (stepC len x i ds).1 := by
  obtain ⟨hi, rfl⟩ := List.getElem?_eq_some_iff.1 hx
  rw [List.drop_eq_getElem_cons hi, verF, if_neg h, if_pos hs]
theorem verF_bad {len i : Nat} {c : List Nd} {x : Nd} {ds : List Int} (hx : c[i]? = some x) (h : ¬ ds[i]?.getD 0 < 0) (hs : (stepC len x i ds).2 ≠ 0) : verF len (c.drop i) i ds = (ds, (stepC len x i ds).2) := by
  obtain ⟨hi, rfl⟩ := List.getElem?_eq_some_iff.1 hx
  rw [List.drop_eq_getElem_cons hi, verF, if_neg h, if_neg hs]
theorem verF_end {len i : Nat} {c : List Nd} {ds : List Int} (h : ¬ i < c.length) : verF len (c.drop i) i ds = (ds, 0) := by
  rw [List.drop_eq_nil_iff.2 (by omega), verF]
theorem verS_of {c : List Nd} (h1 : ¬ 128 < c.length) (h2 : c.length ≠ 0) : verS c = if (verR c).2 = 0 then (if (verR c).1[c.length]?.getD 0 < 1 then (0, 5) else if 1 < (verR c).1[c.length]?.getD 0 then (0, 4) else (maxS (verR c).1, 0)) else (0, (verR c).2) := by
  rw [verS, if_neg h1, if_neg h2]; rfl
theorem le12_start (n : Nat) : Le12 (0 :: List.replicate n (-1)) := by
  intro j v h
  cases j with
  | zero => have := Option.some.inj h; omega
  | succ j =>
    rw [List.getElem?_cons_succ, List.getElem?_replicate] at h
    split at h
    · have := Option.some.inj h; omega
    · cases h
theorem max_all {l : List Int} {n : Nat} {v : Int} (h : l[n]? = some v) (hl : l.length = n + 1) : maxS l = max (maxS (l.take n)) v := by
  rw [← max_take h, List.take_of_length_le (by omega)]

def verPost (c : List Nd) (w : World) (r : Ending) (w' : World) : Prop := r = .returned (.tuple #[.int .i64 (verS c).1, .int .i64 (verS c).2]) ∧ Kept w w'
set_option maxRecDepth 100000 in
set_option maxHeartbeats 8000000 in
theorem verify_any (v : Value) (xs : List Nd) (w : World) (hN : Nds w v xs) (hn : xs.length ≤ 9223372036854775807) : Calls Tryd.prog 16 #[v] w (verPost xs w) := by
  obtain ⟨A, cap, rfl, hA⟩ := hN.at_
  obtain ⟨n, hxn⟩ : ∃ n, n = xs.length := ⟨_, rfl⟩
  rw [← hxn] at hA hn ⊢
  have HX := Lib.hid hxn
  clear hxn hN
  unfold verPost
  by_cases hb : 128 < n
  · have hbi : (128 : Int) < n := by omega
    have HR := Lib.hid (show verS xs = (0, 4) by rw [verS, if_pos (by have := HX.out; omega)])
    rw [HR.out]
    go_enter Tryd.func16, Tryd.ntmps16
    go_wp2_with fail
    go_ret2
    exact ⟨rfl, Kept.refl _⟩
  by_cases h0 : n = 0
  · subst h0
    have HR := Lib.hid (show verS xs = (0, 5) by rw [verS, if_neg (by have := HX.out; omega), if_pos (by have := HX.out; omega)])
    rw [HR.out]
    go_enter Tryd.func16, Tryd.ntmps16
    go_wp2_with fail
    go_ret2
    exact ⟨rfl, Kept.refl _⟩
  have HV := Lib.hid (verS_of (c := xs) (by have := HX.out; omega) (by have := HX.out; omega))
  have HR0 := Lib.hid (show verF n (xs.drop 0) 0 (0 :: List.replicate n (-1)) = verR xs by rw [verR, ← HX.out]; rfl)
  obtain ⟨i0, hi, hz0, hz1, hz2⟩ := info_parts Tryd.infoInt
  obtain ⟨b1, o1, rfl, hb1, hc1⟩ := hA (by omega)
  have hp : ¬ ((128 : Int) < n) := by omega
  have hn128 : n ≤ 128 := by omega
  have hq : ((n : Int) == 0) = false := by simp; omega
  clear hA hn
  have HC1 := Lib.hid hc1
  clear hc1
  go_enter Tryd.func16, Tryd.ntmps16
  go_wp2_with (at_make; refine wpList_make_full _ rfl _ _ 57 rfl w.heap.size 3 i0 (.int .i64 0) 1 Tryd.underlying57 hi hz0 hz1 _ _ _ _ (n + 1) rfl rfl rfl rfl (by rw [hz2]; omega) (by unfold maxLen; omega) (Nat.le_refl _) ?_; intro w1 hown hgrow)
  obtain ⟨hB, hk1⟩ := made_ints hown hgrow
  have hB1 := hB.alloc (.cells #[.slice (some ⟨w.heap.size, 0, none⟩) (n + 1) (n + 1)] 63)
  have hV1 := Blk.new w1 63 #[.slice (some ⟨w.heap.size, 0, none⟩) (n + 1) (n + 1)]
  have hK1 := hk1.alloc (.cells #[.slice (some ⟨w.heap.size, 0, none⟩) (n + 1) (n + 1)] 63)
  have hgv := hB.lt
  clear hown hgrow hB hk1
  obtain ⟨g, hg⟩ : ∃ g, g = w.heap.size := ⟨_, rfl⟩
  obtain ⟨vb, hvb⟩ : ∃ vb, vb = w1.heap.size := ⟨_, rfl⟩
  rw [← hg] at hB1 hV1 hgv ⊢
  rw [← hvb] at hV1 hgv ⊢
  rw [← hg] at hK1
  have hbg : b1 < g := by omega
  have hwg : w.heap.size ≤ g := by omega
  generalize w1.alloc (.cells #[.slice (some ⟨g, 0, none⟩) (n + 1) (n + 1)] 63) = W1 at *
  clear hvb hg
  go_loopw [28] (fun y wr => ∃ i k : Nat, y = .int .i64 i ∧ i + k = n + 1 ∧ Kept w wr ∧ Blk wr g 3 (intC (List.replicate i (-1) ++ List.replicate k 0)) ∧ Blk wr vb 63 #[.slice (some ⟨g, 0, none⟩) (n + 1) (n + 1)]) (fun y _ => n + 1 - (intOf y).toNat)
  case atStart => exact ⟨0, n + 1, rfl, by omega, hK1, hB1, hV1⟩
  case round =>
    obtain ⟨i, k, rfl, hik, hK, hB, hV⟩ := hrel
    clear hK1 hB1 hV1
    have v0 := hV.cell 0
    have vl := hV.lt
    cases k with
    | succ k =>
      have hii : (i : Int) < (n : Int) + 1 := by omega
      have hi128 : (i : Int) ≤ 128 := by omega
      have c0 : wr.cell? ⟨g, i, none⟩ = some (.int .i64 0) := by
        rw [hB.cell]
        exact intC_get (by rw [List.getElem?_append_right (by simp), List.length_replicate, Nat.sub_self, List.getElem?_replicate, if_pos (by omega)])
      have f := hB.frozen
      have BN := hB.set_ i (.int .i64 (-1))
      rw [intC_set, neg_set] at BN
      have KN := hK.setCell (p := ⟨g, i, none⟩) hwg (.int .i64 (-1))
      have VN := hV.far (p := ⟨g, i, none⟩) (by simp only; omega) (.int .i64 (-1))
      have HB2 := Lib.hid BN
      have HIK := Lib.hid hik
      clear hB hK hV BN hik
      go_wp2_with fail
      go_roundw
      case rel => exact ⟨i + 1, k, rfl, by have := HIK.out; omega, KN, HB2.out, VN⟩
      case measure => simp [intOf]; omega
    | zero =>
      obtain rfl : i = n + 1 := by omega
      have hii : ¬ (((n + 1 : Nat) : Int) < (n : Int) + 1) := by omega
      have c0 : wr.cell? ⟨g, 0, none⟩ = some (.int .i64 (-1)) := by
        rw [hB.cell]
        exact intC_get (by rw [List.getElem?_append_left (by simp), List.getElem?_replicate, if_pos (by omega)])
      have f := hB.frozen
      have h01 : (0 : Int) < (n : Int) + 1 := by omega
      have BN := hB.set_ 0 (.int .i64 0)
      rw [List.replicate_zero, List.append_nil, intC_set, neg_zero] at BN
      have KN := hK.setCell (p := ⟨g, 0, none⟩) hwg (.int .i64 0)
      have VN := hV.far (p := ⟨g, 0, none⟩) (by simp only; omega) (.int .i64 0)
      clear hB hK hV hik
      go_wp2_with fail
      generalize wr.setCell ⟨g, 0, none⟩ (.int .i64 0) = W2 at *
      clear c0 f v0 vl
      go_loopw [6, 45] (fun z y wr => ∃ (i : Nat) (ds : List Int) (m : Int), y = .int .i64 i ∧ z = .int .i64 m ∧ i ≤ n ∧ ds.length = n + 1 ∧ Le12 ds ∧ maxS (ds.take i) = m ∧ 0 ≤ m ∧ m ≤ 12 ∧ verF n (xs.drop i) i ds = verR xs ∧ Kept w wr ∧ Blk wr g 3 (intC ds) ∧ Blk wr vb 63 #[.slice (some ⟨g, 0, none⟩) (n + 1) (n + 1)]) (fun _ y _ => n - (intOf y).toNat)
      case atStart => exact ⟨0, _, 0, rfl, rfl, Nat.zero_le _, by simp, le12_start n, rfl, Int.le_refl _, by decide, HR0.out, KN, BN, VN⟩
      case round =>
        obtain ⟨i, ds, m, rfl, rfl, hin, hdl, h12, hmx, hm0, hm12, hrun, hK, hB, hV⟩ := hrel
        clear KN BN VN
        have hdx : ds[i]? = some (ds[i]'(by omega)) := List.getElem?_eq_getElem (by omega)
        have hd12 := h12 i _ hdx
        generalize ds[i]'(by omega) = d at *
        by_cases hlt : i < n
        · have hgx : xs[i]? = some (xs[i]'(by have := HX.out; omega)) := List.getElem?_eq_getElem _
          generalize xs[i]'(by have := HX.out; omega) = T at *
          obtain ⟨x0, x1⟩ := HC1.out i _ hgx
          have X0 := hK.cell (p := ⟨b1, _, none⟩) hb1 x0
          have X1 := hK.cell (p := ⟨b1, _, none⟩) hb1 x1
          have hii : (i : Int) < n := by omega
          have hii2 : (i : Int) < (n : Int) + 1 := by omega
          have hi128 : (i : Int) ≤ 128 := by omega
          have v0 := hV.cell 0
          have vl := hV.lt
          have gl := hB.lt
          have c0 : wr.cell? ⟨g, i, none⟩ = some (.int .i64 d) := by rw [hB.cell]; exact intC_get hdx
          clear x0 x1
          by_cases hd : d < 0
          · have HV2 := Lib.hid ((max_take_neg hdx hd).trans hmx)
            have HRUN := Lib.hid ((verF_neg (len := n) hgx (by rw [hdx]; exact hd)).symm.trans hrun)
            have HK := Lib.hid (hK.alloc (.cells #[.int .i64 T.o, .int .i64 T.n] 34))
            have HB := Lib.hid (hB.alloc (.cells #[.int .i64 T.o, .int .i64 T.n] 34))
            have HVV := Lib.hid (hV.alloc (.cells #[.int .i64 T.o, .int .i64 T.n] 34))
            have HDL := Lib.hid hdl
            clear hK hB hV hdl hrun hmx hdx hgx
            go_wp2_with fail
            go_roundw
            case rel => exact ⟨i + 1, ds, m, rfl, rfl, hlt, HDL.out, h12, HV2.out, hm0, hm12, HRUN.out, HK.out, HB.out, HVV.out⟩
            case measure => simp [intOf]; omega
          · have hK1 := hK.alloc (.cells #[.int .i64 T.o, .int .i64 T.n] 34)
            have hB1 := hB.alloc (.cells #[.int .i64 T.o, .int .i64 T.n] 34)
            have hV1 := hV.alloc (.cells #[.int .i64 T.o, .int .i64 T.n] 34)
            have hd0 : 0 ≤ ds[i]?.getD 0 := by rw [hdx, Option.getD_some]; omega
            have HST := Lib.hid (step_any vb g n cap (some ⟨b1, o1, none⟩) ds T i _ (hV1.cell 0) hV1.lt (by omega) hdl hB1 hlt (by omega) hd0 (by rw [hdx, Option.getD_some]; exact hd12))
            have hnd : ¬ ds[i]?.getD 0 < 0 := by omega
            have htk := step_take n T i ds
            have hsl := (step_len n T i ds).trans hdl
            have hsle := step_le h12 n T i
            have hok := fun h => (verF_ok (len := n) hgx hnd h).symm.trans hrun
            have hbad := fun h => (verF_bad (len := n) hgx hnd h).symm.trans hrun
            have hmt := max_take hdx
            rw [← htk, hmx] at hmt
            generalize stepC n T i ds = R at *
            obtain ⟨ds2, code⟩ := R
            dsimp only at hok hbad hmt hsl hsle
            unfold stepPost at HST
            have HK1 := Lib.hid hK1
            have HV1 := Lib.hid hV1
            have HMT := Lib.hid hmt
            have HSL := Lib.hid hsl
            have hdge : (0 : Int) ≤ d := by omega
            clear hK hB hV hdl hrun hmx hdx hgx hK1 hB1 hV1 htk hsl hmt hd0 hnd
            by_cases hc : code = 0
            · subst hc
              have HRUN := Lib.hid (hok rfl)
              clear hok hbad
              go_wp2_with (go_at_call 34; refine HST.out.mono ?_; rintro e w5 ⟨rfl, b5, g5⟩)
              go_roundw
              case rel =>
                have hk5 := grownBy_below g5 HK1.out hwg
                refine ⟨i + 1, ds2, max m d, rfl, ?_, hlt, HSL.out, hsle, HMT.out, by omega, by omega, HRUN.out, hk5, b5, grownBy_blk g5 HV1.out (by omega)⟩
                exact congrArg (Value.int IntKind.i64) (by split <;> omega)
              case measure => simp [intOf]; omega
            · have hvr := hbad hc
              have HR := Lib.hid (show verS xs = (0, code) by rw [HV.out, ← hvr, if_neg hc])
              have hcb := bne_noB hc
              clear hok hbad hvr hc
              go_wp2_with (go_at_call 34; refine HST.out.mono ?_; rintro e w5 ⟨rfl, b5, g5⟩)
              all_goals
                go_ret2
                rw [HR.out]
                exact ⟨rfl, grownBy_below g5 HK1.out hwg⟩
        · obtain rfl : i = n := by omega
          have hlti : ¬ ((i : Int) < i) := by omega
          have hli : (i : Int) < (i : Int) + 1 := by omega
          have hvr := (verF_end (len := i) (c := xs) (ds := ds) (by have := HX.out; omega)).symm.trans hrun
          have hma := max_all hdx hdl
          rw [hmx] at hma
          have hvs := HV.out
          rw [← hvr, if_pos rfl, ← HX.out, hdx, Option.getD_some, hma] at hvs
          have HVS := Lib.hid hvs
          have v0 := hV.cell 0
          have vl := hV.lt
          have c0 : wr.cell? ⟨g, i, none⟩ = some (.int .i64 d) := by rw [hB.cell]; exact intC_get hdx
          have HK := Lib.hid hK
          clear hvs hma hvr hmx hrun hK hB hV hdx hdl h12
          by_cases hd1 : d < 1
          · have HR := Lib.hid (HVS.out.trans (if_pos hd1))
            have hd2 : d ≤ 0 := by omega
            clear HVS
            go_wp2_with fail
            go_ret2
            rw [HR.out]
            exact ⟨rfl, HK.out⟩
          · have HVS2 := Lib.hid (HVS.out.trans (if_neg hd1))
            have hd2 : ¬ d ≤ 0 := by omega
            clear HVS
            by_cases hd3 : 1 < d
            · have HR := Lib.hid (HVS2.out.trans (if_pos hd3))
              clear HVS2
              go_wp2_with fail
              go_ret2
              rw [HR.out]
              exact ⟨rfl, HK.out⟩
            · have HR := Lib.hid (HVS2.out.trans (if_neg hd3))
              clear HVS2
              go_wp2_with fail
              all_goals
                go_ret2
                rw [HR.out]
                exact ⟨congrArg (fun z => Ending.returned (.tuple #[.int .i64 z, .int .i64 0])) (by omega), HK.out⟩
end Go.Proofs.YtnoegcdogcbhbaaDoor
