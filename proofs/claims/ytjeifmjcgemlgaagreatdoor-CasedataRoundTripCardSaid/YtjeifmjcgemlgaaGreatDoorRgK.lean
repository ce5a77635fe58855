/- What a definition refers to directly: is and Direct of the reference of chapter 16. -/
import Derived.Test.YtjeifmjcgemlgaaGreatDoorRgH
import Derived.Test.YtjeifmjcgemlgaaGreatDoorRtC
namespace Go.Proofs.YtjeifmjcgemlgaaGreatDoor
open Go.RowKit

/-- a scope in memory, with nD definitions -/
def ScpV (w : World) (v : Value) (nD : Nat) : Prop :=
  ∃ nm mm AI nI cI AD cD AR nR cR, v = .agg #[.string nm, .int .i64 mm, .slice AI nI cI, .slice AD nD cD, .slice AR nR cR] ∧ SlZ w 3 FdP (.slice AI nI cI) ∧ SlZ w 3 FdP (.slice AD nD cD) ∧ SlZ w 9 RlP (.slice AR nR cR)
theorem ScpV.kept {w w' : World} {v : Value} {nD : Nat} (h : ScpV w v nD) (hk : Kept w w') : ScpV w' v nD := by
  obtain ⟨nm, mm, AI, nI, cI, AD, cD, AR, nR, cR, hv, h1, h2, h3⟩ := h
  exact ⟨nm, mm, AI, nI, cI, AD, cD, AR, nR, cR, hv, h1.kept FdP.kept hk, h2.kept FdP.kept hk, h3.kept RlP.kept hk⟩
def isB (nD : Nat) (d : Int) : Bool := decide (0 ≤ d) && decide (d < nD)
set_option maxRecDepth 100000 in
set_option maxHeartbeats 4000000 in
theorem ris_k (nm : ByteArray) (mm : Int) (AI AD AR : Option Addr) (nI cI nD cD nR cR : Nat) (d : Int) (w : World) :
    Calls Tryz.prog 96 #[.agg #[.string nm, .int .i64 mm, .slice AI nI cI, .slice AD nD cD, .slice AR nR cR], .int .i64 d] w fun e w' => e = .returned (.bool (isB nD d)) ∧ Kept w w' := by
  have K0 := Lib.hid ((Kept.refl w).alloc (.cells #[.string nm, .int .i64 mm, .slice AI nI cI, .slice AD nD cD, .slice AR nR cR] 54))
  by_cases h1 : 0 ≤ d
  · by_cases h2 : d < nD
    · have HR := Lib.hid (show isB nD d = true by unfold isB; rw [decide_eq_true h1, decide_eq_true h2]; rfl)
      go_enter Tryz.func96, Tryz.ntmps96
      go_wp2_with fail
      go_ret
      exact ⟨ret_bool HR.out.symm, K0.out⟩
    · have HR := Lib.hid (show isB nD d = false by unfold isB; rw [decide_eq_true h1, decide_eq_false h2]; rfl)
      go_enter Tryz.func96, Tryz.ntmps96
      go_wp2_with fail
      go_ret
      exact ⟨ret_bool HR.out.symm, K0.out⟩
  · have HR := Lib.hid (show isB nD d = false by unfold isB; rw [decide_eq_false h1]; rfl)
    go_enter Tryz.func96, Tryz.ntmps96
    go_wp2_with fail
    go_ret
    exact ⟨ret_bool HR.out.symm, K0.out⟩
/-- an increasing list of definitions is returned, and what was is kept -/
def dirPost (nD : Nat) (w : World) (e : Ending) (w' : World) : Prop := ∃ u l, e = .returned u ∧ Recs w' inF 1 u l ∧ IdxL nD l ∧ Kept w w'
theorem isB_true {nD : Nat} {d : Int} (h : isB nD d = true) : 0 ≤ d ∧ d < nD := by
  unfold isB at h
  simpa using h
set_option maxRecDepth 100000 in
set_option maxHeartbeats 8000000 in
theorem rdirect_any (sv : Value) (nD : Nat) (d : Int) (w : World) (hS : ScpV w sv nD) : Calls Tryz.prog 75 #[sv, .int .i64 d] w (dirPost nD w) := by
  obtain ⟨nm, mm, AI, nI, cI, AD, cD, AR, nR, cR, rfl, hI, hD, hR⟩ := hS
  have hnD := hD.items.1
  obtain ⟨hnR, hxR⟩ := hR.items
  have HIS := Lib.hid (fun d w1 => ris_k nm mm AI AD AR nI cI nD cD nR cR d w1)
  have HRE := Lib.hid (fun v xs w1 h1 h2 => rrefs_any v xs w1 h1 h2)
  unfold refPost at HRE
  have HINS := Lib.hid (fun (u : Value) (l : List Int) (m : Int) (w1 : World) h1 h2 => guerdonref16_ins u l m w1 h1 h2)
  unfold insPost at HINS
  have K0 := Lib.hid ((Kept.refl w).alloc (.cells #[.string nm, .int .i64 mm, .slice AI nI cI, .slice AD nD cD, .slice AR nR cR] 54))
  clear hI hD hR
  go_enter Tryz.func75, Tryz.ntmps75
  go_upto_region 2 with fail
  have B := Blk.new w 54 #[.string nm, .int .i64 mm, .slice AI nI cI, .slice AD nD cD, .slice AR nR cR]
  have KK := K0.out
  generalize w.alloc (.cells #[.string nm, .int .i64 mm, .slice AI nI cI, .slice AD nD cD, .slice AR nR cR] 54) = W at *
  have bc := B.cell
  have bl := B.lt
  cases hb : isB nD d
  · have HB := Lib.hid (fun w1 => by have := HIS.out d w1; rwa [hb] at this : ∀ w1, _)
    go_wp2_with (go_at_call 96; refine (HB.out _).mono ?_; rintro e w1 ⟨rfl, k1⟩)
    go_ret
    exact ⟨_, [], rfl, Recs.nil _ _ _, IdxL.nil _, KK.trans k1⟩
  have HB := Lib.hid (fun w1 => by have := HIS.out d w1; rwa [hb] at this : ∀ w1, _)
  clear hb
  go_wp2_with (go_at_call 96; refine (HB.out _).mono ?_; rintro e w1 ⟨rfl, k1⟩)
  have KW1 := KK.trans k1
  have BW1 := B.kept k1
  clear bc bl HB B KK k1
  go_loopw [5, 6] (fun z y wr => ∃ (i : Nat) (l : List Int), y = .int .i64 i ∧ i ≤ nR ∧ Kept w wr ∧ Blk wr w.heap.size 54 #[.string nm, .int .i64 mm, .slice AI nI cI, .slice AD nD cD, .slice AR nR cR] ∧ Recs wr inF 1 z l ∧ IdxL nD l) (fun _ y _ => nR - (intOf y).toNat)
  case atStart => exact ⟨0, [], rfl, Nat.zero_le _, KW1, BW1, Recs.nil _ _ _, IdxL.nil _⟩
  case round =>
    obtain ⟨i, l, rfl, hin, hK, hB, hrl, hil⟩ := hrel
    clear KW1 BW1
    have bc := hB.cell
    have bl := hB.lt
    by_cases hlt : i < nR
    · obtain ⟨b, off, rfl, hbb, hc⟩ := hxR (by omega)
      obtain ⟨_, ⟨df, t1⟩, _, _, _, _, ⟨gv, gx, t6, gN, gl, _⟩, ⟨vv, vx, t7, vN, vl, _⟩, _⟩ := hc i hlt
      have x1 := hK.cell (p := ⟨b, _, none⟩) hbb t1
      have x6 := hK.cell (p := ⟨b, _, none⟩) hbb t6
      have hii : (i : Int) < nR := by omega
      have hbW := Nat.lt_of_lt_of_le hbb hK.size
      have HX7 := Lib.hid (fun w1 (h : Kept w w1) => h.cell (p := ⟨b, _, none⟩) hbb t7)
      have HGN := Lib.hid (fun w1 (h : Kept w w1) => gN.kept h)
      have HVN := Lib.hid (fun w1 (h : Kept w w1) => vN.kept h)
      obtain ⟨Ag, cg, rfl, _⟩ := gN.at_
      obtain ⟨Av, cv, rfl, _⟩ := vN.at_
      have HL := Lib.hid hrl
      clear hc hxR t1 t6 t7 gN vN hrl
      by_cases hdf : df = d
      · subst hdf
        have hne : (df != df) = false := by simp
        go_upto_region 9 with (go_at_call 97; refine (HRE.out _ gx _ (HGN.out _ hK) gl).mono ?_; rintro e w1 ⟨u1, u2, u3, l1, l2, l3, rfl, r1, r2, r3, q1, q2, q3, k1⟩)
        have K1 := hK.trans k1
        have B1 := hB.kept k1
        have b1c := B1.cell
        have b1l := B1.lt
        have x7 := HX7.out _ K1
        have hbW1 := Nat.lt_of_lt_of_le hbb K1.size
        clear bc bl x1 x6 hbW
        go_upto_region 10 with (go_at_call 97; refine (HRE.out _ vx _ (HVN.out _ K1) vl).mono ?_; rintro e w2 ⟨v1, v2, v3, m1, m2, m3, rfl, s1, s2, s3, p1, p2, p3, k2⟩)
        have HK2 := Lib.hid (K1.trans k2)
        have B2 := B1.kept k2
        have HL2 := Lib.hid ((HL.out.kept k1).kept k2)
        obtain ⟨Aa, ca, rfl, hxa⟩ := inR_at (r2.kept k2)
        obtain ⟨Ab, cb, rfl, hxb⟩ := inR_at s2
        have HAB := Lib.hid (fun (j : Nat) (x : Int) => (fun (hj : m2[j]? = some x) (hp : 0 < m2.length) => hxb hp))
        have HA := Lib.hid (fun (hp : 0 < l2.length) => hxa hp)
        have HBm := Lib.hid (fun (hp : 0 < m2.length) => hxb hp)
        have HIL := Lib.hid hil
        obtain ⟨na, hna⟩ : ∃ na, na = l2.length := ⟨_, rfl⟩
        obtain ⟨nb, hnb⟩ : ∃ nb, nb = m2.length := ⟨_, rfl⟩
        rw [← hna, ← hnb]
        have HNA := Lib.hid hna
        have HNB := Lib.hid hnb
        have hna2 : na ≤ 8796093022208 := by omega
        have hnb2 : nb ≤ 8796093022208 := by omega
        clear HAB hxa hxb r1 r2 r3 s1 s2 s3 k1 k2 b1c b1l x7 hbW1 K1 B1 hil hna hnb q1 q2 q3 p1 p2 p3 hK hB
        go_wp2_with fail
        go_loopw [5, 13] (fun z y wq => ∃ (k : Nat) (lq : List Int), y = .int .i64 k ∧ k ≤ na ∧ Kept w2 wq ∧ Recs wq inF 1 z lq ∧ IdxL nD lq) (fun _ y _ => na - (intOf y).toNat)
        case atStart => exact ⟨0, l, rfl, Nat.zero_le _, Kept.refl _, HL2.out, HIL.out⟩
        case round =>
          obtain ⟨k, lq, rfl, hkn, hKq, hrq, hiq⟩ := hrel
          by_cases hkl : k < na
          · obtain ⟨b3, o3, rfl, hb3, hc3⟩ := HA.out (by rw [← HNA.out]; omega)
            have hg : l2[k]? = some (l2[k]'(by have := HNA.out; omega)) := List.getElem?_eq_getElem _
            have y0 := hKq.cell (p := ⟨b3, _, none⟩) hb3 (hc3 k _ hg)
            generalize l2[k]'(by have := HNA.out; omega) = X at *
            have hb3q := Nat.lt_of_lt_of_le hb3 hKq.size
            have hkk : (k : Int) < na := by omega
            have HRQ := Lib.hid hrq
            have HIQ := Lib.hid hiq
            have HKQ := Lib.hid hKq
            have hIX := HIS.out X
            have hilen := hiq.len
            have BQ := B2.kept hKq
            clear hc3 hg hrq hiq
            go_upto_region 13 with fail
            have z0 := KW.cell BQ.lt (BQ.cell 0)
            have z1 := KW.cell BQ.lt (BQ.cell 1)
            have z2 := KW.cell BQ.lt (BQ.cell 2)
            have z3 := KW.cell BQ.lt (BQ.cell 3)
            have z4 := KW.cell BQ.lt (BQ.cell 4)
            try simp only [List.getElem?_toArray, List.getElem?_cons_zero, List.getElem?_cons_succ] at z0 z1 z2 z3 z4
            have y1 := KW.cell hb3q y0
            refine wp_region_kept (by kernel_rfl) (by kernel_rfl) ?_
            repeat (go_big_quiet_step ((go_at_call 96; exact KW.call (hIX _))))
            refine wpQuiet_nil ?_
            rintro w5 ⟨⟨wx, hx2⟩, hh⟩
            obtain rfl : w5 = wx := hh
            have HK5 := Lib.hid (HKQ.out.trans hx2)
            have HR5 := Lib.hid (HRQ.out.kept hx2)
            have y5 := hx2.cell (p := ⟨b3, _, none⟩) hb3q y0
            clear z0 z1 z2 z3 z4 y1 y0 hIX BQ hKq
            cases hX : isB nD X
            · have HXX := Lib.hid hX
              clear hX
              go_wp2_with fail
              go_roundw
              case rel => exact ⟨k + 1, lq, by go_num, by omega, HK5.out, HR5.out, HIQ.out⟩
              case measure => simp [intOf]; omega
            · obtain ⟨hX0, hX1⟩ := isB_true hX
              clear hX
              go_wp2_with (go_at_call 76; refine (HINS.out _ lq X _ HR5.out (by omega)).mono ?_; rintro e w6 ⟨u, rfl, hu, k6⟩)
              go_roundw
              case rel => exact ⟨k + 1, insS X lq, by go_num, by omega, HK5.out.trans k6, hu, HIQ.out.ins hX0 hX1⟩
              case measure => simp [intOf]; omega
          · obtain rfl : na = k := by omega
            have hkk : ¬ ((na : Int) < na) := by omega
            have BQ := B2.kept hKq
            have HBm := Lib.hid (fun (hp : 0 < m2.length) => HBm.out hp)
            have HKQ := Lib.hid hKq
            have HRQ := Lib.hid hrq
            have HIQ := Lib.hid hiq
            clear hrq hiq
            go_wp2_with fail
            go_loopw [5, 14] (fun z y wq2 => ∃ (k : Nat) (lq : List Int), y = .int .i64 k ∧ k ≤ nb ∧ Kept w2 wq2 ∧ Recs wq2 inF 1 z lq ∧ IdxL nD lq) (fun _ y _ => nb - (intOf y).toNat)
            case atStart => exact ⟨0, lq, rfl, Nat.zero_le _, HKQ.out, HRQ.out, HIQ.out⟩
            clear HRQ HIQ hKq lq hkn hkk HKQ BQ
            case round =>
              obtain ⟨k, lq, rfl, hkn, hKq, hrq, hiq⟩ := hrel
              by_cases hkl : k < nb
              · obtain ⟨b3, o3, rfl, hb3, hc3⟩ := HBm.out (by rw [← HNB.out]; omega)
                have hg : m2[k]? = some (m2[k]'(by have := HNB.out; omega)) := List.getElem?_eq_getElem _
                have y0 := hKq.cell (p := ⟨b3, _, none⟩) hb3 (hc3 k _ hg)
                generalize m2[k]'(by have := HNB.out; omega) = X at *
                have hb3q := Nat.lt_of_lt_of_le hb3 hKq.size
                have hkk : (k : Int) < nb := by omega
                have HRQ := Lib.hid hrq
                have HIQ := Lib.hid hiq
                have HKQ := Lib.hid hKq
                have hIX := HIS.out X
                have hilen := hiq.len
                have BQ := B2.kept hKq
                clear hc3 hg hrq hiq
                go_upto_region 18 with fail
                have z0 := KW.cell BQ.lt (BQ.cell 0)
                have z1 := KW.cell BQ.lt (BQ.cell 1)
                have z2 := KW.cell BQ.lt (BQ.cell 2)
                have z3 := KW.cell BQ.lt (BQ.cell 3)
                have z4 := KW.cell BQ.lt (BQ.cell 4)
                try simp only [List.getElem?_toArray, List.getElem?_cons_zero, List.getElem?_cons_succ] at z0 z1 z2 z3 z4
                have y1 := KW.cell hb3q y0
                refine wp_region_kept (by kernel_rfl) (by kernel_rfl) ?_
                repeat (go_big_quiet_step ((go_at_call 96; exact KW.call (hIX _))))
                refine wpQuiet_nil ?_
                rintro w5 ⟨⟨wx, hx2⟩, hh⟩
                obtain rfl : w5 = wx := hh
                have HK5 := Lib.hid (HKQ.out.trans hx2)
                have HR5 := Lib.hid (HRQ.out.kept hx2)
                have y5 := hx2.cell (p := ⟨b3, _, none⟩) hb3q y0
                clear z0 z1 z2 z3 z4 y1 y0 hIX BQ hKq
                cases hX : isB nD X
                · have HXX := Lib.hid hX
                  clear hX
                  go_wp2_with fail
                  go_roundw
                  case rel => exact ⟨k + 1, lq, by go_num, by omega, HK5.out, HR5.out, HIQ.out⟩
                  case measure => simp [intOf]; omega
                · obtain ⟨hX0, hX1⟩ := isB_true hX
                  clear hX
                  go_wp2_with (go_at_call 76; refine (HINS.out _ lq X _ HR5.out (by omega)).mono ?_; rintro e w6 ⟨u, rfl, hu, k6⟩)
                  go_roundw
                  case rel => exact ⟨k + 1, insS X lq, by go_num, by omega, HK5.out.trans k6, hu, HIQ.out.ins hX0 hX1⟩
                  case measure => simp [intOf]; omega
              · obtain rfl : nb = k := by omega
                have hkk : ¬ ((nb : Int) < nb) := by omega
                have HKQ := Lib.hid hKq
                have HRQ := Lib.hid hrq
                have HIQ := Lib.hid hiq
                clear hrq hiq hKq
                go_wp2_with fail
                go_roundw
                case rel => exact ⟨i + 1, lq, by go_num, hlt, HK2.out.trans HKQ.out, B2.kept HKQ.out, HRQ.out, HIQ.out⟩
                case measure => simp [intOf]; omega
      · have hne : (df != d) = true := by simpa using hdf
        go_wp2_with fail
        go_roundw
        case rel => exact ⟨i + 1, l, by go_num, hlt, hK, hB, HL.out, hil⟩
        case measure => simp [intOf]; omega
    · obtain rfl : nR = i := by omega
      have hii : ¬ ((nR : Int) < nR) := by omega
      go_wp2_with fail
      go_ret
      exact ⟨_, l, rfl, hrl, hil, hK⟩
end Go.Proofs.YtjeifmjcgemlgaaGreatDoor
/- What a definition refers to in the end: Transitive of the reference of chapter 16. -/
namespace Go.Proofs.YtjeifmjcgemlgaaGreatDoor
open Go.RowKit

set_option maxRecDepth 100000 in
set_option maxHeartbeats 8000000 in
theorem rtrans_any (sv : Value) (nD : Nat) (d : Int) (w : World) (hS : ScpV w sv nD) : Calls Tryz.prog 51 #[sv, .int .i64 d] w (dirPost nD w) := by
  have HDI := Lib.hid (fun d w1 (h : Kept w w1) => rdirect_any sv nD d w1 (hS.kept h))
  unfold dirPost at HDI
  obtain ⟨nm, mm, AI, nI, cI, AD, cD, AR, nR, cR, rfl, hI, hD, hR⟩ := hS
  have hnD := hD.items.1
  have HINS := Lib.hid (fun (u : Value) (l : List Int) (m : Int) (w1 : World) h1 h2 => guerdonref16_ins u l m w1 h1 h2)
  unfold insPost at HINS
  have K0 := Lib.hid ((Kept.refl w).alloc (.cells #[.string nm, .int .i64 mm, .slice AI nI cI, .slice AD nD cD, .slice AR nR cR] 54))
  clear hI hD hR
  go_enter Tryz.func51, Tryz.ntmps51
  go_upto_region 1 with fail
  have B := Blk.new w 54 #[.string nm, .int .i64 mm, .slice AI nI cI, .slice AD nD cD, .slice AR nR cR]
  have KK := K0.out
  generalize w.alloc (.cells #[.string nm, .int .i64 mm, .slice AI nI cI, .slice AD nD cD, .slice AR nR cR] 54) = W at *
  have bc := B.cell
  have bl := B.lt
  go_upto_region 2 with (go_at_call 75; refine (HDI.out _ _ KK).mono ?_; rintro e w1 ⟨u0, l0, rfl, hr0, hi0, k1⟩)
  have K1 := Lib.hid (KK.trans k1)
  have B1 := Lib.hid (B.kept k1)
  have HR0 := Lib.hid hr0
  have HI0 := Lib.hid hi0
  clear bc bl KK B k1 hr0 hi0
  go_wp2_with fail
  go_loopw [5, 6] (fun z y wr => ∃ (i : Nat) (l : List Int), y = .int .i64 i ∧ i ≤ nD ∧ Kept w wr ∧ Blk wr w.heap.size 54 #[.string nm, .int .i64 mm, .slice AI nI cI, .slice AD nD cD, .slice AR nR cR] ∧ Recs wr inF 1 z l ∧ IdxL nD l) (fun _ y _ => nD - (intOf y).toNat)
  case atStart => exact ⟨0, l0, rfl, Nat.zero_le _, K1.out, B1.out, HR0.out, HI0.out⟩
  case round =>
    clear K1 B1 HR0 HI0
    obtain ⟨i, l, rfl, hin, hK, hB, hrl, hil⟩ := hrel
    have bc := hB.cell
    have bl := hB.lt
    by_cases hlt : i < nD
    · have hii : (i : Int) < nD := by omega
      obtain ⟨Al, cl, rfl, hxl⟩ := inR_at hrl
      obtain ⟨nl, hnl⟩ : ∃ nl, nl = l.length := ⟨_, rfl⟩
      rw [← hnl] at hrl ⊢
      have hnl2 : nl ≤ nD := by have := hil.len; omega
      have HNL := Lib.hid hnl
      have HX := Lib.hid hxl
      have HRL := Lib.hid hrl
      have HIL := Lib.hid hil
      have HK := Lib.hid hK
      have HB := Lib.hid hB
      clear hxl hnl hrl hil hK hB
      go_wp2_with fail
      go_loopw [5, 8] (fun z y wq => ∃ (k : Nat) (lq : List Int), y = .int .i64 k ∧ k ≤ nl ∧ Kept wr wq ∧ Recs wq inF 1 z lq ∧ IdxL nD lq) (fun _ y _ => nl - (intOf y).toNat)
      case atStart => exact ⟨0, l, rfl, Nat.zero_le _, Kept.refl _, HRL.out, HIL.out⟩
      case round =>
        clear bc bl
        obtain ⟨k, lq, rfl, hkn, hKq, hrq, hiq⟩ := hrel
        have HKQ := Lib.hid hKq
        by_cases hkl : k < nl
        · obtain ⟨b3, o3, rfl, hb3, hc3⟩ := HX.out (by rw [← HNL.out]; omega)
          have hg : l[k]? = some (l[k]'(by have := HNL.out; omega)) := List.getElem?_eq_getElem _
          have y0 := hKq.cell (p := ⟨b3, _, none⟩) hb3 (hc3 k _ hg)
          generalize l[k]'(by have := HNL.out; omega) = X at *
          have hb3q := Nat.lt_of_lt_of_le hb3 hKq.size
          have hkk : (k : Int) < nl := by omega
          have HRQ := Lib.hid hrq
          have HIQ := Lib.hid hiq
          have BQ := HB.out.kept hKq
          clear hc3 hg hrq hiq hKq
          go_upto_region 9 with fail
          have z0 := KW.cell BQ.lt (BQ.cell 0)
          have z1 := KW.cell BQ.lt (BQ.cell 1)
          have z2 := KW.cell BQ.lt (BQ.cell 2)
          have z3 := KW.cell BQ.lt (BQ.cell 3)
          have z4 := KW.cell BQ.lt (BQ.cell 4)
          try simp only [List.getElem?_toArray, List.getElem?_cons_zero, List.getElem?_cons_succ] at z0 z1 z2 z3 z4
          have y1 := KW.cell hb3q y0
          refine wp_region_kept_tail 5 (by kernel_rfl) (by kernel_rfl) ?_
          simp only [List.take_succ_cons, List.take_zero, List.drop_succ_cons, List.drop_zero]
          repeat (go_big_quiet_step (fail))
          refine wpQuiet_nil ?_
          rintro w5 ⟨⟨wx, hx2⟩, hh⟩
          obtain rfl : w5 = wx := hh
          have HK5 := Lib.hid (HKQ.out.trans hx2)
          have HR5 := Lib.hid (HRQ.out.kept hx2)
          clear z0 z1 z2 z3 z4 y1 y0 BQ
          go_upto_region 10 with (go_at_call 75; refine (HDI.out _ _ (HK.out.trans HK5.out)).mono ?_; rintro e w6 ⟨u, ld, rfl, hrd, hid, k6⟩)
          obtain ⟨Ad, cd, rfl, hxd⟩ := inR_at hrd
          obtain ⟨nd, hnd⟩ : ∃ nd, nd = ld.length := ⟨_, rfl⟩
          rw [← hnd]
          have hnd2 : nd ≤ nD := by have := hid.len; omega
          have HND := Lib.hid hnd
          have HXD := Lib.hid hxd
          have HID := Lib.hid hid
          have HK6 := Lib.hid (HK5.out.trans k6)
          have HR6 := Lib.hid (HR5.out.kept k6)
          clear hxd hnd hrd hid k6 hx2
          go_wp2_with fail
          go_loopw [5, 10] (fun z y wt => ∃ (m : Nat) (lt : List Int), y = .int .i64 m ∧ m ≤ nd ∧ Kept w6 wt ∧ Recs wt inF 1 z lt ∧ IdxL nD lt) (fun _ y _ => nd - (intOf y).toNat)
          case atStart => exact ⟨0, lq, rfl, Nat.zero_le _, Kept.refl _, HR6.out, HIQ.out⟩
          case round =>
            obtain ⟨m, lt, rfl, hmn, hKt, hrt, hit⟩ := hrel
            have HKT := Lib.hid hKt
            have HIT := Lib.hid hit
            have HRT := Lib.hid hrt
            have hltl := hit.len
            by_cases hml : m < nd
            · obtain ⟨b4, o4, rfl, hb4, hc4⟩ := HXD.out (by rw [← HND.out]; omega)
              have hg : ld[m]? = some (ld[m]'(by have := HND.out; omega)) := List.getElem?_eq_getElem _
              have y0 := hKt.cell (p := ⟨b4, _, none⟩) hb4 (hc4 m _ hg)
              have hY := HID.out.2 _ (List.mem_of_getElem? hg)
              generalize ld[m]'(by have := HND.out; omega) = Y at *
              have hb4q := Nat.lt_of_lt_of_le hb4 hKt.size
              have hmm : (m : Int) < nd := by omega
              clear hc4 hg hrt hit hKt
              go_wp2_with (go_at_call 76; refine (HINS.out _ lt Y _ HRT.out (by omega)).mono ?_; rintro e w7 ⟨u, rfl, hu, k7⟩)
              go_roundw
              case rel => exact ⟨m + 1, insS Y lt, by go_num, by omega, HKT.out.trans k7, hu, HIT.out.ins hY.1 hY.2⟩
              case measure => simp [intOf]; omega
            · obtain rfl : nd = m := by omega
              have hmm : ¬ ((nd : Int) < nd) := by omega
              clear hrt hit hKt
              go_wp2_with fail
              go_roundw
              case rel => exact ⟨k + 1, lt, by go_num, by omega, HK6.out.trans HKT.out, HRT.out, HIT.out⟩
              case measure => simp [intOf]; omega
        · obtain rfl : nl = k := by omega
          have hkk : ¬ ((nl : Int) < nl) := by omega
          have HRQ := Lib.hid hrq
          have HIQ := Lib.hid hiq
          clear hrq hiq hKq
          go_wp2_with fail
          go_roundw
          case rel => exact ⟨i + 1, lq, by go_num, hlt, HK.out.trans HKQ.out, HB.out.kept HKQ.out, HRQ.out, HIQ.out⟩
          case measure => simp [intOf]; omega
    · obtain rfl : nD = i := by omega
      have hii : ¬ ((nD : Int) < nD) := by omega
      have HRL := Lib.hid hrl
      clear hrl
      go_wp2_with fail
      go_ret
      exact ⟨_, l, rfl, HRL.out, hil, hK⟩
end Go.Proofs.YtjeifmjcgemlgaaGreatDoor
/- Fields of a scope: hasField, plainText, fieldTypes of the reference of package law. -/
namespace Go.Proofs.YtjeifmjcgemlgaaGreatDoor
open Go.RowKit

/-- a slice of fields with its names -/
def FdN (w : World) (v : Value) (ns : List ByteArray) : Prop :=
  ∃ A cap, v = .slice A ns.length cap ∧ ns.length ≤ 8796093022208 ∧ (0 < ns.length → ∃ b off, A = some ⟨b, off, none⟩ ∧ b < w.heap.size ∧ ∀ j x, ns[j]? = some x → w.cell? ⟨b, off + j * 3, none⟩ = some (.string x))
theorem FdN.kept {w w' : World} {v : Value} {ns : List ByteArray} (h : FdN w v ns) (hk : Kept w w') : FdN w' v ns := by
  obtain ⟨A, cap, hv, hl, hx⟩ := h
  refine ⟨A, cap, hv, hl, fun hp => ?_⟩
  obtain ⟨b, off, hA, hb, hc⟩ := hx hp
  exact ⟨b, off, hA, Nat.lt_of_lt_of_le hb hk.size, fun j x hj => hk.cell (p := ⟨b, _, none⟩) hb (hc j x hj)⟩
theorem SlZ.names {w : World} {A : Option Addr} {n cap : Nat} (h : SlZ w 3 FdP (.slice A n cap)) : ∃ ns : List ByteArray, ns.length = n ∧ FdN w (.slice A n cap) ns := by
  obtain ⟨hn, hx⟩ := h.items
  rcases Nat.eq_zero_or_pos n with h0 | hp
  · subst h0
    exact ⟨[], rfl, A, cap, rfl, by simp, fun h => absurd h (by simp)⟩
  obtain ⟨b, off, hA, hb, hc⟩ := hx hp
  obtain ⟨ns, hl, hns⟩ := choose_list (p := fun i (x : ByteArray) => w.cell? ⟨b, off + i * 3, none⟩ = some (.string x)) n (fun i hi => (hc i hi).1)
  exact ⟨ns, hl, A, cap, by rw [hl], by omega, fun _ => ⟨b, off, hA, hb, hns⟩⟩
/-- one of the first n names is s -/
def hasN (ns : List ByteArray) (n : Nat) (s : ByteArray) : Bool := (ns.take n).any (fun x => x.toList == s.toList)
theorem hasN_hit {ns : List ByteArray} {n k : Nat} {s x : ByteArray} (hk : k < n) (hx : ns[k]? = some x) (he : (x.toList == s.toList) = true) : hasN ns n s = true := by
  unfold hasN
  refine List.any_eq_true.2 ⟨x, ?_, he⟩
  exact List.mem_of_getElem? (i := k) (by rw [List.getElem?_take_of_lt hk]; exact hx)
theorem hasN_none {ns : List ByteArray} {n : Nat} {s : ByteArray} (h : ∀ j x, j < n → ns[j]? = some x → (x.toList == s.toList) = false) : hasN ns n s = false := by
  unfold hasN
  refine List.any_eq_false.2 fun x hx => ?_
  obtain ⟨j, hj⟩ := List.getElem?_of_mem hx
  have hjn : j < n := by
    have := (List.getElem?_eq_some_iff.1 hj).1
    rw [List.length_take] at this; omega
  rw [List.getElem?_take_of_lt hjn] at hj
  rw [h j x hjn hj]
  decide
set_option maxRecDepth 100000 in
set_option maxHeartbeats 4000000 in
theorem rhasField_any (v : Value) (ns : List ByteArray) (n : Nat) (s : ByteArray) (w : World) (hN : FdN w v ns) (hn : n ≤ 8796093022208) : Calls Tryz.prog 70 #[v, .int .i64 n, .string s] w fun e w' => e = .returned (.bool (hasN ns n s)) ∧ w = w' := by
  obtain ⟨A, cap, rfl, hl, hA⟩ := hN
  obtain ⟨nl, hnl⟩ : ∃ nl, nl = ns.length := ⟨_, rfl⟩
  rw [← hnl] at hA hl ⊢
  have HX := Lib.hid hnl
  clear hnl
  go_enter Tryz.func70, Tryz.ntmps70
  go_wp2_with fail
  go_loop [7] (fun z => ∃ k : Nat, z = .int .i64 k ∧ k ≤ nl ∧ k ≤ n ∧ ∀ j x, j < k → ns[j]? = some x → (x.toList == s.toList) = false) (fun z => nl - (intOf z).toNat)
  case atStart => exact ⟨0, rfl, Nat.zero_le _, Nat.zero_le _, fun _ _ h => absurd h (by omega)⟩
  case round =>
    obtain ⟨k, rfl, hkl, hkn, hno⟩ := hrel
    have HNO := Lib.hid hno
    clear hno
    by_cases h1 : k < n
    · by_cases h2 : k < nl
      · obtain ⟨b, o, rfl, hb, hc⟩ := hA (by omega)
        have hg : ns[k]? = some (ns[k]'(by have := HX.out; omega)) := List.getElem?_eq_getElem _
        have X0 := hc k _ hg
        generalize ns[k]'(by have := HX.out; omega) = X at *
        have i1 : (k : Int) < n := by omega
        have i2 : (k : Int) < nl := by omega
        have HG := Lib.hid hg
        clear hc hA hg
        cases he : (X.toList == s.toList)
        · have HE := Lib.hid he
          go_wp2_with fail
          go_round
          case rel => exact ⟨k + 1, by go_num, by omega, by omega, fun j x hj hx => by
            by_cases hjk : j = k
            · subst hjk
              rw [HG.out] at hx
              obtain rfl := Option.some.inj hx
              exact HE.out
            · exact HNO.out j x (by omega) hx⟩
          case measure => simp [intOf]; omega
        · have HR := Lib.hid (hasN_hit (n := n) h1 HG.out he)
          go_wp2_with fail
          go_ret
          exact ⟨ret_bool HR.out.symm, rfl⟩
      · have i1 : (k : Int) < n := by omega
        have i2 : ¬ ((k : Int) < nl) := by omega
        have HR := Lib.hid (hasN_none (ns := ns) (n := n) (s := s) (fun j x _ hx => HNO.out j x (by have := (List.getElem?_eq_some_iff.1 hx).1; have := HX.out; omega) hx))
        go_wp2_with fail
        go_ret
        exact ⟨ret_bool HR.out.symm, rfl⟩
    · have i1 : ¬ ((k : Int) < n) := by omega
      have HR := Lib.hid (hasN_none (ns := ns) (n := n) (s := s) (fun j x hj hx => HNO.out j x (by omega) hx))
      go_wp2_with fail
      go_ret
      exact ⟨ret_bool HR.out.symm, rfl⟩
/-- a bool is returned -/
def AnyB (w : World) (e : Ending) (w' : World) : Prop := ∃ b : Bool, e = .returned (.bool b) ∧ Kept w w'
theorem AnyB.mk {w w' : World} (b : Bool) (h : Kept w w') : AnyB w (.returned (.bool b)) w' := ⟨b, rfl, h⟩
set_option maxRecDepth 100000 in
set_option maxHeartbeats 4000000 in
theorem rplain_any (s : ByteArray) (w : World) (hs : s.size ≤ 9223372036854775807) : Calls Tryz.prog 72 #[.string s] w (AnyB w) := by
  go_enter Tryz.func72, Tryz.ntmps72
  go_wp2_with fail
  go_loop [3] (fun z => ∃ k : Nat, z = .int .i64 k ∧ k ≤ s.size) (fun z => s.size - (intOf z).toNat)
  case atStart => exact ⟨0, rfl, Nat.zero_le _⟩
  case round =>
    obtain ⟨k, rfl, hkl⟩ := hrel
    by_cases h2 : k < s.size
    · have i2 : (k : Int) < s.size := by omega
      generalize hc : s[k] = c
      have HC := Lib.hid hc
      clear hc
      by_cases c1 : (c.toNat : Int) < 32
      · have hc : s[k] = c := HC.out
        go_wp2_with fail
        go_ret
        exact AnyB.mk _ (Kept.refl _)
      · by_cases c2 : (126 : Int) < c.toNat
        · have hc : s[k] = c := HC.out
          go_wp2_with fail
          go_ret
          exact AnyB.mk _ (Kept.refl _)
        · cases c3 : ((c.toNat : Int) == 34)
          · have hc : s[k] = c := HC.out
            go_wp2_with fail
            go_round
            case rel => exact ⟨k + 1, by go_num, by omega⟩
            case measure => simp [intOf]; omega
          · have hc : s[k] = c := HC.out
            go_wp2_with fail
            go_ret
            exact AnyB.mk _ (Kept.refl _)
    · have i2 : ¬ ((k : Int) < s.size) := by omega
      go_wp2_with fail
      go_ret
      exact AnyB.mk _ (Kept.refl _)
/-- types of fields -/
def tyF (p : Int × Int) : List Value := [.int .i64 p.1, .int .i64 p.2]
theorem tyF_len (x : Int × Int) : (tyF x).length = 2 := rfl
theorem tyF_one (x : Int × Int) : ∀ v ∈ tyF x, v.oneCell' = true := fun v hv => by
  simp only [tyF, List.mem_cons, List.not_mem_nil, or_false] at hv
  rcases hv with rfl | rfl <;> rfl
theorem ty_new {W : World} {k e : Int} {t : TypeId} : ∀ j u, (tyF (k, e))[j]? = some u → (W.alloc (.cells #[.int .i64 k, .int .i64 e] t)).cell? ((⟨W.heap.size, 0, none⟩ : Addr).add j) = some u :=
  blk_cells (l := tyF (k, e))
theorem ty_push {w wr w1 : World} {A : Option Addr} {n cap g1 c1 : Nat} {out : List (Int × Int)} {k e : Int} (hn : out.length = n) (hk : Kept w wr) (hO : GathR wr w.heap.size 47 tyF 2 (.slice A n cap) out)
    (h1 : w1.ownsRow w.heap.size 47 2 (.slice (some ⟨g1, 0, none⟩) (n + 1) c1) (n + 1) (out.flatMap tyF ++ tyF (k, e))) (h2 : (wr.alloc (.cells #[.int .i64 k, .int .i64 e] 47)).grownBy w1 (Value.slice A n cap).ownBlock) (h3 : (Value.slice A n cap).ownBlock = some g1 ∨ g1 = (wr.alloc (.cells #[.int .i64 k, .int .i64 e] 47)).heap.size) :
    Kept w w1 ∧ GathR w1 w.heap.size 47 tyF 2 (.slice (some ⟨g1, 0, none⟩) (n + 1) c1) (out ++ [(k, e)]) := by
  subst hn
  exact ⟨(append_grew (n := out.length + 1) (cap := c1) h2 h3).below hk (fun _ hb => (hO.owned hb).1), GathR.snoc h1⟩
theorem ty_row {w wr : World} {A : Option Addr} {n cap : Nat} {out : List (Int × Int)} (k e : Int) (hn : out.length = n) (hO : GathR wr w.heap.size 47 tyF 2 (.slice A n cap) out) :
    (wr.alloc (.cells #[.int .i64 k, .int .i64 e] 47)).ownsRow w.heap.size 47 2 (.slice A n cap) n (out.flatMap tyF) := by
  subst hn
  exact GathR.alloc hO _
theorem infoTyp : (Tryz.prog.info? 47).map (fun i => (i.zero, i.size, i.bytes)) = some (some (.agg #[.int .i64 0, .int .i64 0]), 2, 16) := by kernel_rfl
/-- a slice of n types is returned -/
def tysPost (n : Nat) (w : World) (e : Ending) (w' : World) : Prop := ∃ A cap, e = .returned (.slice A n cap) ∧ SlZ w' 2 TyP (.slice A n cap) ∧ (0 < n → ∀ b off, A = some ⟨b, off, none⟩ → w.heap.size ≤ b) ∧ Kept w w'
theorem tys_mk {w w' : World} {v : Value} {xs : List (Int × Int)} {n : Nat} (hn : xs.length = n) (hl : n ≤ 8796093022208) (h : GathR w' w.heap.size 47 tyF 2 v xs) (hk : Kept w w') : tysPost n w (.returned v) w' := by
  obtain ⟨A, cap, rfl, hc, -⟩ := h.form
  obtain ⟨A', cap', hv, hx⟩ := h.recs tyF_len
  simp only [Value.slice.injEq] at hv
  obtain ⟨rfl, -, rfl⟩ := hv
  subst hn
  refine ⟨A, cap, rfl, ⟨A, _, cap, rfl, hc, hl, fun hp => ?_⟩, fun hp b off hA => ?_, hk⟩
  · obtain ⟨b, off, hA, hb, hcc⟩ := hx hp
    refine ⟨b, off, hA, hb, fun j hj => ?_⟩
    have hg : xs[j]? = some xs[j] := List.getElem?_eq_getElem hj
    exact ⟨⟨_, hcc j _ hg 0 _ rfl⟩, ⟨_, hcc j _ hg 1 _ rfl⟩⟩
  · rcases h.2 with ⟨hv, hn⟩ | ⟨g, cp, cur, hv, hb, _⟩
    · simp only [Value.slice.injEq] at hv
      rw [hv.1] at hA; cases hA
    · simp only [Value.slice.injEq] at hv
      rw [hv.1] at hA
      simp only [Option.some.injEq, Addr.mk.injEq] at hA
      omega
set_option maxRecDepth 100000 in
set_option maxHeartbeats 8000000 in
theorem rfieldTypes_any (v : Value) (A : Option Addr) (n cap : Nat) (w : World) (hv : v = .slice A n cap) (hN : SlZ w 3 FdP v) : Calls Tryz.prog 94 #[v] w (tysPost n w) := by
  subst hv
  obtain ⟨hl, hA⟩ := hN.items
  clear hN
  obtain ⟨i0, hi, hz0, hz1, hz2⟩ := info_parts infoTyp
  go_enter Tryz.func94, Tryz.ntmps94
  go_wp2_with fail
  go_loopw [3, 4] (fun z y wr => ∃ (i : Nat) (out : List (Int × Int)), y = .int .i64 i ∧ i ≤ n ∧ out.length = i ∧ Kept w wr ∧ GathR wr w.heap.size 47 tyF 2 z out) (fun _ y _ => n - (intOf y).toNat)
  case atStart => exact ⟨0, [], rfl, Nat.zero_le _, rfl, Kept.refl _, GathR.nil _ _ _⟩
  case round =>
    obtain ⟨i, out, rfl, hin, hol, hK, hown⟩ := hrel
    obtain ⟨Ao, co, rfl, hc1, hc2⟩ := hown.form
    rw [hol] at hc1 hown ⊢
    have HOL := Lib.hid hol
    have HO := Lib.hid hown
    have HK := Lib.hid hK
    by_cases hlt : i < n
    · obtain ⟨b, o, rfl, hb, hc⟩ := hA (by omega)
      obtain ⟨-, ⟨k, t1⟩, ⟨e, t2⟩⟩ := hc i hlt
      have x1 := hK.cell (p := ⟨b, _, none⟩) hb t1
      have x2 := hK.cell (p := ⟨b, _, none⟩) hb t2
      have hii : (i : Int) < n := by omega
      have hmx : i + 1 ≤ maxLen := by unfold maxLen; omega
      have hgw := hK.size
      clear hc hA t1 t2 hol hown hK
      go_wp2_with (at_builtin; go_loud (refine wpList_append_lies _ rfl (.tmp 11) (.tmp 17) 135 rfl w.heap.size 47 i0 (.agg #[.int .i64 0, .int .i64 0]) 2 16 Tryz.underlying135 hi hz0 hz1 hz2 rfl (by decide) _ i (out.flatMap tyF) rfl (ty_row k e HOL.out HO.out) ⟨wr.heap.size, 0, none⟩ 1 1 (tyF (k, e)) rfl rfl ty_new (tyF_one _) (by decide) hmx (by omega) (by simp; omega) _ rfl ?_); intro g1 c1 w1 h1 h2 h3 h4; obtain ⟨k1, G1⟩ := ty_push HOL.out HK.out HO.out h1 h2 h3)
      go_roundw
      case rel => exact ⟨i + 1, out ++ [(k, e)], by go_num, hlt, by rw [List.length_append, HOL.out]; rfl, k1, G1⟩
      case measure => simp [intOf]; omega
    · obtain rfl : n = i := by omega
      have hii : ¬ ((n : Int) < n) := by omega
      clear hA hol hown hK
      go_wp2_with fail
      go_ret
      exact tys_mk HOL.out hl HO.out HK.out
end Go.Proofs.YtjeifmjcgemlgaaGreatDoor
/- nameTaken of the reference of package law. -/
namespace Go.Proofs.YtjeifmjcgemlgaaGreatDoor
open Go.RowKit

/-- a law in depth, its lists named -/
def LawN (w : World) (v : Value) (nE nT nS : Nat) : Prop := ∃ AE cE AT cT AS cS, v = .agg #[.slice AE nE cE, .slice AT nT cT, .slice AS nS cS] ∧ SlZ w 2 StrAt (.slice AE nE cE) ∧ SlZ w 6 TaP (.slice AT nT cT) ∧ SlZ w 5 SpP (.slice AS nS cS)
theorem LawN.kept {w w' : World} {v : Value} {nE nT nS : Nat} (h : LawN w v nE nT nS) (hk : Kept w w') : LawN w' v nE nT nS := by
  obtain ⟨AE, cE, AT, cT, AS, cS, hv, h0, h1, h2⟩ := h
  exact ⟨AE, cE, AT, cT, AS, cS, hv, h0.kept StrAt.kept hk, h1.kept TaP.kept hk, h2.kept SpP.kept hk⟩
set_option maxRecDepth 100000 in
set_option maxHeartbeats 8000000 in
theorem rtaken1_any (lv : Value) (nE nT nS : Nat) (at_ : Int) (s : ByteArray) (w : World) (hL : LawN w lv nE nT nS) : Calls Tryz.prog 47 #[lv, .int .i64 1, .int .i64 at_, .string s] w (AnyB w) := by
  obtain ⟨AE, cE, AT, cT, AS, cS, rfl, h0, h1, h2⟩ := hL
  obtain ⟨hnE, hxE⟩ := h0.items
  obtain ⟨hnT, hxT⟩ := h1.items
  obtain ⟨hnS, hxS⟩ := h2.items
  have K0 := Lib.hid ((Kept.refl w).alloc (.cells #[.slice AE nE cE, .slice AT nT cT, .slice AS nS cS] 26))
  clear h0 h1 h2
  go_enter Tryz.func47, Tryz.ntmps47
  go_upto_region 2 with fail
  have B := Blk.new w 26 #[.slice AE nE cE, .slice AT nT cT, .slice AS nS cS]
  have KK := K0.out
  generalize w.alloc (.cells #[.slice AE nE cE, .slice AT nT cT, .slice AS nS cS] 26) = W at *
  have bc := B.cell
  have bl := B.lt
  have HKK := Lib.hid KK
  have HXE := Lib.hid hxE
  have HXT := Lib.hid hxT
  have HXS := Lib.hid hxS
  clear K0 B KK hxE hxT hxS
  go_loop [9] (fun z => ∃ k : Nat, z = .int .i64 k ∧ k ≤ nE) (fun z => nE - (intOf z).toNat)
  case atStart => exact ⟨0, rfl, Nat.zero_le _⟩
  case round =>
    obtain ⟨k, rfl, hk⟩ := hrel
    by_cases hlt : k < nE
    · obtain ⟨b, o, rfl, hb, hc⟩ := HXE.out (by omega)
      obtain ⟨X, x0⟩ := hc k hlt
      have x1 := HKK.out.cell (p := ⟨b, _, none⟩) hb x0
      have hii : (k : Int) < nE := by omega
      clear hc x0
      by_cases hat : (k : Int) < at_
      all_goals
        cases he : (X.toList == s.toList)
        all_goals
          go_wp2_with fail
          first
            | (go_ret
               exact AnyB.mk _ HKK.out)
            | (go_round
               case rel => exact ⟨k + 1, by go_num, by omega⟩
               case measure => simp [intOf]; omega)
    · obtain rfl : nE = k := by omega
      have hii : ¬ ((nE : Int) < nE) := by omega
      go_wp2_with fail
      go_loop [10] (fun z => ∃ k : Nat, z = .int .i64 k ∧ k ≤ nT) (fun z => nT - (intOf z).toNat)
      case atStart => exact ⟨0, rfl, Nat.zero_le _⟩
      case round =>
        obtain ⟨k, rfl, hk⟩ := hrel
        by_cases hlt : k < nT
        · obtain ⟨b, o, rfl, hb, hc⟩ := HXT.out (by omega)
          obtain ⟨⟨X, x0⟩, -⟩ := hc k hlt
          have x1 := HKK.out.cell (p := ⟨b, _, none⟩) hb x0
          have hii : (k : Int) < nT := by omega
          clear hc x0
          by_cases hat : (k : Int) < at_
          all_goals
            cases he : (X.toList == s.toList)
            all_goals
              go_wp2_with fail
              first
                | (go_ret
                   exact AnyB.mk _ HKK.out)
                | (go_round
                   case rel => exact ⟨k + 1, by go_num, by omega⟩
                   case measure => simp [intOf]; omega)
        · obtain rfl : nT = k := by omega
          have hii : ¬ ((nT : Int) < nT) := by omega
          go_wp2_with fail
          go_loop [11] (fun z => ∃ k : Nat, z = .int .i64 k ∧ k ≤ nS) (fun z => nS - (intOf z).toNat)
          case atStart => exact ⟨0, rfl, Nat.zero_le _⟩
          case round =>
            obtain ⟨k, rfl, hk⟩ := hrel
            by_cases hlt : k < nS
            · obtain ⟨b, o, rfl, hb, hc⟩ := HXS.out (by omega)
              obtain ⟨⟨X, x0⟩, -⟩ := hc k hlt
              have x1 := HKK.out.cell (p := ⟨b, _, none⟩) hb x0
              have hii : (k : Int) < nS := by omega
              clear hc x0
              by_cases hat : (k : Int) < at_
              all_goals
                cases he : (X.toList == s.toList)
                all_goals
                  go_wp2_with fail
                  first
                    | (go_ret
                       exact AnyB.mk _ HKK.out)
                    | (go_round
                       case rel => exact ⟨k + 1, by go_num, by omega⟩
                       case measure => simp [intOf]; omega)
            · obtain rfl : nS = k := by omega
              have hii : ¬ ((nS : Int) < nS) := by omega
              go_wp2_with fail
              go_ret
              exact AnyB.mk _ HKK.out
set_option maxRecDepth 100000 in
set_option maxHeartbeats 8000000 in
theorem rtaken2_any (lv : Value) (nE nT nS : Nat) (at_ : Int) (s : ByteArray) (w : World) (hL : LawN w lv nE nT nS) : Calls Tryz.prog 47 #[lv, .int .i64 2, .int .i64 at_, .string s] w (AnyB w) := by
  obtain ⟨AE, cE, AT, cT, AS, cS, rfl, h0, h1, h2⟩ := hL
  obtain ⟨hnE, hxE⟩ := h0.items
  obtain ⟨hnT, hxT⟩ := h1.items
  obtain ⟨hnS, hxS⟩ := h2.items
  have K0 := Lib.hid ((Kept.refl w).alloc (.cells #[.slice AE nE cE, .slice AT nT cT, .slice AS nS cS] 26))
  clear h0 h1 h2
  go_enter Tryz.func47, Tryz.ntmps47
  go_upto_region 2 with fail
  have B := Blk.new w 26 #[.slice AE nE cE, .slice AT nT cT, .slice AS nS cS]
  have KK := K0.out
  generalize w.alloc (.cells #[.slice AE nE cE, .slice AT nT cT, .slice AS nS cS] 26) = W at *
  have bc := B.cell
  have bl := B.lt
  have HKK := Lib.hid KK
  have HXE := Lib.hid hxE
  have HXT := Lib.hid hxT
  have HXS := Lib.hid hxS
  clear K0 B KK hxE hxT hxS
  go_loop [9] (fun z => ∃ k : Nat, z = .int .i64 k ∧ k ≤ nE) (fun z => nE - (intOf z).toNat)
  case atStart => exact ⟨0, rfl, Nat.zero_le _⟩
  case round =>
    obtain ⟨k, rfl, hk⟩ := hrel
    by_cases hlt : k < nE
    · obtain ⟨b, o, rfl, hb, hc⟩ := HXE.out (by omega)
      obtain ⟨X, x0⟩ := hc k hlt
      have x1 := HKK.out.cell (p := ⟨b, _, none⟩) hb x0
      have hii : (k : Int) < nE := by omega
      clear hc x0
      by_cases hat : (k : Int) < at_
      all_goals
        cases he : (X.toList == s.toList)
        all_goals
          go_wp2_with fail
          first
            | (go_ret
               exact AnyB.mk _ HKK.out)
            | (go_round
               case rel => exact ⟨k + 1, by go_num, by omega⟩
               case measure => simp [intOf]; omega)
    · obtain rfl : nE = k := by omega
      have hii : ¬ ((nE : Int) < nE) := by omega
      go_wp2_with fail
      go_loop [10] (fun z => ∃ k : Nat, z = .int .i64 k ∧ k ≤ nT) (fun z => nT - (intOf z).toNat)
      case atStart => exact ⟨0, rfl, Nat.zero_le _⟩
      case round =>
        obtain ⟨k, rfl, hk⟩ := hrel
        by_cases hlt : k < nT
        · obtain ⟨b, o, rfl, hb, hc⟩ := HXT.out (by omega)
          obtain ⟨⟨X, x0⟩, -⟩ := hc k hlt
          have x1 := HKK.out.cell (p := ⟨b, _, none⟩) hb x0
          have hii : (k : Int) < nT := by omega
          clear hc x0
          by_cases hat : (k : Int) < at_
          all_goals
            cases he : (X.toList == s.toList)
            all_goals
              go_wp2_with fail
              first
                | (go_ret
                   exact AnyB.mk _ HKK.out)
                | (go_round
                   case rel => exact ⟨k + 1, by go_num, by omega⟩
                   case measure => simp [intOf]; omega)
        · obtain rfl : nT = k := by omega
          have hii : ¬ ((nT : Int) < nT) := by omega
          go_wp2_with fail
          go_loop [11] (fun z => ∃ k : Nat, z = .int .i64 k ∧ k ≤ nS) (fun z => nS - (intOf z).toNat)
          case atStart => exact ⟨0, rfl, Nat.zero_le _⟩
          case round =>
            obtain ⟨k, rfl, hk⟩ := hrel
            by_cases hlt : k < nS
            · obtain ⟨b, o, rfl, hb, hc⟩ := HXS.out (by omega)
              obtain ⟨⟨X, x0⟩, -⟩ := hc k hlt
              have x1 := HKK.out.cell (p := ⟨b, _, none⟩) hb x0
              have hii : (k : Int) < nS := by omega
              clear hc x0
              by_cases hat : (k : Int) < at_
              all_goals
                cases he : (X.toList == s.toList)
                all_goals
                  go_wp2_with fail
                  first
                    | (go_ret
                       exact AnyB.mk _ HKK.out)
                    | (go_round
                       case rel => exact ⟨k + 1, by go_num, by omega⟩
                       case measure => simp [intOf]; omega)
            · obtain rfl : nS = k := by omega
              have hii : ¬ ((nS : Int) < nS) := by omega
              go_wp2_with fail
              go_ret
              exact AnyB.mk _ HKK.out
set_option maxRecDepth 100000 in
set_option maxHeartbeats 8000000 in
theorem rtaken3_any (lv : Value) (nE nT nS : Nat) (at_ : Int) (s : ByteArray) (w : World) (hL : LawN w lv nE nT nS) : Calls Tryz.prog 47 #[lv, .int .i64 3, .int .i64 at_, .string s] w (AnyB w) := by
  obtain ⟨AE, cE, AT, cT, AS, cS, rfl, h0, h1, h2⟩ := hL
  obtain ⟨hnE, hxE⟩ := h0.items
  obtain ⟨hnT, hxT⟩ := h1.items
  obtain ⟨hnS, hxS⟩ := h2.items
  have K0 := Lib.hid ((Kept.refl w).alloc (.cells #[.slice AE nE cE, .slice AT nT cT, .slice AS nS cS] 26))
  clear h0 h1 h2
  go_enter Tryz.func47, Tryz.ntmps47
  go_upto_region 2 with fail
  have B := Blk.new w 26 #[.slice AE nE cE, .slice AT nT cT, .slice AS nS cS]
  have KK := K0.out
  generalize w.alloc (.cells #[.slice AE nE cE, .slice AT nT cT, .slice AS nS cS] 26) = W at *
  have bc := B.cell
  have bl := B.lt
  have HKK := Lib.hid KK
  have HXE := Lib.hid hxE
  have HXT := Lib.hid hxT
  have HXS := Lib.hid hxS
  clear K0 B KK hxE hxT hxS
  go_loop [9] (fun z => ∃ k : Nat, z = .int .i64 k ∧ k ≤ nE) (fun z => nE - (intOf z).toNat)
  case atStart => exact ⟨0, rfl, Nat.zero_le _⟩
  case round =>
    obtain ⟨k, rfl, hk⟩ := hrel
    by_cases hlt : k < nE
    · obtain ⟨b, o, rfl, hb, hc⟩ := HXE.out (by omega)
      obtain ⟨X, x0⟩ := hc k hlt
      have x1 := HKK.out.cell (p := ⟨b, _, none⟩) hb x0
      have hii : (k : Int) < nE := by omega
      clear hc x0
      by_cases hat : (k : Int) < at_
      all_goals
        cases he : (X.toList == s.toList)
        all_goals
          go_wp2_with fail
          first
            | (go_ret
               exact AnyB.mk _ HKK.out)
            | (go_round
               case rel => exact ⟨k + 1, by go_num, by omega⟩
               case measure => simp [intOf]; omega)
    · obtain rfl : nE = k := by omega
      have hii : ¬ ((nE : Int) < nE) := by omega
      go_wp2_with fail
      go_loop [10] (fun z => ∃ k : Nat, z = .int .i64 k ∧ k ≤ nT) (fun z => nT - (intOf z).toNat)
      case atStart => exact ⟨0, rfl, Nat.zero_le _⟩
      case round =>
        obtain ⟨k, rfl, hk⟩ := hrel
        by_cases hlt : k < nT
        · obtain ⟨b, o, rfl, hb, hc⟩ := HXT.out (by omega)
          obtain ⟨⟨X, x0⟩, -⟩ := hc k hlt
          have x1 := HKK.out.cell (p := ⟨b, _, none⟩) hb x0
          have hii : (k : Int) < nT := by omega
          clear hc x0
          by_cases hat : (k : Int) < at_
          all_goals
            cases he : (X.toList == s.toList)
            all_goals
              go_wp2_with fail
              first
                | (go_ret
                   exact AnyB.mk _ HKK.out)
                | (go_round
                   case rel => exact ⟨k + 1, by go_num, by omega⟩
                   case measure => simp [intOf]; omega)
        · obtain rfl : nT = k := by omega
          have hii : ¬ ((nT : Int) < nT) := by omega
          go_wp2_with fail
          go_loop [11] (fun z => ∃ k : Nat, z = .int .i64 k ∧ k ≤ nS) (fun z => nS - (intOf z).toNat)
          case atStart => exact ⟨0, rfl, Nat.zero_le _⟩
          case round =>
            obtain ⟨k, rfl, hk⟩ := hrel
            by_cases hlt : k < nS
            · obtain ⟨b, o, rfl, hb, hc⟩ := HXS.out (by omega)
              obtain ⟨⟨X, x0⟩, -⟩ := hc k hlt
              have x1 := HKK.out.cell (p := ⟨b, _, none⟩) hb x0
              have hii : (k : Int) < nS := by omega
              clear hc x0
              by_cases hat : (k : Int) < at_
              all_goals
                cases he : (X.toList == s.toList)
                all_goals
                  go_wp2_with fail
                  first
                    | (go_ret
                       exact AnyB.mk _ HKK.out)
                    | (go_round
                       case rel => exact ⟨k + 1, by go_num, by omega⟩
                       case measure => simp [intOf]; omega)
            · obtain rfl : nS = k := by omega
              have hii : ¬ ((nS : Int) < nS) := by omega
              go_wp2_with fail
              go_ret
              exact AnyB.mk _ HKK.out
end Go.Proofs.YtjeifmjcgemlgaaGreatDoor
/- Signature of the reference of package law. -/
namespace Go.Proofs.YtjeifmjcgemlgaaGreatDoor
open Go.RowKit

/-- a law in memory, its enumerations read -/
def LawV (w : World) (v : Value) (ms : List (List ByteArray)) (nT nS : Nat) : Prop :=
  ∃ AE cE AT cT AS cS, v = .agg #[.slice AE ms.length cE, .slice AT nT cT, .slice AS nS cS] ∧ Enums w (.slice AE ms.length cE) ms ∧ SlZ w 2 StrAt (.slice AE ms.length cE) ∧ SlZ w 6 TaP (.slice AT nT cT) ∧ SlZ w 5 SpP (.slice AS nS cS)
theorem LawV.kept {w w' : World} {v : Value} {ms : List (List ByteArray)} {nT nS : Nat} (h : LawV w v ms nT nS) (hk : Kept w w') : LawV w' v ms nT nS := by
  obtain ⟨AE, cE, AT, cT, AS, cS, hv, hE, h0, h1, h2⟩ := h
  exact ⟨AE, cE, AT, cT, AS, cS, hv, hE.kept hk, h0.kept StrAt.kept hk, h1.kept TaP.kept hk, h2.kept SpP.kept hk⟩
theorem LawV.lawN {w : World} {v : Value} {ms : List (List ByteArray)} {nT nS : Nat} (h : LawV w v ms nT nS) : LawN w v ms.length nT nS := by
  obtain ⟨AE, cE, AT, cT, AS, cS, hv, hE, h0, h1, h2⟩ := h
  exact ⟨AE, cE, AT, cT, AS, cS, hv, h0, h1, h2⟩
/-- a signature with the law's enumerations is returned -/
def sigPost (ms : List (List ByteArray)) (nT : Nat) (w : World) (e : Ending) (w' : World) : Prop := ∃ v nI nD nM, e = .returned v ∧ SigD w' v ms nT nI nD nM ∧ Kept w w'
theorem slZ_none (w : World) (k : Nat) (p : World → Nat → Nat → Prop) : SlZ w k p (.slice .none 0 0) := ⟨_, _, _, rfl, Nat.le_refl _, by omega, fun h => absurd h (by omega)⟩
/-- the block of a slice is lo or above, and is not g -/
def Fr (lo g n : Nat) (A : Option Addr) : Prop := 0 < n → ∀ b off, A = some ⟨b, off, Option.none⟩ → lo ≤ b ∧ b ≠ g
theorem SlZ.lt {w : World} {k : Nat} {p : World → Nat → Nat → Prop} {A : Option Addr} {n c : Nat} (h : SlZ w k p (.slice A n c)) : 0 < n → ∀ b off, A = some ⟨b, off, Option.none⟩ → b < w.heap.size := fun hp b off hA => by
  obtain ⟨-, hx⟩ := h.items
  obtain ⟨b', o', hA', hb, -⟩ := hx hp
  rw [hA'] at hA
  simp only [Option.some.injEq, Addr.mk.injEq] at hA
  omega
theorem SlZ.setc {w : World} {A : Option Addr} {n c g i : Nat} {u : Value} (h : SlZ w 2 TyP (.slice A n c)) (hne : 0 < n → ∀ b off, A = some ⟨b, off, Option.none⟩ → b ≠ g) : SlZ (w.setCell ⟨g, i, Option.none⟩ u) 2 TyP (.slice A n c) := by
  obtain ⟨A', n', c', hv, hc, hn, hx⟩ := h
  simp only [Value.slice.injEq] at hv
  obtain ⟨rfl, rfl, rfl⟩ := hv
  refine ⟨A, n, c, rfl, hc, hn, fun hp => ?_⟩
  obtain ⟨b, o, hA, hb, hcc⟩ := hx hp
  have hbg := hne hp b o hA
  have hcell : ∀ q, (w.setCell ⟨g, i, Option.none⟩ u).cell? ⟨b, q, Option.none⟩ = w.cell? ⟨b, q, Option.none⟩ := fun q =>
    World.cell?_of_block (a := ⟨b, q, Option.none⟩) (Below.heap_setCell _ _ _ _ hbg)
  refine ⟨b, o, hA, by simpa using hb, fun j hj => ?_⟩
  obtain ⟨⟨x, h0⟩, ⟨y, h1⟩⟩ := hcc j hj
  exact ⟨⟨x, (hcell _).trans h0⟩, ⟨y, (hcell _).trans h1⟩⟩
theorem sig_mk {w w' : World} {ms : List (List ByteArray)} {nE nT nI nD nM cE cT cI cD cM : Nat} {AE AT AI AD AM : Option Addr} {hm : Bool} (hn : ms.length = nE) (hE : Enums w' (.slice AE nE cE) ms) (hT : SlZ w' 6 TaP (.slice AT nT cT)) (hI : SlZ w' 2 TyP (.slice AI nI cI)) (hD : SlZ w' 2 TyP (.slice AD nD cD)) (hM : SlZ w' 2 TyP (.slice AM nM cM)) (hk : Kept w w') :
    sigPost ms nT w (.returned (.agg #[.slice AE nE cE, .slice AT nT cT, .slice AI nI cI, .slice AD nD cD, .slice AM nM cM, .bool hm])) w' := by
  subst hn
  exact ⟨_, nI, nD, nM, rfl, ⟨AE, cE, AT, cT, AI, cI, AD, cD, AM, cM, hm, rfl, hE, hT, hI, hD, hM⟩, hk⟩
set_option maxRecDepth 100000 in
set_option maxHeartbeats 8000000 in
theorem rsig_any (lv : Value) (ms : List (List ByteArray)) (nT nS : Nat) (q : Nat) (w : World) (hL : LawV w lv ms nT nS) (hq : q < nS) : Calls Tryz.prog 73 #[lv, .int .i64 q] w (sigPost ms nT w) := by
  obtain ⟨AE, cE, AT, cT, AS, cS, rfl, hE, h0, h1, h2⟩ := hL
  have HE := Lib.hid (fun w1 (h : Kept w w1) => hE.kept h)
  have HT := Lib.hid (fun w1 (h : Kept w w1) => h1.kept TaP.kept h)
  obtain ⟨hnS, hxS⟩ := h2.items
  obtain ⟨b, off, rfl, hb, hc⟩ := hxS (by omega)
  obtain ⟨⟨nm, t0⟩, ⟨mm, t1⟩, ⟨_, t2, ⟨AI, nI, cI, rfl, hIc, hIn, hIx⟩⟩, ⟨_, t3, ⟨AD, nD, cD, rfl, hDc, hDn, hDx⟩⟩, ⟨_, t4, ⟨AR, nR, cR, rfl, hRc, hRn, hRx⟩⟩⟩ := hc q hq
  have HFI := Lib.hid (fun w1 (h : Kept w w1) => rfieldTypes_any _ AI nI cI w1 rfl (SlZ.kept FdP.kept ⟨AI, nI, cI, rfl, hIc, hIn, hIx⟩ h))
  have HFD := Lib.hid (fun w1 (h : Kept w w1) => rfieldTypes_any _ AD nD cD w1 rfl (SlZ.kept FdP.kept ⟨AD, nD, cD, rfl, hDc, hDn, hDx⟩ h))
  unfold tysPost at HFI HFD
  generalize hnE : ms.length = nE at *
  have HNE := Lib.hid hnE
  have hqi : (q : Int) < nS := by omega
  have hq0 : ¬ ((q : Int) < 0) := by omega
  have K0 := Lib.hid (((Kept.refl w).alloc (.cells #[.slice AE nE cE, .slice AT nT cT, .slice (some ⟨b, off, none⟩) nS cS] 26)).alloc (.cells #[.slice none 0 0, .slice none 0 0, .slice none 0 0, .slice none 0 0, .slice none 0 0, .bool false] 137))
  have HC := Lib.hid hc
  clear hE h0 h1 h2 hIx hDx hRx hxS hnE hc
  go_enter Tryz.func73, Tryz.ntmps73
  go_upto_region 1 with fail
  obtain ⟨B1, B2⟩ := (Kept.refl ((w.alloc (.cells #[.slice AE nE cE, .slice AT nT cT, .slice (some ⟨b, off, none⟩) nS cS] 26)).alloc (.cells #[.slice none 0 0, .slice none 0 0, .slice none 0 0, .slice none 0 0, .slice none 0 0, .bool false] 137))).blk2
  have KK := K0.out
  generalize (w.alloc (.cells #[.slice AE nE cE, .slice AT nT cT, .slice (some ⟨b, off, none⟩) nS cS] 26)).alloc (.cells #[.slice none 0 0, .slice none 0 0, .slice none 0 0, .slice none 0 0, .slice none 0 0, .bool false] 137) = W at *
  have c1 := B1.cell
  have l1 := B1.lt
  have y0 := KK.cell (p := ⟨b, _, none⟩) hb t0
  have y1 := KK.cell (p := ⟨b, _, none⟩) hb t1
  have y2 := KK.cell (p := ⟨b, _, none⟩) hb t2
  have y3 := KK.cell (p := ⟨b, _, none⟩) hb t3
  have y4 := KK.cell (p := ⟨b, _, none⟩) hb t4
  have hbW := Nat.lt_of_lt_of_le hb KK.size
  go_upto_region 4 with fail
  have B3 := Blk.new W 54 #[.string nm, .int .i64 mm, .slice AI nI cI, .slice AD nD cD, .slice AR nR cR]
  have C1 := B1.alloc (.cells #[.string nm, .int .i64 mm, .slice AI nI cI, .slice AD nD cD, .slice AR nR cR] 54)
  have C2 := B2.alloc (.cells #[.string nm, .int .i64 mm, .slice AI nI cI, .slice AD nD cD, .slice AR nR cR] 54)
  have K3 := KK.alloc (.cells #[.string nm, .int .i64 mm, .slice AI nI cI, .slice AD nD cD, .slice AR nR cR] 54)
  have hg5 : w.heap.size + 1 < W.heap.size := B2.lt
  clear c1 l1 y0 y1 y2 y3 y4 B1 B2 KK
  generalize W.alloc (.cells #[.string nm, .int .i64 mm, .slice AI nI cI, .slice AD nD cD, .slice AR nR cR] 54) = V at *
  generalize W.heap.size = g5 at *
  have HK3 := Lib.hid K3
  have HC1 := Lib.hid C1
  have HC2 := Lib.hid C2
  have HC3 := Lib.hid B3
  have hgV := B3.lt
  go_cut [6] (fun t wx => ∃ (g : Nat) (A1 A2 : Option Addr) (d1 d2 : Nat), t = .pointer (some ⟨g, 0, none⟩) ∧ Kept V wx ∧ V.heap.size ≤ g ∧ Blk wx g 137 #[.slice AE nE cE, .slice AT nT cT, .slice A1 nI d1, .slice A2 nD d2, .slice none 0 0, .bool false] ∧ SlZ wx 2 TyP (.slice A1 nI d1) ∧ SlZ wx 2 TyP (.slice A2 nD d2) ∧ Fr V.heap.size g nI A1 ∧ Fr V.heap.size g nD A2)
  case first =>
    have HALL := Lib.hid (show ∀ X, Kept V X → (Kept V X ∧ X.cell? ⟨w.heap.size, 0, none⟩ = some (.slice AE nE cE) ∧ X.cell? ⟨w.heap.size, 1, none⟩ = some (.slice AT nT cT) ∧ X.cell? ⟨g5, 2, none⟩ = some (.slice AI nI cI) ∧ X.cell? ⟨g5, 3, none⟩ = some (.slice AD nD cD)) from fun X h => ⟨h, (C1.kept h).cell 0, (C1.kept h).cell 1, (B3.kept h).cell 2, (B3.kept h).cell 3⟩)
    obtain ⟨-, z0, z1, z2, z3⟩ := HALL.out V (Kept.refl _)
    clear C1 C2 B3 K3
    go_region_held3 (fun X => Kept V X ∧ X.cell? ⟨w.heap.size, 0, none⟩ = some (.slice AE nE cE) ∧ X.cell? ⟨w.heap.size, 1, none⟩ = some (.slice AT nT cT) ∧ X.cell? ⟨g5, 2, none⟩ = some (.slice AI nI cI) ∧ X.cell? ⟨g5, 3, none⟩ = some (.slice AD nD cD))
      ((refine HALL.out _ ?_; (repeat (first | with_reducible exact Kept.refl _ | with_reducible assumption | with_reducible refine Kept.drew ?_ | with_reducible refine Kept.alloc ?_ _ | with_reducible refine Kept.setCell ?_ (by simp only; omega) _ | with_reducible refine Kept.trans ?_ ‹Kept _ _›))))
      ((first
        | (go_at_call_of 94 (Value.slice AI nI cI); refine (HFI.out _ (HK3.out.trans ?_)).mono ?_; (· (repeat (first | with_reducible exact Kept.refl _ | with_reducible assumption | with_reducible refine Kept.drew ?_ | with_reducible refine Kept.alloc ?_ _ | with_reducible refine Kept.setCell ?_ (by simp only; omega) _ | with_reducible refine Kept.trans ?_ ‹Kept _ _›))); rintro e w4 ⟨A1, d1, rfl, hz1, hf1, k4⟩; have KV4 : Kept V w4 := (by (repeat (first | with_reducible exact Kept.refl _ | with_reducible assumption | with_reducible refine Kept.drew ?_ | with_reducible refine Kept.alloc ?_ _ | with_reducible refine Kept.setCell ?_ (by simp only; omega) _ | with_reducible refine Kept.trans ?_ ‹Kept _ _›))); have s4 := KV4.size; (try (have M4 := (Blk.drew (Blk.new _ 137 #[.slice none 0 0, .slice none 0 0, .slice none 0 0, .slice none 0 0, .slice none 0 0, .bool false])).kept k4; have m4c := M4.cell; have m4l := M4.lt; have m4f := M4.frozen)))
        | (go_at_call_of 94 (Value.slice AD nD cD); refine (HFD.out _ (HK3.out.trans ?_)).mono ?_; (· (repeat (first | with_reducible exact Kept.refl _ | with_reducible assumption | with_reducible refine Kept.drew ?_ | with_reducible refine Kept.alloc ?_ _ | with_reducible refine Kept.setCell ?_ (by simp only; omega) _ | with_reducible refine Kept.trans ?_ ‹Kept _ _›))); rintro e w5 ⟨A2, d2, rfl, hz2, hf2, k5⟩; have KV5 : Kept V w5 := (by (repeat (first | with_reducible exact Kept.refl _ | with_reducible assumption | with_reducible refine Kept.drew ?_ | with_reducible refine Kept.alloc ?_ _ | with_reducible refine Kept.setCell ?_ (by simp only; omega) _ | with_reducible refine Kept.trans ?_ ‹Kept _ _›))); have s5 := KV5.size; (try (have M5 := (Blk.new _ 137 #[.slice none 0 0, .slice none 0 0, .slice none 0 0, .slice none 0 0, .slice none 0 0, .bool false]).kept k5; have m5c := M5.cell; have m5l := M5.lt; have m5f := M5.frozen)); (try (have M5 := M4.kept k5; have m5c := M5.cell; have m5l := M5.lt; have m5f := M5.frozen)))))
    · rename_i hHeld
      clear hHeld
      go_wp2_with fail
      go_meet
      refine ⟨w5.heap.size, A1, A2, d1, d2, rfl, KV5.alloc _, s5, Blk.new _ _ _, ?_, ?_, ?_, ?_⟩
      · exact SlZ.kept TyP.kept hz1 (k5.alloc _)
      · exact SlZ.kept TyP.kept hz2 ((Kept.refl _).alloc _)
      · intro hp b off hA
        have h1 := hf1 hp b off hA
        have h2 := hz1.lt hp b off hA
        have h3 := k5.size
        simp at h1
        omega
      · intro hp b off hA
        have h1 := hf2 hp b off hA
        have h2 := hz2.lt hp b off hA
        omega
    · rename_i hHeld
      clear hHeld
      go_wp2_with fail
      go_meet
      refine ⟨w4.heap.size, A1, A2, d1, d2, rfl, ?_, s4, ?_, ?_, ?_, ?_, ?_⟩
      · repeat refine Kept.setCell ?_ (by simp only; omega) _
        exact KV5
      · have := (((((M5.set_ 0 (.slice AE nE cE)).set_ 1 (.slice AT nT cT)).set_ 2 (.slice A1 nI d1)).set_ 3 (.slice A2 nD d2)).set_ 4 (.slice none 0 0)).set_ 5 (.bool false)
        simpa using this
      · repeat refine SlZ.setc ?_ (fun hp b off hA => by have := hz1.lt hp b off hA; omega)
        exact SlZ.kept TyP.kept hz1 (Kept.trans ((Kept.refl w4).alloc _) k5)
      · repeat refine SlZ.setc ?_ (fun hp b off hA => by have := hf2 hp b off hA; simp at this; omega)
        exact hz2
      · intro hp b off hA
        have h1 := hf1 hp b off hA
        have h2 := hz1.lt hp b off hA
        simp at h1
        omega
      · intro hp b off hA
        have h1 := hf2 hp b off hA
        simp at h1
        omega
    · rename_i hHeld
      clear hHeld
      have hq4 : V.heap.size < w4.heap.size := M4.lt
      go_wp2_with fail
      go_meet
      refine ⟨V.heap.size, A1, A2, d1, d2, rfl, ?_, Nat.le_refl _, ?_, ?_, ?_, ?_, ?_⟩
      · repeat refine Kept.setCell ?_ (by simp only; omega) _
        exact KV5
      · have := (((((M5.set_ 0 (.slice AE nE cE)).set_ 1 (.slice AT nT cT)).set_ 2 (.slice A1 nI d1)).set_ 3 (.slice A2 nD d2)).set_ 4 (.slice none 0 0)).set_ 5 (.bool false)
        simpa using this
      · repeat refine SlZ.setc ?_ (fun hp b off hA => by have := hf1 hp b off hA; simp at this; omega)
        exact SlZ.kept TyP.kept hz1 k5
      · repeat refine SlZ.setc ?_ (fun hp b off hA => by have := hf2 hp b off hA; omega)
        exact hz2
      · intro hp b off hA
        have h1 := hf1 hp b off hA
        simp at h1
        omega
      · intro hp b off hA
        have h1 := hf2 hp b off hA
        omega
  case rest =>
    obtain ⟨g, A1, A2, d1, d2, rfl, kc, hge, BG, z1, z2, hf1, hf2⟩ := hcut
    have C1 := HC1.out.kept kc
    have C2 := HC2.out.kept kc
    have C3 := HC3.out.kept kc
    have KC := HK3.out.trans kc
    have HKC := Lib.hid KC
    have HF1 := Lib.hid hf1
    have HF2 := Lib.hid hf2
    have HZ1 := Lib.hid z1
    have HZ2 := Lib.hid z2
    have c1 := C1.cell
    have l1 := C1.lt
    have c3 := C3.cell
    have l3 := C3.lt
    clear z1 z2 hf1 hf2 B3 K3
    by_cases hm : 0 ≤ mm ∧ mm < nS
    · obtain ⟨hm0, hm1⟩ := hm
      obtain ⟨M, rfl⟩ : ∃ M : Nat, mm = M := ⟨mm.toNat, by omega⟩
      have hMS : M < nS := by omega
      obtain ⟨-, -, -, ⟨_, u3, ⟨AX, nX, cX, rfl, hXc, hXn, hXx⟩⟩, -⟩ := HC.out M hMS
      have x3 := KC.cell (p := ⟨b, _, none⟩) hb u3
      have hbC := Nat.lt_of_lt_of_le hb KC.size
      have HFX := Lib.hid (fun w1 (h : Kept w w1) => rfieldTypes_any _ AX nX cX w1 rfl (SlZ.kept FdP.kept ⟨AX, nX, cX, rfl, hXc, hXn, hXx⟩ h))
      unfold tysPost at HFX
      clear hXx u3 t0 t1 t2 t3 t4
      have cg := BG.cell
      have lg := BG.lt
      have fg := BG.frozen
      go_upto_region 8 with (go_at_call 94; refine (HFX.out _ KC).mono ?_; rintro e w6 ⟨A3, d3, rfl, z3, hf3, k6⟩; have G6 := BG.kept k6; have g6c := G6.cell; have g6l := G6.lt; have g6f := G6.frozen)
      have G7 : Blk _ g 137 #[.slice AE nE cE, .slice AT nT cT, .slice A1 nI d1, .slice A2 nD d2, .slice A3 nX d3, .bool true] := (G6.set_ 4 (.slice A3 nX d3)).set_ 5 (.bool true)
      have R7 := ((C2.kept k6).far (p := ⟨g, 4, none⟩) (by simp only; omega) (.slice A3 nX d3)).far (p := ⟨g, 5, none⟩) (by simp only; omega) (.bool true)
      have K7 : Kept w ((w6.setCell ⟨g, 4, none⟩ (.slice A3 nX d3)).setCell ⟨g, 5, none⟩ (.bool true)) := by
        repeat refine Kept.setCell ?_ (by simp only; omega) _
        exact KC.trans k6
      have HF3 := Lib.hid (show 0 < nX → ∀ b off, A3 = some ⟨b, off, none⟩ → w.heap.size + 1 < b ∧ b ≠ g from fun hp b off hA => by
        have := hf3 hp b off hA
        omega)
      have Y1 : SlZ ((w6.setCell ⟨g, 4, none⟩ (.slice A3 nX d3)).setCell ⟨g, 5, none⟩ (.bool true)) 2 TyP (.slice A1 nI d1) := by
        repeat refine SlZ.setc ?_ (fun hp b off hA => by have := HF1.out hp b off hA; omega)
        exact SlZ.kept TyP.kept HZ1.out k6
      have Y2 : SlZ ((w6.setCell ⟨g, 4, none⟩ (.slice A3 nX d3)).setCell ⟨g, 5, none⟩ (.bool true)) 2 TyP (.slice A2 nD d2) := by
        repeat refine SlZ.setc ?_ (fun hp b off hA => by have := HF2.out hp b off hA; omega)
        exact SlZ.kept TyP.kept HZ2.out k6
      have Y3 : SlZ ((w6.setCell ⟨g, 4, none⟩ (.slice A3 nX d3)).setCell ⟨g, 5, none⟩ (.bool true)) 2 TyP (.slice A3 nX d3) := by
        repeat refine SlZ.setc ?_ (fun hp b off hA => by have := HF3.out hp b off hA; omega)
        exact z3
      clear c1 c3 l1 l3 cg lg fg g6c g6l g6f G6 BG C1 C2 C3 k6 z3 hf3 x3
      generalize (w6.setCell ⟨g, 4, none⟩ (.slice A3 nX d3)).setCell ⟨g, 5, none⟩ (.bool true) = W7 at *
      have g7c := G7.cell
      have g7l := G7.lt
      have r7c := R7.cell
      have r7l := R7.lt
      have r7f := R7.frozen
      go_wp2_with fail
      have BW := (((((R7.set_ 0 (.slice AE nE cE)).set_ 1 (.slice AT nT cT)).set_ 2 (.slice A1 nI d1)).set_ 3 (.slice A2 nD d2)).set_ 4 (.slice A3 nX d3)).set_ 5 (.bool true)
      have KF : Kept w ((((((W7.setCell ⟨w.heap.size + 1, 0, none⟩ (.slice AE nE cE)).setCell ⟨w.heap.size + 1, 1, none⟩ (.slice AT nT cT)).setCell ⟨w.heap.size + 1, 2, none⟩ (.slice A1 nI d1)).setCell ⟨w.heap.size + 1, 3, none⟩ (.slice A2 nD d2)).setCell ⟨w.heap.size + 1, 4, none⟩ (.slice A3 nX d3)).setCell ⟨w.heap.size + 1, 5, none⟩ (.bool true)) := by
        repeat refine Kept.setCell ?_ (by simp only; omega) _
        exact K7
      have Z1 : SlZ ((((((W7.setCell ⟨w.heap.size + 1, 0, none⟩ (.slice AE nE cE)).setCell ⟨w.heap.size + 1, 1, none⟩ (.slice AT nT cT)).setCell ⟨w.heap.size + 1, 2, none⟩ (.slice A1 nI d1)).setCell ⟨w.heap.size + 1, 3, none⟩ (.slice A2 nD d2)).setCell ⟨w.heap.size + 1, 4, none⟩ (.slice A3 nX d3)).setCell ⟨w.heap.size + 1, 5, none⟩ (.bool true)) 2 TyP (.slice A1 nI d1) := by
        repeat refine SlZ.setc ?_ (fun hp b off hA => by have := HF1.out hp b off hA; omega)
        exact Y1
      have Z2 : SlZ ((((((W7.setCell ⟨w.heap.size + 1, 0, none⟩ (.slice AE nE cE)).setCell ⟨w.heap.size + 1, 1, none⟩ (.slice AT nT cT)).setCell ⟨w.heap.size + 1, 2, none⟩ (.slice A1 nI d1)).setCell ⟨w.heap.size + 1, 3, none⟩ (.slice A2 nD d2)).setCell ⟨w.heap.size + 1, 4, none⟩ (.slice A3 nX d3)).setCell ⟨w.heap.size + 1, 5, none⟩ (.bool true)) 2 TyP (.slice A2 nD d2) := by
        repeat refine SlZ.setc ?_ (fun hp b off hA => by have := HF2.out hp b off hA; omega)
        exact Y2
      have Z3 : SlZ ((((((W7.setCell ⟨w.heap.size + 1, 0, none⟩ (.slice AE nE cE)).setCell ⟨w.heap.size + 1, 1, none⟩ (.slice AT nT cT)).setCell ⟨w.heap.size + 1, 2, none⟩ (.slice A1 nI d1)).setCell ⟨w.heap.size + 1, 3, none⟩ (.slice A2 nD d2)).setCell ⟨w.heap.size + 1, 4, none⟩ (.slice A3 nX d3)).setCell ⟨w.heap.size + 1, 5, none⟩ (.bool true)) 2 TyP (.slice A3 nX d3) := by
        repeat refine SlZ.setc ?_ (fun hp b off hA => by have := HF3.out hp b off hA; omega)
        exact Y3
      generalize (((((W7.setCell ⟨w.heap.size + 1, 0, none⟩ (.slice AE nE cE)).setCell ⟨w.heap.size + 1, 1, none⟩ (.slice AT nT cT)).setCell ⟨w.heap.size + 1, 2, none⟩ (.slice A1 nI d1)).setCell ⟨w.heap.size + 1, 3, none⟩ (.slice A2 nD d2)).setCell ⟨w.heap.size + 1, 4, none⟩ (.slice A3 nX d3)).setCell ⟨w.heap.size + 1, 5, none⟩ (.bool true) = WW at *
      have bw := BW.cell
      exact bodyPost_ret (v := .agg #[.slice AE nE cE, .slice AT nT cT, .slice A1 nI d1, .slice A2 nD d2, .slice A3 nX d3, .bool true]) (by simp [results, Tryz.results73, go_sem, bw]) rfl (sig_mk HNE.out (HE.out _ KF) (HT.out _ KF) Z1 Z2 Z3 KF)
    · have hme : mm < 0 ∨ (0 ≤ mm ∧ ¬ mm < nS) := by omega
      have r7c := C2.cell
      have r7l := C2.lt
      have r7f := C2.frozen
      have cg := BG.cell
      have lg := BG.lt
      have R7 := C2
      have Y1 := HZ1.out
      have Y2 := HZ2.out
      have Y3 := slZ_none wc 2 TyP
      have K7 := KC
      have HF3 := Lib.hid (show 0 < 0 → ∀ b off, (none : Option Addr) = some ⟨b, off, none⟩ → w.heap.size + 1 < b ∧ b ≠ g from fun hp => absurd hp (by omega))
      generalize hwc : wc = W7 at *
      clear hwc
      clear hm t0 t1 t2 t3 t4 C1 C2 C3 KC
      rcases hme with hm | ⟨hm0, hm1⟩
      all_goals
        go_wp2_with fail
        have BW := (((((R7.set_ 0 (.slice AE nE cE)).set_ 1 (.slice AT nT cT)).set_ 2 (.slice A1 nI d1)).set_ 3 (.slice A2 nD d2)).set_ 4 (.slice none 0 0)).set_ 5 (.bool false)
        have KF : Kept w ((((((W7.setCell ⟨w.heap.size + 1, 0, none⟩ (.slice AE nE cE)).setCell ⟨w.heap.size + 1, 1, none⟩ (.slice AT nT cT)).setCell ⟨w.heap.size + 1, 2, none⟩ (.slice A1 nI d1)).setCell ⟨w.heap.size + 1, 3, none⟩ (.slice A2 nD d2)).setCell ⟨w.heap.size + 1, 4, none⟩ (.slice none 0 0)).setCell ⟨w.heap.size + 1, 5, none⟩ (.bool false)) := by
          repeat refine Kept.setCell ?_ (by simp only; omega) _
          exact K7
        have Z1 : SlZ ((((((W7.setCell ⟨w.heap.size + 1, 0, none⟩ (.slice AE nE cE)).setCell ⟨w.heap.size + 1, 1, none⟩ (.slice AT nT cT)).setCell ⟨w.heap.size + 1, 2, none⟩ (.slice A1 nI d1)).setCell ⟨w.heap.size + 1, 3, none⟩ (.slice A2 nD d2)).setCell ⟨w.heap.size + 1, 4, none⟩ (.slice none 0 0)).setCell ⟨w.heap.size + 1, 5, none⟩ (.bool false)) 2 TyP (.slice A1 nI d1) := by
          repeat refine SlZ.setc ?_ (fun hp b off hA => by have := HF1.out hp b off hA; omega)
          exact Y1
        have Z2 : SlZ ((((((W7.setCell ⟨w.heap.size + 1, 0, none⟩ (.slice AE nE cE)).setCell ⟨w.heap.size + 1, 1, none⟩ (.slice AT nT cT)).setCell ⟨w.heap.size + 1, 2, none⟩ (.slice A1 nI d1)).setCell ⟨w.heap.size + 1, 3, none⟩ (.slice A2 nD d2)).setCell ⟨w.heap.size + 1, 4, none⟩ (.slice none 0 0)).setCell ⟨w.heap.size + 1, 5, none⟩ (.bool false)) 2 TyP (.slice A2 nD d2) := by
          repeat refine SlZ.setc ?_ (fun hp b off hA => by have := HF2.out hp b off hA; omega)
          exact Y2
        have Z3 : SlZ ((((((W7.setCell ⟨w.heap.size + 1, 0, none⟩ (.slice AE nE cE)).setCell ⟨w.heap.size + 1, 1, none⟩ (.slice AT nT cT)).setCell ⟨w.heap.size + 1, 2, none⟩ (.slice A1 nI d1)).setCell ⟨w.heap.size + 1, 3, none⟩ (.slice A2 nD d2)).setCell ⟨w.heap.size + 1, 4, none⟩ (.slice none 0 0)).setCell ⟨w.heap.size + 1, 5, none⟩ (.bool false)) 2 TyP (.slice none 0 0) := by
          repeat refine SlZ.setc ?_ (fun hp b off hA => by have := HF3.out hp b off hA; omega)
          exact Y3
        generalize (((((W7.setCell ⟨w.heap.size + 1, 0, none⟩ (.slice AE nE cE)).setCell ⟨w.heap.size + 1, 1, none⟩ (.slice AT nT cT)).setCell ⟨w.heap.size + 1, 2, none⟩ (.slice A1 nI d1)).setCell ⟨w.heap.size + 1, 3, none⟩ (.slice A2 nD d2)).setCell ⟨w.heap.size + 1, 4, none⟩ (.slice none 0 0)).setCell ⟨w.heap.size + 1, 5, none⟩ (.bool false) = WW at *
        have bw := BW.cell
        exact bodyPost_ret (v := .agg #[.slice AE nE cE, .slice AT nT cT, .slice A1 nI d1, .slice A2 nD d2, .slice none 0 0, .bool false]) (by simp [results, Tryz.results73, go_sem, bw]) rfl (sig_mk HNE.out (HE.out _ KF) (HT.out _ KF) Z1 Z2 Z3 KF)
end Go.Proofs.YtjeifmjcgemlgaaGreatDoor
