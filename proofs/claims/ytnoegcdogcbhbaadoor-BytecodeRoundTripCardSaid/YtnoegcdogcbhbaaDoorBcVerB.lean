/- What step of package bytecode computes. -/
import Derived.Test.YtnoegcdogcbhbaaDoorBcM1
namespace Go.Proofs.YtnoegcdogcbhbaaDoor
open Go.RowKit

def stepPost (g : Nat) (w : World) (R : List Int × Int) (r : Ending) (w' : World) : Prop := r = .returned (.int .i64 R.2) ∧ Blk w' g 3 (intC R.1) ∧ w.grownBy w' (some g)
theorem reach_code (ds : List Int) (a : Nat) (d : Int) : (reachS ds a d).2 = 0 ∨ (reachS ds a d).2 = 9 := by
  unfold reachS
  split
  · exact .inr rfl
  · exact .inl rfl
theorem reach_n (ds : List Int) (a : Nat) (d : Int) {n : Nat} (h : ds.length = n) : (reachS ds a d).1.length = n := by rw [reach_len, h]

set_option maxRecDepth 100000 in
set_option maxHeartbeats 8000000 in
theorem step_any (vb g len cap : Nat) (A : Option Addr) (ds : List Int) (x : Nd) (i : Nat) (w : World) (hv : w.cell? ⟨vb, 0, none⟩ = some (.slice (some ⟨g, 0, none⟩) (len + 1) (len + 1))) (hvb : vb < w.heap.size) (hvg : vb ≠ g) (hn : ds.length = len + 1)
    (hB : Blk w g 3 (intC ds)) (hi : i < len) (hm : len ≤ 1000) (h0 : 0 ≤ ds[i]?.getD 0) (h12 : ds[i]?.getD 0 ≤ 12) :
    Calls Tryd.prog 34 #[.pointer (some ⟨vb, 0, none⟩), .slice A len cap, .int .i64 i, .agg #[.int .i64 x.o, .int .i64 x.n]] w (stepPost g w (stepC len x i ds)) := by
  obtain ⟨op, N⟩ := x
  have hx : ds[i]? = some (ds[i]'(by omega)) := List.getElem?_eq_getElem (by omega)
  generalize ds[i]'(by omega) = d at *
  rw [hx, Option.getD_some] at h0 h12
  have HS : stepC len ⟨op, N⟩ i ds = (if arC op < 0 ∨ (jmpB op = true ∧ (N ≤ i ∨ (len : Int) < N)) then (ds, 2)
      else if d < arC op then (ds, 5)
      else if op = 51 then reachS ds N.toNat d
      else if jmpB op then (if (reachS ds (i + 1) (d - 1)).2 = 0 then reachS (reachS ds (i + 1) (d - 1)).1 N.toNat (if op = 50 then d - 1 else d) else reachS ds (i + 1) (d - 1))
      else if 12 < d - arC op + 1 then (ds, 16) else reachS ds (i + 1) (d - arC op + 1)) := by
    unfold stepC
    rw [hx]
    rfl
  have HIN := Lib.hid (fun w => instr_any op w)
  have HJ := Lib.hid (fun w => jmp_any op w)
  have HAR := Lib.hid (fun w => arity_any op w)
  have hw1 : w.heap.size < (w.alloc (.cells #[.int .i64 op, .int .i64 N] 34)).heap.size := by simp
  have K1 := (Kept.refl w).alloc (.cells #[.int .i64 op, .int .i64 N] 34)
  have B1 := hB.alloc (.cells #[.int .i64 op, .int .i64 N] 34)
  have V1 := K1.cell (p := ⟨vb, 0, none⟩) hvb hv
  have c1 : (w.alloc (.cells #[.int .i64 op, .int .i64 N] 34)).cell? ⟨g, i, none⟩ = some (.int .i64 d) := by rw [B1.cell]; exact intC_get hx
  have P := Blk.new w 34 #[.int .i64 op, .int .i64 N]
  have hgl := hB.lt
  have hRE := fun (a : Nat) (z : Int) (ha : a < len + 1) => reach_any vb g (len + 1) ds a z _ V1 hn B1 ha
  -- a second noting, behind the first
  have hRE2 := fun (a a2 : Nat) (z z2 : Int) (w2 : World) (ha2 : a2 < len + 1) (hb : Blk w2 g 3 (intC (reachS ds a z).1)) (hg : (w.alloc (.cells #[.int .i64 op, .int .i64 N] 34)).grownBy w2 (some g)) =>
    reach_any vb g (len + 1) (reachS ds a z).1 a2 z2 w2 (grownBy_cell hg (by omega) hvg V1) (reach_n ds a z hn) hb ha2
  have hP2 : ∀ w2 : World, (w.alloc (.cells #[.int .i64 op, .int .i64 N] 34)).grownBy w2 (some g) → w2.cell? ⟨w.heap.size, 0, none⟩ = some (.int .i64 op) ∧ w2.cell? ⟨w.heap.size, 1, none⟩ = some (.int .i64 N) := fun w2 h =>
    ⟨grownBy_cell h hw1 (by omega) (P.cell 0), grownBy_cell h hw1 (by omega) (P.cell 1)⟩
  have hG1 : w.grownBy (w.alloc (.cells #[.int .i64 op, .int .i64 N] 34)) (some g) := grownBy_kept K1 _
  have HRE := Lib.hid hRE
  have HRE2 := Lib.hid hRE2
  have HP2 := Lib.hid hP2
  have HG1 := Lib.hid hG1
  have HB1 := Lib.hid B1
  have HN := Lib.hid hn
  clear hRE hRE2 hP2 hG1 B1 hn hB hx K1 P hv
  have hdi : (i : Int) < len := by omega
  have hdi2 : (i : Int) < (len : Int) + 1 := by omega
  have hi1 : (i : Int) ≤ 1000 := by omega
  by_cases ha : arC op < 0
  · have HR := Lib.hid (HS.trans (if_pos (.inl ha)))
    rw [show decide (0 ≤ arC op) = false from by simp; omega] at HIN
    clear HS ha HRE HRE2 HP2 HAR HJ
    unfold stepPost
    rw [HR.out]
    clear HR
    go_enter Tryd.func34, Tryd.ntmps34
    go_wp2_with (go_at_call 69; refine (HIN.out _).mono ?_; rintro e w' ⟨rfl, rfl⟩)
    go_ret
    exact ⟨rfl, HB1.out, HG1.out⟩
  · rw [show decide (0 ≤ arC op) = true from by simp; omega] at HIN
    cases hj : jmpB op
    · rw [hj] at HS HJ
      have h51 : op ≠ 51 := by have := jmpB_no.1 hj; omega
      have hn3 : op ≠ 23 ∧ op ≠ 24 ∧ op ≠ 26 := by
        refine ⟨fun h => ?_, fun h => ?_, fun h => ?_⟩ <;> · rw [h] at ha; exact absurd ha (by decide)
      have har := arC_oth hj hn3.1 hn3.2.1 hn3.2.2
      rw [← har] at HAR
      have hab := (arS_bd op).2
      rw [← har] at hab
      have q50 := beq_noB (show op ≠ 50 by have := jmpB_no.1 hj; omega)
      have q51 := beq_noB h51
      have q52 := beq_noB (show op ≠ 52 by have := jmpB_no.1 hj; omega)
      have q53 := beq_noB (show op ≠ 53 by have := jmpB_no.1 hj; omega)
      rw [if_neg (fun h => h.elim ha (fun h => by cases h.1)), if_neg h51, if_neg (show ¬ (false = true) by decide)] at HS
      clear har hn3 hj h51 HRE2 HP2
      generalize arC op = a at *
      by_cases hd : d < a
      · rw [if_pos hd] at HS
        have HR := Lib.hid HS
        clear HS HRE
        unfold stepPost
        rw [HR.out]
        clear HR
        go_enter Tryd.func34, Tryd.ntmps34
        go_wp2_with (first
          | (go_at_call 69; refine (HIN.out _).mono ?_; rintro e w' ⟨rfl, rfl⟩)
          | (go_at_call 70; refine (HJ.out _).mono ?_; rintro e w' ⟨rfl, rfl⟩)
          | (go_at_call 72; refine (HAR.out _).mono ?_; rintro e w' ⟨rfl, rfl⟩))
        go_ret
        exact ⟨rfl, HB1.out, HG1.out⟩
      · rw [if_neg hd] at HS
        by_cases hdd : 12 < d - a + 1
        · rw [if_pos hdd] at HS
          have HR := Lib.hid HS
          clear HS HRE
          unfold stepPost
          rw [HR.out]
          clear HR
          go_enter Tryd.func34, Tryd.ntmps34
          go_wp2_with (first
            | (go_at_call 69; refine (HIN.out _).mono ?_; rintro e w' ⟨rfl, rfl⟩)
            | (go_at_call 70; refine (HJ.out _).mono ?_; rintro e w' ⟨rfl, rfl⟩)
            | (go_at_call 72; refine (HAR.out _).mono ?_; rintro e w' ⟨rfl, rfl⟩))
          go_ret
          exact ⟨rfl, HB1.out, HG1.out⟩
        · rw [if_neg hdd] at HS
          have HR := Lib.hid HS
          have HRR := Lib.hid (HRE.out (i + 1) (d - a + 1) (by omega))
          clear HS HRE
          unfold stepPost
          rw [HR.out]
          clear HR
          go_enter Tryd.func34, Tryd.ntmps34
          go_wp2_with (first
            | (go_at_call 69; refine (HIN.out _).mono ?_; rintro e w' ⟨rfl, rfl⟩)
            | (go_at_call 70; refine (HJ.out _).mono ?_; rintro e w' ⟨rfl, rfl⟩)
            | (go_at_call 72; refine (HAR.out _).mono ?_; rintro e w' ⟨rfl, rfl⟩)
            | (go_at_call 71; refine HRR.out.mono ?_; rintro e w2 ⟨rfl, b2, g2⟩))
          go_ret
          exact ⟨rfl, b2, grownBy_trans HG1.out g2⟩
    · have hjj := jmpB_iff.1 hj
      rw [hj] at HS HJ
      by_cases hN : N ≤ i ∨ (len : Int) < N
      · rw [if_pos (.inr ⟨rfl, hN⟩)] at HS
        have HR := Lib.hid HS
        clear HS HRE HRE2 HP2 HAR hj
        unfold stepPost
        rw [HR.out]
        clear HR
        by_cases hN1 : N ≤ i
        · clear hN
          go_enter Tryd.func34, Tryd.ntmps34
          go_wp2_with (first
            | (go_at_call 69; refine (HIN.out _).mono ?_; rintro e w' ⟨rfl, rfl⟩)
            | (go_at_call 70; refine (HJ.out _).mono ?_; rintro e w' ⟨rfl, rfl⟩))
          go_ret
          exact ⟨rfl, HB1.out, HG1.out⟩
        · have hN2 : (len : Int) < N := by omega
          clear hN
          go_enter Tryd.func34, Tryd.ntmps34
          go_wp2_with (first
            | (go_at_call 69; refine (HIN.out _).mono ?_; rintro e w' ⟨rfl, rfl⟩)
            | (go_at_call 70; refine (HJ.out _).mono ?_; rintro e w' ⟨rfl, rfl⟩))
          go_ret
          exact ⟨rfl, HB1.out, HG1.out⟩
      · obtain ⟨M, rfl⟩ : ∃ M : Nat, N = M := ⟨N.toNat, by omega⟩
        rw [if_neg (fun h => h.elim ha (fun h => hN h.2)), Int.toNat_natCast] at HS
        have hM1 : ¬ ((M : Int) ≤ i) := by omega
        have hM2 : ¬ ((len : Int) < M) := by omega
        clear hN
        by_cases h51 : op = 51
        · subst h51
          rw [show arC 51 = 0 from rfl, if_neg (by omega), if_pos rfl] at HS
          have HR := Lib.hid HS
          have HRR := Lib.hid (HRE.out M d (by omega))
          clear HS HRE HRE2 HP2 HAR hj ha
          unfold stepPost
          rw [HR.out]
          clear HR
          go_enter Tryd.func34, Tryd.ntmps34
          go_wp2_with (first
            | (go_at_call 69; refine (HIN.out _).mono ?_; rintro e w' ⟨rfl, rfl⟩)
            | (go_at_call 70; refine (HJ.out _).mono ?_; rintro e w' ⟨rfl, rfl⟩)
            | (go_at_call 71; refine HRR.out.mono ?_; rintro e w2 ⟨rfl, b2, g2⟩))
          go_ret
          exact ⟨rfl, b2, grownBy_trans HG1.out g2⟩
        · have hac : arC op = 1 := by rw [arC_jmp hj, if_neg h51]
          rw [hac, if_neg h51, if_pos rfl] at HS
          have hoo : op = 50 ∨ op = 52 ∨ op = 53 := by omega
          clear hj ha h51 hac hjj HAR
          by_cases hd : d < 1
          · rw [if_pos hd] at HS
            have HR := Lib.hid HS
            clear HS HRE HRE2 HP2
            unfold stepPost
            rw [HR.out]
            clear HR
            rcases hoo with rfl | rfl | rfl
            all_goals
              go_enter Tryd.func34, Tryd.ntmps34
              go_wp2_with (first
                | (go_at_call 69; refine (HIN.out _).mono ?_; rintro e w' ⟨rfl, rfl⟩)
                | (go_at_call 70; refine (HJ.out _).mono ?_; rintro e w' ⟨rfl, rfl⟩))
              go_ret
              exact ⟨rfl, HB1.out, HG1.out⟩
          · rw [if_neg hd] at HS
            have HRR := Lib.hid (HRE.out (i + 1) (d - 1) (by omega))
            have HRR2 := Lib.hid (fun z => HRE2.out (i + 1) M (d - 1) z)
            obtain ⟨R, hR⟩ : ∃ R, R = reachS ds (i + 1) (d - 1) := ⟨_, rfl⟩
            have hRc := reach_code ds (i + 1) (d - 1)
            rw [← hR] at HS HRR HRR2 hRc
            obtain ⟨R1, R2⟩ := R
            dsimp only at HS HRR HRR2 hRc
            clear HRE HRE2 hR
            rcases hRc with rfl | rfl
            · rw [if_pos rfl] at HS
              rcases hoo with rfl | rfl | rfl
              · rw [if_pos rfl] at HS
                have HR := Lib.hid HS
                clear HS
                unfold stepPost
                rw [HR.out]
                clear HR
                go_enter Tryd.func34, Tryd.ntmps34
                go_wp2_with (first
                  | (go_at_call 69; refine (HIN.out _).mono ?_; rintro e w' ⟨rfl, rfl⟩)
                  | (go_at_call 70; refine (HJ.out _).mono ?_; rintro e w' ⟨rfl, rfl⟩))
                refine HRR.out.mono ?_
                rintro e w2 ⟨rfl, b2, g2⟩
                obtain ⟨p0, p1⟩ := HP2.out w2 g2
                go_wp2_with fail
                refine (HRR2.out _ w2 (by omega) b2 g2).mono ?_
                rintro e w3 ⟨rfl, b3, g3⟩
                go_wp2_with fail
                go_ret
                exact ⟨rfl, b3, grownBy_trans (grownBy_trans HG1.out g2) g3⟩
              all_goals
                rw [if_neg (by decide)] at HS
                have HR := Lib.hid HS
                clear HS
                unfold stepPost
                rw [HR.out]
                clear HR
                go_enter Tryd.func34, Tryd.ntmps34
                go_wp2_with (first
                  | (go_at_call 69; refine (HIN.out _).mono ?_; rintro e w' ⟨rfl, rfl⟩)
                  | (go_at_call 70; refine (HJ.out _).mono ?_; rintro e w' ⟨rfl, rfl⟩))
                refine HRR.out.mono ?_
                rintro e w2 ⟨rfl, b2, g2⟩
                obtain ⟨p0, p1⟩ := HP2.out w2 g2
                go_wp2_with fail
                refine (HRR2.out _ w2 (by omega) b2 g2).mono ?_
                rintro e w3 ⟨rfl, b3, g3⟩
                go_wp2_with fail
                go_ret
                exact ⟨rfl, b3, grownBy_trans (grownBy_trans HG1.out g2) g3⟩
            · rw [if_neg (by decide)] at HS
              have HR := Lib.hid HS
              clear HS HRR2
              unfold stepPost
              rw [HR.out]
              clear HR
              rcases hoo with rfl | rfl | rfl
              all_goals
                go_enter Tryd.func34, Tryd.ntmps34
                go_wp2_with (first
                  | (go_at_call 69; refine (HIN.out _).mono ?_; rintro e w' ⟨rfl, rfl⟩)
                  | (go_at_call 70; refine (HJ.out _).mono ?_; rintro e w' ⟨rfl, rfl⟩)
                  | (go_at_call 71; refine HRR.out.mono ?_; rintro e w2 ⟨rfl, b2, g2⟩))
                go_ret
                exact ⟨rfl, b2, grownBy_trans HG1.out g2⟩
end Go.Proofs.YtnoegcdogcbhbaaDoor
