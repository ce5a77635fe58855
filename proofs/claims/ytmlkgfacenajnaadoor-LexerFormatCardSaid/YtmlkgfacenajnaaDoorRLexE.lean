/- What written and Format of the reference of the lexer compute. (Printed by wip/genrlexe.py.) -/
import Derived.Test.YtmlkgfacenajnaaDoorLexJ
import Derived.Test.YtmlkgfacenajnaaDoorRLexD
namespace Go.Proofs.YtmlkgfacenajnaaDoor
open Go.RowKit

set_option maxRecDepth 100000 in
set_option maxHeartbeats 1000000 in
theorem rwritten_any (t : Tok) (hl : t.t.length ≤ 100000) (w : World) :
    Calls Tryd.prog 51 #[tokV t] w fun e w' => e = .returned (.string (bs (srcL t.k t.t))) ∧ Kept w w' := by
  obtain ⟨k, l, n, o⟩ := t
  dsimp only at hl ⊢
  have hsz : (bs l).size ≤ 100000 := by rw [bs_size]; exact hl
  by_cases h6 : k = 6
  · have HR := Lib.hid (show (⟨#[34]⟩ : ByteArray) ++ bs l ++ ⟨#[34]⟩ = bs (srcL k l) by rw [h6]; exact src_six l)
    have k6 : (k == 6) = true := by rw [beq_iff_eq]; exact h6
    clear h6 hl
    unfold tokV
    dsimp only
    generalize bs l = T at *
    go_enter Tryd.func51, Tryd.ntmps51
    go_wp2_with fail
    go_ret
    exact ⟨congrArg (fun x => Ending.returned (Value.string x)) HR.out, (Kept.refl _).alloc _⟩
  · have HR := Lib.hid (show bs l = bs (srcL k l) by rw [srcL_no h6])
    have k6 : (k == 6) = false := by rw [beq_eq_false_iff_ne]; exact h6
    clear h6 hl
    unfold tokV
    dsimp only
    generalize bs l = T at *
    go_enter Tryd.func51, Tryd.ntmps51
    go_wp2_with fail
    go_ret
    exact ⟨congrArg (fun x => Ending.returned (Value.string x)) HR.out, (Kept.refl _).alloc _⟩


set_option maxRecDepth 100000 in
set_option maxHeartbeats 8000000 in
theorem rformat08_any (v : Value) (xs : List Tok) (w : World) (hT : Toks w v xs) (hn : xs.length ≤ 4000) (hl : ∀ t, t ∈ xs → t.t.length ≤ 4000) :
    Calls Tryd.prog 20 #[v] w (fmtPost xs w) := by
  unfold fmtPost
  obtain ⟨A, cap, rfl, hA⟩ := hT.at_
  obtain ⟨n, hxn⟩ : ∃ n, n = xs.length := ⟨_, rfl⟩
  rw [← hxn] at hA hn ⊢
  have HX := Lib.hid hxn
  clear hxn hT
  go_enter Tryd.func20, Tryd.ntmps20
  go_wp2_with fail
  go_loopw [4, 5] (fun p z wr => ∃ i : Nat, i ≤ n ∧ z = .int .i64 i ∧ (xs.take i).all fmtB = true ∧ p = .string (bs (joinF none (xs.take i))) ∧ Kept w wr) (fun _ z _ => (n - intOf z).toNat)
  case atStart => exact ⟨0, Nat.zero_le _, rfl, rfl, rfl, Kept.refl _⟩
  case round =>
    obtain ⟨i, hin, rfl, hall, rfl, hK⟩ := hrel
    by_cases hi : i < n
    · obtain ⟨b1, o1, rfl, hb1, hc1⟩ := hA (by omega)
      have hg : xs[i]? = some (xs[i]'(by have := HX.out; omega)) := List.getElem?_eq_getElem _
      have hlx := hl _ (List.mem_of_getElem? hg)
      have hjl := joinF_le 4000 (xs.take i) none (fun t ht => hl t (List.mem_of_mem_take ht))
      have htl : (xs.take i).length ≤ 4000 := by rw [List.length_take]; omega
      have hjl2 : (joinF none (xs.take i)).length ≤ 16012000 := by have := Nat.mul_le_mul_right (4000 + 3) htl; omega
      obtain ⟨x0, x1, x2, x3⟩ := hc1 i _ hg
      have hprev : 0 < i → ∃ y : Tok, w.cell? ⟨b1, o1 + (i - 1) * 4, none⟩ = some (.int .i64 y.k) ∧ lastK none (xs.take i) = some y.k := fun h => by
        have hg2 : xs[i - 1]? = some (xs[i - 1]'(by have := HX.out; omega)) := List.getElem?_eq_getElem _
        exact ⟨_, (hc1 (i - 1) _ hg2).1, lastK_take h hg2⟩
      have hl0 : ¬ 0 < i → lastK none (xs.take i) = none := fun h => by
        obtain rfl : i = 0 := by omega
        rfl
      have HSN := Lib.hid (joinF_take hg)
      have HTA := Lib.hid (fun h => take_all hg h hall)
      have HBD := Lib.hid (fun h => fmtR_bad hg h)
      clear hc1 hjl htl hall
      generalize xs[i]'(by have := HX.out; omega) = T at *
      have hsrl := srcL_len T.k T.t
      have HS := Lib.hid (fun w => rwritten_any T (by omega) w)
      have HT := Lib.hid (fun w => rtokenize_any (bs (srcL T.k T.t)) (by rw [bs_size]; omega) w)
      rw [L_bs] at HT
      obtain ⟨⟨ys, a, c⟩, hr⟩ : ∃ p, tokR (srcL T.k T.t) = p := ⟨_, rfl⟩
      have HB := Lib.hid (fun hc => fmtB_bad hr hc)
      have HL := Lib.hid (fun hc => fmtB_len hr hc)
      have HO := Lib.hid (fun x (hx : ys = [x]) (hc : c = 0) => fmtB_one (t := T) (x := x) (a := a) (by rw [hr, hx, hc]))
      unfold tokPost at HT
      rw [hr] at HT
      clear hr hg
      obtain ⟨k, t, nn, o⟩ := T
      have hbq := bs_beq
      unfold tokV at HS
      dsimp only at HS HT HO HSN x0 x1 x2 x3 hlx hsrl
      have X0 := hK.cell (p := ⟨b1, _, none⟩) hb1 x0
      have X1 := hK.cell (p := ⟨b1, _, none⟩) hb1 x1
      have X2 := hK.cell (p := ⟨b1, _, none⟩) hb1 x2
      have X3 := hK.cell (p := ⟨b1, _, none⟩) hb1 x3
      clear hA
      have hii : (i : Int) < n := by omega
      have hPs : (bs (joinF none (xs.take i))).size ≤ 16012000 := by rw [bs_size]; exact hjl2
      have hSs : (bs (srcL k t)).size ≤ 5000 := by rw [bs_size]; omega
      generalize hP : bs (joinF none (xs.take i)) = P at *
      generalize hSR : bs (srcL k t) = SRC at *
      have HP := Lib.hid hP
      have HSRC := Lib.hid hSR
      clear hP hSR hjl2
      go_wp2_with fail
      refine (HS.out _).mono ?_
      rintro e w1 ⟨rfl, k1⟩
      go_wp2_with fail
      refine (HT.out _).mono ?_
      rintro e w2 ⟨v, rfl, hTT, k2⟩
      have hK2 := (hK.trans k1).trans k2
      clear X0 X1 X2 X3
      have hw1 := Nat.lt_of_lt_of_le hb1 hK2.size
      have r0 := KW.cell hw1 (hK2.cell (p := ⟨b1, _, none⟩) hb1 x0)
      have r1 := KW.cell hw1 (hK2.cell (p := ⟨b1, _, none⟩) hb1 x1)
      have r2 := KW.cell hw1 (hK2.cell (p := ⟨b1, _, none⟩) hb1 x2)
      obtain ⟨A2, cap2, rfl, hA2⟩ := hTT
      by_cases hc : c = 0
      · subst hc
        by_cases h1 : ys.length = 1
        · obtain ⟨x, rfl⟩ := List.length_eq_one_iff.1 h1
          have HR := Lib.hid (HO.out x rfl rfl)
          obtain ⟨b, off, rfl, hb, hcl⟩ := hA2 (by simp)
          obtain ⟨z0, z1, z2, z3⟩ := x
          have c0 := hcl 0 ⟨z0, z1, z2, z3⟩ rfl 0 _ rfl
          have c1 := hcl 0 ⟨z0, z1, z2, z3⟩ rfl 1 _ rfl
          have c2 := hcl 0 ⟨z0, z1, z2, z3⟩ rfl 2 _ rfl
          simp only [Nat.zero_mul, Nat.add_zero] at c0 c1 c2
          have q0 := KW.cell hb c0
          have q1 := KW.cell hb c1
          have q2 := KW.cell hb c2
          clear hcl hA2 c0 c1 c2 HO HL HB h1
          have HBQ := Lib.hid (hbq z1 t)
          clear hbq
          simp only [List.length_cons, List.length_nil] at *
          cases e0 : (z0 == k)
          · have HF := Lib.hid (HBD.out (show fmtB ⟨k, t, nn, o⟩ = false by rw [HR.out]; simp [beq_eq_false_iff_ne.1 e0]))
            have e0' : (z0 != k) = true := by rw [bne, e0]; rfl
            clear hprev hl0
            go_wp2_with fail
            refine wp_region_kept (by kernel_rfl) (by kernel_rfl) ?_
            repeat (go_big_quiet_step (fail))
            refine wpQuiet_nil ?_
            rintro _ ⟨⟨wx, hx2⟩, rfl⟩
            clear q0 q1 q2 r0 r1 r2
            go_wp2_with fail
            go_ret2
            rw [HF.out]
            exact ⟨rfl, hK2.trans hx2⟩
          · have e0' : (z0 != k) = false := by rw [bne, e0]; rfl
            cases e1 : ((bs z1).toList == (bs t).toList)
            · have HF := Lib.hid (HBD.out (show fmtB ⟨k, t, nn, o⟩ = false by
                have := HBQ.out; rw [e1] at this
                rw [HR.out, ← this]; simp))
              have e1' : ((bs z1).toList != (bs t).toList) = true := by rw [bne, e1]; rfl
              clear hprev hl0
              go_wp2_with fail
              refine wp_region_kept (by kernel_rfl) (by kernel_rfl) ?_
              repeat (go_big_quiet_step (fail))
              refine wpQuiet_nil ?_
              rintro _ ⟨⟨wx, hx2⟩, rfl⟩
              clear q0 q1 q2 r0 r1 r2
              go_wp2_with fail
              go_ret2
              rw [HF.out]
              exact ⟨rfl, hK2.trans hx2⟩
            · have e1' : ((bs z1).toList != (bs t).toList) = false := by rw [bne, e1]; rfl
              cases e2 : (z2 == nn)
              · have HF := Lib.hid (HBD.out (show fmtB ⟨k, t, nn, o⟩ = false by
                  rw [HR.out]; simp [beq_eq_false_iff_ne.1 e2]))
                have e2' : (z2 != nn) = true := by rw [bne, e2]; rfl
                clear hprev hl0
                go_wp2_with fail
                refine wp_region_kept (by kernel_rfl) (by kernel_rfl) ?_
                repeat (go_big_quiet_step (fail))
                refine wpQuiet_nil ?_
                rintro _ ⟨⟨wx, hx2⟩, rfl⟩
                clear q0 q1 q2 r0 r1 r2
                go_wp2_with fail
                go_ret2
                rw [HF.out]
                exact ⟨rfl, hK2.trans hx2⟩
              · have e2' : (z2 != nn) = false := by rw [bne, e2]; rfl
                have HTA2 := Lib.hid (HTA.out (show fmtB ⟨k, t, nn, o⟩ = true by
                  have h1 := HBQ.out; rw [e1] at h1
                  rw [HR.out, ← h1, decide_eq_true (beq_iff_eq.1 e0), decide_eq_true (beq_iff_eq.1 e2)]; rfl))
                clear HTA HBD
                go_wp2_with fail
                refine wp_region_kept (by kernel_rfl) (by kernel_rfl) ?_
                repeat (go_big_quiet_step (fail))
                refine wpQuiet_nil ?_
                rintro _ ⟨⟨wx, hx2⟩, rfl⟩
                clear q0 q1 q2 r0 r1 r2 e0 e1 e2 e0' e1' e2' HBQ HR
                by_cases h0 : 0 < i
                · obtain ⟨y, y0, hlk⟩ := hprev h0
                  have h0i : (0 : Int) < i := by omega
                  have s3 : ((i : Int) - 1).toNat = i - 1 := by omega
                  have s5 : (1 : Int) ≤ (i : Int) := by omega
                  by_cases hk8 : k = 8
                  · have hk8b : (k == 8) = true := by rw [beq_iff_eq]; exact hk8
                    have hk8c : (k != 8) = false := by rw [bne, hk8b]; rfl
                    have HSN2 := Lib.hid (show joinF none (xs.take (i + 1)) = joinF none (xs.take i) ++ srcL k t by
                      rw [HSN.out, hlk, sepL, if_neg (fun h => h.1 hk8)]; simp)
                    clear hlk hk8 hprev hl0 HSN
                    have hK3 := hK2.trans hx2
                    have X0 := hK3.cell (p := ⟨b1, _, none⟩) hb1 x0
                    have X1 := hK3.cell (p := ⟨b1, _, none⟩) hb1 x1
                    have X2 := hK3.cell (p := ⟨b1, _, none⟩) hb1 x2
                    have X3 := hK3.cell (p := ⟨b1, _, none⟩) hb1 x3
                    have Y0 := hK3.cell (p := ⟨b1, _, none⟩) hb1 y0
                    go_wp2_with fail
                    refine (HS.out _).mono ?_
                    rintro e w5 ⟨rfl, k5⟩
                    go_wp2_with fail
                    go_roundw
                    case rel => exact ⟨i + 1, hi, by go_num, HTA2.out, by rw [HSN2.out, ← bs_append, HP.out, HSRC.out], hK3.trans k5⟩
                    case measure => simp only [intOf]; omega
                  · have hk8b : (k == 8) = false := by rw [beq_eq_false_iff_ne]; exact hk8
                    have hk8c : (k != 8) = true := by rw [bne, hk8b]; rfl
                    by_cases hy8 : y.k = 8
                    · have hy8b : (y.k == 8) = true := by rw [beq_iff_eq]; exact hy8
                      have hy8c : (y.k != 8) = false := by rw [bne, hy8b]; rfl
                      have HSN2 := Lib.hid (show joinF none (xs.take (i + 1)) = joinF none (xs.take i) ++ srcL k t by
                        rw [HSN.out, hlk, sepL, if_neg (fun h => h.2 hy8)]; simp)
                      clear hlk hk8 hy8 hprev hl0 HSN
                      have hK3 := hK2.trans hx2
                      have X0 := hK3.cell (p := ⟨b1, _, none⟩) hb1 x0
                      have X1 := hK3.cell (p := ⟨b1, _, none⟩) hb1 x1
                      have X2 := hK3.cell (p := ⟨b1, _, none⟩) hb1 x2
                      have X3 := hK3.cell (p := ⟨b1, _, none⟩) hb1 x3
                      have Y0 := hK3.cell (p := ⟨b1, _, none⟩) hb1 y0
                      go_wp2_with fail
                      refine (HS.out _).mono ?_
                      rintro e w5 ⟨rfl, k5⟩
                      go_wp2_with fail
                      go_roundw
                      case rel => exact ⟨i + 1, hi, by go_num, HTA2.out, by rw [HSN2.out, ← bs_append, HP.out, HSRC.out], hK3.trans k5⟩
                      case measure => simp only [intOf]; omega
                    · have hy8b : (y.k == 8) = false := by rw [beq_eq_false_iff_ne]; exact hy8
                      have hy8c : (y.k != 8) = true := by rw [bne, hy8b]; rfl
                      have HSN2 := Lib.hid (show joinF none (xs.take (i + 1)) = joinF none (xs.take i) ++ ([32] ++ srcL k t) by
                        rw [HSN.out, hlk, sepL, if_pos ⟨hk8, hy8⟩])
                      clear hlk hk8 hy8 hprev hl0 HSN
                      have hK3 := hK2.trans hx2
                      have X0 := hK3.cell (p := ⟨b1, _, none⟩) hb1 x0
                      have X1 := hK3.cell (p := ⟨b1, _, none⟩) hb1 x1
                      have X2 := hK3.cell (p := ⟨b1, _, none⟩) hb1 x2
                      have X3 := hK3.cell (p := ⟨b1, _, none⟩) hb1 x3
                      have Y0 := hK3.cell (p := ⟨b1, _, none⟩) hb1 y0
                      go_wp2_with fail
                      refine (HS.out _).mono ?_
                      rintro e w5 ⟨rfl, k5⟩
                      go_wp2_with fail
                      go_roundw
                      case rel => exact ⟨i + 1, hi, by go_num, HTA2.out, by rw [HSN2.out, ← bs_append, ← bs_append, HP.out, HSRC.out, ← ByteArray.append_assoc]; rfl, hK3.trans k5⟩
                      case measure => simp only [intOf]; omega
                · have h0i : ¬ ((0 : Int) < i) := by omega
                  have hlk := hl0 h0
                  have HSN2 := Lib.hid (show joinF none (xs.take (i + 1)) = joinF none (xs.take i) ++ srcL k t by
                    rw [HSN.out, hlk, sepL]; simp)
                  clear hlk hprev hl0 HSN
                  have hK3 := hK2.trans hx2
                  have X0 := hK3.cell (p := ⟨b1, _, none⟩) hb1 x0
                  have X1 := hK3.cell (p := ⟨b1, _, none⟩) hb1 x1
                  have X2 := hK3.cell (p := ⟨b1, _, none⟩) hb1 x2
                  have X3 := hK3.cell (p := ⟨b1, _, none⟩) hb1 x3
                  go_wp2_with fail
                  refine (HS.out _).mono ?_
                  rintro e w5 ⟨rfl, k5⟩
                  go_wp2_with fail
                  go_roundw
                  case rel => exact ⟨i + 1, hi, by go_num, HTA2.out, by rw [HSN2.out, ← bs_append, HP.out, HSRC.out], hK3.trans k5⟩
                  case measure => simp only [intOf]; omega
        · have HF := Lib.hid (HBD.out (HL.out h1))
          have h1b : ((ys.length : Int) == 1) = false := by rw [beq_eq_false_iff_ne]; omega
          have h1c : ((ys.length : Int) != 1) = true := by rw [bne, h1b]; rfl
          clear HL HB HO h1 hbq hprev hl0 hA2
          generalize ys.length = m at *
          go_wp2_with fail
          refine wp_region_kept (by kernel_rfl) (by kernel_rfl) ?_
          repeat (go_big_quiet_step (fail))
          refine wpQuiet_nil ?_
          rintro _ ⟨⟨wx, hx2⟩, rfl⟩
          clear r0 r1 r2
          go_wp2_with fail
          go_ret2
          rw [HF.out]
          exact ⟨rfl, hK2.trans hx2⟩
      · have HF := Lib.hid (HBD.out (HB.out hc))
        have hcb : (c == 0) = false := by rw [beq_eq_false_iff_ne]; exact hc
        have hcc : (c != 0) = true := by rw [bne, hcb]; rfl
        clear HL HB HO hc hbq hprev hl0 hA2
        go_wp2_with fail
        refine wp_region_kept (by kernel_rfl) (by kernel_rfl) ?_
        repeat (go_big_quiet_step (fail))
        refine wpQuiet_nil ?_
        rintro _ ⟨⟨wx, hx2⟩, rfl⟩
        clear r0 r1 r2
        go_wp2_with fail
        go_ret2
        rw [HF.out]
        exact ⟨rfl, hK2.trans hx2⟩
    · have hii : ¬ ((i : Int) < n) := by omega
      have hR : fmtR xs = (joinF none xs, 0) := by
        rw [List.take_of_length_le (by have := HX.out; omega)] at hall
        rw [fmtR, if_pos hall]
      rw [List.take_of_length_le (by have := HX.out; omega)]
      have HR := Lib.hid hR
      clear hR hall
      go_wp2_with fail
      go_ret2
      rw [HR.out]
      exact ⟨rfl, hK⟩
end Go.Proofs.YtmlkgfacenajnaaDoor
