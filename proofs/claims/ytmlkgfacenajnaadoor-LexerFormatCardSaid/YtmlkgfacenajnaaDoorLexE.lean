/- What scanNumber of package lexer computes. -/
import Derived.Test.YtmlkgfacenajnaaDoorLexB
import Derived.Deep.DeepCutAuto
namespace Go.Proofs.YtmlkgfacenajnaaDoor
open Go.RowKit

/-- kind and length of the number at the head -/
def KN (l : List UInt8) (K : Int) (N : Nat) : Prop := lxKL l = (K, N) ∧ zeroB l = false ∧ N ≤ l.length ∧ 1 ≤ N
theorem lx_zero {l : List UInt8} (h : zeroB l = true) : lxNum l = .err 2 := by rw [lxNum, if_pos h]
theorem lx_glued {l : List UInt8} {K : Int} {N : Nat} {c : UInt8} (h : KN l K N) (hc : l[N]? = some c) (hg : gluedB c = true) : lxNum l = .err 2 := by
  rw [lxNum, h.1, h.2.1, hc]
  simp [gluedAt, hg]
theorem lx_val {l : List UInt8} {K n c : Int} {N : Nat} (h : KN l K N) (hg : gluedAt l[N]? = false) (hd : ∃ a r, l = a :: r ∧ isDig a = true) (hp : pL K (l.take N) = (n, c)) :
    (c = 0 ∧ lxNum l = ⟨0, K, l.take N, n, N⟩) ∨ (c ≠ 0 ∧ lxNum l = .err 3) := by
  obtain ⟨a, r, rfl, ha⟩ := hd
  have hx := pL_lx (r := r) ha h.2.1
  have e1 : (lxKL (a :: r)).1 = K := by rw [h.1]
  have e2 : (lxKL (a :: r)).2 = N := by rw [h.1]
  rw [e1, e2, hp] at hx
  unfold lxNum
  rw [h.2.1, e1, e2, hg]
  rcases hx with ⟨h1, h2⟩ | ⟨h1, h2⟩
  · left
    have hc0 : c = 0 := h1
    subst hc0
    exact ⟨rfl, by rw [h2]; simp⟩
  · right
    exact ⟨h1, by simp [h2]⟩
theorem decB_point (l : List UInt8) (q : Nat) : decB (l.drop (lead_of isDig l)) q = pointB l q := by
  unfold decB pointB
  rw [List.head?_drop, List.drop_drop]
theorem glue_cases (c : UInt8) :
    (gluedB c = true ∧ lowB c = true) ∨ (gluedB c = true ∧ lowB c = false ∧ 65 ≤ c.toNat ∧ c.toNat ≤ 90) ∨
    (gluedB c = true ∧ lowB c = false ∧ c.toNat < 65 ∧ isDig c = true) ∨ (gluedB c = true ∧ lowB c = false ∧ c.toNat < 65 ∧ isDig c = false ∧ ((c.toNat : Int) == 95) = false ∧ ((c.toNat : Int) == 46) = true) ∨
    (gluedB c = true ∧ lowB c = false ∧ 65 ≤ c.toNat ∧ 90 < c.toNat ∧ isDig c = false ∧ ((c.toNat : Int) == 95) = true) ∨
    (gluedB c = false ∧ lowB c = false ∧ c.toNat < 65 ∧ isDig c = false ∧ ((c.toNat : Int) == 95) = false ∧ ((c.toNat : Int) == 46) = false) ∨
    (gluedB c = false ∧ lowB c = false ∧ 65 ≤ c.toNat ∧ 90 < c.toNat ∧ isDig c = false ∧ ((c.toNat : Int) == 95) = false ∧ ((c.toNat : Int) == 46) = false) := by
  have e : ∀ z : Nat, ((c.toNat : Int) == (z : Int)) = decide (c.toNat = z) := by
    intro z; rw [Bool.eq_iff_iff, beq_iff_eq, decide_eq_true_eq]; omega
  have e95 := e 95
  have e46 := e 46
  rw [show ((95 : Nat) : Int) = 95 from rfl] at e95
  rw [show ((46 : Nat) : Int) = 46 from rfl] at e46
  rw [e95, e46]
  unfold gluedB wordB
  cases hl : lowB c
  · by_cases h65 : 65 ≤ c.toNat
    · by_cases h90 : c.toNat ≤ 90
      · simp [h65, h90]
      · have hd : isDig c = false := by simp [isDig]; omega
        have h46 : ¬ c.toNat = 46 := by omega
        by_cases h95 : c.toNat = 95 <;> simp [h65, h90, hd, h46, h95] <;> omega
    · have h95 : ¬ c.toNat = 95 := by omega
      cases hd : isDig c <;> by_cases h46 : c.toNat = 46 <;> simp [h65, h95, h46] <;> omega
  · simp

set_option maxRecDepth 100000 in
set_option maxHeartbeats 8000000 in
theorem scanNumber_any (s : ByteArray) (hs : s.size ≤ 1000000) (h0 : 0 < s.size) (hd0 : isDig (s[0]'h0) = true) (w : World) (hM : Mon w) :
    Calls Tryd.prog 72 #[.string s] w fun e w' => e = .returned (srV (lxNum (L s))) ∧ Kept w w' := by
  have hdr := L_drop s 0 h0
  rw [List.drop_zero] at hdr
  have HHd := Lib.hid (show ∃ a r, L s = a :: r ∧ isDig a = true from ⟨_, _, hdr, hd0⟩)
  have hW1 : 1 ≤ lead_of isDig (L s) := by rw [hdr]; exact lead_of_pos hd0
  have hWl := lead_of_le isDig (L s)
  rw [L_length] at hWl
  have R0 := fun w => dat_any s 0 hs (by omega) w
  rw [List.drop_zero] at R0
  have RD := fun w => isDate_any s hs w
  have ed := ext_drop s (lead_of isDig (L s))
  have hxs : ∀ k, (s.extract k s.size).size ≤ 1000000 := fun k => by rw [ByteArray.size_extract]; omega
  have H2 := fun w => hasDec_any (s.extract (lead_of isDig (L s)) s.size) 2 (hxs _) w
  have H4 := fun w => hasDec_any (s.extract (lead_of isDig (L s)) s.size) 4 (hxs _) w
  rw [ed, decB_point] at H2 H4
  have HP := fun w => Tryd.strings_HasPrefix (s.extract (lead_of isDig (L s) + 5) s.size) ⟨#[37]⟩ w
  have ep : Lib.hasPrefix (s.extract (lead_of isDig (L s) + 5) s.size).data.toList [37] = ((L s)[lead_of isDig (L s) + 5]? == some 37) := by
    rw [prefix_one, show (s.extract (lead_of isDig (L s) + 5) s.size).data.toList = L (s.extract (lead_of isDig (L s) + 5) s.size) from rfl, ext_drop, List.head?_drop]
  have e37 : ((⟨#[37]⟩ : ByteArray)).data.toList = [37] := rfl
  rw [e37, ep] at HP
  clear ed ep e37 hdr
  have hkl : lxKL (L s) = if datedB (L s) then (5, 10) else if pointB (L s) 2 then (3, lead_of isDig (L s) + 3) else if pointB (L s) 4 && (L s)[lead_of isDig (L s) + 5]? == some 37 then (4, lead_of isDig (L s) + 6) else (2, lead_of isDig (L s)) := rfl
  have hle := lxKL_le (l := L s)
  rw [hkl] at hle
  rw [L_length] at hle
  have hp4 : pointB (L s) 4 = true → lead_of isDig (L s) + 5 ≤ s.size := by
    intro h
    have h' := pointB_iff.1 h
    have := lead_of_le isDig ((L s).drop (lead_of isDig (L s) + 1))
    rw [List.length_drop, L_length] at this
    omega
  have hz : zeroB (L s) = (!datedB (L s) && (decide (1 < lead_of isDig (L s)) && (L s)[0]? == some 48)) := rfl
  rw [L_get s 0 h0] at hz
  have hz48 : (some (s[0]'h0) == some 48) = (((s[0]'h0).toNat : Int) == 48) := by
    rw [Bool.eq_iff_iff, beq_iff_eq, beq_iff_eq, Option.some.injEq, ← UInt8.toNat_inj]
    have : (48 : UInt8).toNat = 48 := rfl
    omega
  rw [hz48] at hz
  have HZ1 := Lib.hid (fun h => lx_zero (l := L s) h)
  clear hz48 hd0 hxs
  generalize hWW : lead_of isDig (L s) = W at *
  generalize hDD : datedB (L s) = D at *
  generalize hP2 : pointB (L s) 2 = P2 at *
  generalize hP4 : pointB (L s) 4 = P4 at *
  generalize hP5 : ((L s)[W + 5]? == some 37) = P5 at *
  generalize hc48 : (((s[0]'h0).toNat : Int) == 48) = Z at *
  have HKL := Lib.hid hkl
  have HZZ := Lib.hid hz
  have HC48 := Lib.hid hc48
  have HL := Lib.hid hle
  have HP4 := Lib.hid hp4
  have HR0 := Lib.hid R0
  have HRD := Lib.hid RD
  have HH2 := Lib.hid H2
  have HH4 := Lib.hid H4
  have HHP := Lib.hid HP
  clear hkl hz hle hp4 R0 RD H2 H4 HP hWW hDD hP2 hP4 hP5 hc48
  go_enter Tryd.func72, Tryd.ntmps72
  go_upto_if 13 with (go_at_call 95; refine (HRD.out _).mono ?_; rintro e w' ⟨rfl, rfl⟩)
  clear HRD
  go_cut [5, 6] (fun k n wx => ∃ (K : Int) (N : Nat), k = .int .i64 K ∧ n = .int .i64 (N : Int) ∧ KN (L s) K N ∧ wx = w.alloc (.cells #[.int .i64 0, .string ⟨#[]⟩, .int .i64 0, .int .i64 0] 30))
  case first =>
    cases D
    · rcases (show (1 < W ∧ Z = true) ∨ (1 < W ∧ Z = false) ∨ ¬ 1 < W by cases Z <;> simp <;> omega) with ⟨w1, rfl⟩ | ⟨w1, rfl⟩ | w1
      · have HR := Lib.hid (HZ1.out (by rw [HZZ.out]; simp [w1]))
        have hc48 := HC48.out
        cases P2
        · cases P4
          · go_wp2_with (first
          | (go_at_call 96; refine (HR0.out _).mono ?_; rintro e w' ⟨rfl, rfl⟩)
          | (go_at_call_of 97 (Value.int IntKind.i64 2); refine (HH2.out _).mono ?_; rintro e w' ⟨rfl, rfl⟩)
          | (go_at_call_of 97 (Value.int IntKind.i64 4); refine (HH4.out _).mono ?_; rintro e w' ⟨rfl, rfl⟩)
          | (go_at_call 74; refine (HHP.out _).mono ?_; rintro e w' ⟨rfl, rfl⟩))
            refine bodyPost_ret (v := srV (lxNum (L s))) (by rw [HR.out]; simp [srV, SR.err, bs, results, Tryd.results72, go_sem]) rfl ⟨rfl, ?_⟩
            exact (Kept.refl _).alloc _
          · have hw5 := HP4.out rfl
            cases P5
            all_goals
              go_wp2_with (first
          | (go_at_call 96; refine (HR0.out _).mono ?_; rintro e w' ⟨rfl, rfl⟩)
          | (go_at_call_of 97 (Value.int IntKind.i64 2); refine (HH2.out _).mono ?_; rintro e w' ⟨rfl, rfl⟩)
          | (go_at_call_of 97 (Value.int IntKind.i64 4); refine (HH4.out _).mono ?_; rintro e w' ⟨rfl, rfl⟩)
          | (go_at_call 74; refine (HHP.out _).mono ?_; rintro e w' ⟨rfl, rfl⟩))
              refine bodyPost_ret (v := srV (lxNum (L s))) (by rw [HR.out]; simp [srV, SR.err, bs, results, Tryd.results72, go_sem]) rfl ⟨rfl, ?_⟩
              exact (Kept.refl _).alloc _
        · go_wp2_with (first
          | (go_at_call 96; refine (HR0.out _).mono ?_; rintro e w' ⟨rfl, rfl⟩)
          | (go_at_call_of 97 (Value.int IntKind.i64 2); refine (HH2.out _).mono ?_; rintro e w' ⟨rfl, rfl⟩)
          | (go_at_call_of 97 (Value.int IntKind.i64 4); refine (HH4.out _).mono ?_; rintro e w' ⟨rfl, rfl⟩)
          | (go_at_call 74; refine (HHP.out _).mono ?_; rintro e w' ⟨rfl, rfl⟩))
          refine bodyPost_ret (v := srV (lxNum (L s))) (by rw [HR.out]; simp [srV, SR.err, bs, results, Tryd.results72, go_sem]) rfl ⟨rfl, ?_⟩
          exact (Kept.refl _).alloc _
      all_goals
        have HZ := Lib.hid (show zeroB (L s) = false by rw [HZZ.out]; simp [w1])
        have hc48 := HC48.out
        cases P2
        · cases P4
          · go_wp2_with (first
          | (go_at_call 96; refine (HR0.out _).mono ?_; rintro e w' ⟨rfl, rfl⟩)
          | (go_at_call_of 97 (Value.int IntKind.i64 2); refine (HH2.out _).mono ?_; rintro e w' ⟨rfl, rfl⟩)
          | (go_at_call_of 97 (Value.int IntKind.i64 4); refine (HH4.out _).mono ?_; rintro e w' ⟨rfl, rfl⟩)
          | (go_at_call 74; refine (HHP.out _).mono ?_; rintro e w' ⟨rfl, rfl⟩))
            go_meet
            case rel => exact ⟨2, W, rfl, rfl, ⟨HKL.out, HZ.out, HL.out, hW1⟩, rfl⟩
          · have hw5 := HP4.out rfl
            cases P5
            · go_wp2_with (first
          | (go_at_call 96; refine (HR0.out _).mono ?_; rintro e w' ⟨rfl, rfl⟩)
          | (go_at_call_of 97 (Value.int IntKind.i64 2); refine (HH2.out _).mono ?_; rintro e w' ⟨rfl, rfl⟩)
          | (go_at_call_of 97 (Value.int IntKind.i64 4); refine (HH4.out _).mono ?_; rintro e w' ⟨rfl, rfl⟩)
          | (go_at_call 74; refine (HHP.out _).mono ?_; rintro e w' ⟨rfl, rfl⟩))
              go_meet
              case rel => exact ⟨2, W, rfl, rfl, ⟨HKL.out, HZ.out, HL.out, hW1⟩, rfl⟩
            · go_wp2_with (first
          | (go_at_call 96; refine (HR0.out _).mono ?_; rintro e w' ⟨rfl, rfl⟩)
          | (go_at_call_of 97 (Value.int IntKind.i64 2); refine (HH2.out _).mono ?_; rintro e w' ⟨rfl, rfl⟩)
          | (go_at_call_of 97 (Value.int IntKind.i64 4); refine (HH4.out _).mono ?_; rintro e w' ⟨rfl, rfl⟩)
          | (go_at_call 74; refine (HHP.out _).mono ?_; rintro e w' ⟨rfl, rfl⟩))
              go_meet
              case rel => exact ⟨4, W + 6, rfl, by go_num, ⟨HKL.out, HZ.out, HL.out, by omega⟩, rfl⟩
        · go_wp2_with (first
          | (go_at_call 96; refine (HR0.out _).mono ?_; rintro e w' ⟨rfl, rfl⟩)
          | (go_at_call_of 97 (Value.int IntKind.i64 2); refine (HH2.out _).mono ?_; rintro e w' ⟨rfl, rfl⟩)
          | (go_at_call_of 97 (Value.int IntKind.i64 4); refine (HH4.out _).mono ?_; rintro e w' ⟨rfl, rfl⟩)
          | (go_at_call 74; refine (HHP.out _).mono ?_; rintro e w' ⟨rfl, rfl⟩))
          go_meet
          case rel => exact ⟨3, W + 3, rfl, by go_num, ⟨HKL.out, HZ.out, HL.out, by omega⟩, rfl⟩
    · go_wp2_with fail
      go_meet
      case rel => exact ⟨5, 10, rfl, rfl, ⟨HKL.out, by rw [HZZ.out]; rfl, HL.out, by decide⟩, rfl⟩
  case rest =>
    obtain ⟨K, N, rfl, rfl, hkn, rfl⟩ := hcut
    clear HR0 HH2 HH4 HHP HKL HZZ HL HP4 HC48 HZ1 hW1 hWl
    obtain ⟨⟨n, c⟩, hp⟩ : ∃ p, pL K ((L s).take N) = p := ⟨_, rfl⟩
    have hN : N ≤ s.size := hkn.2.2.1
    have hN1 := hkn.2.2.2
    have HKK : K = 5 ∨ K = 3 ∨ K = 4 ∨ K = 2 := by have := lxKL_kind (L s); rw [hkn.1] at this; exact this
    have hxz : (s.extract 0 N).size = N := by rw [ByteArray.size_extract]; omega
    have HNUM := Lib.hid (fun w hM => number_any K (s.extract 0 N) HKK (by omega) (by omega) w hM)
    rw [ext_take, hp] at HNUM
    have HV := Lib.hid (fun h => lx_val hkn h HHd.out hp)
    have HG := Lib.hid (fun c h1 h2 => lx_glued (c := c) hkn h1 h2)
    have HT := Lib.hid (ext_take s N).symm
    have hMM := hM.kept ((Kept.refl w).alloc (.cells #[.int .i64 0, .string ⟨#[]⟩, .int .i64 0, .int .i64 0] 30))
    have hNi : (N : Int) ≤ s.size := by omega
    clear hp hkn HKK hxz
    by_cases hlt : N < s.size
    · have hg := L_get s N hlt
      have hni : (N : Int) < s.size := by omega
      rcases glue_cases (s[N]'hlt) with ⟨hG, h1⟩ | ⟨hG, h1, h2, h3⟩ | ⟨hG, h1, h2, h3⟩ | ⟨hG, h1, h2, h3, h4, h5⟩ | ⟨hG, h1, h2, h3, h4, h5⟩ | ⟨hG, h1, h2, h3, h4, h5⟩ | ⟨hG, h1, h2, h3, h4, h5, h6⟩
      iterate 5
        · have HR := Lib.hid (HG.out _ hg hG)
          clear hG hg
          go_wp2_with (first
            | (go_at_call 40; refine (lower_any _ _).mono ?_; rintro e w' ⟨rfl, rfl⟩)
            | (go_at_call 71; refine (ldigit_any _ _).mono ?_; rintro e w' ⟨rfl, rfl⟩))
          refine bodyPost_ret (v := srV (lxNum (L s))) (by rw [HR.out]; simp [srV, SR.err, bs, results, Tryd.results72, go_sem]) rfl ⟨rfl, ?_⟩
          exact (Kept.refl _).alloc _
      all_goals
        have hv := HV.out (by rw [hg]; exact hG)
        clear hG hg
        rcases hv with ⟨rfl, hv⟩ | ⟨hc, hv⟩
        · rw [HT.out] at hv
          have HR := Lib.hid hv
          clear hv
          go_wp2_with (first
            | (go_at_call 40; refine (lower_any _ _).mono ?_; rintro e w' ⟨rfl, rfl⟩)
            | (go_at_call 71; refine (ldigit_any _ _).mono ?_; rintro e w' ⟨rfl, rfl⟩)
            | (go_at_call 98; refine (HNUM.out _ hMM).mono ?_; rintro e w' ⟨rfl, k1⟩; have B := k1.blk1; have b := B.cell; have l := B.lt; have f := B.frozen))
          refine bodyPost_ret (v := srV (lxNum (L s))) (by rw [HR.out]; simp [srV, results, Tryd.results72, go_sem, b]) rfl ⟨rfl, ?_⟩
          repeat refine Kept.setCell ?_ (by simp only; omega) _
          exact ((Kept.refl _).alloc _).trans k1
        · have hcb : (c != 0) = true := by simpa using hc
          have HR := Lib.hid hv
          clear hv hc
          go_wp2_with (first
            | (go_at_call 40; refine (lower_any _ _).mono ?_; rintro e w' ⟨rfl, rfl⟩)
            | (go_at_call 71; refine (ldigit_any _ _).mono ?_; rintro e w' ⟨rfl, rfl⟩)
            | (go_at_call 98; refine (HNUM.out _ hMM).mono ?_; rintro e w' ⟨rfl, k1⟩; have B := k1.blk1; have b := B.cell; have l := B.lt; have f := B.frozen))
          refine bodyPost_ret (v := srV (lxNum (L s))) (by rw [HR.out]; simp [srV, SR.err, bs, results, Tryd.results72, go_sem, b]) rfl ⟨rfl, ?_⟩
          repeat refine Kept.setCell ?_ (by simp only; omega) _
          exact ((Kept.refl _).alloc _).trans k1
    · have hv := HV.out (by rw [List.getElem?_eq_none (by rw [L_length]; omega)]; rfl)
      rcases hv with ⟨rfl, hv⟩ | ⟨hc, hv⟩
      · rw [HT.out] at hv
        have HR := Lib.hid hv
        clear hv
        go_wp2_with (go_at_call 98; refine (HNUM.out _ hMM).mono ?_; rintro e w' ⟨rfl, k1⟩; have B := k1.blk1; have b := B.cell; have l := B.lt; have f := B.frozen)
        refine bodyPost_ret (v := srV (lxNum (L s))) (by rw [HR.out]; simp [srV, results, Tryd.results72, go_sem, b]) rfl ⟨rfl, ?_⟩
        repeat refine Kept.setCell ?_ (by simp only; omega) _
        exact ((Kept.refl _).alloc _).trans k1
      · have hcb : (c != 0) = true := by simpa using hc
        have HR := Lib.hid hv
        clear hv hc
        go_wp2_with (go_at_call 98; refine (HNUM.out _ hMM).mono ?_; rintro e w' ⟨rfl, k1⟩; have B := k1.blk1; have b := B.cell; have l := B.lt; have f := B.frozen)
        refine bodyPost_ret (v := srV (lxNum (L s))) (by rw [HR.out]; simp [srV, SR.err, bs, results, Tryd.results72, go_sem, b]) rfl ⟨rfl, ?_⟩
        repeat refine Kept.setCell ?_ (by simp only; omega) _
        exact ((Kept.refl _).alloc _).trans k1
end Go.Proofs.YtmlkgfacenajnaaDoor
