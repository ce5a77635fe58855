/- What Parse of package exprtext computes. -/
import Derived.Test.YtdnjfpmngnkcfaaGreatDoorEtC
import Derived.Test.YtdnjfpmngnkcfaaGreatDoorEtE
import Derived.Test.YtdnjfpmngnkcfaaGreatDoorEtD
import Derived.Test.YtdnjfpmngnkcfaaGreatDoorBcMath
import Derived.Test.YtdnjfpmngnkcfaaGreatDoorBcStr
import Derived.Test.YtdnjfpmngnkcfaaGreatDoorEtA
import Derived.Test.YtdnjfpmngnkcfaaGreatDoorLxM
import Derived.Deep.RegionHeldLaw
import Derived.Deep.AppendSrc
import Derived.Deep.Upon
import Derived.Test.YtdnjfpmngnkcfaaGreatDoorFrame
import Derived.Test.YtdnjfpmngnkcfaaGreatDoorFrameL
import Derived.Deep.Slices
import Derived.Deep.Fields
import Derived.SizedLaws
import Derived.Stop.LaidErr
import Derived.Shelf.Vars
namespace Go.Proofs.YtdnjfpmngnkcfaaGreatDoor
open Go.RowKit

/-- the answer of Parse -/
def pxPost (nm : Nm) (s : ByteArray) (w : World) (e : Ending) (w' : World) : Prop :=
  ∃ v, e = .returned (.tuple #[v, .int .i64 (parX nm s).2.1, .int .i64 (parX nm s).2.2]) ∧ Nds w' v (parX nm s).1 ∧ Kept w w'
theorem nds_nil (w : World) : Nds w (.slice none 0 0) [] := ⟨none, 0, rfl, fun h => absurd h (by decide)⟩
theorem pxPost.mk {nm : Nm} {s : ByteArray} {w w' : World} {v : Value} {ns : List Nd} {o c : Int} (h : parX nm s = (ns, o, c)) (hv : Nds w' v ns) (hk : Kept w w') : pxPost nm s w (.returned (.tuple #[v, .int .i64 o, .int .i64 c])) w' := by
  refine ⟨v, ?_, ?_, hk⟩
  · rw [h]
  · rw [h]; exact hv
set_option maxRecDepth 100000 in
set_option maxHeartbeats 16000000 in
theorem etParse_any (s : ByteArray) (hs0 : s.size ≤ 9223372036854775807) (nv : Value) (nm : Nm) (w : World) (hN : Names w nv nm) (hB : NmB nm) (hK : ∀ x, ∀ y ∈ refN nm x, y.size ≤ 140737488355328) (hM : Mon w) (hP : Pow w) :
    Calls Tryz.prog 10 #[.string s, nv] w (pxPost nm s w) := by
  obtain ⟨n0, n1, n2, n3, n4, rfl, hE, hT, hI, hD, hMD, _⟩ := hN
  obtain ⟨nv, hnv⟩ : ∃ nv : Value, nv = .agg #[n0, n1, n2, n3, n4] := ⟨_, rfl⟩
  have HNM := Lib.hid (show ∀ w1, Kept w w1 → Names w1 (.agg #[n0, n1, n2, n3, n4]) nm from fun w1 hk => ⟨n0, n1, n2, n3, n4, rfl, hE.kept hk, hT.kept hk, hI.kept hk, hD.kept hk, hMD.kept hk, by have := hB.tl; omega, by have := hB.il; omega, by have := hB.dl; omega, by have := hB.mdl; omega⟩)
  obtain ⟨AE, ne, ce, rfl⟩ : ∃ A n c, n0 = .slice A n c := by obtain ⟨_, A, c, h, _⟩ := hE; exact ⟨A, _, c, h⟩
  obtain ⟨AT, nt, ct, rfl⟩ : ∃ A n c, n1 = .slice A n c := by obtain ⟨A, c, h, _⟩ := hT.at3E; exact ⟨A, _, c, h⟩
  obtain ⟨AI, ni, ci, rfl⟩ : ∃ A n c, n2 = .slice A n c := by obtain ⟨A, c, h, _⟩ := hI.at3E; exact ⟨A, _, c, h⟩
  obtain ⟨AD, nd, cd, rfl⟩ : ∃ A n c, n3 = .slice A n c := by obtain ⟨A, c, h, _⟩ := hD.at3E; exact ⟨A, _, c, h⟩
  obtain ⟨AM, nmm, cm, rfl⟩ : ∃ A n c, n4 = .slice A n c := by obtain ⟨A, c, h, _⟩ := hMD.at3E; exact ⟨A, _, c, h⟩
  clear hnv
  have hKB := (Kept.refl w).alloc (.cells #[.slice AE ne ce, .slice AT nt ct, .slice AI ni ci, .slice AD nd cd, .slice AM nmm cm] 26)
  have BN := Blk.new w 26 #[.slice AE ne ce, .slice AT nt ct, .slice AI ni ci, .slice AD nd cd, .slice AM nmm cm]
  have HTK := Lib.hid (tokenize_any s hs0 (w.alloc (.cells #[.slice AE ne ce, .slice AT nt ct, .slice AI ni ci, .slice AD nd cd, .slice AM nmm cm] 26)) (hM.kept hKB))
  unfold tokPost at HTK
  have hpx : parX nm s = if (tokR (L s)).2.2 ≠ 0 then ([], (tokR (L s)).2.1, (tokR (L s)).2.2)
    else match parR s.size nm (8 * (tokR (L s)).1.length + 7) .expr ⟨(tokR (L s)).1, [], 0, 0⟩ with
      | none => ([], 0, 2)
      | some (b, p) =>
        if b = true ∧ p.ts ≠ [] then ([], (p.bad s.size 2).off, 2)
        else if p.code ≠ 0 then ([], p.off, p.code)
        else if (strS p.ns).2.2 ≠ 0 then ([], 0, (strS p.ns).2.2)
        else if (fmtX nm p.ns).2 = 0 ∧ (fmtX nm p.ns).1 = s then (p.ns, 0, 0) else ([], 0, 2) := rfl
  have htb := tokR_bd (l := L s)
  rw [L_length] at htb
  generalize tokR (L s) = TR at *
  obtain ⟨toks, off, code⟩ := TR
  dsimp only at HTK hpx htb
  by_cases hcode : code ≠ 0
  · rw [if_pos hcode] at hpx
    have HR := Lib.hid hpx
    have hcb := bne_noL hcode
    clear hpx hcode htb hM hP
    go_enter Tryz.func10, Tryz.ntmps10
    go_wp2_with (go_at_call 18; refine HTK.out.mono ?_; rintro e w1 ⟨tv, rfl, hT1, hk1⟩)
    go_ret3
    exact pxPost.mk HR.out (nds_nil _) (hKB.trans hk1)
  rw [if_neg hcode] at hpx
  have hc0 : code = 0 := Decidable.not_not.1 hcode
  subst hc0
  clear hcode
  obtain ⟨hs6, hl6, htt⟩ := htb rfl
  clear htb
  obtain ⟨b, s1, hp, hts1, _⟩ := parR_tot s.size nm (8 * toks.length + 7) .expr ⟨toks, [], 0, 0⟩ (by show 8 * toks.length + 6 < _; omega)
  rw [hp] at hpx
  dsimp only at hpx
  have hg : GS s.size ⟨toks, [], 0, 0⟩ := ⟨fun t h => by
    obtain ⟨_, h1, h2⟩ := htt t h
    exact ⟨by omega, h2⟩, fun x h => (by cases h), ⟨Int.le_refl _, by show (0 : Int) ≤ _; omega⟩, by omega⟩
  have hgs := parR_gs hB _ _ _ hg b s1 hp
  have hmn : mN s1 ≤ 4000000 := parR_mN hp (by show 0 + toks.length + 0 ≤ _; omega)
  have hcx : ∀ w1 tv, Kept w w1 → Toks w1 tv toks → PCx w1 tv (.slice AE ne ce) (.slice AT nt ct) (.slice AI ni ci) (.slice AD nd cd) (.slice AM nmm cm) toks nm := fun w1 tv hk ht =>
    ⟨ht, by omega, fun t h => by have := (htt t h).1; omega, fun t h => by have := (htt t h).2.1; omega, hE.kept hk, hT.kept hk, hI.kept hk, hD.kept hk, hMD.kept hk, by have := hB.el; have := hE.1; omega, hB.ml, hB.tl, hB.il, hB.dl, hB.mdl⟩
  have HST := Lib.hid (fun w1 tv (hk : Kept w w1) (ht : Toks w1 tv toks) => (show PSt w1 (w1.alloc (.cells #[tv, .int .i64 0, .int .i64 s.size, .slice AE ne ce, .slice AT nt ct, .slice AI ni ci, .slice AD nd cd, .slice AM nmm cm, .slice none 0 0, .int .i64 0, .int .i64 0] 57)) w1.heap.size (w1.heap.size + 1) tv s.size (.slice AE ne ce) (.slice AT nt ct) (.slice AI ni ci) (.slice AD nd cd) (.slice AM nmm cm) toks ⟨toks, [], 0, 0⟩ from
    ⟨(Kept.refl w1).alloc _, Nat.le_refl _, by omega, by simp, 0, .slice none 0 0, Blk.new _ _ _, Nat.zero_le _, rfl, GathR.nil _ _ _⟩))
  have HEX := Lib.hid (fun w1 tv (hk : Kept w w1) (ht : Toks w1 tv toks) => (show Calls Tryz.prog 19 #[.pointer (some ⟨w1.heap.size, 0, none⟩)] (w1.alloc (.cells #[tv, .int .i64 0, .int .i64 s.size, .slice AE ne ce, .slice AT nt ct, .slice AI ni ci, .slice AD nd cd, .slice AM nmm cm, .slice none 0 0, .int .i64 0, .int .i64 0] 57)) (fun e w' => e = .returned (.bool b) ∧ PSt w1 w' w1.heap.size (w1.heap.size + 1) tv s.size (.slice AE ne ce) (.slice AT nt ct) (.slice AI ni ci) (.slice AD nd cd) (.slice AM nmm cm) toks s1) from by
    refine ((parOK_all (hcx w1 tv hk ht) _ _ (Nat.le_refl (8 * toks.length + 7))).expr ⟨toks, [], 0, 0⟩ _ (by show 8 * toks.length + 6 < _; omega) (by show 0 + toks.length ≤ _; omega) (HST.out w1 tv hk ht)).mono ?_
    rintro e w' ⟨b', s', h1, rfl, h2⟩
    rw [hp] at h1
    have h3 := Option.some.inj h1
    have e1 : b = b' := congrArg Prod.fst h3
    have e2 : s1 = s' := congrArg Prod.snd h3
    subst e1; subst e2
    exact ⟨rfl, h2⟩))
  have HFL := Lib.hid (fun w1 w2 tv (ht : Toks w1 tv toks) (h1 : PSt w1 w2 w1.heap.size (w1.heap.size + 1) tv s.size (.slice AE ne ce) (.slice AT nt ct) (.slice AI ni ci) (.slice AD nd cd) (.slice AM nmm cm) toks s1) => pfail_any h1 ht (by omega) 2)
  unfold PPost at HFL
  have HNS := Lib.hid (show ∀ (w1 w2 : World) nv, GathR w2 (w1.heap.size + 1) 41 ndF 2 nv s1.ns → Nds w2 nv s1.ns from fun w1 w2 nv h => h.recs ndF_len)
  have hns : s1.ns.length ≤ 4000000 := by unfold mN at hmn; omega
  have HSTR := Lib.hid (fun v w1 (h : Nds w1 v s1.ns) => startsX_any v s1.ns w1 h (by omega))
  have HFM := Lib.hid (fun v w1 (hk : Kept w w1) (h : Nds w1 v s1.ns) => fmtT_any v (.agg #[.slice AE ne ce, .slice AT nt ct, .slice AI ni ci, .slice AD nd cd, .slice AM nmm cm]) s1.ns nm w1 h (HNM.out w1 hk) (by omega) (fun x hx => by have := hgs.ns x hx; omega) (fun x _ => hK x) (hM.kept hk) (hP.kept hk))
  unfold fmPost at HFM
  have hoff := hgs.off
  clear hE hT hI hD hMD hM hP hcx hmn hgs hg htt hB hK hp hts1 HNM
  have hsz : s.size = s.size := rfl
  by_cases hbt : b = true ∧ s1.ts ≠ []
  · -- tokens are left
    rw [if_pos hbt] at hpx
    obtain ⟨rfl, hne⟩ := hbt
    have HR := Lib.hid hpx
    have HLT := Lib.hid (show ∀ i, s1.ts = toks.drop i → i < toks.length from fun i h => by
      rcases Nat.lt_or_ge i toks.length with h1 | h1
      · exact h1
      · rw [List.drop_eq_nil_iff.2 h1] at h; exact absurd h hne)
    clear hpx hne HSTR HFM HNS
    go_enter Tryz.func10, Tryz.ntmps10
    go_wp2_with (first
      | (go_at_call 18; refine HTK.out.mono ?_; rintro e w1 ⟨tv, rfl, hT1, hk1⟩; obtain ⟨TA, tc, rfl, _⟩ := toksX_at hT1; have hk2 := hKB.trans hk1; have BN := BN.kept hk1; have bc := BN.cell; have bl := BN.lt)
      | (go_at_call 19; refine (HEX.out _ _ hk2 hT1).mono ?_; rintro e w2 ⟨rfl, hs2⟩; obtain ⟨i, nv, q5, q6, q7, q8⟩ := hs2.at_; have hlt := HLT.out _ q7; have hlti : (i : Int) < toks.length := (by omega); unfold PCell at q5; have qc := q5.cell; have ql := q5.lt)
      | (go_at_call 20; refine (HFL.out _ _ _ hT1 hs2).mono ?_; rintro e w3 ⟨rfl, hs3⟩; obtain ⟨i3, nv3, r5, r6, r7, r8⟩ := hs3.at_; unfold PCell at r5; have rc := r5.cell; have rl := r5.lt))
    have k9 := KW.cell rl (rc 9)
    have k10 := KW.cell rl (rc 10)
    refine wp_region_kept (by kernel_rfl) (by kernel_rfl) ?_
    repeat (go_big_quiet_step (fail))
    refine wpQuiet_nil ?_
    rintro wv ⟨⟨wx, hx⟩, hh⟩
    obtain rfl : wv = wx := hh
    go_wp2_with fail
    go_ret3
    exact pxPost.mk HR.out (nds_nil _) ((hk2.trans hs3.old).trans hx)
  rw [if_neg hbt] at hpx
  have hbd : b = false ∨ (b = true ∧ s1.ts = []) := by
    cases b
    · exact .inl rfl
    · right
      refine ⟨rfl, ?_⟩
      by_cases h : s1.ts = []
      · exact h
      · exact absurd ⟨rfl, h⟩ hbt
  clear hbt HFL
  have HGE := Lib.hid (show b = true → ∀ i, s1.ts = toks.drop i → toks.length ≤ i from fun hb i h => by
    rcases hbd with rfl | ⟨_, h0⟩
    · cases hb
    · have := congrArg List.length h
      rw [h0, List.length_drop] at this
      simp only [List.length_nil] at this
      omega)
  have hbb : b = false ∨ b = true := by cases b; exact .inl rfl; exact .inr rfl
  clear hbd
  by_cases hc : s1.code ≠ 0
  · rw [if_pos hc] at hpx
    have HR := Lib.hid hpx
    have hcb := bne_noL hc
    clear hpx HSTR HFM HNS
    rcases hbb with rfl | rfl
    · clear HGE
      go_enter Tryz.func10, Tryz.ntmps10
      go_wp2_with (first
        | (go_at_call 18; refine HTK.out.mono ?_; rintro e w1 ⟨tv, rfl, hT1, hk1⟩; obtain ⟨TA, tc, rfl, _⟩ := toksX_at hT1; have hk2 := hKB.trans hk1; have BN := BN.kept hk1; have bc := BN.cell; have bl := BN.lt)
        | (go_at_call 19; refine (HEX.out _ _ hk2 hT1).mono ?_; rintro e w2 ⟨rfl, hs2⟩; have BN := BN.kept hs2.old; have hk3 := hk2.trans hs2.old; obtain ⟨i, nv, q5, q6, q7, q8⟩ := hs2.at_; unfold PCell at q5; have qc := q5.cell; have ql := q5.lt; have bc := BN.cell; have bl := BN.lt))
      have k9 := KW.cell ql (qc 9)
      have k10 := KW.cell ql (qc 10)
      refine wp_region_kept (by kernel_rfl) (by kernel_rfl) ?_
      repeat (go_big_quiet_step (fail))
      refine wpQuiet_nil ?_
      rintro wv ⟨⟨wx, hx⟩, hh⟩
      obtain rfl : wv = wx := hh
      go_wp2_with fail
      go_ret3
      exact pxPost.mk HR.out (nds_nil _) (hk3.trans hx)
    · have HG2 := Lib.hid (HGE.out rfl)
      clear HGE
      go_enter Tryz.func10, Tryz.ntmps10
      go_wp2_with (first
        | (go_at_call 18; refine HTK.out.mono ?_; rintro e w1 ⟨tv, rfl, hT1, hk1⟩; obtain ⟨TA, tc, rfl, _⟩ := toksX_at hT1; have hk2 := hKB.trans hk1; have BN := BN.kept hk1; have bc := BN.cell; have bl := BN.lt)
        | (go_at_call 19; refine (HEX.out _ _ hk2 hT1).mono ?_; rintro e w2 ⟨rfl, hs2⟩; have BN := BN.kept hs2.old; have hk3 := hk2.trans hs2.old; obtain ⟨i, nv, q5, q6, q7, q8⟩ := hs2.at_; have hge : ¬ ((i : Int) < toks.length) := (by have := HG2.out _ q7; omega); unfold PCell at q5; have qc := q5.cell; have ql := q5.lt; have bc := BN.cell; have bl := BN.lt))
      have k9 := KW.cell ql (qc 9)
      have k10 := KW.cell ql (qc 10)
      refine wp_region_kept (by kernel_rfl) (by kernel_rfl) ?_
      repeat (go_big_quiet_step (fail))
      refine wpQuiet_nil ?_
      rintro wv ⟨⟨wx, hx⟩, hh⟩
      obtain rfl : wv = wx := hh
      go_wp2_with fail
      go_ret3
      exact pxPost.mk HR.out (nds_nil _) (hk3.trans hx)
  rw [if_neg hc] at hpx
  have hcz : s1.code = 0 := Decidable.not_not.1 hc
  clear hc
  by_cases hst : (strS s1.ns).2.2 ≠ 0
  · rw [if_pos hst] at hpx
    have HR := Lib.hid hpx
    generalize (strS s1.ns).2.2 = sc at *
    have hsb := bne_noL hst
    clear hpx HFM
    rcases hbb with rfl | rfl
    · clear HGE
      go_enter Tryz.func10, Tryz.ntmps10
      go_wp2_with (first
        | (go_at_call 18; refine HTK.out.mono ?_; rintro e w1 ⟨tv, rfl, hT1, hk1⟩; obtain ⟨TA, tc, rfl, _⟩ := toksX_at hT1; have hk2 := hKB.trans hk1; have BN := BN.kept hk1; have bc := BN.cell; have bl := BN.lt)
        | (go_at_call 19; refine (HEX.out _ _ hk2 hT1).mono ?_; rintro e w2 ⟨rfl, hs2⟩; have BN := BN.kept hs2.old; have hk3 := hk2.trans hs2.old; obtain ⟨i, nv, q5, q6, q7, q8⟩ := hs2.at_; have HND := HNS.out _ _ _ q8; rw [hcz] at q5; unfold PCell at q5; have qc := q5.cell; have ql := q5.lt; have bc := BN.cell; have bl := BN.lt)
        | (go_at_call 14; refine (HSTR.out _ _ HND).mono ?_; rintro e w3 ⟨u, rfl, hk4⟩; have q5 := Blk.kept q5 hk4; have qc := q5.cell; have ql := q5.lt; have BN := BN.kept hk4; have bc := BN.cell; have bl := BN.lt; have hk5 := hk3.trans hk4))
      go_ret3
      exact pxPost.mk HR.out (nds_nil _) hk5
    · have HG2 := Lib.hid (HGE.out rfl)
      clear HGE
      go_enter Tryz.func10, Tryz.ntmps10
      go_wp2_with (first
        | (go_at_call 18; refine HTK.out.mono ?_; rintro e w1 ⟨tv, rfl, hT1, hk1⟩; obtain ⟨TA, tc, rfl, _⟩ := toksX_at hT1; have hk2 := hKB.trans hk1; have BN := BN.kept hk1; have bc := BN.cell; have bl := BN.lt)
        | (go_at_call 19; refine (HEX.out _ _ hk2 hT1).mono ?_; rintro e w2 ⟨rfl, hs2⟩; have BN := BN.kept hs2.old; have hk3 := hk2.trans hs2.old; obtain ⟨i, nv, q5, q6, q7, q8⟩ := hs2.at_; have hge : ¬ ((i : Int) < toks.length) := (by have := HG2.out _ q7; omega); have HND := HNS.out _ _ _ q8; rw [hcz] at q5; unfold PCell at q5; have qc := q5.cell; have ql := q5.lt; have bc := BN.cell; have bl := BN.lt)
        | (go_at_call 14; refine (HSTR.out _ _ HND).mono ?_; rintro e w3 ⟨u, rfl, hk4⟩; have q5 := Blk.kept q5 hk4; have qc := q5.cell; have ql := q5.lt; have BN := BN.kept hk4; have bc := BN.cell; have bl := BN.lt; have hk5 := hk3.trans hk4))
      go_ret3
      exact pxPost.mk HR.out (nds_nil _) hk5
  rw [if_neg hst] at hpx
  have hst0 : (strS s1.ns).2.2 = 0 := Decidable.not_not.1 hst
  rw [hst0] at HSTR
  clear hst hst0
  generalize fmtX nm s1.ns = FX at *
  obtain ⟨ft, fc⟩ := FX
  dsimp only at hpx HFM
  have heq := neqE ft s
  by_cases hf : fc = 0 ∧ ft = s
  · rw [if_pos hf] at hpx
    obtain ⟨rfl, rfl⟩ := hf
    have HR := Lib.hid hpx
    have hqq : (ft.toList != ft.toList) = false := by simp
    clear hpx
    rcases hbb with rfl | rfl
    · clear HGE
      go_enter Tryz.func10, Tryz.ntmps10
      go_wp2_with (first
        | (go_at_call 18; refine HTK.out.mono ?_; rintro e w1 ⟨tv, rfl, hT1, hk1⟩; obtain ⟨TA, tc, rfl, _⟩ := toksX_at hT1; have hk2 := hKB.trans hk1; have BN := BN.kept hk1; have bc := BN.cell; have bl := BN.lt)
        | (go_at_call 19; refine (HEX.out _ _ hk2 hT1).mono ?_; rintro e w2 ⟨rfl, hs2⟩; have BN := BN.kept hs2.old; have hk3 := hk2.trans hs2.old; obtain ⟨i, nv, q5, q6, q7, q8⟩ := hs2.at_; have HND := HNS.out _ _ _ q8; rw [hcz] at q5; unfold PCell at q5; have qc := q5.cell; have ql := q5.lt; have bc := BN.cell; have bl := BN.lt)
        | (go_at_call 14; refine (HSTR.out _ _ HND).mono ?_; rintro e w3 ⟨u, rfl, hk4⟩; have q5 := Blk.kept q5 hk4; have qc := q5.cell; have ql := q5.lt; have BN := BN.kept hk4; have bc := BN.cell; have bl := BN.lt; have hk5 := hk3.trans hk4)
        | (go_at_call 9; refine (HFM.out _ _ hk5 (Recs.kept HND hk4)).mono ?_; rintro e w4 ⟨rfl, hk6⟩; have q5 := Blk.kept q5 hk6; have qc := q5.cell; have ql := q5.lt))
      go_ret3
      exact pxPost.mk HR.out ((Recs.kept HND hk4).kept hk6) (hk5.trans hk6)
    · have HG2 := Lib.hid (HGE.out rfl)
      clear HGE
      go_enter Tryz.func10, Tryz.ntmps10
      go_wp2_with (first
        | (go_at_call 18; refine HTK.out.mono ?_; rintro e w1 ⟨tv, rfl, hT1, hk1⟩; obtain ⟨TA, tc, rfl, _⟩ := toksX_at hT1; have hk2 := hKB.trans hk1; have BN := BN.kept hk1; have bc := BN.cell; have bl := BN.lt)
        | (go_at_call 19; refine (HEX.out _ _ hk2 hT1).mono ?_; rintro e w2 ⟨rfl, hs2⟩; have BN := BN.kept hs2.old; have hk3 := hk2.trans hs2.old; obtain ⟨i, nv, q5, q6, q7, q8⟩ := hs2.at_; have hge : ¬ ((i : Int) < toks.length) := (by have := HG2.out _ q7; omega); have HND := HNS.out _ _ _ q8; rw [hcz] at q5; unfold PCell at q5; have qc := q5.cell; have ql := q5.lt; have bc := BN.cell; have bl := BN.lt)
        | (go_at_call 14; refine (HSTR.out _ _ HND).mono ?_; rintro e w3 ⟨u, rfl, hk4⟩; have q5 := Blk.kept q5 hk4; have qc := q5.cell; have ql := q5.lt; have BN := BN.kept hk4; have bc := BN.cell; have bl := BN.lt; have hk5 := hk3.trans hk4)
        | (go_at_call 9; refine (HFM.out _ _ hk5 (Recs.kept HND hk4)).mono ?_; rintro e w4 ⟨rfl, hk6⟩; have q5 := Blk.kept q5 hk6; have qc := q5.cell; have ql := q5.lt))
      go_ret3
      exact pxPost.mk HR.out ((Recs.kept HND hk4).kept hk6) (hk5.trans hk6)
  rw [if_neg hf] at hpx
  have HR := Lib.hid hpx
  have hff : ¬ fc = 0 ∨ (fc = 0 ∧ ¬ ft = s) := by
    by_cases h0 : fc = 0
    · exact .inr ⟨h0, fun h => hf ⟨h0, h⟩⟩
    · exact .inl h0
  clear hpx hf
  rcases hff with hf | ⟨rfl, hf⟩
  · have hfb := bne_noL hf
    clear heq
    rcases hbb with rfl | rfl
    · clear HGE
      go_enter Tryz.func10, Tryz.ntmps10
      go_wp2_with (first
        | (go_at_call 18; refine HTK.out.mono ?_; rintro e w1 ⟨tv, rfl, hT1, hk1⟩; obtain ⟨TA, tc, rfl, _⟩ := toksX_at hT1; have hk2 := hKB.trans hk1; have BN := BN.kept hk1; have bc := BN.cell; have bl := BN.lt)
        | (go_at_call 19; refine (HEX.out _ _ hk2 hT1).mono ?_; rintro e w2 ⟨rfl, hs2⟩; have BN := BN.kept hs2.old; have hk3 := hk2.trans hs2.old; obtain ⟨i, nv, q5, q6, q7, q8⟩ := hs2.at_; have HND := HNS.out _ _ _ q8; rw [hcz] at q5; unfold PCell at q5; have qc := q5.cell; have ql := q5.lt; have bc := BN.cell; have bl := BN.lt)
        | (go_at_call 14; refine (HSTR.out _ _ HND).mono ?_; rintro e w3 ⟨u, rfl, hk4⟩; have q5 := Blk.kept q5 hk4; have qc := q5.cell; have ql := q5.lt; have BN := BN.kept hk4; have bc := BN.cell; have bl := BN.lt; have hk5 := hk3.trans hk4)
        | (go_at_call 9; refine (HFM.out _ _ hk5 (Recs.kept HND hk4)).mono ?_; rintro e w4 ⟨rfl, hk6⟩; have q5 := Blk.kept q5 hk6; have qc := q5.cell; have ql := q5.lt))
      go_ret3
      exact pxPost.mk HR.out (nds_nil _) (hk5.trans hk6)
    · have HG2 := Lib.hid (HGE.out rfl)
      clear HGE
      go_enter Tryz.func10, Tryz.ntmps10
      go_wp2_with (first
        | (go_at_call 18; refine HTK.out.mono ?_; rintro e w1 ⟨tv, rfl, hT1, hk1⟩; obtain ⟨TA, tc, rfl, _⟩ := toksX_at hT1; have hk2 := hKB.trans hk1; have BN := BN.kept hk1; have bc := BN.cell; have bl := BN.lt)
        | (go_at_call 19; refine (HEX.out _ _ hk2 hT1).mono ?_; rintro e w2 ⟨rfl, hs2⟩; have BN := BN.kept hs2.old; have hk3 := hk2.trans hs2.old; obtain ⟨i, nv, q5, q6, q7, q8⟩ := hs2.at_; have hge : ¬ ((i : Int) < toks.length) := (by have := HG2.out _ q7; omega); have HND := HNS.out _ _ _ q8; rw [hcz] at q5; unfold PCell at q5; have qc := q5.cell; have ql := q5.lt; have bc := BN.cell; have bl := BN.lt)
        | (go_at_call 14; refine (HSTR.out _ _ HND).mono ?_; rintro e w3 ⟨u, rfl, hk4⟩; have q5 := Blk.kept q5 hk4; have qc := q5.cell; have ql := q5.lt; have BN := BN.kept hk4; have bc := BN.cell; have bl := BN.lt; have hk5 := hk3.trans hk4)
        | (go_at_call 9; refine (HFM.out _ _ hk5 (Recs.kept HND hk4)).mono ?_; rintro e w4 ⟨rfl, hk6⟩; have q5 := Blk.kept q5 hk6; have qc := q5.cell; have ql := q5.lt))
      go_ret3
      exact pxPost.mk HR.out (nds_nil _) (hk5.trans hk6)
  · rw [decide_eq_false hf] at heq
    have hqq : (ft.toList != s.toList) = true := by
      unfold bne
      rw [heq]; rfl
    rcases hbb with rfl | rfl
    · clear HGE
      go_enter Tryz.func10, Tryz.ntmps10
      go_wp2_with (first
        | (go_at_call 18; refine HTK.out.mono ?_; rintro e w1 ⟨tv, rfl, hT1, hk1⟩; obtain ⟨TA, tc, rfl, _⟩ := toksX_at hT1; have hk2 := hKB.trans hk1; have BN := BN.kept hk1; have bc := BN.cell; have bl := BN.lt)
        | (go_at_call 19; refine (HEX.out _ _ hk2 hT1).mono ?_; rintro e w2 ⟨rfl, hs2⟩; have BN := BN.kept hs2.old; have hk3 := hk2.trans hs2.old; obtain ⟨i, nv, q5, q6, q7, q8⟩ := hs2.at_; have HND := HNS.out _ _ _ q8; rw [hcz] at q5; unfold PCell at q5; have qc := q5.cell; have ql := q5.lt; have bc := BN.cell; have bl := BN.lt)
        | (go_at_call 14; refine (HSTR.out _ _ HND).mono ?_; rintro e w3 ⟨u, rfl, hk4⟩; have q5 := Blk.kept q5 hk4; have qc := q5.cell; have ql := q5.lt; have BN := BN.kept hk4; have bc := BN.cell; have bl := BN.lt; have hk5 := hk3.trans hk4)
        | (go_at_call 9; refine (HFM.out _ _ hk5 (Recs.kept HND hk4)).mono ?_; rintro e w4 ⟨rfl, hk6⟩; have q5 := Blk.kept q5 hk6; have qc := q5.cell; have ql := q5.lt))
      go_ret3
      exact pxPost.mk HR.out (nds_nil _) (hk5.trans hk6)
    · have HG2 := Lib.hid (HGE.out rfl)
      clear HGE
      go_enter Tryz.func10, Tryz.ntmps10
      go_wp2_with (first
        | (go_at_call 18; refine HTK.out.mono ?_; rintro e w1 ⟨tv, rfl, hT1, hk1⟩; obtain ⟨TA, tc, rfl, _⟩ := toksX_at hT1; have hk2 := hKB.trans hk1; have BN := BN.kept hk1; have bc := BN.cell; have bl := BN.lt)
        | (go_at_call 19; refine (HEX.out _ _ hk2 hT1).mono ?_; rintro e w2 ⟨rfl, hs2⟩; have BN := BN.kept hs2.old; have hk3 := hk2.trans hs2.old; obtain ⟨i, nv, q5, q6, q7, q8⟩ := hs2.at_; have hge : ¬ ((i : Int) < toks.length) := (by have := HG2.out _ q7; omega); have HND := HNS.out _ _ _ q8; rw [hcz] at q5; unfold PCell at q5; have qc := q5.cell; have ql := q5.lt; have bc := BN.cell; have bl := BN.lt)
        | (go_at_call 14; refine (HSTR.out _ _ HND).mono ?_; rintro e w3 ⟨u, rfl, hk4⟩; have q5 := Blk.kept q5 hk4; have qc := q5.cell; have ql := q5.lt; have BN := BN.kept hk4; have bc := BN.cell; have bl := BN.lt; have hk5 := hk3.trans hk4)
        | (go_at_call 9; refine (HFM.out _ _ hk5 (Recs.kept HND hk4)).mono ?_; rintro e w4 ⟨rfl, hk6⟩; have q5 := Blk.kept q5 hk6; have qc := q5.cell; have ql := q5.lt))
      go_ret3
      exact pxPost.mk HR.out (nds_nil _) (hk5.trans hk6)
end Go.Proofs.YtdnjfpmngnkcfaaGreatDoor
/- Two slices of the same operations are the same. -/
namespace Go.Proofs.YtdnjfpmngnkcfaaGreatDoor
open Go.RowKit

set_option maxRecDepth 100000 in
set_option maxHeartbeats 4000000 in
/-- two slices of the same operations -/
theorem nodes_same (va vb : Value) (xs : List Nd) (w : World) (ha : Nds w va xs) (hb : Nds w vb xs) (hn : xs.length ≤ 1000000) :
    Calls Tryz.prog 11 #[va, vb] w fun e w' => e = .returned (.bool true) ∧ Kept w w' := by
  obtain ⟨A, ca, rfl, hA⟩ := ha.at_
  obtain ⟨B, cb, rfl, hB⟩ := hb.at_
  obtain ⟨n, hxn⟩ : ∃ n, n = xs.length := ⟨_, rfl⟩
  rw [← hxn] at hA hB hn ⊢
  have HX := Lib.hid hxn
  clear hxn
  go_enter Tryz.func11, Tryz.ntmps11
  go_wp2_with fail
  go_loopw [5] (fun z wr => ∃ pos : Nat, pos ≤ n ∧ z = .int .i64 pos ∧ Kept w wr) (fun z _ => (n - intOf z).toNat)
  case atStart => exact ⟨0, Nat.zero_le _, rfl, Kept.refl _⟩
  case round =>
    obtain ⟨pos, hps, rfl, hK⟩ := hrel
    by_cases hp : pos < n
    · obtain ⟨b1, o1, rfl, hb1, hc1⟩ := hA (by omega)
      obtain ⟨b2, o2, rfl, hb2, hc2⟩ := hB (by omega)
      have hg : xs[pos]? = some (xs[pos]'(by have := HX.out; omega)) := List.getElem?_eq_getElem _
      obtain ⟨x0, x1⟩ := hc1 pos _ hg
      obtain ⟨y0, y1⟩ := hc2 pos _ hg
      clear hc1 hc2 hA hB
      generalize xs[pos]'(by have := HX.out; omega) = T at *
      clear hg
      have hw1 := Nat.lt_of_lt_of_le hb1 hK.size
      have hw2 := Nat.lt_of_lt_of_le hb2 hK.size
      have k0 := KW.cell hw1 (hK.cell (p := ⟨b1, _, none⟩) hb1 x0)
      have k1 := KW.cell hw1 (hK.cell (p := ⟨b1, _, none⟩) hb1 x1)
      have m0 := KW.cell hw2 (hK.cell (p := ⟨b2, _, none⟩) hb2 y0)
      have m1 := KW.cell hw2 (hK.cell (p := ⟨b2, _, none⟩) hb2 y1)
      clear x0 x1 y0 y1
      have hpi : (pos : Int) < n := by omega
      go_wp2_with fail
      refine wp_region_kept (by kernel_rfl) (by kernel_rfl) ?_
      repeat (go_big_quiet_step (fail))
      refine wpQuiet_nil ?_
      rintro _ ⟨⟨wx, hx2⟩, rfl⟩
      go_wp2_with fail
      go_roundw
      case rel => exact ⟨pos + 1, hp, by go_num, hK.trans hx2⟩
      case measure => simp only [intOf]; omega
    · have hpi : ¬ ((pos : Int) < n) := by omega
      go_wp2_with fail
      go_ret
      exact ⟨rfl, hK⟩
end Go.Proofs.YtdnjfpmngnkcfaaGreatDoor
/- The examples of package guerdonlaw11 hold. -/
namespace Go.Proofs.YtdnjfpmngnkcfaaGreatDoor
open Go.RowKit

/-- the value of the inputs x and y in memory -/
def nmV (g : Nat) : Value := .agg #[.slice none 0 0, .slice none 0 0, .slice (some ⟨g, 0, none⟩) 2 2, .slice none 0 0, .slice none 0 0]
def nmPost (w : World) (e : Ending) (w' : World) : Prop := ∃ g, e = .returned (nmV g) ∧ Names w' (nmV g) nm0 ∧ Kept w w'
set_option maxRecDepth 100000 in
set_option maxHeartbeats 1000000 in
theorem names11_any (w : World) : Calls Tryz.prog 13 #[] w (nmPost w) := by
  have hK := ((Kept.refl w).alloc (.cells #[.slice none 0 0, .slice none 0 0, .slice (some ⟨w.heap.size + 1, 0, none⟩) 2 2, .slice none 0 0, .slice none 0 0] 26)).alloc (.cells #[.string ⟨#[120]⟩, .string ⟨#[121]⟩] 9)
  have hB1 := (Blk.new w 26 #[.slice none 0 0, .slice none 0 0, .slice none 0 0, .slice none 0 0, .slice none 0 0]).alloc (.cells #[.string ⟨#[120]⟩, .string ⟨#[121]⟩] 9)
  have hC1 := (Blk.new w 26 #[.slice none 0 0, .slice none 0 0, .slice (some ⟨w.heap.size + 1, 0, none⟩) 2 2, .slice none 0 0, .slice none 0 0]).alloc (.cells #[.string ⟨#[120]⟩, .string ⟨#[121]⟩] 9)
  have hB2 := Blk.new (w.alloc (.cells #[.slice none 0 0, .slice none 0 0, .slice (some ⟨w.heap.size + 1, 0, none⟩) 2 2, .slice none 0 0, .slice none 0 0] 26)) 9 #[.string ⟨#[120]⟩, .string ⟨#[121]⟩]
  have hz : (w.alloc (.cells #[.slice none 0 0, .slice none 0 0, .slice (some ⟨w.heap.size + 1, 0, none⟩) 2 2, .slice none 0 0, .slice none 0 0] 26)).heap.size = w.heap.size + 1 := by simp
  rw [hz] at hB2
  have bf := hB1.frozen
  have bc := hB1.cell
  have bl := hB1.lt
  go_enter Tryz.func13, Tryz.ntmps13
  go_wp2_with fail
  clear bf bc bl hB1 hz
  generalize (w.alloc (.cells #[.slice none 0 0, .slice none 0 0, .slice (some ⟨w.heap.size + 1, 0, none⟩) 2 2, .slice none 0 0, .slice none 0 0] 26)).alloc (.cells #[.string ⟨#[120]⟩, .string ⟨#[121]⟩] 9) = W at *
  have cc := hC1.cell
  have HN : Names W (nmV (w.heap.size + 1)) nm0 := by
    refine ⟨_, _, _, _, _, rfl, ⟨rfl, none, 0, rfl, by decide, fun h => absurd h (by decide)⟩, Strs.nil W, ⟨_, 2, rfl, fun _ => ⟨w.heap.size + 1, 0, rfl, hB2.lt, fun j hj => ?_⟩⟩, Strs.nil W, Strs.nil W, by decide, by decide, by decide, by decide⟩
    rw [hB2.cell, Nat.zero_add]
    match j, hj with
    | 0, _ => rfl
    | 1, _ => rfl
  refine bodyPost_ret (v := nmV (w.heap.size + 1)) (by simp [results, Tryz.results13, go_sem, cc, nmV]) rfl ⟨_, rfl, HN, hK⟩
theorem nds_litE (w : World) (xs : List Nd) (t : TypeId) (cap : Nat) : Nds (w.alloc (.cells (xs.flatMap ndF).toArray t)) (.slice (some ⟨w.heap.size, 0, none⟩) xs.length cap) xs := by
  refine ⟨_, _, rfl, fun _ => ⟨w.heap.size, 0, rfl, by simp, fun j x hj i u hu => ?_⟩⟩
  rw [World.cell?_alloc_at _ _ _ _ rfl, List.getElem?_toArray, Nat.zero_add]
  exact flat_get ndF_len xs j x hj i u hu
theorem nm0_small (x : Nd) : ∀ s ∈ refN nm0 x, s.size ≤ 140737488355328 := fun s hs => Nat.le_trans (refN_small nm0_dis x s hs) (by decide)
theorem nm0_64 {xs : List Nd} (h : xs.all (fun x => decide (-9223372036854775808 ≤ x.n) && decide (x.n ≤ 9223372036854775807)) = true) : ∀ x ∈ xs, -9223372036854775808 ≤ x.n ∧ x.n ≤ 9223372036854775807 := by
  intro x hx
  have := List.all_eq_true.1 h x hx
  simp only [Bool.and_eq_true, decide_eq_true_eq] at this
  exact this
set_option maxRecDepth 100000 in
set_option maxHeartbeats 16000000 in
theorem awake11_any (w : World) (hM : Mon w) (hP : Pow w) : Calls Tryz.prog 8 #[] w fun e w' => e = .returned (.bool true) ∧ Kept w w' := by
  have HMO := Lib.hid (fun w1 (hk : Kept w w1) => hM.kept hk)
  have HPO := Lib.hid (fun w1 (hk : Kept w w1) => hP.kept hk)
  have HNA := Lib.hid names11_any
  unfold nmPost at HNA
  have HF := Lib.hid (fun v nv w1 (hk : Kept w w1) (h : Nds w1 v [⟨7, 0⟩, ⟨2, 2⟩, ⟨11, 0⟩, ⟨7, 1⟩, ⟨13, 0⟩]) (hn : Names w1 nv nm0) => fmtT_any v nv [⟨7, 0⟩, ⟨2, 2⟩, ⟨11, 0⟩, ⟨7, 1⟩, ⟨13, 0⟩] nm0 w1 h hn (by decide) (nm0_64 (by decide)) (fun x _ => nm0_small x) (HMO.out w1 hk) (HPO.out w1 hk))
  have HPA3 := Lib.hid (fun nv w1 (hk : Kept w w1) (hn : Names w1 nv nm0) => etParse_any ⟨#[120, 32, 45, 32, 45, 50]⟩ (by decide) nv nm0 w1 hn nm0_b nm0_small (HMO.out w1 hk) (HPO.out w1 hk))
  have HPA4 := Lib.hid (fun nv w1 (hk : Kept w w1) (hn : Names w1 nv nm0) => etParse_any ⟨#[45, 40, 50, 41]⟩ (by decide) nv nm0 w1 hn nm0_b nm0_small (HMO.out w1 hk) (HPO.out w1 hk))
  have HPA2 := Lib.hid (fun nv w1 (hk : Kept w w1) (hn : Names w1 nv nm0) => etParse_any ⟨#[120, 43, 50]⟩ (by decide) nv nm0 w1 hn nm0_b nm0_small (HMO.out w1 hk) (HPO.out w1 hk))
  unfold fmPost at HF
  unfold pxPost at HPA2 HPA3 HPA4
  rw [ev_fmt] at HF
  rw [ev_par2] at HPA2
  rw [ev_par3] at HPA3
  rw [ev_par4] at HPA4
  dsimp only at HF HPA2 HPA3 HPA4
  have HS3 := Lib.hid (fun va vb w1 (ha : Nds w1 va [⟨7, 0⟩, ⟨2, -2⟩, ⟨12, 0⟩]) (hb : Nds w1 vb [⟨7, 0⟩, ⟨2, -2⟩, ⟨12, 0⟩]) => nodes_same va vb [⟨7, 0⟩, ⟨2, -2⟩, ⟨12, 0⟩] w1 ha hb (by decide))
  have HS4 := Lib.hid (fun va vb w1 (ha : Nds w1 va [⟨2, 2⟩, ⟨10, 0⟩]) (hb : Nds w1 vb [⟨2, 2⟩, ⟨10, 0⟩]) => nodes_same va vb [⟨2, 2⟩, ⟨10, 0⟩] w1 ha hb (by decide))
  have K0 := (Kept.refl w).alloc (.cells #[.int .i64 7, .int .i64 0, .int .i64 2, .int .i64 2, .int .i64 11, .int .i64 0, .int .i64 7, .int .i64 1, .int .i64 13, .int .i64 0] 41)
  have N0 : Nds (w.alloc (.cells #[.int .i64 7, .int .i64 0, .int .i64 2, .int .i64 2, .int .i64 11, .int .i64 0, .int .i64 7, .int .i64 1, .int .i64 13, .int .i64 0] 41)) (.slice (some ⟨w.heap.size, 0, none⟩) 5 5) [⟨7, 0⟩, ⟨2, 2⟩, ⟨11, 0⟩, ⟨7, 1⟩, ⟨13, 0⟩] := nds_litE w [⟨7, 0⟩, ⟨2, 2⟩, ⟨11, 0⟩, ⟨7, 1⟩, ⟨13, 0⟩] _ 5
  have L3 : ∀ w1 : World, Nds (w1.alloc (.cells #[.int .i64 7, .int .i64 0, .int .i64 2, .int .i64 (-2), .int .i64 12, .int .i64 0] 41)) (.slice (some ⟨w1.heap.size, 0, none⟩) 3 3) [⟨7, 0⟩, ⟨2, -2⟩, ⟨12, 0⟩] := fun w1 => nds_litE w1 [⟨7, 0⟩, ⟨2, -2⟩, ⟨12, 0⟩] _ 3
  have L4 : ∀ w1 : World, Nds (w1.alloc (.cells #[.int .i64 2, .int .i64 2, .int .i64 10, .int .i64 0] 41)) (.slice (some ⟨w1.heap.size, 0, none⟩) 2 2) [⟨2, 2⟩, ⟨10, 0⟩] := fun w1 => nds_litE w1 [⟨2, 2⟩, ⟨10, 0⟩] _ 2
  replace L3 := Lib.hid L3
  replace L4 := Lib.hid L4
  go_enter Tryz.func8, Tryz.ntmps8
  go_wp2_with fail
  refine (HNA.out _).mono ?_
  rintro e w1 ⟨g, rfl, hN, hk⟩
  have K1 := K0.trans hk
  have N1 := Recs.kept N0 hk
  clear K0 N0 hk
  go_wp2_with (go_at_call 9; refine (HF.out _ _ _ K1 N1 hN).mono ?_; rintro e w2 ⟨rfl, hk2⟩)
  have K2 := K1.trans hk2
  clear K1 N1 hN hk2
  refine (HNA.out _).mono ?_
  rintro e w3 ⟨g3, rfl, hN, hk⟩
  have K3 := K2.trans hk
  clear K2 hk
  go_wp2_with (go_at_call 10; refine (HPA3.out _ _ K3 hN).mono ?_; rintro e w4 ⟨v4, rfl, N4, hk4⟩; obtain ⟨A4, c4, hu4, _⟩ := id N4; subst hu4)
  have K4 := K3.trans hk4
  clear K3 hN hk4
  refine (HNA.out _).mono ?_
  rintro e w5 ⟨g5, rfl, hN, hk⟩
  have K5 := K4.trans hk
  have N5 := Recs.kept N4 hk
  clear K4 hk N4
  go_wp2_with (go_at_call 10; refine (HPA4.out _ _ K5 hN).mono ?_; rintro e w6 ⟨v6, rfl, N6, hk6⟩; obtain ⟨A6, c6, hu6, _⟩ := id N6; subst hu6)
  have K6 := K5.trans hk6
  have N7 := Recs.kept N5 hk6
  clear K5 hN hk6 N5
  refine (HNA.out _).mono ?_
  rintro e w7 ⟨g7, rfl, hN, hk⟩
  have K7 := K6.trans hk
  have N8 := Recs.kept N7 hk
  have N9 := Recs.kept N6 hk
  clear K6 hk N6 N7
  go_wp2_with (go_at_call 10; refine (HPA2.out _ _ K7 hN).mono ?_; rintro e w8 ⟨v8, rfl, N10, hk8⟩; obtain ⟨A8, c8, hu8, _⟩ := id N10; subst hu8)
  have K8 := K7.trans hk8
  have N11 := Recs.kept N8 hk8
  have N12 := Recs.kept N9 hk8
  clear K7 hN hk8 N8 N9 N10
  have M3 := L3.out w8
  have KA := (Kept.refl w8).alloc (.cells #[.int .i64 7, .int .i64 0, .int .i64 2, .int .i64 (-2), .int .i64 12, .int .i64 0] 41)
  have N13 := Recs.kept N11 KA
  refine (HS3.out _ _ _ N13 M3).mono ?_
  rintro e w9 ⟨rfl, hk9⟩
  have KB := KA.trans hk9
  have K9 := K8.trans KB
  have N14 := Recs.kept N12 KB
  clear N11 N12 M3 KA N13 K8 KB hk9
  go_wp2_with fail
  have KC := (Kept.refl w9).alloc (.cells #[.int .i64 2, .int .i64 2, .int .i64 10, .int .i64 0] 41)
  refine (HS4.out _ _ _ (Recs.kept N14 KC) (L4.out w9)).mono ?_
  rintro e w10 ⟨rfl, hk10⟩
  go_wp2_with fail
  go_ret
  exact ⟨rfl, (K9.trans KC).trans hk10⟩
end Go.Proofs.YtdnjfpmngnkcfaaGreatDoor
/- What Small, find, twice and Distinct of package guerdonref11 compute. -/
namespace Go.Proofs.YtdnjfpmngnkcfaaGreatDoor
open Go.RowKit

set_option maxRecDepth 100000 in
theorem risIdX_any (s : ByteArray) (w : World) : Calls Tryz.prog 21 #[.string s] w fun e w' => e = .returned (.bool (idB (L s))) ∧ Kept w w' := by
  by_cases hs : s.size ≤ 1000000
  · exact risId_any s hs w
  · have h0b : ((s.size : Int) == 0) = false := by rw [beq_eq_false_iff_ne]; omega
    have h16i : 16 < (s.size : Int) := by omega
    have HR := Lib.hid (show idB (L s) = false by unfold idB; rw [L_length, decide_eq_false (show ¬ s.size ≤ 16 by omega)]; simp)
    go_enter Tryz.func21, Tryz.ntmps21
    go_wp2_with fail
    go_ret
    exact ⟨ret_bool HR.out.symm, Kept.refl _⟩
set_option maxRecDepth 100000 in
set_option maxHeartbeats 1000000 in
theorem rfind_any (v : Value) (xs : List ByteArray) (s : ByteArray) (w : World) (hS : Strs w v xs) (hl : xs.length ≤ 9223372036854775807) : Calls Tryz.prog 22 #[v, .string s] w fun e w' => e = .returned (.int .i64 (idxS s xs)) ∧ w = w' := by
  obtain ⟨A, cap, rfl, hA⟩ := hS.at3E
  obtain ⟨n, hn⟩ : ∃ n, n = xs.length := ⟨_, rfl⟩
  rw [← hn] at hA hl ⊢
  have HN := Lib.hid hn
  clear hn hS
  go_enter Tryz.func22, Tryz.ntmps22
  go_wp2_with fail
  go_loopw [5] (fun z wr => ∃ p : Nat, z = .int .i64 p ∧ p ≤ n ∧ w = wr ∧ (∀ m, m < p → xs[m]? ≠ some s)) (fun z _ => n - (intOf z).toNat)
  case atStart => exact ⟨0, rfl, Nat.zero_le _, rfl, fun _ h => by omega⟩
  case round =>
    obtain ⟨p, rfl, hpn, rfl, hno⟩ := hrel
    by_cases hp : p < n
    · obtain ⟨b1, o1, rfl, hb1, hc1⟩ := hA (by omega)
      have hg : xs[p]? = some (xs[p]'(by have := HN.out; omega)) := List.getElem?_eq_getElem _
      have X0 := hc1 p _ hg
      generalize xs[p]'(by have := HN.out; omega) = X at *
      have hpi : (p : Int) < n := by omega
      have heq := neqE X s
      clear hc1
      by_cases hx : X = s
      · subst hx
        rw [decide_eq_true rfl] at heq
        have HR := Lib.hid (idxS_at hg hno)
        clear hg hno
        go_wp2_with fail
        go_ret
        rw [HR.out]
        exact ⟨rfl, rfl⟩
      · rw [decide_eq_false hx] at heq
        have HNO := Lib.hid (show ∀ m, m < p + 1 → xs[m]? ≠ some s from fun m hm => by
          by_cases h : m = p
          · subst h; rw [hg]; exact fun e => hx (Option.some.inj e)
          · exact hno m (by omega))
        clear hg hno hx
        go_wp2_with fail
        go_roundw
        case rel => exact ⟨p + 1, by go_num, hp, trivial, HNO.out⟩
        case measure => simp [intOf]; omega
    · obtain rfl : n = p := by omega
      have hpi : ¬ ((n : Int) < n) := by omega
      have HR := Lib.hid (idxS_end (s := s) (xs := xs) (by rw [← HN.out]; exact hno))
      clear hno hA
      go_wp2_with fail
      go_ret
      rw [HR.out]
      exact ⟨rfl, rfl⟩
/-- the name at place j is an identifier that has not come before -/
def okJ (l : List ByteArray) (j : Nat) : Prop := ∀ x, l[j]? = some x → idB (L x) = true ∧ x ∉ l.take j
open Classical in
/-- are there names that are no identifiers or come twice -/
noncomputable def twB (l : List ByteArray) : Bool := !decide (∀ j, okJ l j)
theorem twB_yes {l : List ByteArray} {j : Nat} (h : ¬ okJ l j) : twB l = true := by
  classical
  unfold twB
  rw [decide_eq_false (fun h2 => h (h2 j))]; rfl
theorem okJ_all {l : List ByteArray} (h : ∀ j, j < l.length → okJ l j) : ∀ j, okJ l j := by
  intro j
  rcases Nat.lt_or_ge j l.length with hj | hj
  · exact h j hj
  · intro x hx
    rw [List.getElem?_eq_none hj] at hx; cases hx
theorem twB_no {l : List ByteArray} (h : ∀ j, j < l.length → okJ l j) : twB l = false := by
  classical
  unfold twB
  rw [decide_eq_true (okJ_all h)]; rfl
theorem twB_false {l : List ByteArray} (h : twB l = false) : (∀ x ∈ l, idB (L x) = true) ∧ l.Nodup := by
  classical
  have h' : ∀ j, okJ l j := by
    by_cases hx : ∀ j, okJ l j
    · exact hx
    · obtain ⟨j, hj⟩ := Classical.not_forall.1 hx
      rw [twB_yes hj] at h; cases h
  refine ⟨fun x hx => ?_, ?_⟩
  · obtain ⟨j, hj⟩ := List.getElem?_of_mem hx
    exact (h' j x hj).1
  · unfold List.Nodup
    rw [List.pairwise_iff_getElem]
    intro i j hi hj hij e
    have h1 := (h' j _ (List.getElem?_eq_getElem hj)).2
    refine h1 ?_
    rw [← e]
    have : l[i] = (l.take j)[i]'(by rw [List.length_take]; omega) := by rw [List.getElem_take]
    rw [this]
    exact List.getElem_mem _
theorem Strs.take {w : World} {A : Option Addr} {n cap : Nat} {xs : List ByteArray} (h : Strs w (.slice A n cap) xs) {p : Nat} (hp : p ≤ xs.length) {c : Nat} : Strs w (.slice A p c) (xs.take p) := by
  obtain ⟨A', cap', hv, hx⟩ := h
  simp only [Value.slice.injEq] at hv
  obtain ⟨rfl, rfl, rfl⟩ := hv
  refine ⟨A, c, by rw [List.length_take, Nat.min_eq_left hp], fun hpos => ?_⟩
  rw [List.length_take] at hpos
  obtain ⟨b, off, hA, hb, hc⟩ := hx (by omega)
  refine ⟨b, off, hA, hb, fun j hj => ?_⟩
  rw [List.length_take] at hj
  rw [hc j (by omega), List.getElem?_take_of_lt (by omega)]
set_option maxRecDepth 100000 in
set_option maxHeartbeats 4000000 in
theorem twice_any (v : Value) (xs : List ByteArray) (w : World) (hS : Strs w v xs) (hcap : ∀ A n c, v = .slice A n c → n ≤ c) (hl : xs.length ≤ 9223372036854775807) : Calls Tryz.prog 12 #[v] w fun e w' => e = .returned (.bool (twB xs)) ∧ Kept w w' := by
  have HS := Lib.hid hS
  obtain ⟨A, cap, rfl, hA⟩ := hS.at3E
  obtain ⟨n, hn⟩ : ∃ n, n = xs.length := ⟨_, rfl⟩
  have hcp : n ≤ cap := by rw [hn]; exact hcap _ _ _ rfl
  clear hcap
  have HFI := Lib.hid (fun w1 (hk : Kept w w1) p (hp : p ≤ xs.length) c s => rfind_any (.slice A p c) (xs.take p) s w1 ((HS.out.take hp).kept hk) (by rw [List.length_take]; omega))
  rw [← hn] at hA hl ⊢
  have HN := Lib.hid hn
  clear hn hS HS
  go_enter Tryz.func12, Tryz.ntmps12
  go_wp2_with fail
  go_loopw [3] (fun z wr => ∃ p : Nat, z = .int .i64 p ∧ p ≤ n ∧ Kept w wr ∧ (∀ m, m < p → okJ xs m)) (fun z _ => n - (intOf z).toNat)
  case atStart => exact ⟨0, rfl, Nat.zero_le _, Kept.refl w, fun _ h => by omega⟩
  case round =>
    obtain ⟨p, rfl, hpn, hk, hok⟩ := hrel
    by_cases hp : p < n
    · obtain ⟨b1, o1, rfl, hb1, hc1⟩ := hA (by omega)
      have hg : xs[p]? = some (xs[p]'(by have := HN.out; omega)) := List.getElem?_eq_getElem _
      have X0 := hk.cell (p := ⟨b1, _, none⟩) hb1 (hc1 p _ hg)
      generalize xs[p]'(by have := HN.out; omega) = X at *
      have hpi : (p : Int) < n := by omega
      have hp0 : (0 : Int) ≤ p := by omega
      have hpc : p ≤ cap := by omega
      have hpc2 : (p : Int) ≤ cap := by omega
      have hlt : b1 < wr.heap.size := Nat.lt_of_lt_of_le hb1 hk.size
      have k0 := KW.cell hlt X0
      have HID := Lib.hid (fun w1 => risIdX_any X w1)
      have HFX := Lib.hid (fun (x : KW wr) c => HFI.out x.W (hk.trans x.h) p (by have := HN.out; omega) c X)
      have hnot : idB (L X) = false ∨ (idB (L X) = true ∧ 0 ≤ idxS X (xs.take p)) ∨ (idB (L X) = true ∧ idxS X (xs.take p) < 0 ∧ okJ xs p) := by
        cases hid : idB (L X)
        · exact .inl rfl
        · right
          by_cases hx : X ∈ xs.take p
          · exact .inl ⟨rfl, idxS_in hx⟩
          · refine .inr ⟨rfl, by rw [idxS_out hx]; decide, fun x hx2 => ?_⟩
            rw [hg] at hx2
            rw [← Option.some.inj hx2]
            exact ⟨hid, hx⟩
      have hyes : (idB (L X) = false ∨ 0 ≤ idxS X (xs.take p)) → twB xs = true := fun h => twB_yes (j := p) fun ho => by
        obtain ⟨h1, h2⟩ := ho X hg
        rcases h with h | h
        · rw [h1] at h; cases h
        · rw [idxS_out h2] at h; exact absurd h (by decide)
      generalize idB (L X) = d at *
      generalize idxS X (xs.take p) = f at *
      clear hc1
      rcases hnot with rfl | ⟨rfl, hf⟩ | ⟨rfl, hf, hokp⟩
      · have HR := Lib.hid (hyes (.inl rfl))
        clear hyes hok hg
        go_wp2_with fail
        refine wp_region_kept (by kernel_rfl) (by kernel_rfl) ?_
        repeat (go_big_quiet_step (first | (go_at_call 21; with_reducible exact KW.call (HID.out _)) | (go_at_call 22; with_reducible exact KW.pure (HFX.out _ _))))
        refine wpQuiet_nil ?_
        rintro wv ⟨⟨wx, hx⟩, hh⟩
        obtain rfl : wv = wx := hh
        go_wp2_with fail
        go_ret
        exact ⟨ret_bool HR.out.symm, hk.trans hx⟩
      · have HR := Lib.hid (hyes (.inr hf))
        clear hyes hok hg
        go_wp2_with fail
        refine wp_region_kept (by kernel_rfl) (by kernel_rfl) ?_
        repeat (go_big_quiet_step (first | (go_at_call 21; with_reducible exact KW.call (HID.out _)) | (go_at_call 22; with_reducible exact KW.pure (HFX.out _ _))))
        refine wpQuiet_nil ?_
        rintro wv ⟨⟨wx, hx⟩, hh⟩
        obtain rfl : wv = wx := hh
        go_wp2_with fail
        go_ret
        exact ⟨ret_bool HR.out.symm, hk.trans hx⟩
      · have HOK := Lib.hid (show ∀ m, m < p + 1 → okJ xs m from fun m hm => by
          by_cases h : m = p
          · subst h; exact hokp
          · exact hok m (by omega))
        clear hyes hok hg hokp
        go_wp2_with fail
        refine wp_region_kept (by kernel_rfl) (by kernel_rfl) ?_
        repeat (go_big_quiet_step (first | (go_at_call 21; with_reducible exact KW.call (HID.out _)) | (go_at_call 22; with_reducible exact KW.pure (HFX.out _ _))))
        refine wpQuiet_nil ?_
        rintro wv ⟨⟨wx, hx⟩, hh⟩
        obtain rfl : wv = wx := hh
        go_wp2_with fail
        go_roundw
        case rel => exact ⟨p + 1, by go_num, hp, hk.trans hx, HOK.out⟩
        case measure => simp [intOf]; omega
    · obtain rfl : n = p := by omega
      have hpi : ¬ ((n : Int) < n) := by omega
      have HR := Lib.hid (twB_no (l := xs) (by rw [← HN.out]; exact hok))
      clear hok hA
      go_wp2_with fail
      go_ret
      exact ⟨ret_bool HR.out.symm, hk⟩
end Go.Proofs.YtdnjfpmngnkcfaaGreatDoor
/- What Small and Distinct of package guerdonref11 compute. -/
namespace Go.Proofs.YtdnjfpmngnkcfaaGreatDoor
open Go.RowKit

/-! strings appended to a row of the call's own -/
theorem grown_keptX {w0 wr w1 : World} {B : Nat} {v : Value} {xs : List ByteArray} (hK : Kept w0 wr) (hown : Gath wr B v xs) (hB : w0.heap.size ≤ B) (hg : wr.grownBy w1 v.ownBlock) : Kept w0 w1 := by
  refine ⟨hg.os.trans hK.os, hg.tape.trans hK.tape, hg.output.trans hK.output, Nat.le_trans hK.size hg.size, fun b hb => ?_⟩
  have hs := hK.size
  rw [hg.block b (by omega) (fun e => by have := (World.ownsRow.lt hown b e.symm).1; omega)]
  exact hK.block b hb
theorem strs_news {w : World} {b off : Nat} {ys : List ByteArray} (hc : ∀ (j : Nat) x, ys[j]? = some x → w.cell? ⟨b, off + j, none⟩ = some (.string x)) : ∀ j u, (ys.map Value.string)[j]? = some u → w.cell? ((⟨b, off, none⟩ : Addr).add j) = some u := by
  intro j u hj
  rw [List.getElem?_map] at hj
  cases hy : ys[j]? with
  | none => rw [hy] at hj; cases hj
  | some x =>
    rw [hy] at hj
    have := hc j x hy
    have e : (⟨b, off, none⟩ : Addr).add j = ⟨b, off + j, none⟩ := by
      unfold Addr.add
      by_cases h0 : j = 0
      · subst h0; rfl
      · simp [h0]
    rw [e, this]
    exact hj
theorem app_strs {w : World} {base : Nat} {v : Value} {xs : List ByteArray} (hG : Gath w base v xs) {x : Value} {ys : List ByteArray} (hY : Strs w x ys) (hl : xs.length + ys.length ≤ 2000000) (hb : base ≤ w.heap.size) (ty : TypeId) :
    ∃ v' w', (Builtin.append_ #[24, 24] ty #[v, x]).run Tryz.prog w = .ok v' w' ∧ Gath w' base v' (xs ++ ys) ∧ w.grownBy w' v.ownBlock := by
  obtain ⟨i0, hi, hz0, hz1, hz2⟩ := info_parts Tryz.infoStr
  obtain ⟨A, cap, rfl, hx⟩ := hY.at3E
  by_cases h0 : ys = []
  · subst h0
    have hsrc : Src Tryz.prog i0.size 24 (.slice A 0 cap) 0 [] w := ⟨.inl ⟨9, Tryz.underlying24⟩, fun w' => by simp [Builtin.lenOf], by cases A <;> simp [Builtin.firstCells, loadCells, loadCellsFrom], by cases A <;> simp [Builtin.firstCells, loadCells, loadCellsFrom], by simp, fun u hu => by cases hu⟩
    refine ⟨v, w, ?_, by rw [List.append_nil]; exact hG, ⟨rfl, rfl, rfl, Nat.le_refl _, fun _ _ _ => rfl⟩⟩
    rcases hG.2 with ⟨rfl, _⟩ | ⟨g, cp, cur, rfl, _, _, hnc, _⟩
    · exact run_append_nothing w _ _ ty 9 i0 Tryz.underlying24 hi none 0 0 (Nat.le_refl _) _ hsrc
    · exact run_append_nothing w _ _ ty 9 i0 Tryz.underlying24 hi _ _ _ hnc _ hsrc
  · obtain ⟨b, off, rfl, hbb, hc⟩ := hx (List.length_pos_iff.2 h0)
    obtain ⟨v', w', h1, h2, h3, _⟩ := run_append_own (P := Tryz.prog) (w := w) base 24 ty 9 i0 (.string ⟨#[]⟩) 1 16 Tryz.underlying24 hi hz0 hz1 hz2 rfl (by decide) v xs.length (xs.map Value.string) hG ⟨b, off, none⟩ ys.length cap (ys.map Value.string) (by simp) (strs_news hc)
      (fun u hu => by obtain ⟨y, _, rfl⟩ := List.mem_map.1 hu; rfl) (by unfold maxLen; omega) (by omega) hb
    refine ⟨v', w', h1, ?_, h3⟩
    unfold Gath
    rw [List.length_append, List.map_append]
    exact h2
theorem wp_app_strs {o : Oper} {a : Act} {K : Act → World → Prop} {Q : Exit → Act → World → Prop} {w : World} (s x : Operand)
    (ho : o.op = .call { callee := .builtin .append, args := #[s, x], argTypes := #[24, 24] }) {base : Nat} {v : Value} {xs : List ByteArray} (hs : a.eval s = v) (hG : Gath w base v xs) {xv : Value} {ys : List ByteArray} (hx : a.eval x = xv) (hY : Strs w xv ys)
    (hl : xs.length + ys.length ≤ 2000000) (hb : base ≤ w.heap.size) (h : ∀ v' w', Gath w' base v' (xs ++ ys) → w.grownBy w' v.ownBlock → K (a.put o.dst v') w') : o.wp Tryz.prog a w K Q := by
  obtain ⟨v', w', hr, h1, h2⟩ := app_strs hG hY hl hb o.type
  unfold Oper.wp execOp
  simp only [ho, resolve, invoke, builtin, Sem.run_bind, Sem.run_pure, Result.andThen_ok, List.map_toArray, List.map_cons, List.map_nil, hs, hx, hr]
  exact h v' w' h1 h2
def capV (v : Value) : Prop := ∀ A n c, v = .slice A n c → n ≤ c
def CapE (w : World) (ev : Value) : Prop := ∀ b off n c, ev = .slice (some ⟨b, off, none⟩) n c → ∀ j A m c', j < n → w.cell? ⟨b, off + j * 2 + 1, none⟩ = some (.slice A m c') → m ≤ c'
/-- the names, and no slice is longer than its room -/
def NamesC (w : World) (v : Value) (nm : Nm) : Prop := Names w v nm ∧ ∀ ev tv iv dv mv, v = .agg #[ev, tv, iv, dv, mv] → capV tv ∧ capV mv ∧ CapE w ev
theorem Gath.cap {w : World} {B : Nat} {v : Value} {xs : List ByteArray} (h : Gath w B v xs) : capV v := by
  intro A n c hv
  rcases h.2 with ⟨rfl, _⟩ | ⟨g, cp, cur, rfl, _, _, hnc, _⟩
  · simp only [Value.slice.injEq] at hv; omega
  · simp only [Value.slice.injEq] at hv; omega
/-- what Small answers -/
def SmPost (nm : Nm) (w : World) (e : Ending) (w' : World) : Prop := ∃ b, e = .returned (.bool b) ∧ Kept w w' ∧ (b = true → NmB nm ∧ nm.en.length ≤ 20 ∧ nm.tb.length ≤ 40 ∧ nm.ins.length ≤ 40 ∧ nm.ds.length ≤ 40 ∧ nm.md.length ≤ 40)
theorem SmPost.no {nm : Nm} {w w' : World} (hk : Kept w w') : SmPost nm w (.returned (.bool false)) w' := ⟨false, rfl, hk, fun h => by cases h⟩
theorem SmPost.yes {nm : Nm} {w w' : World} {b : Bool} (hk : Kept w w') (h : NmB nm ∧ nm.en.length ≤ 20 ∧ nm.tb.length ≤ 40 ∧ nm.ins.length ≤ 40 ∧ nm.ds.length ≤ 40 ∧ nm.md.length ≤ 40) : SmPost nm w (.returned (.bool b)) w' := ⟨b, rfl, hk, fun _ => h⟩
set_option maxRecDepth 100000 in
set_option maxHeartbeats 8000000 in
theorem small11_any (nv : Value) (nm : Nm) (w : World) (hN : Names w nv nm) : Calls Tryz.prog 6 #[nv] w (SmPost nm w) := by
  obtain ⟨ev, tv, iv, dv, mv, rfl, hE, hT, hI, hD, hM, l1, l2, l3, l4⟩ := hN
  obtain ⟨hel, AE, ce, rfl, hml, hxe⟩ := hE
  obtain ⟨AT, ct, rfl, _⟩ := hT.at3E
  obtain ⟨AI, ci, rfl, _⟩ := hI.at3E
  obtain ⟨AD, cd, rfl, _⟩ := hD.at3E
  obtain ⟨AM, cm, rfl, _⟩ := hM.at3E
  have HFIN := Lib.hid (show (∀ (j : Nat) (l : List ByteArray), nm.ms[j]? = some l → l.length ≤ 40) → nm.ms.length ≤ 20 → nm.tb.length ≤ 40 → nm.ins.length ≤ 40 → nm.ds.length ≤ 40 → nm.md.length ≤ 40 → NmB nm ∧ nm.en.length ≤ 20 ∧ nm.tb.length ≤ 40 ∧ nm.ins.length ≤ 40 ∧ nm.ds.length ≤ 40 ∧ nm.md.length ≤ 40 from fun h1 h2 h3 h4 h5 h6 =>
    ⟨⟨by omega, fun l hl => by obtain ⟨j, hj⟩ := List.getElem?_of_mem hl; have := h1 j l hj; omega, by omega, by omega, by omega, by omega⟩, by omega, h3, h4, h5, h6⟩)
  obtain ⟨n, hn⟩ : ∃ n, n = nm.ms.length := ⟨_, rfl⟩
  have HE := Lib.hid hel
  have HN := Lib.hid hn
  rw [← hn] at hxe hml HFIN ⊢
  clear hel hn hT hI hD hM
  have hK0 := (Kept.refl w).alloc (.cells #[.slice AE n ce, .slice AT nm.tb.length ct, .slice AI nm.ins.length ci, .slice AD nm.ds.length cd, .slice AM nm.md.length cm] 26)
  have hB0 := Blk.new w 26 #[.slice AE n ce, .slice AT nm.tb.length ct, .slice AI nm.ins.length ci, .slice AD nm.ds.length cd, .slice AM nm.md.length cm]
  go_enter Tryz.func6, Tryz.ntmps6
  go_wp2_with fail
  generalize w.alloc (.cells #[.slice AE n ce, .slice AT nm.tb.length ct, .slice AI nm.ins.length ci, .slice AD nm.ds.length cd, .slice AM nm.md.length cm] 26) = W0 at *
  have bc := hB0.cell
  have bl := hB0.lt
  go_loop [3] (fun z => ∃ p : Nat, z = .int .i64 p ∧ p ≤ n ∧ p ≤ 20 ∧ (∀ (j : Nat) (l : List ByteArray), j < p → nm.ms[j]? = some l → l.length ≤ 40)) (fun z => n - (intOf z).toNat)
  case atStart => exact ⟨0, rfl, Nat.zero_le _, Nat.zero_le _, fun _ _ h => by omega⟩
  case round =>
    obtain ⟨p, rfl, hpn, hp20, hok⟩ := hrel
    by_cases hp : p < n ∧ p < 20
    · have hpi : (p : Int) < n := by omega
      have hpi2 : (p : Int) < 20 := by omega
      have hp0 : (0 : Int) ≤ p := by omega
      obtain ⟨b1, o1, rfl, hb1, hc1⟩ := hxe (by omega)
      have hg := List.getElem?_eq_getElem (l := nm.en) (i := p) (by have := HE.out; have := HN.out; omega)
      have hgm := List.getElem?_eq_getElem (l := nm.ms) (i := p) (by have := HN.out; omega)
      obtain ⟨_, _, mv, X1, hSt⟩ := hc1 p _ _ hg hgm
      generalize nm.ms[p]'(by have := HN.out; omega) = l at *
      obtain ⟨Am, cmm, rfl, _⟩ := hSt.at3E
      have X1' := hK0.cell (p := ⟨b1, _, none⟩) hb1 X1
      clear hc1 hg hSt X1
      by_cases hlen : 40 < l.length
      · have hli : 40 < (l.length : Int) := by omega
        clear hok hgm
        go_wp2_with fail
        go_ret
        exact SmPost.no hK0
      · have hli : ¬ 40 < (l.length : Int) := by omega
        have HOK := Lib.hid (show ∀ (j : Nat) (l : List ByteArray), j < p + 1 → nm.ms[j]? = some l → l.length ≤ 40 from fun j l' hj hg => by
          by_cases h : j = p
          · subst h
            rw [hgm] at hg
            rw [← Option.some.inj hg]; omega
          · exact hok j l' (by omega) hg)
        clear hok hgm
        go_wp2_with fail
        go_round
        case rel => exact ⟨p + 1, by go_num, by omega, by omega, HOK.out⟩
        case measure => simp [intOf]; omega
    · have hne : n ≤ 20 → ∀ (j : Nat) (l : List ByteArray), nm.ms[j]? = some l → l.length ≤ 40 := fun h j l hg => hok j l (by have := (List.getElem?_eq_some_iff.1 hg).1; have := HN.out; omega) hg
      have HNE := Lib.hid hne
      have hex : ((p : Int) < n ∧ ¬ (p : Int) < 20) ∨ ¬ (p : Int) < n := by omega
      clear hok hp hne
      have hsix : (¬ (n : Int) ≤ 20) ∨ ((n : Int) ≤ 20 ∧ ¬ (nm.tb.length : Int) ≤ 40) ∨ ((n : Int) ≤ 20 ∧ (nm.tb.length : Int) ≤ 40 ∧ ¬ (nm.ins.length : Int) ≤ 40) ∨ ((n : Int) ≤ 20 ∧ (nm.tb.length : Int) ≤ 40 ∧ (nm.ins.length : Int) ≤ 40 ∧ ¬ (nm.ds.length : Int) ≤ 40) ∨ ((n : Int) ≤ 20 ∧ (nm.tb.length : Int) ≤ 40 ∧ (nm.ins.length : Int) ≤ 40 ∧ (nm.ds.length : Int) ≤ 40 ∧ ¬ (nm.md.length : Int) ≤ 40) ∨
        ((n : Int) ≤ 20 ∧ (nm.tb.length : Int) ≤ 40 ∧ (nm.ins.length : Int) ≤ 40 ∧ (nm.ds.length : Int) ≤ 40 ∧ (nm.md.length : Int) ≤ 40) := by omega
      rcases hsix with h | ⟨h, h'⟩ | ⟨h, h', h''⟩ | ⟨h, h', h'', h3⟩ | ⟨h, h', h'', h3, h4⟩ | ⟨h, h', h'', h3, h4⟩
      all_goals
        rcases hex with ⟨he1, he2⟩ | he1
        all_goals
          first
            | (exfalso; omega)
            | (go_wp2_with fail
               go_ret
               first
                 | exact SmPost.no hK0
                 | exact SmPost.yes hK0 (HFIN.out (HNE.out (by omega)) (by omega) (by omega) (by omega) (by omega) (by omega)))
end Go.Proofs.YtdnjfpmngnkcfaaGreatDoor
/- What Distinct of package guerdonref11 answers. -/
namespace Go.Proofs.YtdnjfpmngnkcfaaGreatDoor
open Go.RowKit

/-- what Distinct answers -/
def DsPost (nm : Nm) (w : World) (e : Ending) (w' : World) : Prop := ∃ b, e = .returned (.bool b) ∧ Kept w w' ∧ (b = true → Dis nm)
theorem DsPost.no {nm : Nm} {w w' : World} (hk : Kept w w') : DsPost nm w (.returned (.bool false)) w' := ⟨false, rfl, hk, fun h => by cases h⟩
theorem DsPost.yes {nm : Nm} {w w' : World} {b : Bool} (hk : Kept w w') (h : b = true → Dis nm) : DsPost nm w (.returned (.bool b)) w' := ⟨b, rfl, hk, h⟩
theorem Gath.keptL {w w' : World} {B : Nat} {v : Value} {xs : List ByteArray} (h : Gath w B v xs) (hk : Kept w w') : Gath w' B v xs := by
  refine ⟨h.1, ?_⟩
  rcases h.2 with hn | ⟨g, cap, cur, hv, hb, hg, r⟩
  · exact .inl hn
  · exact .inr ⟨g, cap, cur, hv, hb, (hk.block g (Array.getElem?_eq_some_iff.1 hg).1).trans hg, r⟩
theorem Gath.formX {w : World} {B : Nat} {v : Value} {xs : List ByteArray} (h : Gath w B v xs) : ∃ A c, v = .slice A xs.length c := by
  rcases h.2 with ⟨h1, h2⟩ | ⟨g, cp, cur, h1, _⟩
  · rw [h2]; exact ⟨_, _, h1⟩
  · exact ⟨_, _, h1⟩
set_option maxRecDepth 100000 in
set_option maxHeartbeats 16000000 in
theorem distinct_any (nv : Value) (nm : Nm) (w : World) (hNC : NamesC w nv nm) (hN : NmB nm) : Calls Tryz.prog 7 #[nv] w (DsPost nm w) := by
  obtain ⟨hNm, hC⟩ := hNC
  obtain ⟨ev, tv, iv, dv, mv, rfl, hE, hT, hI, hD, hM, l1, l2, l3, l4⟩ := hNm
  obtain ⟨hcT, hcM, hcE⟩ := hC _ _ _ _ _ rfl
  obtain ⟨i0, hi, hz0, hz1, hz2⟩ := info_parts Tryz.infoStr
  have HIV := Lib.hid (fun w1 (hk : Kept w w1) => hI.kept hk)
  have HDV := Lib.hid (fun w1 (hk : Kept w w1) => hD.kept hk)
  have HTT := Lib.hid (fun w1 (hk : Kept w w1) => twice_any tv nm.tb w1 (hT.kept hk) hcT l1)
  have HTM := Lib.hid (fun w1 (hk : Kept w w1) => twice_any mv nm.md w1 (hM.kept hk) hcM l4)
  have HTG := Lib.hid (fun w1 B v xs (hg : Gath w1 B v xs) (hl : xs.length ≤ 9223372036854775807) => twice_any v xs w1 hg.strs hg.cap hl)
  obtain ⟨hel, AE, ce, rfl, hml, hxe⟩ := hE
  have HCE := Lib.hid hcE
  have HFIN := Lib.hid (show (∀ (j : Nat) (l : List ByteArray), nm.ms[j]? = some l → twB l = false ∧ l.length ≤ 16) → twB nm.en = false → twB nm.tb = false → twB nm.md = false → twB (nm.ins ++ nm.ds) = false → Dis nm from fun h1 h2 h3 h4 h5 =>
    ⟨hel, twB_false h2, fun l hl => by obtain ⟨j, hj⟩ := List.getElem?_of_mem hl; have := h1 j l hj; exact ⟨(twB_false this.1).1, (twB_false this.1).2, this.2⟩, twB_false h3, twB_false h4, twB_false h5⟩)
  have hn6 : nm.ms.length ≤ 1000000 := by have := hN.el; omega
  have HIL := Lib.hid hN.il
  have HDL := Lib.hid hN.dl
  obtain ⟨n, hn⟩ : ∃ n, n = nm.ms.length := ⟨_, rfl⟩
  have HE := Lib.hid hel
  have HN := Lib.hid hn
  rw [← hn] at hxe hml hn6 HCE ⊢
  clear hel hn hT hI hD hM hcT hcM hcE hC hN
  have hK0 := (Kept.refl w).alloc (.cells #[.slice AE n ce, tv, iv, dv, mv] 26)
  have hB0 := Blk.new w 26 #[.slice AE n ce, tv, iv, dv, mv]
  have hz0s : (w.alloc (.cells #[.slice AE n ce, tv, iv, dv, mv] 26)).heap.size = w.heap.size + 1 := by simp
  go_enter Tryz.func7, Tryz.ntmps7
  go_wp2_with fail
  generalize w.alloc (.cells #[.slice AE n ce, tv, iv, dv, mv] 26) = W0 at *
  have HB0 := Lib.hid hB0
  have HK0 := Lib.hid hK0
  have HZ0 := Lib.hid hz0s
  have hG0 := Gath.fresh W0 W0.heap.size (Nat.le_refl _)
  rw [hz0s] at hG0
  clear hz0s hK0 hB0
  go_loopw [3, 4] (fun x z wr => ∃ p : Nat, z = .int .i64 p ∧ p ≤ n ∧ Kept W0 wr ∧ Gath wr (w.heap.size + 1) x (nm.en.take p) ∧ (∀ (j : Nat) (l : List ByteArray), j < p → nm.ms[j]? = some l → twB l = false ∧ l.length ≤ 16)) (fun _ z _ => n - (intOf z).toNat)
  case atStart => exact ⟨0, rfl, Nat.zero_le _, (Kept.refl W0).alloc _, hG0, fun _ _ h => by omega⟩
  case round =>
    clear hG0
    obtain ⟨p, rfl, hpn, hk, hG, hok⟩ := hrel
    have BB := HB0.out.kept hk
    have bc := BB.cell
    have bl := BB.lt
    by_cases hp : p < n
    · have hpi : (p : Int) < n := by omega
      have hp0 : (0 : Int) ≤ p := by omega
      obtain ⟨b1, o1, rfl, hb1, hc1⟩ := hxe (by omega)
      have hg := List.getElem?_eq_getElem (l := nm.en) (i := p) (by have := HE.out; have := HN.out; omega)
      have hgm := List.getElem?_eq_getElem (l := nm.ms) (i := p) (by have := HN.out; omega)
      obtain ⟨hll, X0, mvv, X1, hSt⟩ := hc1 p _ _ hg hgm
      have hX := HCE.out b1 o1 n ce rfl p
      have htk : nm.en.take (p + 1) = nm.en.take p ++ [nm.en[p]'(by have := HE.out; have := HN.out; omega)] := by rw [List.take_succ_eq_append_getElem]
      generalize nm.ms[p]'(by have := HN.out; omega) = l at *
      generalize nm.en[p]'(by have := HE.out; have := HN.out; omega) = X at *
      obtain ⟨Am, cmm, rfl, _⟩ := hSt.at3E
      have hcap := hX _ _ _ hp X1
      have HTL := Lib.hid (fun w1 (hk1 : Kept w w1) => twice_any (.slice Am l.length cmm) l w1 (hSt.kept hk1) (fun A n c h => by simp only [Value.slice.injEq] at h; omega) hll)
      have x0 := (HK0.out.trans hk).cell (p := ⟨b1, _, none⟩) hb1 X0
      obtain ⟨acc, hacc⟩ : ∃ acc, acc = nm.en.take p := ⟨_, rfl⟩
      have hal : acc.length = p := by rw [hacc, List.length_take]; have := HE.out; have := HN.out; omega
      rw [← hacc] at hG htk
      have HTK := Lib.hid htk
      have HG := Lib.hid hG
      obtain ⟨AA, ca, hva⟩ := hG.formX
      subst hva
      have HKR := Lib.hid hk
      have HX1 := Lib.hid X1
      have HAL := Lib.hid hal
      have hbnd : acc.length ≤ 1000000 := by omega
      have h0s : w.heap.size + 1 ≤ wr.heap.size := by have := hk.size; have := HZ0.out; omega
      clear hc1 hg hSt X1 X0 hG hX htk hacc hk hal hxe
      go_wp2_with (at_builtin; refine wpList_append_own _ rfl (.tmp 13) (.tmp 20) 24 rfl (w.heap.size + 1) 9 i0 (.string ⟨#[]⟩) 1 16 (by kernel_rfl) hi hz0 hz1 hz2 rfl (by decide) _ acc.length (acc.map Value.string) rfl (World.ownsRow.alloc HG.out _) ⟨wr.heap.size, 0, none⟩ 1 1 [.string X] rfl rfl one_cell one_cell' (by unfold maxLen; omega) (by omega) (by simp; omega) ?_; intro v' w1 hown' hgrow _; have hk1 := grown_kept HKR.out HG.out (Nat.le_of_eq HZ0.out) hgrow; have BB := HB0.out.kept hk1; have bc := BB.cell; have bl := BB.lt; have x1 := (HK0.out.trans hk1).cell (p := ⟨b1, _, none⟩) hb1 HX1.out)
      have hG1 := Gath.snoc hown'
      rw [← HTK.out] at hG1
      clear hown' hgrow
      cases htl : twB l
      · rw [htl] at HTL
        by_cases hlen : 16 < l.length
        · have hli : 16 < (l.length : Int) := by omega
          go_wp2_with (go_at_call 12; refine (HTL.out _ (HK0.out.trans hk1)).mono ?_; rintro e w2 ⟨rfl, hk2⟩; have BB := BB.kept hk2; have bc := BB.cell; have bl := BB.lt; have x2 := (HK0.out.trans (hk1.trans hk2)).cell (p := ⟨b1, _, none⟩) hb1 HX1.out)
          go_ret
          exact DsPost.no (HK0.out.trans (hk1.trans hk2))
        · have hli : ¬ 16 < (l.length : Int) := by omega
          have HOK := Lib.hid (show ∀ (j : Nat) (l : List ByteArray), j < p + 1 → nm.ms[j]? = some l → twB l = false ∧ l.length ≤ 16 from fun j l' hj hg => by
            by_cases h : j = p
            · subst h
              rw [hgm] at hg
              rw [← Option.some.inj hg]
              exact ⟨htl, by omega⟩
            · exact hok j l' (by omega) hg)
          clear hok hgm htl
          go_wp2_with (go_at_call 12; refine (HTL.out _ (HK0.out.trans hk1)).mono ?_; rintro e w2 ⟨rfl, hk2⟩; have BB := BB.kept hk2; have bc := BB.cell; have bl := BB.lt; have x2 := (HK0.out.trans (hk1.trans hk2)).cell (p := ⟨b1, _, none⟩) hb1 HX1.out)
          go_roundw
          case rel => exact ⟨p + 1, by go_num, by omega, hk1.trans hk2, Gath.keptL hG1 hk2, HOK.out⟩
          case measure => simp [intOf]; omega
      · rw [htl] at HTL
        go_wp2_with (go_at_call 12; refine (HTL.out _ (HK0.out.trans hk1)).mono ?_; rintro e w2 ⟨rfl, hk2⟩)
        go_ret
        exact DsPost.no (HK0.out.trans (hk1.trans hk2))
    · have hpi : ¬ ((p : Int) < n) := by omega
      have hpe : p = n := by omega
      have htk : nm.en.take p = nm.en := List.take_of_length_le (by have := HE.out; have := HN.out; omega)
      rw [htk] at hG
      have HOK := Lib.hid (show ∀ (j : Nat) (l : List ByteArray), nm.ms[j]? = some l → twB l = false ∧ l.length ≤ 16 from fun j l hg => hok j l (by have := (List.getElem?_eq_some_iff.1 hg).1; have := HN.out; omega) hg)
      have HEN := Lib.hid (fun (y : KW wr) => HTG.out y.W _ _ _ (Gath.keptL hG y.h) (by have := HE.out; have := HN.out; omega))
      have HTTy := Lib.hid (fun (y : KW wr) => HTT.out y.W (HK0.out.trans (hk.trans y.h)))
      have HTMy := Lib.hid (fun (y : KW wr) => HTM.out y.W (HK0.out.trans (hk.trans y.h)))
      have k1 := KW.cell bl (bc 1)
      have k2 := KW.cell bl (bc 2)
      have k3 := KW.cell bl (bc 3)
      have k4 := KW.cell bl (bc 4)
      clear hok hxe hp
      cases h1 : twB nm.en
      case true =>
        rw [h1] at HEN
        go_wp2_with fail
        refine wp_region_kept (by kernel_rfl) (by kernel_rfl) ?_
        repeat (go_big_quiet_step (first | (go_at_call 12; with_reducible exact KW.call (HEN.out _)) | (go_at_call 12; with_reducible exact KW.call (HTTy.out _)) | (go_at_call 12; with_reducible exact KW.call (HTMy.out _))))
        refine wpQuiet_nil ?_
        rintro wv ⟨⟨wx, hx⟩, hh⟩
        obtain rfl : wv = wx := hh
        go_wp2_with fail
        go_ret
        exact DsPost.no (HK0.out.trans (hk.trans hx))
      rw [h1] at HEN
      cases h2 : twB nm.tb
      case true =>
        rw [h2] at HTTy
        go_wp2_with fail
        refine wp_region_kept (by kernel_rfl) (by kernel_rfl) ?_
        repeat (go_big_quiet_step (first | (go_at_call 12; with_reducible exact KW.call (HEN.out _)) | (go_at_call 12; with_reducible exact KW.call (HTTy.out _)) | (go_at_call 12; with_reducible exact KW.call (HTMy.out _))))
        refine wpQuiet_nil ?_
        rintro wv ⟨⟨wx, hx⟩, hh⟩
        obtain rfl : wv = wx := hh
        go_wp2_with fail
        go_ret
        exact DsPost.no (HK0.out.trans (hk.trans hx))
      rw [h2] at HTTy
      cases h3 : twB nm.md
      case true =>
        rw [h3] at HTMy
        go_wp2_with fail
        refine wp_region_kept (by kernel_rfl) (by kernel_rfl) ?_
        repeat (go_big_quiet_step (first | (go_at_call 12; with_reducible exact KW.call (HEN.out _)) | (go_at_call 12; with_reducible exact KW.call (HTTy.out _)) | (go_at_call 12; with_reducible exact KW.call (HTMy.out _))))
        refine wpQuiet_nil ?_
        rintro wv ⟨⟨wx, hx⟩, hh⟩
        obtain rfl : wv = wx := hh
        go_wp2_with fail
        go_ret
        exact DsPost.no (HK0.out.trans (hk.trans hx))
      rw [h3] at HTMy
      have HF := Lib.hid (fun h => HFIN.out HOK.out h1 h2 h3 h)
      clear k1 k2 k3 k4 h1 h2 h3 HFIN HOK HE HN
      have HEN2 := Lib.hid (fun W (hW : Kept wr W) => HEN.out ⟨W, hW⟩)
      have HTT2 := Lib.hid (fun W (hW : Kept wr W) => HTTy.out ⟨W, hW⟩)
      have HTM2 := Lib.hid (fun W (hW : Kept wr W) => HTMy.out ⟨W, hW⟩)
      have HIV2 := Lib.hid (fun W (hW : Kept wr W) => HIV.out W (HK0.out.trans (hk.trans hW)))
      have HDV2 := Lib.hid (fun W (hW : Kept wr W) => HDV.out W (HK0.out.trans (hk.trans hW)))
      have HALL := Lib.hid (show ∀ W, Kept wr W → Kept wr W ∧ W.cell? ⟨w.heap.size, 1, none⟩ = some tv ∧ W.cell? ⟨w.heap.size, 2, none⟩ = some iv ∧ W.cell? ⟨w.heap.size, 3, none⟩ = some dv ∧ W.cell? ⟨w.heap.size, 4, none⟩ = some mv from fun W h => ⟨h, h.cell (p := ⟨w.heap.size, _, none⟩) bl (bc 1), h.cell (p := ⟨w.heap.size, _, none⟩) bl (bc 2), h.cell (p := ⟨w.heap.size, _, none⟩) bl (bc 3), h.cell (p := ⟨w.heap.size, _, none⟩) bl (bc 4)⟩)
      have HGF := Lib.hid (fun (W : World) (h : Kept wr W) => Gath.fresh W wr.heap.size h.size)
      have HGK := Lib.hid (fun (W W' : World) v xs (hW : Kept wr W) (hg : Gath W wr.heap.size v xs) (hb : W.grownBy W' v.ownBlock) => grown_keptX hW hg (Nat.le_refl _) hb)
      have HIDL := Lib.hid (show nm.ins.length + nm.ds.length ≤ 2000000 by have := HIL.out; have := HDL.out; omega)
      have HKD := Lib.hid (HK0.out.trans hk)
      go_wp2_with fail
      clear HEN HTTy HTMy HIV HDV hk hG BB bc bl HB0 HK0 htk hpe HIL HDL HTT HTM HCE HZ0 l1 l2 l3 l4 hi hz0 hz1 hz2 hn6 hml hpn hpi
      go_region_held_law (fun W => Kept wr W ∧ W.cell? ⟨w.heap.size, 1, none⟩ = some tv ∧ W.cell? ⟨w.heap.size, 2, none⟩ = some iv ∧ W.cell? ⟨w.heap.size, 3, none⟩ = some dv ∧ W.cell? ⟨w.heap.size, 4, none⟩ = some mv)
        ((refine HALL.out _ ?_; (repeat (first | with_reducible exact Kept.refl _ | with_reducible assumption | with_reducible refine Kept.drew ?_ | with_reducible refine Kept.alloc ?_ _))))
        (first
          | (rw [if_pos (by rfl)]; refine wp_app_strs (.tmp 55) (.tmp 57) rfl rfl (HGF.out _ hK23) rfl (HIV2.out _ (hK23.alloc _)) (by have := HIDL.out; simp; omega) (by have := hK23.size; simp; omega) ?_; intro v31 w31 hG31 hb31; have hK31 := HGK.out _ _ _ _ (hK23.alloc _) (HGF.out _ hK23) hb31; rw [List.nil_append] at hG31)
          | (rw [if_pos (by rfl)]; refine wp_app_strs (.tmp 58) (.tmp 60) rfl rfl hG31 rfl (HDV2.out _ hK31) HIDL.out hK31.size ?_; intro v32 w32 hG32 hb32; have hK32 := HGK.out _ _ _ _ hK31 hG31 hb32)
          | (go_at_call 12; with_reducible refine (HEN2.out _ (‹Kept wr _ ∧ _›).1).mono ?_; rintro e w21 ⟨rfl, hk21⟩; have hK21 : Kept wr w21 := (‹Kept wr _ ∧ _›).1.trans hk21)
          | (go_at_call 12; with_reducible refine (HTT2.out _ (‹Kept wr _ ∧ _›).1).mono ?_; rintro e w22 ⟨rfl, hk22⟩; have hK22 : Kept wr w22 := hK21.trans hk22)
          | (go_at_call 12; with_reducible refine (HTM2.out _ (‹Kept wr _ ∧ _›).1).mono ?_; rintro e w23 ⟨rfl, hk23⟩; have hK23 : Kept wr w23 := hK22.trans hk23)
          | (go_at_call 12; with_reducible refine (HTG.out _ _ _ _ hG32 (by have := HIDL.out; rw [List.length_append]; omega)).mono ?_; rintro e w24 ⟨rfl, hk24⟩; have hK24 : Kept wr w24 := hK32.trans hk24))
      go_wp2_with fail
      go_ret
      exact DsPost.yes (HKD.out.trans hK24) (fun h => HF.out (by simpa using h))
end Go.Proofs.YtdnjfpmngnkcfaaGreatDoor
/- The laws of chapter 11 on the printed and parsed text of expressions. -/
namespace Go.Proofs.YtdnjfpmngnkcfaaGreatDoor
open Go.RowKit

theorem NamesC.kept {w w' : World} {v : Value} {nm : Nm} (h : NamesC w v nm) (hk : Kept w w') : NamesC w' v nm := by
  obtain ⟨h1, h2⟩ := h
  refine ⟨h1.kept hk, fun ev tv iv dv mv hv => ?_⟩
  obtain ⟨c1, c2, c3⟩ := h2 ev tv iv dv mv hv
  refine ⟨c1, c2, ?_⟩
  intro b off n c he j A m c' hj hc
  obtain ⟨ev', tv', iv', dv', mv', hv', hE, _⟩ := h1
  rw [hv] at hv'
  simp only [Value.agg.injEq, Array.mk.injEq, List.cons.injEq, and_true] at hv'
  obtain ⟨rfl, _⟩ := hv'
  obtain ⟨_, A', cap', he', _, hx⟩ := hE
  rw [he] at he'
  simp only [Value.slice.injEq] at he'
  obtain ⟨rfl, rfl, rfl⟩ := he'
  obtain ⟨b', off', hA, hb, _⟩ := hx (by omega)
  simp only [Option.some.injEq, Addr.mk.injEq, and_true] at hA
  obtain ⟨rfl, rfl⟩ := hA
  have hlt : (⟨b, off + j * 2 + 1, none⟩ : Addr).block < w.heap.size := hb
  exact c3 b off _ c he j A m c' hj ((Below.cell hk hlt).symm.trans hc)
theorem dis_small {nm : Nm} (hD : Dis nm) : ∀ x, ∀ s ∈ refN nm x, s.size ≤ 140737488355328 := fun x s hs => Nat.le_trans (refN_small hD x s hs) (by decide)
theorem parX_64 {nm : Nm} (hN : NmB nm) (s : ByteArray) : (parX nm s).1.length ≤ 9223372036854775807 ∧ ∀ x ∈ (parX nm s).1, -9223372036854775808 ≤ x.n ∧ x.n ≤ 9223372036854775807 := by
  have hz : ([] : List Nd).length ≤ 9223372036854775807 ∧ ∀ x ∈ ([] : List Nd), -9223372036854775808 ≤ x.n ∧ x.n ≤ 9223372036854775807 := ⟨by simp, fun x h => (by cases h)⟩
  unfold parX
  by_cases ht : (tokR (L s)).2.2 ≠ 0
  · rw [if_pos ht]; exact hz
  · rw [if_neg ht]
    have ht0 : (tokR (L s)).2.2 = 0 := Decidable.not_not.1 ht
    obtain ⟨_, hlt, hb⟩ := tokR_bd ht0
    have hg : GS s.size ⟨(tokR (L s)).1, [], 0, 0⟩ := ⟨fun t h => by
      obtain ⟨_, h1, h2⟩ := hb t h
      rw [L_length] at h2
      exact ⟨by omega, h2⟩, fun x h => (by cases h), ⟨Int.le_refl _, by show (0 : Int) ≤ _; omega⟩, by omega⟩
    have hgs := parR_gs hN (8 * (tokR (L s)).1.length + 7) .expr _ hg
    have hns := parR_ns s.size nm (8 * (tokR (L s)).1.length + 7) .expr ⟨(tokR (L s)).1, [], 0, 0⟩
    generalize parR s.size nm (8 * (tokR (L s)).1.length + 7) .expr ⟨(tokR (L s)).1, [], 0, 0⟩ = r at *
    cases r with
    | none => exact hz
    | some x =>
      obtain ⟨b, p⟩ := x
      have hp := hgs b p rfl
      have hq := hns b p rfl
      dsimp only
      split
      · exact hz
      · split
        · exact hz
        · split
          · exact hz
          · split
            · refine ⟨?_, fun x hx => by have := hp.ns x hx; omega⟩
              show p.ns.length ≤ _
              have hq' : p.ns.length + p.ts.length ≤ 0 + (tokR (L s)).1.length + 0 := hq
              omega
            · exact hz
set_option maxRecDepth 100000 in
set_option maxHeartbeats 16000000 in
theorem lawEtRoundTrip (v nv : Value) (xs : List Nd) (nm : Nm) (w : World) (hN : Nds w v xs) (hn : xs.length ≤ 9223372036854775807) (h64 : ∀ x ∈ xs, -9223372036854775808 ≤ x.n ∧ x.n ≤ 9223372036854775807) (hNm : NamesC w nv nm) (hM : Mon w) (hP : Pow w) : Calls Tryz.prog 3 #[v, nv] w (LawPost w) := by
  obtain ⟨AE, ne, ce, AT, nt, ct, AI, ni, ci, AD, nd, cd, AM, nmm, cm, rfl⟩ := hNm.1.form
  have hK := (Kept.refl w).alloc (.cells #[.slice AE ne ce, .slice AT nt ct, .slice AI ni ci, .slice AD nd cd, .slice AM nmm cm] 26)
  have BB := Blk.new w 26 #[.slice AE ne ce, .slice AT nt ct, .slice AI ni ci, .slice AD nd cd, .slice AM nmm cm]
  have HNM := Lib.hid (fun w1 (hk : Kept w w1) => (hNm.kept hk).1)
  have HSM := Lib.hid (fun w1 (hk : Kept w w1) => small11_any (.agg #[.slice AE ne ce, .slice AT nt ct, .slice AI ni ci, .slice AD nd cd, .slice AM nmm cm]) nm w1 (hNm.kept hk).1)
  have HAW := Lib.hid (fun w1 (hk : Kept w w1) => awake11_any w1 (hM.kept hk) (hP.kept hk))
  unfold SmPost at HSM
  have HDS := Lib.hid (fun w1 (hk : Kept w w1) hb => distinct_any (.agg #[.slice AE ne ce, .slice AT nt ct, .slice AI ni ci, .slice AD nd cd, .slice AM nmm cm]) nm w1 (hNm.kept hk) hb)
  unfold DsPost at HDS
  have HFM := Lib.hid (fun w1 (hk : Kept w w1) (hs : ∀ x, ∀ s ∈ refN nm x, s.size ≤ 140737488355328) => fmtT_any v (.agg #[.slice AE ne ce, .slice AT nt ct, .slice AI ni ci, .slice AD nd cd, .slice AM nmm cm]) xs nm w1 (Recs.kept hN hk) (hNm.kept hk).1 hn h64 (fun x _ => hs x) (hM.kept hk) (hP.kept hk))
  unfold fmPost at HFM
  have HPA := Lib.hid (fun s (hs : s.size ≤ 9223372036854775807) w1 (hk : Kept w w1) hb hd => etParse_any s hs (.agg #[.slice AE ne ce, .slice AT nt ct, .slice AI ni ci, .slice AD nd cd, .slice AM nmm cm]) nm w1 (hNm.kept hk).1 hb (dis_small hd) (hM.kept hk) (hP.kept hk))
  unfold pxPost at HPA
  have herr := fmtX_err (nm := nm) (xs := xs)
  have hrd := fun (hD : Dis nm) => parX_round hD (xs := xs)
  generalize fmtX nm xs = R at *
  obtain ⟨t, c⟩ := R
  dsimp only at HFM herr hrd
  have HN := Lib.hid (fun w1 (hk : Kept w w1) => Recs.kept hN hk)
  obtain ⟨A, cap, hv, _⟩ := id hN
  subst hv
  unfold LawPost
  by_cases h1 : 100 < xs.length
  · have hi : (100 : Int) < xs.length := by omega
    clear HFM HPA herr hrd HSM HDS
    go_enter Tryz.func3, Tryz.ntmps3
    go_wp2_with (go_at_call 8; refine (HAW.out _ hK).mono ?_; rintro e w9 ⟨rfl, hk9⟩)
    go_ret
    exact ⟨rfl, hK.trans hk9⟩
  have hi : ¬ ((100 : Int) < xs.length) := by omega
  by_cases hc : c = 0
  · subst hc
    have HPS := Lib.hid (fun w1 (hk : Kept w w1) hb (hd : Dis nm) => by
      have := HPA.out t (by have := (hrd hd rfl).2.2.2.2; omega) w1 hk hb hd
      rw [(hrd hd rfl).1] at this
      exact this)
    dsimp only at HPS
    clear HPA herr hrd h1 hn
    go_enter Tryz.func3, Tryz.ntmps3
    go_wp2_with (first
      | (go_at_call 8; refine (HAW.out _ hK).mono ?_; rintro e w9 ⟨rfl, hk9⟩)
      | (go_at_call 6; refine (HSM.out _ hK).mono ?_; rintro e w1 ⟨b, rfl, hk1, hNB⟩; have hK := hK.trans hk1; have BB := BB.kept hk1; have bc := BB.cell; have bl := BB.lt; cases b)
      | (go_at_call 7; refine (HDS.out _ hK (hNB (by decide)).1).mono ?_; rintro e w2 ⟨b, rfl, hk2, hD⟩; have hK := hK.trans hk2; have BB := BB.kept hk2; have bc := BB.cell; have bl := BB.lt; cases b)
      | (go_at_call 9; refine (HFM.out _ hK (dis_small (hD (by decide)))).mono ?_; rintro e w3 ⟨rfl, hk3⟩; have hK := hK.trans hk3; have BB := BB.kept hk3; have bc := BB.cell; have bl := BB.lt)
      | (go_at_call 10; refine (HPS.out _ hK (hNB (by decide)).1 (hD (by decide))).mono ?_; rintro e w4 ⟨v4, rfl, N4, hk4⟩; obtain ⟨A4, c4, hu4, _⟩ := id N4; subst hu4; have hK := hK.trans hk4)
      | (go_at_call 11; refine (nodes_same _ _ xs _ N4 (HN.out _ hK) (by omega)).mono ?_; rintro e w5 ⟨rfl, hk5⟩; have hK := hK.trans hk5))
    all_goals go_ret
    all_goals exact ⟨rfl, hK.trans hk9⟩
  · obtain rfl := herr hc
    have hcb := bne_noL hc
    clear HPA herr hrd hc h1 hn
    go_enter Tryz.func3, Tryz.ntmps3
    go_wp2_with (first
      | (go_at_call 8; refine (HAW.out _ hK).mono ?_; rintro e w9 ⟨rfl, hk9⟩)
      | (go_at_call 6; refine (HSM.out _ hK).mono ?_; rintro e w1 ⟨b, rfl, hk1, hNB⟩; have hK := hK.trans hk1; have BB := BB.kept hk1; have bc := BB.cell; have bl := BB.lt; cases b)
      | (go_at_call 7; refine (HDS.out _ hK (hNB (by decide)).1).mono ?_; rintro e w2 ⟨b, rfl, hk2, hD⟩; have hK := hK.trans hk2; have BB := BB.kept hk2; have bc := BB.cell; have bl := BB.lt; cases b)
      | (go_at_call 9; refine (HFM.out _ hK (dis_small (hD (by decide)))).mono ?_; rintro e w3 ⟨rfl, hk3⟩; have hK := hK.trans hk3; have BB := BB.kept hk3; have bc := BB.cell; have bl := BB.lt))
    all_goals go_ret
    all_goals exact ⟨rfl, hK.trans hk9⟩
set_option maxRecDepth 100000 in
set_option maxHeartbeats 16000000 in
theorem lawEtGrouping (v nv : Value) (xs : List Nd) (nm : Nm) (w : World) (hN : Nds w v xs) (hn : xs.length ≤ 9223372036854775807) (h64 : ∀ x ∈ xs, -9223372036854775808 ≤ x.n ∧ x.n ≤ 9223372036854775807) (hNm : NamesC w nv nm) (hM : Mon w) (hP : Pow w) : Calls Tryz.prog 5 #[v, nv] w (LawPost w) := by
  obtain ⟨AE, ne, ce, AT, nt, ct, AI, ni, ci, AD, nd, cd, AM, nmm, cm, rfl⟩ := hNm.1.form
  have hK := (Kept.refl w).alloc (.cells #[.slice AE ne ce, .slice AT nt ct, .slice AI ni ci, .slice AD nd cd, .slice AM nmm cm] 26)
  have BB := Blk.new w 26 #[.slice AE ne ce, .slice AT nt ct, .slice AI ni ci, .slice AD nd cd, .slice AM nmm cm]
  have HNM := Lib.hid (fun w1 (hk : Kept w w1) => (hNm.kept hk).1)
  have HSM := Lib.hid (fun w1 (hk : Kept w w1) => small11_any (.agg #[.slice AE ne ce, .slice AT nt ct, .slice AI ni ci, .slice AD nd cd, .slice AM nmm cm]) nm w1 (hNm.kept hk).1)
  have HAW := Lib.hid (fun w1 (hk : Kept w w1) => awake11_any w1 (hM.kept hk) (hP.kept hk))
  unfold SmPost at HSM
  have HDS := Lib.hid (fun w1 (hk : Kept w w1) hb => distinct_any (.agg #[.slice AE ne ce, .slice AT nt ct, .slice AI ni ci, .slice AD nd cd, .slice AM nmm cm]) nm w1 (hNm.kept hk) hb)
  unfold DsPost at HDS
  have HFM := Lib.hid (fun w1 (hk : Kept w w1) (hs : ∀ x, ∀ s ∈ refN nm x, s.size ≤ 140737488355328) => fmtT_any v (.agg #[.slice AE ne ce, .slice AT nt ct, .slice AI ni ci, .slice AD nd cd, .slice AM nmm cm]) xs nm w1 (Recs.kept hN hk) (hNm.kept hk).1 hn h64 (fun x _ => hs x) (hM.kept hk) (hP.kept hk))
  unfold fmPost at HFM
  have HPA := Lib.hid (fun s (hs : s.size ≤ 9223372036854775807) w1 (hk : Kept w w1) hb hd => etParse_any s hs (.agg #[.slice AE ne ce, .slice AT nt ct, .slice AI ni ci, .slice AD nd cd, .slice AM nmm cm]) nm w1 (hNm.kept hk).1 hb (dis_small hd) (hM.kept hk) (hP.kept hk))
  unfold pxPost at HPA
  have herr := fmtX_err (nm := nm) (xs := xs)
  have hrd := fun (hD : Dis nm) => parX_round hD (xs := xs)
  generalize fmtX nm xs = R at *
  obtain ⟨t, c⟩ := R
  dsimp only at HFM herr hrd
  have HN := Lib.hid (fun w1 (hk : Kept w w1) => Recs.kept hN hk)
  obtain ⟨A, cap, hv, _⟩ := id hN
  subst hv
  unfold LawPost
  by_cases h1 : 100 < xs.length
  · have hi : (100 : Int) < xs.length := by omega
    clear HFM HPA herr hrd HSM HDS
    go_enter Tryz.func5, Tryz.ntmps5
    go_wp2_with (go_at_call 8; refine (HAW.out _ hK).mono ?_; rintro e w9 ⟨rfl, hk9⟩)
    go_ret
    exact ⟨rfl, hK.trans hk9⟩
  have hi : ¬ ((100 : Int) < xs.length) := by omega
  by_cases hc : c = 0
  · subst hc
    have z1 : ∀ c : UInt8, (⟨#[c]⟩ : ByteArray).size = 1 := fun _ => rfl
    have HP1 := Lib.hid (fun w1 (hk : Kept w w1) hb (hd : Dis nm) => by
      have := HPA.out (⟨#[40]⟩ ++ t ++ ⟨#[41]⟩) (by have := (hrd hd rfl).2.2.2.2; rw [ByteArray.size_append, ByteArray.size_append, z1, z1]; omega) w1 hk hb hd
      rw [(hrd hd rfl).2.1] at this
      exact this)
    have HP2 := Lib.hid (fun w1 (hk : Kept w w1) hb (hd : Dis nm) => by
      have := HPA.out (⟨#[32]⟩ ++ t) (by have := (hrd hd rfl).2.2.2.2; rw [ByteArray.size_append, z1]; omega) w1 hk hb hd
      rw [(hrd hd rfl).2.2.1] at this
      exact this)
    have HP3 := Lib.hid (fun w1 (hk : Kept w w1) hb (hd : Dis nm) => by
      have := HPA.out (t ++ ⟨#[32]⟩) (by have := (hrd hd rfl).2.2.2.2; rw [ByteArray.size_append, z1]; omega) w1 hk hb hd
      rw [(hrd hd rfl).2.2.2.1] at this
      exact this)
    dsimp only at HP1 HP2 HP3
    have hsz := fun hd => (hrd hd rfl).2.2.2.2
    obtain ⟨S0, hS0⟩ : ∃ S, (⟨#[40]⟩ ++ t : ByteArray) = S := ⟨_, rfl⟩
    have hs0 : S0.size = t.size + 1 := by rw [← hS0, ByteArray.size_append, z1]; omega
    rw [hS0] at HP1
    obtain ⟨S1, hS1⟩ : ∃ S, (S0 ++ ⟨#[41]⟩ : ByteArray) = S := ⟨_, rfl⟩
    obtain ⟨S2, hS2⟩ : ∃ S, (⟨#[32]⟩ ++ t : ByteArray) = S := ⟨_, rfl⟩
    obtain ⟨S3, hS3⟩ : ∃ S, (t ++ ⟨#[32]⟩ : ByteArray) = S := ⟨_, rfl⟩
    rw [hS1] at HP1
    rw [hS2] at HP2
    rw [hS3] at HP3
    have HQ := Lib.hid (show Dis nm → ¬ (9223372036854775807 < (⟨#[40]⟩ : ByteArray).size + t.size) ∧ ¬ (9223372036854775807 < S0.size + (⟨#[41]⟩ : ByteArray).size) ∧ ¬ (9223372036854775807 < (⟨#[32]⟩ : ByteArray).size + t.size) ∧ ¬ (9223372036854775807 < t.size + (⟨#[32]⟩ : ByteArray).size) from fun hd => by
      have h := hsz hd
      rw [z1, z1, z1, hs0]
      omega)
    clear hsz hs0
    clear HPA herr hrd h1 hn z1
    go_enter Tryz.func5, Tryz.ntmps5
    go_wp2_with (first
      | (go_at_call 8; refine (HAW.out _ hK).mono ?_; rintro e w9 ⟨rfl, hk9⟩)
      | (go_at_call 6; refine (HSM.out _ hK).mono ?_; rintro e w1 ⟨b, rfl, hk1, hNB⟩; have hK := hK.trans hk1; have BB := BB.kept hk1; have bc := BB.cell; have bl := BB.lt; cases b)
      | (go_at_call 7; refine (HDS.out _ hK (hNB (by decide)).1).mono ?_; rintro e w2 ⟨b, rfl, hk2, hD⟩; have hK := hK.trans hk2; have BB := BB.kept hk2; have bc := BB.cell; have bl := BB.lt; cases b)
      | (go_at_call 9; refine (HFM.out _ hK (dis_small (hD (by decide)))).mono ?_; rintro e w3 ⟨rfl, hk3⟩; have hK := hK.trans hk3; have BB := BB.kept hk3; have bc := BB.cell; have bl := BB.lt; obtain ⟨q1, q2, q3, q4⟩ := HQ.out (hD (by decide)))
      | (go_at_call_of 10 (Value.string S1); refine (HP1.out _ hK (hNB (by decide)).1 (hD (by decide))).mono ?_; rintro e w4 ⟨v4, rfl, N4, hk4⟩; have hK := hK.trans hk4; have BB := BB.kept hk4; have bc := BB.cell; have bl := BB.lt; obtain ⟨A4, c4, hu4, _⟩ := id N4; subst hu4)
      | (go_at_call_of 10 (Value.string S2); refine (HP2.out _ hK (hNB (by decide)).1 (hD (by decide))).mono ?_; rintro e w5 ⟨v5, rfl, N5, hk5⟩; have hK := hK.trans hk5; have BB := BB.kept hk5; have bc := BB.cell; have bl := BB.lt; obtain ⟨A5, c5, hu5, _⟩ := id N5; subst hu5)
      | (go_at_call_of 10 (Value.string S3); refine (HP3.out _ hK (hNB (by decide)).1 (hD (by decide))).mono ?_; rintro e w6 ⟨v6, rfl, N6, hk6⟩; have hK := hK.trans hk6; obtain ⟨A6, c6, hu6, _⟩ := id N6; subst hu6))
    all_goals go_ret
    all_goals exact ⟨rfl, hK.trans hk9⟩
  · have hcb := bne_noL hc
    clear HPA herr hrd hc h1 hn
    go_enter Tryz.func5, Tryz.ntmps5
    go_wp2_with (first
      | (go_at_call 8; refine (HAW.out _ hK).mono ?_; rintro e w9 ⟨rfl, hk9⟩)
      | (go_at_call 6; refine (HSM.out _ hK).mono ?_; rintro e w1 ⟨b, rfl, hk1, hNB⟩; have hK := hK.trans hk1; have BB := BB.kept hk1; have bc := BB.cell; have bl := BB.lt; cases b)
      | (go_at_call 7; refine (HDS.out _ hK (hNB (by decide)).1).mono ?_; rintro e w2 ⟨b, rfl, hk2, hD⟩; have hK := hK.trans hk2; have BB := BB.kept hk2; have bc := BB.cell; have bl := BB.lt; cases b)
      | (go_at_call 9; refine (HFM.out _ hK (dis_small (hD (by decide)))).mono ?_; rintro e w3 ⟨rfl, hk3⟩; have hK := hK.trans hk3; have BB := BB.kept hk3; have bc := BB.cell; have bl := BB.lt))
    all_goals go_ret
    all_goals exact ⟨rfl, hK.trans hk9⟩
set_option maxRecDepth 100000 in
set_option maxHeartbeats 16000000 in
theorem lawEtCanonical (s : ByteArray) (nv : Value) (nm : Nm) (w : World) (hs : s.size ≤ 9223372036854775807) (hNm : NamesC w nv nm) (hK5 : ∀ x, ∀ y ∈ refN nm x, y.size ≤ 140737488355328) (hM : Mon w) (hP : Pow w) : Calls Tryz.prog 4 #[.string s, nv] w (LawPost w) := by
  obtain ⟨AE, ne, ce, AT, nt, ct, AI, ni, ci, AD, nd, cd, AM, nmm, cm, rfl⟩ := hNm.1.form
  have hK := (Kept.refl w).alloc (.cells #[.slice AE ne ce, .slice AT nt ct, .slice AI ni ci, .slice AD nd cd, .slice AM nmm cm] 26)
  have BB := Blk.new w 26 #[.slice AE ne ce, .slice AT nt ct, .slice AI ni ci, .slice AD nd cd, .slice AM nmm cm]
  have HNM := Lib.hid (fun w1 (hk : Kept w w1) => (hNm.kept hk).1)
  have HSM := Lib.hid (fun w1 (hk : Kept w w1) => small11_any (.agg #[.slice AE ne ce, .slice AT nt ct, .slice AI ni ci, .slice AD nd cd, .slice AM nmm cm]) nm w1 (hNm.kept hk).1)
  have HAW := Lib.hid (fun w1 (hk : Kept w w1) => awake11_any w1 (hM.kept hk) (hP.kept hk))
  unfold SmPost at HSM
  have HPA := Lib.hid (fun w1 (hk : Kept w w1) hb => etParse_any s hs (.agg #[.slice AE ne ce, .slice AT nt ct, .slice AI ni ci, .slice AD nd cd, .slice AM nmm cm]) nm w1 (hNm.kept hk).1 hb hK5 (hM.kept hk) (hP.kept hk))
  unfold pxPost at HPA
  have hca := fun hb => parX_canon (nm := nm) hb s
  have hgs := fun hb => parX_64 (nm := nm) hb s
  have HFM := Lib.hid (fun u w1 (hk : Kept w w1) hb (hu : Nds w1 u (parX nm s).1) => fmtT_any u (.agg #[.slice AE ne ce, .slice AT nt ct, .slice AI ni ci, .slice AD nd cd, .slice AM nmm cm]) (parX nm s).1 nm w1 hu (hNm.kept hk).1 (hgs hb).1 (hgs hb).2 (fun x _ => hK5 x) (hM.kept hk) (hP.kept hk))
  unfold fmPost at HFM
  unfold LawPost
  by_cases h1 : 3000 < s.size
  · have hi : (3000 : Int) < s.size := by omega
    clear HFM HPA hca hgs HSM
    go_enter Tryz.func4, Tryz.ntmps4
    go_wp2_with (go_at_call 8; refine (HAW.out _ hK).mono ?_; rintro e w9 ⟨rfl, hk9⟩)
    go_ret
    exact ⟨rfl, hK.trans hk9⟩
  have hi : ¬ ((3000 : Int) < s.size) := by omega
  clear hgs
  generalize parX nm s = R at *
  obtain ⟨l, o, c⟩ := R
  dsimp only at HPA hca HFM
  have hself : (s.toList == s.toList) = true := by simp
  by_cases hc : c = 0
  · subst hc
    have HFS := Lib.hid (fun u w1 (hk : Kept w w1) hb (hu : Nds w1 u l) => by
      have := HFM.out u w1 hk hb hu
      rw [((hca hb).1 rfl).1] at this
      exact this)
    dsimp only at HFS
    have HO := Lib.hid (fun hb => ((hca hb).1 rfl).2)
    clear hca HFM h1
    go_enter Tryz.func4, Tryz.ntmps4
    go_wp2_with (first
      | (go_at_call 8; refine (HAW.out _ hK).mono ?_; rintro e w9 ⟨rfl, hk9⟩)
      | (go_at_call 6; refine (HSM.out _ hK).mono ?_; rintro e w1 ⟨b, rfl, hk1, hNB⟩; have hK := hK.trans hk1; have BB := BB.kept hk1; have bc := BB.cell; have bl := BB.lt; cases b)
      | (go_at_call 10; refine (HPA.out _ hK (hNB (by decide)).1).mono ?_; rintro e w4 ⟨v4, rfl, N4, hk4⟩; have hK := hK.trans hk4; have BB := BB.kept hk4; have bc := BB.cell; have bl := BB.lt; obtain ⟨A4, c4, hu4, _⟩ := id N4; subst hu4; obtain rfl := HO.out (hNB (by decide)).1)
      | (go_at_call 9; refine (HFS.out _ _ hK (hNB (by decide)).1 N4).mono ?_; rintro e w5 ⟨rfl, hk5⟩; have hK := hK.trans hk5))
    all_goals go_ret
    all_goals exact ⟨rfl, hK.trans hk9⟩
  · have hcb := bne_noL hc
    have HO := Lib.hid (fun hb => (hca hb).2 hc)
    clear hca HFM hc h1
    go_enter Tryz.func4, Tryz.ntmps4
    go_wp2_with (first
      | (go_at_call 8; refine (HAW.out _ hK).mono ?_; rintro e w9 ⟨rfl, hk9⟩)
      | (go_at_call 6; refine (HSM.out _ hK).mono ?_; rintro e w1 ⟨b, rfl, hk1, hNB⟩; have hK := hK.trans hk1; have BB := BB.kept hk1; have bc := BB.cell; have bl := BB.lt; cases b)
      | (go_at_call 10; refine (HPA.out _ hK (hNB (by decide)).1).mono ?_; rintro e w4 ⟨v4, rfl, N4, hk4⟩; have hK := hK.trans hk4; obtain ⟨A4, c4, hu4, _⟩ := id N4; subst hu4; obtain ⟨rfl, ho1, ho2⟩ := HO.out (hNB (by decide)).1))
    all_goals go_ret
    all_goals exact ⟨rfl, hK.trans hk9⟩
end Go.Proofs.YtdnjfpmngnkcfaaGreatDoor
/- Structs and arrays that came in, opened field by field. -/
namespace Go.Proofs.YtdnjfpmngnkcfaaGreatDoor
open Go.ChangeShapes Go.WideShapes Go.ChangeAt Go.RowKit Go.Joins
section
variable {H : Type} {enc : TypeId × Value → H} {w : World}
/-- the reading of an aggregate's cells -/
abbrev Reads (enc : TypeId × Value → H) (w : World) (t : TypeId) (cs : List Value) : Prop := ∃ fuel x, DataW.trod enc Tryz.prog w 0 (fun _ => true) true fuel t cs = some x
theorem Reads.field {t : TypeId} {fs : Array Field} {cs : List Value} (ht : Tryz.prog.underlying t = some (.struct fs)) (h : Reads enc w t cs) (i : Nat) (f : Field) (hf : fs[i]? = some f) :
    Reads enc w f.type ((cs.drop f.offset).take (Tryz.prog.cellsOf f.type)) := by
  obtain ⟨fuel, x, h⟩ := h
  obtain ⟨xs, n, _, _, _, hl, hg⟩ := DataW.trod_struct ht h
  have hi : i < fs.size := (Array.getElem?_eq_some_iff.1 hf).1
  have := hg i f hf
  rw [List.getElem?_eq_getElem (by omega)] at this
  exact ⟨n, _, this⟩
theorem Reads.length {t : TypeId} {fs : Array Field} {cs : List Value} (ht : Tryz.prog.underlying t = some (.struct fs)) (h : Reads enc w t cs) : cs.length = Tryz.prog.cellsOf t := by
  obtain ⟨fuel, x, h⟩ := h
  obtain ⟨xs, n, _, _, hl, _, _⟩ := DataW.trod_struct ht h
  exact hl
theorem Reads.elem {t e : TypeId} {n : Nat} {cs : List Value} (ht : Tryz.prog.underlying t = some (.array n e)) (h : Reads enc w t cs) (i : Nat) (hi : i < n) :
    Reads enc w e ((cs.drop (i * Tryz.prog.cellsOf e)).take (Tryz.prog.cellsOf e)) := by
  obtain ⟨fuel, x, h⟩ := h
  obtain ⟨xs, m, _, _, _, hl, hg⟩ := DataW.trod_array ht h
  have := hg i hi
  rw [List.getElem?_eq_getElem (by omega)] at this
  exact ⟨m, _, this⟩
theorem Reads.lengthA {t e : TypeId} {n : Nat} {cs : List Value} (ht : Tryz.prog.underlying t = some (.array n e)) (h : Reads enc w t cs) : cs.length = Tryz.prog.cellsOf t := by
  obtain ⟨fuel, x, h⟩ := h
  obtain ⟨xs, m, _, _, hl, _, _⟩ := DataW.trod_array ht h
  exact hl
theorem Reads.int {cs : List Value} (h : Reads enc w 3 cs) : ∃ n, cs = [.int .i64 n] ∧ (Lit.int .i64 n).wf = true := by
  obtain ⟨fuel, x, h⟩ := h
  obtain ⟨n, e, _, hw⟩ := DataW.trod_int Tryz.underlying3 h
  exact ⟨n, e, hw⟩
theorem cellInt : Tryz.prog.cellsOf 3 = 1 := by kernel_rfl
theorem Reads.of {t : TypeId} {cs : Array Value} {d : DataW H} {p : List MemPlace} (h : DataW.Trod enc Tryz.prog w 0 (fun _ => true) true t (.agg cs) d p) : Reads enc w t cs.toList := by
  obtain ⟨fuel, hf⟩ := h
  exact ⟨fuel, _, hf⟩
/-- a field of whatever type -/
theorem Reads.sub {t : TypeId} {fs : Array Field} {cs : List Value} (ht : Tryz.prog.underlying t = some (.struct fs)) (h : Reads enc w t cs) (i o k : Nat) (T : TypeId) (f : Field) (hf : fs[i]? = some f) (ho : f.offset = o) (hT : f.type = T)
    (hk : Tryz.prog.cellsOf T = k) : Reads enc w T ((cs.drop o).take k) := by
  have := h.field ht i f hf
  rw [hT, hk, ho] at this
  exact this
set_option maxRecDepth 100000 in
theorem okWide_arr {t e : TypeId} {n base : Nat} {v : Value} (ht : Tryz.prog.underlying t = some (.array n e)) (h : Value.okWide Tryz.prog w .any base t v) : ∃ cs, v = .agg cs ∧ cs.size = Tryz.prog.cellsOf t := by
  simp only [Value.okWide, ht] at h
  obtain ⟨cs, h1, h2, _⟩ := h
  exact ⟨cs, h1, h2⟩
set_option maxRecDepth 100000 in
/-- the i-th cell, behind the field that is an int -/
theorem Reads.intAt {t : TypeId} {fs : Array Field} {cs : List Value} (ht : Tryz.prog.underlying t = some (.struct fs)) (h : Reads enc w t cs) (i o : Nat) (f : Field) (hf : fs[i]? = some f) (ho : f.offset = o) (hi : f.type = 3) :
    ∃ n, cs[o]? = some (.int .i64 n) ∧ (Lit.int .i64 n).wf = true := by
  have h1 := h.field ht i f hf
  rw [hi, cellInt, ho] at h1
  obtain ⟨n, e, hw⟩ := h1.int
  refine ⟨n, ?_, hw⟩
  have : ((cs.drop o).take 1)[0]? = some (.int .i64 n) := by rw [e]; rfl
  simpa using this
theorem Reads.intElem {t : TypeId} {n : Nat} {cs : List Value} (ht : Tryz.prog.underlying t = some (.array n 3)) (h : Reads enc w t cs) (i : Nat) (hi : i < n) :
    ∃ k, cs[i]? = some (.int .i64 k) ∧ (Lit.int .i64 k).wf = true := by
  have h1 := h.elem ht i hi
  rw [cellInt, Nat.mul_one] at h1
  obtain ⟨k, e, hw⟩ := h1.int
  refine ⟨k, ?_, hw⟩
  have : ((cs.drop i).take 1)[0]? = some (.int .i64 k) := by rw [e]; rfl
  simpa using this
end
end Go.Proofs.YtdnjfpmngnkcfaaGreatDoor
/- Expressions and names that came in, opened, with the sizes of the names; what the rows of chapter 11 say of the listed tables. -/
namespace Go.Proofs.YtdnjfpmngnkcfaaGreatDoor
open Go.ChangeShapes Go.WideShapes Go.ChangeAt Go.RowKit Go.Joins Go.Deep

theorem choose_listE {α : Type} {p : Nat → α → Prop} : ∀ (n : Nat), (∀ i, i < n → ∃ x, p i x) → ∃ xs : List α, xs.length = n ∧ ∀ (i : Nat) x, xs[i]? = some x → p i x
  | 0, _ => ⟨[], rfl, fun i x h => by simp at h⟩
  | n + 1, h => by
    obtain ⟨xs, hl, hx⟩ := choose_listE n (fun i hi => h i (by omega))
    obtain ⟨y, hy⟩ := h n (by omega)
    refine ⟨xs ++ [y], by simp [hl], fun i x hi => ?_⟩
    by_cases hlt : i < xs.length
    · rw [List.getElem?_append_left hlt] at hi
      exact hx i x hi
    · have hin : i = n := by
        have := (List.getElem?_eq_some_iff.1 hi).1
        rw [List.length_append, List.length_singleton] at this
        omega
      subst hin
      rw [List.getElem?_append_right (by omega), hl, Nat.sub_self] at hi
      obtain rfl : y = x := Option.some.inj hi
      exact hy
theorem cell_ltE {w : World} {a : Addr} {v : Value} (h : w.cell? a = some v) : a.block < w.heap.size := by
  rcases Nat.lt_or_ge a.block w.heap.size with hlt | hge
  · exact hlt
  · simp [World.cell?, Array.getElem?_eq_none hge] at h
theorem addr_noneE (b o q : Nat) : (⟨b, o, none⟩ : Addr).add q = ⟨b, o + q, none⟩ := by
  unfold Addr.add
  by_cases e : q = 0
  · subst e; rfl
  · simp [e]
section
variable {H : Type} {enc : TypeId × Value → H} {w : World}
/-- no slice and no string in a reading takes more bytes than an address space has -/
def WtB (t : TypeId) (d : DataW H) : Prop := ∀ n ∈ d.weights Tryz.prog t, n ≤ 140737488355328
/-- the reading of some cells, its weights bounded -/
def RW (enc : TypeId × Value → H) (w : World) (t : TypeId) (cs : List Value) : Prop := ∃ fuel x, DataW.trod enc Tryz.prog w 0 (fun _ => true) true fuel t cs = some x ∧ WtB t x.1
theorem weights_all {e : TypeId} {d : DataW H} {l : List (DataW H)} (hd : d ∈ l) {n : Nat} (hn : n ∈ d.weights Tryz.prog e) : n ∈ DataW.weightsAll Tryz.prog e l := by
  induction l with
  | nil => cases hd
  | cons x r ih =>
    rw [DataW.weightsAll]
    rcases List.mem_cons.1 hd with rfl | hd
    · exact List.mem_append_left _ hn
    · exact List.mem_append_right _ (ih hd)
theorem RW.reads {t : TypeId} {cs : List Value} (h : RW enc w t cs) : Reads enc w t cs := by
  obtain ⟨fuel, x, h1, _⟩ := h
  exact ⟨fuel, x, h1⟩
theorem RW.sub {t : TypeId} {fs : Array Field} {cs : List Value} (ht : Tryz.prog.underlying t = some (.struct fs)) (h : RW enc w t cs) (i o k : Nat) (T : TypeId) (f : Field) (hf : fs[i]? = some f) (ho : f.offset = o) (hT : f.type = T)
    (hk : Tryz.prog.cellsOf T = k) : RW enc w T ((cs.drop o).take k) := by
  obtain ⟨fuel, x, h, hw⟩ := h
  obtain ⟨xs, n, _, hx, _, hl, hg⟩ := DataW.trod_struct ht h
  have hi : i < fs.size := (Array.getElem?_eq_some_iff.1 hf).1
  have := hg i f hf
  rw [List.getElem?_eq_getElem (by omega), hT, hk, ho] at this
  refine ⟨n, _, this, fun m hm => hw m ?_⟩
  rw [hx]
  simp only [DataW.weights, ht]
  refine DataW.weights_mem_each (j := i) (t := T) (d := xs[i].1) ?_ ?_ m hm
  · rw [List.getElem?_map, Array.getElem?_toList, hf]
    simp [hT]
  · rw [List.getElem?_map, List.getElem?_eq_getElem (by omega)]; rfl
theorem RW.oneAt {t : TypeId} {fs : Array Field} {cs : List Value} (ht : Tryz.prog.underlying t = some (.struct fs)) (h : RW enc w t cs) (i o : Nat) (T : TypeId) (f : Field) (hf : fs[i]? = some f) (ho : f.offset = o) (hT : f.type = T) (hk : Tryz.prog.cellsOf T = 1) (hlt : o < cs.length) :
    ∃ u, cs[o]? = some u ∧ RW enc w T [u] := by
  have h1 := h.sub ht i o 1 T f hf ho hT hk
  refine ⟨cs[o], List.getElem?_eq_getElem hlt, ?_⟩
  rw [List.drop_eq_getElem_cons hlt] at h1
  exact h1
theorem RW.str1 {u : Value} (h : RW enc w 9 [u]) : ∃ s : ByteArray, u = .string s ∧ s.size ≤ 140737488355328 := by
  obtain ⟨fuel, x, h, hw⟩ := h
  obtain ⟨s, e1, e2, _⟩ := DataW.trod_string Tryz.underlying9 h
  simp only [List.cons.injEq, and_true] at e1
  refine ⟨s, e1, ?_⟩
  have := hw s.data.toList.length (by rw [e2]; simp [DataW.weights])
  rw [Array.length_toList] at this
  exact this
/-- a slice, element by element -/
theorem RW.slice {t e : TypeId} {k : Nat} {v : Value} (ht : Tryz.prog.underlying t = some (.slice e)) (hC : Tryz.prog.cellsOf e = k) (hk : 0 < k) (hlen : ∀ cs, Reads enc w e cs → cs.length = k) (h : RW enc w t [v]) :
    ∃ A n cap, v = .slice A n cap ∧ n ≤ cap ∧ n ≤ 9223372036854775807 ∧ (0 < n → ∃ b off, A = some ⟨b, off, none⟩ ∧ b < w.heap.size ∧
      ∀ i, i < n → ∃ cs, cs.length = k ∧ (∀ j, j < k → w.cell? ⟨b, off + i * k + j, none⟩ = cs[j]?) ∧ RW enc w e cs) := by
  obtain ⟨fuel, x, h, hw⟩ := h
  rcases open_slice ht h with ⟨hcs, _⟩ | ⟨a, len, cap, m, n, D, Pl, hcs, hb, hl, hm, hmm, hx, hi⟩
  · simp only [List.cons.injEq, and_true] at hcs
    exact ⟨none, 0, 0, hcs, Nat.le_refl _, by omega, fun h => absurd h (by decide)⟩
  · simp only [if_true] at hmm
    subst hmm
    simp only [List.cons.injEq, and_true] at hcs
    unfold maxLen at hm
    refine ⟨some a, len, _, hcs, hl, by omega, fun hp => ?_⟩
    have hex : ∀ i, i < len → ∃ cs, cs.length = k ∧ (∀ j, j < k → w.cell? ((a.add (i * k)).add j) = cs[j]?) ∧ RW enc w e cs := by
      intro i hil
      obtain ⟨cs', hc, ht'⟩ := hi i (by omega)
      rw [hC] at hc
      obtain ⟨_, hcl, hat⟩ := World.cells?_some hc
      have hr : RW enc w e cs' := ⟨_, _, ht', fun q hq => hw q (by
        rw [hx]
        simp only [DataW.weights, ht]
        exact List.mem_cons_of_mem _ (List.mem_append_left _ (weights_all (List.mem_map.2 ⟨i, List.mem_range.2 hil, rfl⟩) hq)))⟩
      exact ⟨cs', hlen _ hr.reads, fun j hj => hat j hj, hr⟩
    obtain ⟨cs0, hl0, hc0, _⟩ := hex 0 hp
    have c0 : w.cell? ((a.add (0 * k)).add 0) = some (cs0[0]'(by omega)) := by rw [hc0 0 hk, List.getElem?_eq_getElem]
    have hb := cell_ltE c0
    rw [block_of_add, block_of_add] at hb
    obtain ⟨b, o, sp⟩ := a
    have hsn : sp = none := by
      have := World.cell?_spot c0
      simpa [Addr.add] using this
    subst hsn
    refine ⟨b, o, rfl, hb, fun i hil => ?_⟩
    obtain ⟨cs, q0, q1, q2⟩ := hex i hil
    refine ⟨cs, q0, fun j hj => ?_, q2⟩
    rw [← q1 j hj, addr_noneE, addr_noneE]
theorem eStr : Tryz.prog.cellsOf 9 = 1 := by kernel_rfl
theorem eEnm : Tryz.prog.cellsOf 38 = 2 := by kernel_rfl
theorem eNod : Tryz.prog.cellsOf 41 = 2 := by kernel_rfl
theorem vStrs : Tryz.prog.underlying 24 = some (.slice 9) := by kernel_rfl
theorem vEnms : Tryz.prog.underlying 23 = some (.slice 38) := by kernel_rfl
theorem vNods : Tryz.prog.underlying 22 = some (.slice 41) := by kernel_rfl
theorem str_len {cs : List Value} (h : Reads enc w 9 cs) : cs.length = 1 := by
  obtain ⟨fuel, x, h⟩ := h
  obtain ⟨s, e1, _, _⟩ := DataW.trod_string Tryz.underlying9 h
  rw [e1]; rfl
/-- a list of strings -/
theorem open_strsE {v : Value} (h : RW enc w 24 [v]) : ∃ xs : List ByteArray, Strs w v xs ∧ xs.length ≤ 9223372036854775807 ∧ (∀ x ∈ xs, x.size ≤ 140737488355328) ∧ capV v := by
  obtain ⟨A, n, cap, rfl, hc, hn, hx⟩ := h.slice vStrs eStr (by decide) (fun cs h => str_len h)
  have hcap : capV (.slice A n cap) := fun A' n' c' e => by simp only [Value.slice.injEq] at e; omega
  rcases Nat.eq_zero_or_pos n with h0 | hp
  · subst h0
    exact ⟨[], ⟨A, cap, rfl, fun h => absurd h (by simp)⟩, by simp, fun x h => (by cases h), hcap⟩
  obtain ⟨b, off, rfl, hb, hcs⟩ := hx hp
  obtain ⟨xs, hl, hxs⟩ := choose_listE (p := fun i (x : ByteArray) => w.cell? ⟨b, off + i, none⟩ = some (.string x) ∧ x.size ≤ 140737488355328) n (fun i hi => by
    obtain ⟨cs, q0, q1, q2⟩ := hcs i hi
    match cs, q0 with
    | [u], _ =>
      obtain ⟨s, rfl, hs⟩ := q2.str1
      have := q1 0 (by decide)
      refine ⟨s, ?_, hs⟩
      rw [Nat.mul_one, Nat.add_zero] at this
      exact this)
  refine ⟨xs, ⟨_, cap, by rw [hl], fun _ => ⟨b, off, rfl, hb, fun j hj => ?_⟩⟩, by omega, fun x hx => ?_, hcap⟩
  · rw [List.getElem?_eq_getElem hj]
    exact (hxs j _ (List.getElem?_eq_getElem hj)).1
  · obtain ⟨j, hj⟩ := List.getElem?_of_mem hx
    exact (hxs j x hj).2
/-- enumerations with their members -/
theorem open_enmsE {v : Value} (h : RW enc w 23 [v]) : ∃ (en : List ByteArray) (ms : List (List ByteArray)), EnumsN w v en ms ∧ (∀ x ∈ en, x.size ≤ 140737488355328) ∧ (∀ l ∈ ms, ∀ x ∈ l, x.size ≤ 140737488355328) ∧ CapE w v := by
  obtain ⟨A, n, cap, rfl, hc, hn, hx⟩ := h.slice vEnms eEnm (by decide) (fun cs h => (h.length Tryz.underlying38).trans eEnm)
  rcases Nat.eq_zero_or_pos n with h0 | hp
  · subst h0
    exact ⟨[], [], ⟨rfl, A, cap, rfl, by simp, fun h => absurd h (by simp)⟩, fun x h => (by cases h), fun x h => (by cases h), fun b off n c he j A m c' hj => by
      simp only [Value.slice.injEq] at he
      omega⟩
  obtain ⟨b, off, rfl, hb, hcs⟩ := hx hp
  obtain ⟨xs, hl, hxs⟩ := choose_listE (p := fun i (x : ByteArray × List ByteArray) => w.cell? ⟨b, off + i * 2, none⟩ = some (.string x.1) ∧ x.1.size ≤ 140737488355328 ∧ x.2.length ≤ 9223372036854775807 ∧ (∀ y ∈ x.2, y.size ≤ 140737488355328) ∧ ∃ mv, w.cell? ⟨b, off + i * 2 + 1, none⟩ = some mv ∧ Strs w mv x.2 ∧ capV mv) n (fun i hi => by
    obtain ⟨cs, q0, q1, q2⟩ := hcs i hi
    obtain ⟨u0, g0, r0⟩ := q2.oneAt Tryz.underlying38 0 0 9 _ rfl rfl rfl (by kernel_rfl) (show 0 < cs.length by omega)
    obtain ⟨u1, g1, r1⟩ := q2.oneAt Tryz.underlying38 1 1 24 _ rfl rfl rfl (by kernel_rfl) (show 1 < cs.length by omega)
    obtain ⟨s, rfl, hs⟩ := r0.str1
    obtain ⟨l, l1, l2, l3, l4⟩ := open_strsE r1
    have c0 := q1 0 (by decide)
    have c1 := q1 1 (by decide)
    rw [g0, Nat.add_zero] at c0
    rw [g1] at c1
    exact ⟨(s, l), c0, hs, l2, l3, u1, c1, l1, l4⟩)
  refine ⟨xs.map (·.1), xs.map (·.2), ⟨by simp, _, cap, by rw [List.length_map, hl], by rw [List.length_map]; omega, fun _ => ⟨b, off, rfl, hb, fun j x l hx hl' => ?_⟩⟩, fun x hx => ?_, fun l hl' x hx => ?_, ?_⟩
  · rw [List.getElem?_map] at hx hl'
    cases hj : xs[j]? with
    | none => rw [hj] at hx; cases hx
    | some p =>
      rw [hj] at hx hl'
      have e1 : p.1 = x := Option.some.inj hx
      have e2 : p.2 = l := Option.some.inj hl'
      obtain ⟨a1, _, a3, _, mv, a5, a6, _⟩ := hxs j p hj
      rw [← e1, ← e2]
      exact ⟨a3, a1, mv, a5, a6⟩
  · obtain ⟨p, hp, rfl⟩ := List.mem_map.1 hx
    obtain ⟨j, hj⟩ := List.getElem?_of_mem hp
    exact (hxs j p hj).2.1
  · obtain ⟨p, hp, rfl⟩ := List.mem_map.1 hl'
    obtain ⟨j, hj⟩ := List.getElem?_of_mem hp
    exact (hxs j p hj).2.2.2.1 x hx
  · intro b' off' n' c he j A m c' hj hcell
    simp only [Value.slice.injEq, Option.some.injEq, Addr.mk.injEq, and_true] at he
    obtain ⟨⟨rfl, rfl⟩, rfl, rfl⟩ := he
    obtain ⟨_, _, _, _, mv, a5, _, a7⟩ := hxs j _ (List.getElem?_eq_getElem (by omega))
    rw [a5] at hcell
    exact a7 A m c' (Option.some.inj hcell)
set_option maxRecDepth 100000 in
/-- the names of a scope -/
theorem open_names {base : Nat} {v : Value} {d : DataW H} {p : List MemPlace} (hv : Value.okWide Tryz.prog w .any base 26 v) (h : DataW.Trod enc Tryz.prog w 0 (fun _ => true) true 26 v d p) (hw : WtB 26 d) :
    ∃ nm : Nm, NamesC w v nm ∧ ∀ x, ∀ s ∈ refN nm x, s.size ≤ 140737488355328 := by
  obtain ⟨⟨cs⟩, rfl, hsz⟩ := okWide_struct Tryz.underlying26 hv
  rw [show Tryz.prog.cellsOf 26 = 5 by kernel_rfl] at hsz
  have hr : RW enc w 26 cs := by
    obtain ⟨fuel, hf⟩ := h
    exact ⟨fuel, _, hf, hw⟩
  have hsl : cs.length = 5 := hsz
  obtain ⟨u0, g0, r0⟩ := hr.oneAt Tryz.underlying26 0 0 23 _ rfl rfl rfl (by kernel_rfl) (show 0 < cs.length by omega)
  obtain ⟨u1, g1, r1⟩ := hr.oneAt Tryz.underlying26 1 1 24 _ rfl rfl rfl (by kernel_rfl) (show 1 < cs.length by omega)
  obtain ⟨u2, g2, r2⟩ := hr.oneAt Tryz.underlying26 2 2 24 _ rfl rfl rfl (by kernel_rfl) (show 2 < cs.length by omega)
  obtain ⟨u3, g3, r3⟩ := hr.oneAt Tryz.underlying26 3 3 24 _ rfl rfl rfl (by kernel_rfl) (show 3 < cs.length by omega)
  obtain ⟨u4, g4, r4⟩ := hr.oneAt Tryz.underlying26 4 4 24 _ rfl rfl rfl (by kernel_rfl) (show 4 < cs.length by omega)
  obtain ⟨en, ms, e1, e2, e3, e4⟩ := open_enmsE r0
  obtain ⟨tb, t1, t2, t3, t4⟩ := open_strsE r1
  obtain ⟨ins, i1, i2, i3, i4⟩ := open_strsE r2
  obtain ⟨ds, d1, d2, d3, d4⟩ := open_strsE r3
  obtain ⟨md, m1, m2, m3, m4⟩ := open_strsE r4
  match cs, hsl with
  | [c0, c1, c2, c3, c4], _ =>
    simp at g0 g1 g2 g3 g4
    subst g0 g1 g2 g3 g4
    refine ⟨⟨en, ms, tb, ins, ds, md⟩, ⟨⟨_, _, _, _, _, rfl, e1, t1, i1, d1, m1, t2, i2, d2, m2⟩, fun ev tv iv dv mv hv => ?_⟩, fun x s hs => ?_⟩
    · simp only [Value.agg.injEq, Array.mk.injEq, List.cons.injEq, and_true] at hv
      obtain ⟨rfl, rfl, rfl, rfl, rfl⟩ := hv
      exact ⟨t4, m4, e4⟩
    · have hget : ∀ (l : List ByteArray) (i : Nat), (∀ x ∈ l, x.size ≤ 140737488355328) → (l[i]?.getD ⟨#[]⟩).size ≤ 140737488355328 := fun l i h => by
        cases hx : l[i]? with
        | none => exact Nat.zero_le _
        | some y => exact h _ (List.mem_of_getElem? hx)
      unfold refN at hs
      split at hs
      · rcases List.mem_cons.1 hs with rfl | hs
        · exact hget _ _ e2
        · rw [List.mem_singleton.1 hs]
          dsimp only
          cases hl : ms[(x.n / 16).toNat]? with
          | none => exact Nat.zero_le _
          | some l => exact hget _ _ (e3 l (List.mem_of_getElem? hl))
      split at hs
      · rw [List.mem_singleton.1 hs]; exact hget _ _ i3
      split at hs
      · rw [List.mem_singleton.1 hs]; exact hget _ _ d3
      split at hs
      · rw [List.mem_singleton.1 hs]; exact hget _ _ t3
      split at hs
      · rw [List.mem_singleton.1 hs]; exact hget _ _ m3
      · cases hs
theorem Reads.int64 {u : Value} (h : Reads enc w 3 [u]) : ∃ n : Int, u = .int .i64 n ∧ -9223372036854775808 ≤ n ∧ n ≤ 9223372036854775807 := by
  obtain ⟨n, e, hw⟩ := h.int
  simp only [List.cons.injEq, and_true] at e
  refine ⟨n, e, ?_⟩
  rw [Lit.wf, Bool.and_eq_true] at hw
  have h1 : IntKind.i64.min ≤ n := of_decide_eq_true hw.1
  have h2 : n ≤ IntKind.i64.max := of_decide_eq_true hw.2
  rw [show IntKind.i64.min = -9223372036854775808 from by decide] at h1
  rw [show IntKind.i64.max = 9223372036854775807 from by decide] at h2
  exact ⟨h1, h2⟩
set_option maxRecDepth 100000 in
/-- an expression -/
theorem open_expr {base : Nat} {v : Value} {d : DataW H} {p : List MemPlace} (hv : Value.okWide Tryz.prog w .any base 22 v) (h : DataW.Trod enc Tryz.prog w 0 (fun _ => true) true 22 v d p) (hw : WtB 22 d) :
    ∃ xs : List Nd, Nds w v xs ∧ xs.length ≤ 9223372036854775807 ∧ ∀ x ∈ xs, -9223372036854775808 ≤ x.n ∧ x.n ≤ 9223372036854775807 := by
  obtain ⟨A0, n0, c0, rfl⟩ := okWide_slice vNods hv
  have hr : RW enc w 22 [.slice A0 n0 c0] := by
    obtain ⟨fuel, hf⟩ := h
    exact ⟨fuel, _, hf, hw⟩
  obtain ⟨A, n, cap, he, hc, hn, hx⟩ := hr.slice vNods eNod (by decide) (fun cs h => (h.length Tryz.underlying41).trans eNod)
  rw [he]
  rcases Nat.eq_zero_or_pos n with h0 | hp
  · subst h0
    exact ⟨[], ⟨A, cap, rfl, fun h => absurd h (by simp)⟩, by simp, fun x h => (by cases h)⟩
  obtain ⟨b, off, rfl, hb, hcs⟩ := hx hp
  obtain ⟨xs, hl, hxs⟩ := choose_listE (p := fun i (x : Nd) => (∀ j u, (ndF x)[j]? = some u → w.cell? ⟨b, off + i * 2 + j, none⟩ = some u) ∧ -9223372036854775808 ≤ x.n ∧ x.n ≤ 9223372036854775807) n (fun i hi => by
    obtain ⟨cs, q0, q1, q2⟩ := hcs i hi
    obtain ⟨u0, g0, r0⟩ := q2.oneAt Tryz.underlying41 0 0 3 _ rfl rfl rfl (by kernel_rfl) (show 0 < cs.length by omega)
    obtain ⟨u1, g1, r1⟩ := q2.oneAt Tryz.underlying41 1 1 3 _ rfl rfl rfl (by kernel_rfl) (show 1 < cs.length by omega)
    obtain ⟨o, rfl, _⟩ := r0.reads.int64
    obtain ⟨m, rfl, hm⟩ := r1.reads.int64
    have c0 := q1 0 (by decide)
    have c1 := q1 1 (by decide)
    rw [g0] at c0
    rw [g1] at c1
    refine ⟨⟨o, m⟩, fun j u hu => ?_, hm⟩
    match j, hu with
    | 0, hu => simp only [ndF, List.getElem?_cons_zero, Option.some.injEq] at hu; subst hu; exact c0
    | 1, hu => simp only [ndF, List.getElem?_cons_zero, List.getElem?_cons_succ, Option.some.injEq] at hu; subst hu; exact c1
    | j + 2, hu => simp [ndF] at hu)
  refine ⟨xs, ⟨_, cap, by rw [hl], fun _ => ⟨b, off, rfl, hb, fun j x hx i u hu => (hxs j x hx).1 i u hu⟩⟩, by omega, fun x hx => ?_⟩
  obtain ⟨j, hj⟩ := List.getElem?_of_mem hx
  exact (hxs j x hj).2
/-- the weights of each argument -/
theorem wt_arg {ts : List TypeId} {ds : List (DataW H)} (h : (DataW.weightsEach Tryz.prog ts ds).all (· ≤ reachBytes) = true) {j : Nat} {t : TypeId} {d : DataW H} (ht : ts[j]? = some t) (hd : ds[j]? = some d) : WtB t d := by
  intro n hn
  have := List.all_eq_true.1 h n (DataW.weights_mem_each ht hd n hn)
  have h2 := reachBytes_lt
  simp only [decide_eq_true_eq] at this
  omega
set_option maxRecDepth 100000 in
theorem law_liftedW {F : FuncId} {fn : Func} {s : ChangeSpec} {os : Os} {laid : List (String × DataW Unit)} (started : os.Started) (noInit : Tryz.prog.inits.idxOf? F = none) (hfn : Tryz.prog.funcs[F]? = some fn)
    (hs0 : s.vars = []) (hres : fn.resultTypes = #[4])
    (hspec : ∀ ds : List (DataW H), ds.length = fn.params.toList.length → s.fn H (ds ++ []) = { results := [.lit (.bool true)], args := ds })
    (hread : fn.params.toList.all (fun t => Tryz.prog.readableRec t && decide (t < Tryz.prog.types.size)) = true)
    (witness : ∃ (w : World) (tape : Tape) (i : Input), w.os = os ∧ (w.forCall tape i).Shaped Tryz.checked.prog ∧ i.vars = [] ∧ Input.okWide Tryz.checked.prog (w.forCall tape i) .any w.heap.size F i ∧
      (OpenSpec.ofChange s).preRow enc Tryz.checked.prog fn [] false laid (w.forCall tape i).memory i.args ∧ ({} : Assume).holds Tryz.checked.prog (lone (Frame.enter Tryz.checked.prog F i.args .normal) [] (w.forCall tape i)))
    (walk : ∀ (W : World) (base : Nat) (args : Array Value) (ds : List (DataW H)) (ps : List MemPlace),
      (∀ (j : Nat) t v, fn.params[j]? = some t → args[j]? = some v → Value.okWide Tryz.prog W .any base t v) →
      DataW.TrodAll enc Tryz.prog W 0 (fun _ => true) true fn.params.toList args.toList ds ps → laidMetH Tryz.prog laid W → (∀ (j : Nat) t d, fn.params.toList[j]? = some t → ds[j]? = some d → WtB t d) → Calls Tryz.prog F args W (LawPost W)) (I : Stop.Interp) :
    ReturnsInHanded {} Tryz.checked os F .any ((OpenSpec.ofChange s).preRow enc Tryz.prog fn [] false laid) (((OpenSpec.ofChange s).at I).post enc Tryz.prog fn false true false false) := by
  refine returnsInHanded_of_row (C := Tryz.checked) (s := OpenSpec.ofChange s) own started noInit hfn witness ?_
  intro W base args ds gs before hval hW _ _ hWt hL _ _
  have hW' := hW
  obtain ⟨p, q, hA, hV, rfl, _, _⟩ := hW
  have hv0 : (OpenSpec.ofChange s).vars = [] := hs0
  rw [hv0] at hV
  obtain ⟨rfl, rfl⟩ := trodVars_none hV
  have hA' : DataW.TrodAll enc Tryz.prog W 0 (fun _ => true) true fn.params.toList args.toList ds p := hA
  refine (walk W base args ds p hval hA' hL (fun j t d ht hd => wt_arg hWt (j := j) (by rw [List.getElem?_append_left (List.getElem?_eq_some_iff.1 ht).1]; exact ht) (by rw [List.append_nil]; exact hd))).mono fun e W' ⟨he, hk⟩ => ?_
  subst he
  have hsp := hspec ds (trodAll_length hA').1
  refine ⟨_, rfl, ds, [], _, [], p, [], hW', ?_, ?_, ?_, hk.frame _, fun h => by cases h⟩
  · show DataW.TrodAll _ _ _ _ _ _ _ _ (s.fn H (ds ++ [])).results _
    rw [hsp, hres]
    exact trodAll_mk1 (shut_bool underBool true)
  · show DataW.TrodAll _ _ _ _ _ _ _ _ (s.fn H (ds ++ [])).args _
    rw [hsp]
    exact trodAll_below hread hk hA'
  · show DataW.TrodVars _ _ _ _ s.vars (s.fn H (ds ++ [])).vars _
    rw [hsp, hs0]
    rfl
end
/-- what the rows say of the listed tables -/
theorem env11 {W : World} (h : laidMetH Tryz.prog Rows.exprtextRoundTripRow.laid W) : Mon W ∧ Pow W := by
  have h0 : laidMet Tryz.prog Rows.exprtextRoundTripRow.laid W := h
  have h3 := h0.tail.tail
  have h4 := h3.tail
  have t3 : Lib.TabIs Tryz.prog W "internal/strconv.uint64pow10" .u64 Lib.pow10Tab :=
    Lib.tabIs_of_head (g := 2) (t := 155) (e := 139) (n := 20) (by kernel_rfl) (by kernel_rfl) (by kernel_rfl) (by kernel_rfl) (by kernel_rfl) (by kernel_rfl) h3
  have t5 : Lib.TabIs Tryz.prog W "guerdon/date.monthLengths" .i64 mlens :=
    Lib.tabIs_of_head (g := 1) (t := 143) (e := 3) (n := 12) (by kernel_rfl) (by kernel_rfl) (by kernel_rfl) (by kernel_rfl) (by kernel_rfl) (by kernel_rfl) h4
  refine ⟨fun i hi => ?_, t3⟩
  exact t5.cell (g := 1) (by kernel_rfl) i hi
end Go.Proofs.YtdnjfpmngnkcfaaGreatDoor
