/- The walk of the law CasedataRoundTrip. -/
import Derived.Test.YtjeifmjcgemlgaaGreatDoorRgO
import Derived.Test.YtjeifmjcgemlgaaGreatDoorRgM
import Derived.Test.YtjeifmjcgemlgaaGreatDoorRgC
namespace Go.Proofs.YtjeifmjcgemlgaaGreatDoor
open Go.RowKit

theorem idB_parts {s : ByteArray} (h : idB (L s) = true) : 0 < s.size ∧ s.size ≤ 16 ∧ (L s).all wordB = true := by
  have hid : idB (L s) = (decide (0 < s.size) && (decide (s.size ≤ 16) && (lowH (L s) && ((L s).all wordB && !resB (L s))))) := rfl
  rw [hid] at h
  simp only [Bool.and_eq_true, decide_eq_true_eq] at h
  exact ⟨h.1, h.2.1, h.2.2.2.1⟩
theorem wordB_pr {c : UInt8} (h : wordB c = true) : 33 ≤ c.toNat ∧ c.toNat ≤ 126 := by
  unfold wordB lowB isDig at h
  simp only [Bool.or_eq_true, Bool.and_eq_true, decide_eq_true_eq] at h
  have : (97 ≤ c.toNat ∧ c.toNat ≤ 122) ∨ (48 ≤ c.toNat ∧ c.toNat ≤ 57) ∨ c.toNat = 95 := by
    rcases h with h | h | h
    · exact .inl h
    · refine .inr (.inl ?_)
      simpa using h
    · exact .inr (.inr h)
  omega
theorem idB_wd {s : ByteArray} (h : idB (L s) = true) : Wd (L s) := by
  obtain ⟨h0, h1, h2⟩ := idB_parts h
  refine ⟨fun e => ?_, fun c hc => wordB_pr (List.all_eq_true.1 h2 c hc), ?_⟩
  · have := L_length s
    rw [e] at this
    simp at this
    omega
  · have := L_length s
    omega
theorem goodL_nodup : ∀ {l : List ByteArray}, GoodL l → l.Nodup := by
  intro l h
  unfold List.Nodup
  refine List.pairwise_iff_getElem.2 fun i j hi hj hij e => ?_
  have := (h j _ (List.getElem?_eq_getElem hj)).2 i _ hij (List.getElem?_eq_getElem hi)
  rw [neqS, e] at this
  simp at this
theorem goodM_of {ms : List (List ByteArray)} (h : ValidP ms) : GoodM ms := fun l hl => ⟨goodL_nodup (h l hl), fun x hx => by
  obtain ⟨j, hj⟩ := List.getElem?_of_mem hx
  exact idB_wd ((h l hl) j x hj).1⟩
theorem rt_len {ms : List (List ByteArray)} {scs : List Sc} {sc d : Int} {ins : List Vl} {mem : List (List Vl)} (hm : GoodM ms) (h : (valC ms scs sc d ins mem).2.2 = 0) (hi : ins.length ≤ 14) (hmm : mem.length ≤ 10) (hml : ∀ l ∈ mem, l.length ≤ 14) :
    (textL (caseT ms d ins mem)).length ≤ 65536 := by
  unfold valC at h
  split at h
  · exact absurd h (by decide)
  · split at h
    · exact absurd h (by decide)
    · rename_i h2
      dsimp only at h
      obtain ⟨x, hx⟩ : ∃ x, scs[sc.toNat]?.getD ⟨0, []⟩ = x := ⟨_, rfl⟩
      rw [hx] at h
      split at h
      · rename_i h3
        split at h
        · exact absurd h (by simp)
        · have hd : isDate d = true := isDate_iff.2 (by omega)
          have hall := chkM_all h
          have hwd := wd_date hd
          have hlI := lineV_ok hm (word := [105, 110]) (by decide) h3
          have hmL := mems_len hm hall hml
          unfold caseT
          rw [textL_cons, textL_cons]
          have h5 := hlI.2
          have h6 := hwd.len
          simp only [List.length_append, List.length_cons, List.length_nil] at h5 ⊢
          omega
      · rename_i h3; exact absurd h h3
theorem Mems.formR {w : World} {v : Value} {mem : List (List Vl)} (h : Mems w v mem) : ∃ A c, v = .slice A mem.length c := by
  obtain ⟨A, c, hv, _⟩ := h
  exact ⟨A, c, hv⟩
theorem LawV.of {w : World} {v : Value} {ms : List (List ByteArray)} {scs : List Sc} (hL : LawM w v ms scs) (hD : LawD w v) : ∃ nT nS, LawV w v ms nT nS := by
  obtain ⟨ev, At, nt, ct, sv, rfl, hE, hS⟩ := hL
  obtain ⟨ev', tv', sv', hv, h0, h1, h2⟩ := hD
  simp only [Value.agg.injEq, Array.mk.injEq, List.cons.injEq, and_true] at hv
  obtain ⟨rfl, rfl, rfl⟩ := hv
  obtain ⟨AE, cE, rfl, hE'⟩ := id hE
  obtain ⟨AS, nS, cS, rfl, -⟩ := id h2
  exact ⟨nt, nS, AE, cE, At, ct, AS, cS, rfl, hE, h0, h1, h2⟩
set_option maxRecDepth 100000 in
set_option maxHeartbeats 8000000 in
theorem lawCdRoundTrip (lv iv mv : Value) (ms : List (List ByteArray)) (scs : List Sc) (sc d : Int) (ins : List Vl) (mem : List (List Vl)) (w : World) (hL : LawM w lv ms scs) (hR : LawR w lv) (hD : LawD w lv) (hI : Vals w iv ins) (hil : ins.length ≤ 9223372036854775807) (hM : Mems w mv mem)
    (hMo : Mon w) (hP : Pow w) (hX : MaxV w) : Calls Tryz.prog 3 #[lv, .int .i64 sc, .agg #[.int .i64 d, iv, mv]] w (LawPost w) := by
  unfold LawPost
  obtain ⟨nT, nS, hV⟩ := LawV.of hL hD
  have HS := Lib.hid (fun w1 (h : Kept w w1) => smallLaw_any lv ms scs w1 (hL.kept h) (hR.kept h))
  have HC := Lib.hid (fun w1 (h : Kept w w1) => smallCase_any d iv mv ins mem w1 (hI.kept h) (hM.kept h))
  have HIV := Lib.hid (fun w1 (h : Kept w w1) => risValid_any lv ms nT nS w1 (hV.kept h))
  have HVA := Lib.hid (fun w1 (h : Kept w w1) => validate_any lv iv mv ms scs sc d ins mem w1 (hL.kept h) (hI.kept h) hil (hM.kept h))
  have HA := Lib.hid (fun w1 (h : Kept w w1) => awake19_any w1 (hMo.kept h) (hP.kept h) (hX.kept h))
  have HFM := Lib.hid (fun w1 (h : Kept w w1) hsz => cformat_any lv iv mv ms scs sc d ins mem w1 (hL.kept h) (hI.kept h) hil (hM.kept h) hsz (hMo.kept h) (hP.kept h))
  have HPA := Lib.hid (fun s w1 (h : Kept w w1) hs => cparse_any lv ms scs sc s w1 (hL.kept h) hs (hX.kept h) (hMo.kept h))
  have HSC := Lib.hid (fun iv' mv' w0 w1 (h0 : Kept w w0) (hI' : Vals w0 iv' ins) (hM' : Mems w0 mv' mem) (h : Kept w0 w1) => sameCase_any d d iv mv iv' mv' ins ins mem mem w1 (hI.kept (h0.trans h)) (hM.kept (h0.trans h)) (hI'.kept h) (hM'.kept h) hil hil)
  have HEQ := Lib.hid (fun iv' mv' w0 w1 (h0 : Kept w w0) (hI' : Vals w0 iv' ins) (hM' : Mems w0 mv' mem) (h : Kept w0 w1) => eqCase_any d d iv mv iv' mv' ins ins mem mem w1 (hI.kept (h0.trans h)) (hM.kept (h0.trans h)) (hI'.kept h) (hM'.kept h) hil)
  unfold SmallB at HS HC HIV
  unfold valPost at HVA
  unfold cfPost at HFM
  unfold csPost at HPA
  unfold smPost at HSC HEQ
  rw [csB_self] at HSC HEQ
  have HRT := Lib.hid (fun hm h hi hmm hml => (rt_case (ms := ms) (scs := scs) (sc := sc) (d := d) (ins := ins) (mem := mem) hm h hi hmm hml))
  have HRL := Lib.hid (fun hm h hi hmm hml => (rt_len (ms := ms) (scs := scs) (sc := sc) (d := d) (ins := ins) (mem := mem) hm h hi hmm hml))
  have HGM := Lib.hid (fun h => goodM_of (ms := ms) h)
  have HFT := Lib.hid (show (valC ms scs sc d ins mem).2.2 = 0 → fmtCs ms scs sc d ins mem = (bs (textL (caseT ms d ins mem)), 0) from fun h => by unfold fmtCs; rw [if_pos h])
  obtain ⟨AE, cE, At, ct, AS, cS, rfl, -, -, -, -⟩ := hV
  obtain ⟨AI, ci, rfl⟩ := Vals.form hI
  obtain ⟨AM, cm, rfl⟩ := hM.formR
  have K0 := Lib.hid (((Kept.refl w).alloc (.cells #[.slice AE ms.length cE, .slice At nT ct, .slice AS nS cS] 26)).alloc (.cells #[.int .i64 d, .slice AI ins.length ci, .slice AM mem.length cm] 30))
  generalize hvc : valC ms scs sc d ins mem = V at *
  obtain ⟨v1, v2, v3⟩ := V
  dsimp only at HVA HRT HRL HFT HFM
  have HIL := Lib.hid hil
  clear hL hR hD hI hil hM hMo hP hX hvc
  go_enter Tryz.func3, Tryz.ntmps3
  go_upto_region 1 with fail
  obtain ⟨B1, B2⟩ := (Kept.refl ((w.alloc (.cells #[.slice AE ms.length cE, .slice At nT ct, .slice AS nS cS] 26)).alloc (.cells #[.int .i64 d, .slice AI ins.length ci, .slice AM mem.length cm] 30))).blk2
  have KK := K0.out
  generalize (w.alloc (.cells #[.slice AE ms.length cE, .slice At nT ct, .slice AS nS cS] 26)).alloc (.cells #[.int .i64 d, .slice AI ins.length ci, .slice AM mem.length cm] 30) = W at *
  generalize ms.length = nE at *
  generalize ins.length = nI at *
  generalize mem.length = nM at *
  have c1 := B1.cell
  have c2 := B2.cell
  have l1 := B1.lt
  have l2 := B2.lt
  go_upto_region 3 with (first
    | (go_at_call 4; refine (HS.out _ KK).mono ?_; rintro r w1 ⟨b, rfl, k1, q1⟩; have C1 := B1.kept k1; have C2 := B2.kept k1; have c1z := C1.cell; have c2z := C2.cell; have l1z := C1.lt; have l2z := C2.lt; have K1 := KK.trans k1; clear q1; cases b)
    | (go_at_call 5; refine (HC.out _ K1).mono ?_; rintro r w2 ⟨b, rfl, k2, q2⟩; have D1 := C1.kept k2; have D2 := C2.kept k2; have d1z := D1.cell; have d2z := D2.cell; have m1z := D1.lt; have m2z := D2.lt; have K2 := K1.trans k2; have Q2 := Lib.hid q2; clear q2; cases b)
    | (go_at_call 6; refine (HIV.out _ K2).mono ?_; rintro r w3 ⟨b, rfl, k3, q3⟩; have E1 := D1.kept k3; have E2 := D2.kept k3; have e1z := E1.cell; have e2z := E2.cell; have n1z := E1.lt; have n2z := E2.lt; have K3 := K2.trans k3; have Q3 := Lib.hid q3; clear q3; cases b)
    | (go_at_call 7; first | (refine (HA.out _ K3).mono ?_; rintro r w' ⟨rfl, hk⟩; have KF := K3.trans hk) | (refine (HA.out _ K2).mono ?_; rintro r w' ⟨rfl, hk⟩; have KF := K2.trans hk) | (refine (HA.out _ K1).mono ?_; rintro r w' ⟨rfl, hk⟩; have KF := K1.trans hk)))
  · go_ret
    exact ⟨rfl, KF⟩
  · go_ret
    exact ⟨rfl, KF⟩
  · go_ret
    exact ⟨rfl, KF⟩
  clear c1 c2 l1 l2 c1z c2z l1z l2z d1z d2z m1z m2z B1 B2 C1 C2 D1 D2 KK K1 K2 k1 k2 k3 HS HC HIV
  by_cases hv : v3 = 0
  · subst hv
    obtain ⟨hi14, hm10, hml⟩ := Q2.out (by trivial)
    have hgm := HGM.out (Q3.out (by trivial))
    have hrt := (HRT.out hgm rfl hi14 hm10 hml).2
    have hlen := HRL.out hgm rfl hi14 hm10 hml
    have hft := HFT.out rfl
    rw [hft] at HFM hrt
    dsimp only at HFM hrt
    have hTs : (bs (textL (caseT ms d ins mem))).size ≤ 1000000 := by rw [bs_size]; omega
    have HFM2 := Lib.hid (fun w1 (h : Kept w w1) => HFM.out w1 h (fun _ => by omega))
    have HPT := Lib.hid (fun w1 (h : Kept w w1) => HPA.out _ w1 h hTs)
    rw [hrt] at HPT
    dsimp only at HPT
    generalize bs (textL (caseT ms d ins mem)) = T at *
    clear hTs hft hlen hrt hgm hml hi14 hm10 Q2 Q3 HGM HRT HRL HFT HFM HPA
    have HE1 := Lib.hid E1
    have HE2 := Lib.hid E2
    have HK3 := Lib.hid K3
    go_upto_region 8 with (first
      | (go_at_call 8; refine (HVA.out _ K3).mono ?_; rintro r w4 ⟨rfl, k4⟩; have F1 := E1.kept k4; have F2 := E2.kept k4; have f1c := F1.cell; have f2c := F2.cell; have f1l := F1.lt; have f2l := F2.lt; have K4 := K3.trans k4)
      | (go_at_call 9; refine (HFM2.out _ K4).mono ?_; rintro r w5 ⟨rfl, k5⟩; have G1 := F1.kept k5; have G2 := F2.kept k5; have g1c := G1.cell; have g2c := G2.cell; have g1l := G1.lt; have g2l := G2.lt; have K5 := K4.trans k5)
      | (go_at_call 10; refine (HPT.out _ K5).mono ?_; rintro r w6 ⟨iv', mv', rfl, hI', hM', k6⟩; obtain ⟨AI', ci', rfl⟩ := Vals.form hI'; obtain ⟨AM', cm', rfl⟩ := hM'.formR))
    have K6 := Lib.hid (K5.trans k6)
    have P2 := (G2.kept k6).alloc (.cells #[.int .i64 d, .slice AI' ins.length ci', .slice AM' mem.length cm'] 30)
    have PB := Blk.new w6 30 #[.int .i64 d, .slice AI' ins.length ci', .slice AM' mem.length cm']
    have k7 := (Kept.refl w6).alloc (.cells #[.int .i64 d, .slice AI' ins.length ci', .slice AM' mem.length cm'] 30)
    have HI := Lib.hid hI'
    have HM := Lib.hid hM'
    clear e1z e2z n1z n2z f1c f2c f1l f2l g1c g2c g1l g2l E1 E2 F1 F2 G1 G2 K3 K4 K5 k4 k5 k6 hI' hM' HVA HFM2 HPT HE1 HE2 HK3
    generalize w6.alloc (.cells #[.int .i64 d, .slice AI' ins.length ci', .slice AM' mem.length cm'] 30) = W7 at *
    generalize hg6 : w6.heap.size = g6 at *
    clear hg6
    have p2c := P2.cell
    have p2l := P2.lt
    have pbc := PB.cell
    have pbl := PB.lt
    go_wp2_with (first
      | (go_at_call 11; refine (HSC.out _ _ _ _ K6.out HI.out HM.out k7).mono ?_; rintro r w8 ⟨rfl, k8⟩; have R2 := P2.kept k8; have RB := PB.kept k8; have r2c := R2.cell; have r2l := R2.lt; have rbc := RB.cell; have rbl := RB.lt; have K8 := k7.trans k8)
      | (go_at_call 12; refine (HEQ.out _ _ _ _ K6.out HI.out HM.out K8).mono ?_; rintro r w9 ⟨rfl, k9⟩; have K9 := K8.trans k9)
      | (go_at_call 7; refine (HA.out _ (K6.out.trans K9)).mono ?_; rintro r w' ⟨rfl, hk⟩))
    go_ret
    exact ⟨rfl, (K6.out.trans K9).trans hk⟩
  · have hvb : (v3 != 0) = true := by simpa using hv
    clear HRT HRL HFT HFM HPA HSC HEQ Q2 Q3 hv
    go_wp2_with (first
      | (go_at_call 8; refine (HVA.out _ K3).mono ?_; rintro r w4 ⟨rfl, k4⟩; have K4 := K3.trans k4)
      | (go_at_call 7; refine (HA.out _ K4).mono ?_; rintro r w' ⟨rfl, hk⟩))
    go_ret
    exact ⟨rfl, K4.trans hk⟩
end Go.Proofs.YtjeifmjcgemlgaaGreatDoor
