/- The type of a node over the types of its operands: the reference ends. -/
import Derived.Test.YtjeifmjcgemlgaaGreatDoorRtE
import Derived.Deep.RegionHeld3
namespace Go.Proofs.YtjeifmjcgemlgaaGreatDoor
open Go.RowKit

/-- a type and a code -/
def TyI (w : World) (r : Ending) (w' : World) : Prop := ∃ (k e c : Int), r = .returned (.tuple #[.agg #[.int .i64 k, .int .i64 e], .int .i64 c]) ∧ Kept w w'
set_option maxRecDepth 100000 in
set_option maxHeartbeats 16000000 in
theorem rresult_k (op N : Int) (A : Option Addr) (n cap : Nat) (sv : Value) (ms : List (List ByteArray)) (nT nI nD nM : Nat) (w : World) (hS : SigD w sv ms nT nI nD nM) (hL : SlZ w 2 TyP (.slice A n cap)) (hop : arS op = n) (h0 : -9223372036854775808 ≤ N) (h9 : N ≤ 9223372036854775807) :
    Calls Tryz.prog 111 #[.agg #[.int .i64 op, .int .i64 N], .slice A n cap, sv] w (TyI w) := by
  have HME := Lib.hid (fun w1 => rmeaning_k op w1)
  have HRA := Lib.hid (fun w1 (h : Kept w w1) => rranged_k op N sv ms nT nI nD nM w1 (hS.kept h))
  have HFO := Lib.hid (fun w1 (h : Kept w w1) hq => rfound_k op N sv ms nT nI nD nM w1 (hS.kept h) hq h0 h9)
  have HLE := Lib.hid (fun w1 (h : Kept w w1) hn hq h6 => rleaf_k op N sv ms nT nI nD nM w1 (hS.kept h) hn hq h6 h9)
  have HSI := Lib.hid (fun k e w1 (h : Kept w w1) hn hq h6 => rsingle_k op N k e sv ms nT nI nD nM w1 (hS.kept h) hn hq h6 h9)
  have HDO := Lib.hid (fun k e k' e' w1 hn => rdouble_k op k e k' e' hn w1)
  unfold BoolP at HME
  unfold BoolQ at HRA HFO
  unfold TyB at HLE HSI HDO
  obtain ⟨AE, ce, AT, cT, AI, cI, AD, cD, AM, cM, hm, rfl, -⟩ := id hS
  generalize ms.length = nE at *
  obtain ⟨-, hx⟩ := hL.items
  have HX := Lib.hid hx
  have HOP := Lib.hid hop
  have hb := (arS_bd op).2
  have K0 := Lib.hid ((((Kept.refl w).alloc (.cells #[.int .i64 op, .int .i64 N] 171)).alloc (.cells #[.slice AE nE ce, .slice AT nT cT, .slice AI nI cI, .slice AD nD cD, .slice AM nM cM, .bool hm] 137)).alloc (.cells #[.int .i64 0, .int .i64 0] 47))
  obtain rfl | rfl | rfl | rfl : n = 0 ∨ n = 1 ∨ n = 2 ∨ n = 3 := by omega
  all_goals clear hS hL hx hop hb h0 h9
  · -- 0
    by_cases hN0 : N = 0
    · subst hN0
      go_enter Tryz.func111, Tryz.ntmps111
      go_upto_region 1 with fail
      obtain ⟨B1, B2, B3⟩ := (Kept.refl (((w.alloc (.cells #[.int .i64 op, .int .i64 0] 171)).alloc (.cells #[.slice AE nE ce, .slice AT nT cT, .slice AI nI cI, .slice AD nD cD, .slice AM nM cM, .bool hm] 137)).alloc (.cells #[.int .i64 0, .int .i64 0] 47))).blk3
      have KK := K0.out
      generalize ((w.alloc (.cells #[.int .i64 op, .int .i64 0] 171)).alloc (.cells #[.slice AE nE ce, .slice AT nT cT, .slice AI nI cI, .slice AD nD cD, .slice AM nM cM, .bool hm] 137)).alloc (.cells #[.int .i64 0, .int .i64 0] 47) = W at *
      have c1 := B1.cell
      have l1 := B1.lt
      have c2 := B2.cell
      have l2 := B2.lt
      have c3 := B3.cell
      have l3 := B3.lt
      have f3 := B3.frozen
      go_upto_region 9 with (first
        | (go_at_call 122; refine (HME.out _).mono ?_; rintro e w1 ⟨b, rfl, rfl⟩; cases b)
        | (go_at_call 123; refine (HRA.out _ KK).mono ?_; rintro e w2 ⟨b, rfl, k2, hq2⟩; have C1 := B1.kept k2; have C2 := B2.kept k2; have C3 := B3.kept k2; have c1z := C1.cell; have c2z := C2.cell; have c3z := C3.cell; have l1z := C1.lt; have l2z := C2.lt; have l3z := C3.lt; have f3z := C3.frozen; have K2 := KK.trans k2; cases b)
        | (go_at_call 124; refine (HFO.out _ K2 (hq2 (by decide)).1).mono ?_; rintro e w3 ⟨b, rfl, k3, hq3⟩; have D1 := C1.kept k3; have D2 := C2.kept k3; have D3 := C3.kept k3; have d1z := D1.cell; have d2z := D2.cell; have d3z := D3.cell; have m1z := D1.lt; have m2z := D2.lt; have m3z := D3.lt; have g3z := D3.frozen; have K3 := K2.trans k3; cases b))
      · skip
        have BW := (C3.set_ 0 (.int .i64 0)).set_ 1 (.int .i64 0)
        have KF : Kept w ((w2.setCell ⟨w.heap.size + 1 + 1, 0, none⟩ (.int .i64 0)).setCell ⟨w.heap.size + 1 + 1, 1, none⟩ (.int .i64 0)) := by
          repeat refine Kept.setCell ?_ (by simp only; omega) _
          exact K2
        generalize (w2.setCell ⟨w.heap.size + 1 + 1, 0, none⟩ (.int .i64 0)).setCell ⟨w.heap.size + 1 + 1, 1, none⟩ (.int .i64 0) = WW at *
        have bw := BW.cell
        exact bodyPost_ret (v := .tuple #[.agg #[.int .i64 0, .int .i64 0], .int .i64 3]) (by simp [results, Tryz.results111, go_sem, bw]) rfl ⟨_, _, _, rfl, KF⟩
      · skip
        have BW := (D3.set_ 0 (.int .i64 0)).set_ 1 (.int .i64 0)
        have KF : Kept w ((w3.setCell ⟨w.heap.size + 1 + 1, 0, none⟩ (.int .i64 0)).setCell ⟨w.heap.size + 1 + 1, 1, none⟩ (.int .i64 0)) := by
          repeat refine Kept.setCell ?_ (by simp only; omega) _
          exact K3
        generalize (w3.setCell ⟨w.heap.size + 1 + 1, 0, none⟩ (.int .i64 0)).setCell ⟨w.heap.size + 1 + 1, 1, none⟩ (.int .i64 0) = WW at *
        have bw := BW.cell
        exact bodyPost_ret (v := .tuple #[.agg #[.int .i64 0, .int .i64 0], .int .i64 6]) (by simp [results, Tryz.results111, go_sem, bw]) rfl ⟨_, _, _, rfl, KF⟩
      · skip
        have hQ := hq3 (by decide)
        have hR := hq2 (by decide)
        clear c1 c2 c3 l1 l2 l3 f3 c1z c2z c3z l1z l2z l3z f3z B1 B2 B3 C1 C2 C3 k2 k3 hq2 hq3 d1z d2z d3z m1z m2z m3z g3z KK K2
        have HQ := Lib.hid hQ
        have HR := Lib.hid hR
        clear hQ hR
        have E4 := Blk.new w3 47 #[.int .i64 0, .int .i64 0]
        have E1 := D1.alloc (.cells #[.int .i64 0, .int .i64 0] 47)
        have E2 := D2.alloc (.cells #[.int .i64 0, .int .i64 0] 47)
        have E3 := D3.alloc (.cells #[.int .i64 0, .int .i64 0] 47)
        have K4 := K3.alloc (.cells #[.int .i64 0, .int .i64 0] 47)
        have hgt : w.heap.size + 1 + 1 < w3.heap.size := D3.lt
        clear D1 D2 D3 K3
        generalize w3.alloc (.cells #[.int .i64 0, .int .i64 0] 47) = W4 at *
        generalize w3.heap.size = gt at *
        have c1 := E1.cell
        have l1 := E1.lt
        have c2 := E2.cell
        have l2 := E2.lt
        have c4 := E4.cell
        have l4 := E4.lt
        have f4 := E4.frozen
        go_upto_region 18 with (go_at_call 125; refine (HLE.out _ K4 HOP.out HQ.out HR.out.1).mono ?_; rintro e w5 ⟨k, e, b, rfl, k5⟩; have M3 := E3.kept k5; have M4 := E4.kept k5; have m4c := M4.cell; have m4l := M4.lt; have m4f := M4.frozen)
        have N4 := (M4.set_ 0 (.int .i64 k)).set_ 1 (.int .i64 e)
        have N3 := (M3.far (p := ⟨gt, 0, none⟩) (by simp only; omega) (.int .i64 k)).far (p := ⟨gt, 1, none⟩) (by simp only; omega) (.int .i64 e)
        have KN : Kept w ((w5.setCell ⟨gt, 0, none⟩ (.int .i64 k)).setCell ⟨gt, 1, none⟩ (.int .i64 e)) := by
          repeat refine Kept.setCell ?_ (by simp only; omega) _
          exact K4.trans k5
        clear m4c m4l m4f M3 M4 c1 c2 c4 l1 l2 l4 f4
        generalize (w5.setCell ⟨gt, 0, none⟩ (.int .i64 k)).setCell ⟨gt, 1, none⟩ (.int .i64 e) = W6 at *
        have n3c := N3.cell
        have n3l := N3.lt
        have n3f := N3.frozen
        have n4c := N4.cell
        have n4l := N4.lt
        cases b
        · go_wp2_with fail
          have BW := (N3.set_ 0 (.int .i64 0)).set_ 1 (.int .i64 0)
          have KF : Kept w ((W6.setCell ⟨w.heap.size + 1 + 1, 0, none⟩ (.int .i64 0)).setCell ⟨w.heap.size + 1 + 1, 1, none⟩ (.int .i64 0)) := by
            repeat refine Kept.setCell ?_ (by simp only; omega) _
            exact KN
          generalize (W6.setCell ⟨w.heap.size + 1 + 1, 0, none⟩ (.int .i64 0)).setCell ⟨w.heap.size + 1 + 1, 1, none⟩ (.int .i64 0) = WW at *
          have bw := BW.cell
          exact bodyPost_ret (v := .tuple #[.agg #[.int .i64 0, .int .i64 0], .int .i64 8]) (by simp [results, Tryz.results111, go_sem, bw]) rfl ⟨_, _, _, rfl, KF⟩
        · go_wp2_with fail
          have BW := (N3.set_ 0 (.int .i64 k)).set_ 1 (.int .i64 e)
          have KF : Kept w ((W6.setCell ⟨w.heap.size + 1 + 1, 0, none⟩ (.int .i64 k)).setCell ⟨w.heap.size + 1 + 1, 1, none⟩ (.int .i64 e)) := by
            repeat refine Kept.setCell ?_ (by simp only; omega) _
            exact KN
          generalize (W6.setCell ⟨w.heap.size + 1 + 1, 0, none⟩ (.int .i64 k)).setCell ⟨w.heap.size + 1 + 1, 1, none⟩ (.int .i64 e) = WW at *
          have bw := BW.cell
          exact bodyPost_ret (v := .tuple #[.agg #[.int .i64 k, .int .i64 e], .int .i64 0]) (by simp [results, Tryz.results111, go_sem, bw]) rfl ⟨_, _, _, rfl, KF⟩
    · have qN : (N == 0) = false := by simpa using hN0
      have qM : (N != 0) = true := by simpa using hN0
      clear hN0
      go_enter Tryz.func111, Tryz.ntmps111
      go_upto_region 1 with fail
      obtain ⟨B1, B2, B3⟩ := (Kept.refl (((w.alloc (.cells #[.int .i64 op, .int .i64 N] 171)).alloc (.cells #[.slice AE nE ce, .slice AT nT cT, .slice AI nI cI, .slice AD nD cD, .slice AM nM cM, .bool hm] 137)).alloc (.cells #[.int .i64 0, .int .i64 0] 47))).blk3
      have KK := K0.out
      generalize ((w.alloc (.cells #[.int .i64 op, .int .i64 N] 171)).alloc (.cells #[.slice AE nE ce, .slice AT nT cT, .slice AI nI cI, .slice AD nD cD, .slice AM nM cM, .bool hm] 137)).alloc (.cells #[.int .i64 0, .int .i64 0] 47) = W at *
      have c1 := B1.cell
      have l1 := B1.lt
      have c2 := B2.cell
      have l2 := B2.lt
      have c3 := B3.cell
      have l3 := B3.lt
      have f3 := B3.frozen
      go_upto_region 9 with (first
        | (go_at_call 122; refine (HME.out _).mono ?_; rintro e w1 ⟨b, rfl, rfl⟩; cases b)
        | (go_at_call 123; refine (HRA.out _ KK).mono ?_; rintro e w2 ⟨b, rfl, k2, hq2⟩; have C1 := B1.kept k2; have C2 := B2.kept k2; have C3 := B3.kept k2; have c1z := C1.cell; have c2z := C2.cell; have c3z := C3.cell; have l1z := C1.lt; have l2z := C2.lt; have l3z := C3.lt; have f3z := C3.frozen; have K2 := KK.trans k2; cases b)
        | (go_at_call 124; refine (HFO.out _ K2 (hq2 (by decide)).1).mono ?_; rintro e w3 ⟨b, rfl, k3, hq3⟩; have D1 := C1.kept k3; have D2 := C2.kept k3; have D3 := C3.kept k3; have d1z := D1.cell; have d2z := D2.cell; have d3z := D3.cell; have m1z := D1.lt; have m2z := D2.lt; have m3z := D3.lt; have g3z := D3.frozen; have K3 := K2.trans k3; cases b))
      · skip
        have BW := (B3.set_ 0 (.int .i64 0)).set_ 1 (.int .i64 0)
        have KF : Kept w ((W.setCell ⟨w.heap.size + 1 + 1, 0, none⟩ (.int .i64 0)).setCell ⟨w.heap.size + 1 + 1, 1, none⟩ (.int .i64 0)) := by
          repeat refine Kept.setCell ?_ (by simp only; omega) _
          exact KK
        generalize (W.setCell ⟨w.heap.size + 1 + 1, 0, none⟩ (.int .i64 0)).setCell ⟨w.heap.size + 1 + 1, 1, none⟩ (.int .i64 0) = WW at *
        have bw := BW.cell
        exact bodyPost_ret (v := .tuple #[.agg #[.int .i64 0, .int .i64 0], .int .i64 2]) (by simp [results, Tryz.results111, go_sem, bw]) rfl ⟨_, _, _, rfl, KF⟩
      · skip
        have BW := (C3.set_ 0 (.int .i64 0)).set_ 1 (.int .i64 0)
        have KF : Kept w ((w2.setCell ⟨w.heap.size + 1 + 1, 0, none⟩ (.int .i64 0)).setCell ⟨w.heap.size + 1 + 1, 1, none⟩ (.int .i64 0)) := by
          repeat refine Kept.setCell ?_ (by simp only; omega) _
          exact K2
        generalize (w2.setCell ⟨w.heap.size + 1 + 1, 0, none⟩ (.int .i64 0)).setCell ⟨w.heap.size + 1 + 1, 1, none⟩ (.int .i64 0) = WW at *
        have bw := BW.cell
        exact bodyPost_ret (v := .tuple #[.agg #[.int .i64 0, .int .i64 0], .int .i64 3]) (by simp [results, Tryz.results111, go_sem, bw]) rfl ⟨_, _, _, rfl, KF⟩
      · skip
        have BW := (D3.set_ 0 (.int .i64 0)).set_ 1 (.int .i64 0)
        have KF : Kept w ((w3.setCell ⟨w.heap.size + 1 + 1, 0, none⟩ (.int .i64 0)).setCell ⟨w.heap.size + 1 + 1, 1, none⟩ (.int .i64 0)) := by
          repeat refine Kept.setCell ?_ (by simp only; omega) _
          exact K3
        generalize (w3.setCell ⟨w.heap.size + 1 + 1, 0, none⟩ (.int .i64 0)).setCell ⟨w.heap.size + 1 + 1, 1, none⟩ (.int .i64 0) = WW at *
        have bw := BW.cell
        exact bodyPost_ret (v := .tuple #[.agg #[.int .i64 0, .int .i64 0], .int .i64 6]) (by simp [results, Tryz.results111, go_sem, bw]) rfl ⟨_, _, _, rfl, KF⟩
      · skip
        have hQ := hq3 (by decide)
        have hR := hq2 (by decide)
        clear c1 c2 c3 l1 l2 l3 f3 c1z c2z c3z l1z l2z l3z f3z B1 B2 B3 C1 C2 C3 k2 k3 hq2 hq3 d1z d2z d3z m1z m2z m3z g3z KK K2
        have HQ := Lib.hid hQ
        have HR := Lib.hid hR
        clear hQ hR
        have E4 := Blk.new w3 47 #[.int .i64 0, .int .i64 0]
        have E1 := D1.alloc (.cells #[.int .i64 0, .int .i64 0] 47)
        have E2 := D2.alloc (.cells #[.int .i64 0, .int .i64 0] 47)
        have E3 := D3.alloc (.cells #[.int .i64 0, .int .i64 0] 47)
        have K4 := K3.alloc (.cells #[.int .i64 0, .int .i64 0] 47)
        have hgt : w.heap.size + 1 + 1 < w3.heap.size := D3.lt
        clear D1 D2 D3 K3
        generalize w3.alloc (.cells #[.int .i64 0, .int .i64 0] 47) = W4 at *
        generalize w3.heap.size = gt at *
        have c1 := E1.cell
        have l1 := E1.lt
        have c2 := E2.cell
        have l2 := E2.lt
        have c4 := E4.cell
        have l4 := E4.lt
        have f4 := E4.frozen
        go_upto_region 18 with (go_at_call 125; refine (HLE.out _ K4 HOP.out HQ.out HR.out.1).mono ?_; rintro e w5 ⟨k, e, b, rfl, k5⟩; have M3 := E3.kept k5; have M4 := E4.kept k5; have m4c := M4.cell; have m4l := M4.lt; have m4f := M4.frozen)
        have N4 := (M4.set_ 0 (.int .i64 k)).set_ 1 (.int .i64 e)
        have N3 := (M3.far (p := ⟨gt, 0, none⟩) (by simp only; omega) (.int .i64 k)).far (p := ⟨gt, 1, none⟩) (by simp only; omega) (.int .i64 e)
        have KN : Kept w ((w5.setCell ⟨gt, 0, none⟩ (.int .i64 k)).setCell ⟨gt, 1, none⟩ (.int .i64 e)) := by
          repeat refine Kept.setCell ?_ (by simp only; omega) _
          exact K4.trans k5
        clear m4c m4l m4f M3 M4 c1 c2 c4 l1 l2 l4 f4
        generalize (w5.setCell ⟨gt, 0, none⟩ (.int .i64 k)).setCell ⟨gt, 1, none⟩ (.int .i64 e) = W6 at *
        have n3c := N3.cell
        have n3l := N3.lt
        have n3f := N3.frozen
        have n4c := N4.cell
        have n4l := N4.lt
        cases b
        · go_wp2_with fail
          have BW := (N3.set_ 0 (.int .i64 0)).set_ 1 (.int .i64 0)
          have KF : Kept w ((W6.setCell ⟨w.heap.size + 1 + 1, 0, none⟩ (.int .i64 0)).setCell ⟨w.heap.size + 1 + 1, 1, none⟩ (.int .i64 0)) := by
            repeat refine Kept.setCell ?_ (by simp only; omega) _
            exact KN
          generalize (W6.setCell ⟨w.heap.size + 1 + 1, 0, none⟩ (.int .i64 0)).setCell ⟨w.heap.size + 1 + 1, 1, none⟩ (.int .i64 0) = WW at *
          have bw := BW.cell
          exact bodyPost_ret (v := .tuple #[.agg #[.int .i64 0, .int .i64 0], .int .i64 8]) (by simp [results, Tryz.results111, go_sem, bw]) rfl ⟨_, _, _, rfl, KF⟩
        · go_wp2_with fail
          have BW := (N3.set_ 0 (.int .i64 k)).set_ 1 (.int .i64 e)
          have KF : Kept w ((W6.setCell ⟨w.heap.size + 1 + 1, 0, none⟩ (.int .i64 k)).setCell ⟨w.heap.size + 1 + 1, 1, none⟩ (.int .i64 e)) := by
            repeat refine Kept.setCell ?_ (by simp only; omega) _
            exact KN
          generalize (W6.setCell ⟨w.heap.size + 1 + 1, 0, none⟩ (.int .i64 k)).setCell ⟨w.heap.size + 1 + 1, 1, none⟩ (.int .i64 e) = WW at *
          have bw := BW.cell
          exact bodyPost_ret (v := .tuple #[.agg #[.int .i64 k, .int .i64 e], .int .i64 0]) (by simp [results, Tryz.results111, go_sem, bw]) rfl ⟨_, _, _, rfl, KF⟩
  · -- 1
    obtain ⟨b, off, rfl, hb, hc⟩ := HX.out (by omega)
    obtain ⟨⟨a0, x0⟩, ⟨a1, x1⟩⟩ := hc 0 (by omega)
    simp only [Nat.zero_mul, Nat.add_zero] at x0 x1
    clear hc HX
    by_cases hN0 : N = 0
    · subst hN0
      go_enter Tryz.func111, Tryz.ntmps111
      go_upto_region 1 with fail
      obtain ⟨B1, B2, B3⟩ := (Kept.refl (((w.alloc (.cells #[.int .i64 op, .int .i64 0] 171)).alloc (.cells #[.slice AE nE ce, .slice AT nT cT, .slice AI nI cI, .slice AD nD cD, .slice AM nM cM, .bool hm] 137)).alloc (.cells #[.int .i64 0, .int .i64 0] 47))).blk3
      have KK := K0.out
      generalize ((w.alloc (.cells #[.int .i64 op, .int .i64 0] 171)).alloc (.cells #[.slice AE nE ce, .slice AT nT cT, .slice AI nI cI, .slice AD nD cD, .slice AM nM cM, .bool hm] 137)).alloc (.cells #[.int .i64 0, .int .i64 0] 47) = W at *
      have c1 := B1.cell
      have l1 := B1.lt
      have c2 := B2.cell
      have l2 := B2.lt
      have c3 := B3.cell
      have l3 := B3.lt
      have f3 := B3.frozen
      go_upto_region 9 with (first
        | (go_at_call 122; refine (HME.out _).mono ?_; rintro e w1 ⟨b, rfl, rfl⟩; cases b)
        | (go_at_call 123; refine (HRA.out _ KK).mono ?_; rintro e w2 ⟨b, rfl, k2, hq2⟩; have C1 := B1.kept k2; have C2 := B2.kept k2; have C3 := B3.kept k2; have c1z := C1.cell; have c2z := C2.cell; have c3z := C3.cell; have l1z := C1.lt; have l2z := C2.lt; have l3z := C3.lt; have f3z := C3.frozen; have K2 := KK.trans k2; cases b)
        | (go_at_call 124; refine (HFO.out _ K2 (hq2 (by decide)).1).mono ?_; rintro e w3 ⟨b, rfl, k3, hq3⟩; have D1 := C1.kept k3; have D2 := C2.kept k3; have D3 := C3.kept k3; have d1z := D1.cell; have d2z := D2.cell; have d3z := D3.cell; have m1z := D1.lt; have m2z := D2.lt; have m3z := D3.lt; have g3z := D3.frozen; have K3 := K2.trans k3; cases b))
      · skip
        have BW := (C3.set_ 0 (.int .i64 0)).set_ 1 (.int .i64 0)
        have KF : Kept w ((w2.setCell ⟨w.heap.size + 1 + 1, 0, none⟩ (.int .i64 0)).setCell ⟨w.heap.size + 1 + 1, 1, none⟩ (.int .i64 0)) := by
          repeat refine Kept.setCell ?_ (by simp only; omega) _
          exact K2
        generalize (w2.setCell ⟨w.heap.size + 1 + 1, 0, none⟩ (.int .i64 0)).setCell ⟨w.heap.size + 1 + 1, 1, none⟩ (.int .i64 0) = WW at *
        have bw := BW.cell
        exact bodyPost_ret (v := .tuple #[.agg #[.int .i64 0, .int .i64 0], .int .i64 3]) (by simp [results, Tryz.results111, go_sem, bw]) rfl ⟨_, _, _, rfl, KF⟩
      · skip
        have BW := (D3.set_ 0 (.int .i64 0)).set_ 1 (.int .i64 0)
        have KF : Kept w ((w3.setCell ⟨w.heap.size + 1 + 1, 0, none⟩ (.int .i64 0)).setCell ⟨w.heap.size + 1 + 1, 1, none⟩ (.int .i64 0)) := by
          repeat refine Kept.setCell ?_ (by simp only; omega) _
          exact K3
        generalize (w3.setCell ⟨w.heap.size + 1 + 1, 0, none⟩ (.int .i64 0)).setCell ⟨w.heap.size + 1 + 1, 1, none⟩ (.int .i64 0) = WW at *
        have bw := BW.cell
        exact bodyPost_ret (v := .tuple #[.agg #[.int .i64 0, .int .i64 0], .int .i64 6]) (by simp [results, Tryz.results111, go_sem, bw]) rfl ⟨_, _, _, rfl, KF⟩
      · skip
        have hQ := hq3 (by decide)
        have hR := hq2 (by decide)
        clear c1 c2 c3 l1 l2 l3 f3 c1z c2z c3z l1z l2z l3z f3z B1 B2 B3 C1 C2 C3 k2 k3 hq2 hq3 d1z d2z d3z m1z m2z m3z g3z KK K2
        have HQ := Lib.hid hQ
        have HR := Lib.hid hR
        clear hQ hR
        have E4 := Blk.new w3 47 #[.int .i64 0, .int .i64 0]
        have E1 := D1.alloc (.cells #[.int .i64 0, .int .i64 0] 47)
        have E2 := D2.alloc (.cells #[.int .i64 0, .int .i64 0] 47)
        have E3 := D3.alloc (.cells #[.int .i64 0, .int .i64 0] 47)
        have K4 := K3.alloc (.cells #[.int .i64 0, .int .i64 0] 47)
        have hgt : w.heap.size + 1 + 1 < w3.heap.size := D3.lt
        clear D1 D2 D3 K3
        generalize w3.alloc (.cells #[.int .i64 0, .int .i64 0] 47) = W4 at *
        generalize w3.heap.size = gt at *
        have c1 := E1.cell
        have l1 := E1.lt
        have c2 := E2.cell
        have l2 := E2.lt
        have c4 := E4.cell
        have l4 := E4.lt
        have f4 := E4.frozen
        go_upto_region 15 with fail
        clear c1 c2 c4 l1 l2 l4 f4
        have HALL := Lib.hid (show ∀ W, Kept w W → Blk W w.heap.size 171 #[.int .i64 op, .int .i64 0] → Blk W (w.heap.size + 1) 137 #[.slice AE nE ce, .slice AT nT cT, .slice AI nI cI, .slice AD nD cD, .slice AM nM cM, .bool hm] → (Kept w W ∧ Blk W w.heap.size 171 #[.int .i64 op, .int .i64 0] ∧ Blk W (w.heap.size + 1) 137 #[.slice AE nE ce, .slice AT nT cT, .slice AI nI cI, .slice AD nD cD, .slice AM nM cM, .bool hm] ∧ (∀ i, W.cell? ⟨w.heap.size, i, none⟩ = #[Value.int .i64 op, .int .i64 0][i]?) ∧ (∀ i, W.cell? ⟨w.heap.size + 1, i, none⟩ = #[Value.slice AE nE ce, .slice AT nT cT, .slice AI nI cI, .slice AD nD cD, .slice AM nM cM, .bool hm][i]?) ∧ W.cell? ⟨b, off, none⟩ = some (.int .i64 a0) ∧ W.cell? ⟨b, off + 1, none⟩ = some (.int .i64 a1)) from fun W k b1 b2 => ⟨k, b1, b2, b1.cell, b2.cell, k.cell (p := ⟨b, _, none⟩) hb x0, k.cell (p := ⟨b, _, none⟩) hb x1⟩)
        obtain ⟨_, _, _, d1, d2, v0, v1⟩ := HALL.out W4 K4 E1 E2
        have l4 := E4.lt
        go_region_held3 (fun W => Kept w W ∧ Blk W w.heap.size 171 #[.int .i64 op, .int .i64 0] ∧ Blk W (w.heap.size + 1) 137 #[.slice AE nE ce, .slice AT nT cT, .slice AI nI cI, .slice AD nD cD, .slice AM nM cM, .bool hm] ∧ (∀ i, W.cell? ⟨w.heap.size, i, none⟩ = #[Value.int .i64 op, .int .i64 0][i]?) ∧ (∀ i, W.cell? ⟨w.heap.size + 1, i, none⟩ = #[Value.slice AE nE ce, .slice AT nT cT, .slice AI nI cI, .slice AD nD cD, .slice AM nM cM, .bool hm][i]?) ∧ W.cell? ⟨b, off, none⟩ = some (.int .i64 a0) ∧ W.cell? ⟨b, off + 1, none⟩ = some (.int .i64 a1))
          ((refine HALL.out _ ?_ ?_ ?_; (· (repeat (first | with_reducible exact Kept.refl _ | with_reducible assumption | with_reducible refine Kept.drew ?_ | with_reducible refine Kept.alloc ?_ _ | with_reducible refine Kept.setCell ?_ (by simp only; omega) _ | with_reducible refine Kept.trans ?_ ‹Kept _ _›))); (· (repeat (first | with_reducible assumption | with_reducible refine Blk.drew ?_ | with_reducible refine Blk.far ?_ (by simp only; omega) _ | with_reducible refine Blk.kept ?_ ‹Kept _ _›))); (· (repeat (first | with_reducible assumption | with_reducible refine Blk.drew ?_ | with_reducible refine Blk.far ?_ (by simp only; omega) _ | with_reducible refine Blk.kept ?_ ‹Kept _ _›)))))
          ((go_at_call 126; refine (HSI.out _ _ _ K4.drew HOP.out HQ.out HR.out.2).mono ?_; rintro e w5 ⟨k, e, b, rfl, k5⟩; have M4 := E4.drew.kept k5; have m4c := M4.cell; have m4l := M4.lt; have m4f := M4.frozen))
        rename_i hHeld
        clear hHeld
        have M3 := E3.drew.kept k5
        have N4 := (M4.set_ 0 (.int .i64 k)).set_ 1 (.int .i64 e)
        have N3 := (M3.far (p := ⟨gt, 0, none⟩) (by simp only; omega) (.int .i64 k)).far (p := ⟨gt, 1, none⟩) (by simp only; omega) (.int .i64 e)
        have KN : Kept w ((w5.setCell ⟨gt, 0, none⟩ (.int .i64 k)).setCell ⟨gt, 1, none⟩ (.int .i64 e)) := by
          repeat refine Kept.setCell ?_ (by simp only; omega) _
          exact K4.drew.trans k5
        clear m4c m4l m4f M3 M4 d1 d2 l4 v0 v1
        generalize (w5.setCell ⟨gt, 0, none⟩ (.int .i64 k)).setCell ⟨gt, 1, none⟩ (.int .i64 e) = W6 at *
        have n3c := N3.cell
        have n3l := N3.lt
        have n3f := N3.frozen
        have n4c := N4.cell
        have n4l := N4.lt
        cases b
        · go_wp2_with fail
          have BW := (N3.set_ 0 (.int .i64 0)).set_ 1 (.int .i64 0)
          have KF : Kept w ((W6.setCell ⟨w.heap.size + 1 + 1, 0, none⟩ (.int .i64 0)).setCell ⟨w.heap.size + 1 + 1, 1, none⟩ (.int .i64 0)) := by
            repeat refine Kept.setCell ?_ (by simp only; omega) _
            exact KN
          generalize (W6.setCell ⟨w.heap.size + 1 + 1, 0, none⟩ (.int .i64 0)).setCell ⟨w.heap.size + 1 + 1, 1, none⟩ (.int .i64 0) = WW at *
          have bw := BW.cell
          exact bodyPost_ret (v := .tuple #[.agg #[.int .i64 0, .int .i64 0], .int .i64 8]) (by simp [results, Tryz.results111, go_sem, bw]) rfl ⟨_, _, _, rfl, KF⟩
        · go_wp2_with fail
          have BW := (N3.set_ 0 (.int .i64 k)).set_ 1 (.int .i64 e)
          have KF : Kept w ((W6.setCell ⟨w.heap.size + 1 + 1, 0, none⟩ (.int .i64 k)).setCell ⟨w.heap.size + 1 + 1, 1, none⟩ (.int .i64 e)) := by
            repeat refine Kept.setCell ?_ (by simp only; omega) _
            exact KN
          generalize (W6.setCell ⟨w.heap.size + 1 + 1, 0, none⟩ (.int .i64 k)).setCell ⟨w.heap.size + 1 + 1, 1, none⟩ (.int .i64 e) = WW at *
          have bw := BW.cell
          exact bodyPost_ret (v := .tuple #[.agg #[.int .i64 k, .int .i64 e], .int .i64 0]) (by simp [results, Tryz.results111, go_sem, bw]) rfl ⟨_, _, _, rfl, KF⟩
    · have qN : (N == 0) = false := by simpa using hN0
      have qM : (N != 0) = true := by simpa using hN0
      clear hN0
      go_enter Tryz.func111, Tryz.ntmps111
      go_upto_region 1 with fail
      obtain ⟨B1, B2, B3⟩ := (Kept.refl (((w.alloc (.cells #[.int .i64 op, .int .i64 N] 171)).alloc (.cells #[.slice AE nE ce, .slice AT nT cT, .slice AI nI cI, .slice AD nD cD, .slice AM nM cM, .bool hm] 137)).alloc (.cells #[.int .i64 0, .int .i64 0] 47))).blk3
      have KK := K0.out
      generalize ((w.alloc (.cells #[.int .i64 op, .int .i64 N] 171)).alloc (.cells #[.slice AE nE ce, .slice AT nT cT, .slice AI nI cI, .slice AD nD cD, .slice AM nM cM, .bool hm] 137)).alloc (.cells #[.int .i64 0, .int .i64 0] 47) = W at *
      have c1 := B1.cell
      have l1 := B1.lt
      have c2 := B2.cell
      have l2 := B2.lt
      have c3 := B3.cell
      have l3 := B3.lt
      have f3 := B3.frozen
      go_upto_region 9 with (first
        | (go_at_call 122; refine (HME.out _).mono ?_; rintro e w1 ⟨b, rfl, rfl⟩; cases b)
        | (go_at_call 123; refine (HRA.out _ KK).mono ?_; rintro e w2 ⟨b, rfl, k2, hq2⟩; have C1 := B1.kept k2; have C2 := B2.kept k2; have C3 := B3.kept k2; have c1z := C1.cell; have c2z := C2.cell; have c3z := C3.cell; have l1z := C1.lt; have l2z := C2.lt; have l3z := C3.lt; have f3z := C3.frozen; have K2 := KK.trans k2; cases b)
        | (go_at_call 124; refine (HFO.out _ K2 (hq2 (by decide)).1).mono ?_; rintro e w3 ⟨b, rfl, k3, hq3⟩; have D1 := C1.kept k3; have D2 := C2.kept k3; have D3 := C3.kept k3; have d1z := D1.cell; have d2z := D2.cell; have d3z := D3.cell; have m1z := D1.lt; have m2z := D2.lt; have m3z := D3.lt; have g3z := D3.frozen; have K3 := K2.trans k3; cases b))
      · skip
        have BW := (B3.set_ 0 (.int .i64 0)).set_ 1 (.int .i64 0)
        have KF : Kept w ((W.setCell ⟨w.heap.size + 1 + 1, 0, none⟩ (.int .i64 0)).setCell ⟨w.heap.size + 1 + 1, 1, none⟩ (.int .i64 0)) := by
          repeat refine Kept.setCell ?_ (by simp only; omega) _
          exact KK
        generalize (W.setCell ⟨w.heap.size + 1 + 1, 0, none⟩ (.int .i64 0)).setCell ⟨w.heap.size + 1 + 1, 1, none⟩ (.int .i64 0) = WW at *
        have bw := BW.cell
        exact bodyPost_ret (v := .tuple #[.agg #[.int .i64 0, .int .i64 0], .int .i64 2]) (by simp [results, Tryz.results111, go_sem, bw]) rfl ⟨_, _, _, rfl, KF⟩
      · skip
        have BW := (C3.set_ 0 (.int .i64 0)).set_ 1 (.int .i64 0)
        have KF : Kept w ((w2.setCell ⟨w.heap.size + 1 + 1, 0, none⟩ (.int .i64 0)).setCell ⟨w.heap.size + 1 + 1, 1, none⟩ (.int .i64 0)) := by
          repeat refine Kept.setCell ?_ (by simp only; omega) _
          exact K2
        generalize (w2.setCell ⟨w.heap.size + 1 + 1, 0, none⟩ (.int .i64 0)).setCell ⟨w.heap.size + 1 + 1, 1, none⟩ (.int .i64 0) = WW at *
        have bw := BW.cell
        exact bodyPost_ret (v := .tuple #[.agg #[.int .i64 0, .int .i64 0], .int .i64 3]) (by simp [results, Tryz.results111, go_sem, bw]) rfl ⟨_, _, _, rfl, KF⟩
      · skip
        have BW := (D3.set_ 0 (.int .i64 0)).set_ 1 (.int .i64 0)
        have KF : Kept w ((w3.setCell ⟨w.heap.size + 1 + 1, 0, none⟩ (.int .i64 0)).setCell ⟨w.heap.size + 1 + 1, 1, none⟩ (.int .i64 0)) := by
          repeat refine Kept.setCell ?_ (by simp only; omega) _
          exact K3
        generalize (w3.setCell ⟨w.heap.size + 1 + 1, 0, none⟩ (.int .i64 0)).setCell ⟨w.heap.size + 1 + 1, 1, none⟩ (.int .i64 0) = WW at *
        have bw := BW.cell
        exact bodyPost_ret (v := .tuple #[.agg #[.int .i64 0, .int .i64 0], .int .i64 6]) (by simp [results, Tryz.results111, go_sem, bw]) rfl ⟨_, _, _, rfl, KF⟩
      · skip
        have hQ := hq3 (by decide)
        have hR := hq2 (by decide)
        clear c1 c2 c3 l1 l2 l3 f3 c1z c2z c3z l1z l2z l3z f3z B1 B2 B3 C1 C2 C3 k2 k3 hq2 hq3 d1z d2z d3z m1z m2z m3z g3z KK K2
        have HQ := Lib.hid hQ
        have HR := Lib.hid hR
        clear hQ hR
        have E4 := Blk.new w3 47 #[.int .i64 0, .int .i64 0]
        have E1 := D1.alloc (.cells #[.int .i64 0, .int .i64 0] 47)
        have E2 := D2.alloc (.cells #[.int .i64 0, .int .i64 0] 47)
        have E3 := D3.alloc (.cells #[.int .i64 0, .int .i64 0] 47)
        have K4 := K3.alloc (.cells #[.int .i64 0, .int .i64 0] 47)
        have hgt : w.heap.size + 1 + 1 < w3.heap.size := D3.lt
        clear D1 D2 D3 K3
        generalize w3.alloc (.cells #[.int .i64 0, .int .i64 0] 47) = W4 at *
        generalize w3.heap.size = gt at *
        have c1 := E1.cell
        have l1 := E1.lt
        have c2 := E2.cell
        have l2 := E2.lt
        have c4 := E4.cell
        have l4 := E4.lt
        have f4 := E4.frozen
        go_upto_region 15 with fail
        clear c1 c2 c4 l1 l2 l4 f4
        have HALL := Lib.hid (show ∀ W, Kept w W → Blk W w.heap.size 171 #[.int .i64 op, .int .i64 N] → Blk W (w.heap.size + 1) 137 #[.slice AE nE ce, .slice AT nT cT, .slice AI nI cI, .slice AD nD cD, .slice AM nM cM, .bool hm] → (Kept w W ∧ Blk W w.heap.size 171 #[.int .i64 op, .int .i64 N] ∧ Blk W (w.heap.size + 1) 137 #[.slice AE nE ce, .slice AT nT cT, .slice AI nI cI, .slice AD nD cD, .slice AM nM cM, .bool hm] ∧ (∀ i, W.cell? ⟨w.heap.size, i, none⟩ = #[Value.int .i64 op, .int .i64 N][i]?) ∧ (∀ i, W.cell? ⟨w.heap.size + 1, i, none⟩ = #[Value.slice AE nE ce, .slice AT nT cT, .slice AI nI cI, .slice AD nD cD, .slice AM nM cM, .bool hm][i]?) ∧ W.cell? ⟨b, off, none⟩ = some (.int .i64 a0) ∧ W.cell? ⟨b, off + 1, none⟩ = some (.int .i64 a1)) from fun W k b1 b2 => ⟨k, b1, b2, b1.cell, b2.cell, k.cell (p := ⟨b, _, none⟩) hb x0, k.cell (p := ⟨b, _, none⟩) hb x1⟩)
        obtain ⟨_, _, _, d1, d2, v0, v1⟩ := HALL.out W4 K4 E1 E2
        have l4 := E4.lt
        go_region_held3 (fun W => Kept w W ∧ Blk W w.heap.size 171 #[.int .i64 op, .int .i64 N] ∧ Blk W (w.heap.size + 1) 137 #[.slice AE nE ce, .slice AT nT cT, .slice AI nI cI, .slice AD nD cD, .slice AM nM cM, .bool hm] ∧ (∀ i, W.cell? ⟨w.heap.size, i, none⟩ = #[Value.int .i64 op, .int .i64 N][i]?) ∧ (∀ i, W.cell? ⟨w.heap.size + 1, i, none⟩ = #[Value.slice AE nE ce, .slice AT nT cT, .slice AI nI cI, .slice AD nD cD, .slice AM nM cM, .bool hm][i]?) ∧ W.cell? ⟨b, off, none⟩ = some (.int .i64 a0) ∧ W.cell? ⟨b, off + 1, none⟩ = some (.int .i64 a1))
          ((refine HALL.out _ ?_ ?_ ?_; (· (repeat (first | with_reducible exact Kept.refl _ | with_reducible assumption | with_reducible refine Kept.drew ?_ | with_reducible refine Kept.alloc ?_ _ | with_reducible refine Kept.setCell ?_ (by simp only; omega) _ | with_reducible refine Kept.trans ?_ ‹Kept _ _›))); (· (repeat (first | with_reducible assumption | with_reducible refine Blk.drew ?_ | with_reducible refine Blk.far ?_ (by simp only; omega) _ | with_reducible refine Blk.kept ?_ ‹Kept _ _›))); (· (repeat (first | with_reducible assumption | with_reducible refine Blk.drew ?_ | with_reducible refine Blk.far ?_ (by simp only; omega) _ | with_reducible refine Blk.kept ?_ ‹Kept _ _›)))))
          ((go_at_call 126; refine (HSI.out _ _ _ K4.drew HOP.out HQ.out HR.out.2).mono ?_; rintro e w5 ⟨k, e, b, rfl, k5⟩; have M4 := E4.drew.kept k5; have m4c := M4.cell; have m4l := M4.lt; have m4f := M4.frozen))
        rename_i hHeld
        clear hHeld
        have M3 := E3.drew.kept k5
        have N4 := (M4.set_ 0 (.int .i64 k)).set_ 1 (.int .i64 e)
        have N3 := (M3.far (p := ⟨gt, 0, none⟩) (by simp only; omega) (.int .i64 k)).far (p := ⟨gt, 1, none⟩) (by simp only; omega) (.int .i64 e)
        have KN : Kept w ((w5.setCell ⟨gt, 0, none⟩ (.int .i64 k)).setCell ⟨gt, 1, none⟩ (.int .i64 e)) := by
          repeat refine Kept.setCell ?_ (by simp only; omega) _
          exact K4.drew.trans k5
        clear m4c m4l m4f M3 M4 d1 d2 l4 v0 v1
        generalize (w5.setCell ⟨gt, 0, none⟩ (.int .i64 k)).setCell ⟨gt, 1, none⟩ (.int .i64 e) = W6 at *
        have n3c := N3.cell
        have n3l := N3.lt
        have n3f := N3.frozen
        have n4c := N4.cell
        have n4l := N4.lt
        cases b
        · go_wp2_with fail
          have BW := (N3.set_ 0 (.int .i64 0)).set_ 1 (.int .i64 0)
          have KF : Kept w ((W6.setCell ⟨w.heap.size + 1 + 1, 0, none⟩ (.int .i64 0)).setCell ⟨w.heap.size + 1 + 1, 1, none⟩ (.int .i64 0)) := by
            repeat refine Kept.setCell ?_ (by simp only; omega) _
            exact KN
          generalize (W6.setCell ⟨w.heap.size + 1 + 1, 0, none⟩ (.int .i64 0)).setCell ⟨w.heap.size + 1 + 1, 1, none⟩ (.int .i64 0) = WW at *
          have bw := BW.cell
          exact bodyPost_ret (v := .tuple #[.agg #[.int .i64 0, .int .i64 0], .int .i64 8]) (by simp [results, Tryz.results111, go_sem, bw]) rfl ⟨_, _, _, rfl, KF⟩
        · go_wp2_with fail
          have BW := (N3.set_ 0 (.int .i64 k)).set_ 1 (.int .i64 e)
          have KF : Kept w ((W6.setCell ⟨w.heap.size + 1 + 1, 0, none⟩ (.int .i64 k)).setCell ⟨w.heap.size + 1 + 1, 1, none⟩ (.int .i64 e)) := by
            repeat refine Kept.setCell ?_ (by simp only; omega) _
            exact KN
          generalize (W6.setCell ⟨w.heap.size + 1 + 1, 0, none⟩ (.int .i64 k)).setCell ⟨w.heap.size + 1 + 1, 1, none⟩ (.int .i64 e) = WW at *
          have bw := BW.cell
          exact bodyPost_ret (v := .tuple #[.agg #[.int .i64 k, .int .i64 e], .int .i64 0]) (by simp [results, Tryz.results111, go_sem, bw]) rfl ⟨_, _, _, rfl, KF⟩
  · -- 2
    obtain ⟨b, off, rfl, hb, hc⟩ := HX.out (by omega)
    obtain ⟨⟨a0, x0⟩, ⟨a1, x1⟩⟩ := hc 0 (by omega)
    obtain ⟨⟨y0, x2⟩, ⟨y1, x3⟩⟩ := hc 1 (by omega)
    simp only [Nat.zero_mul, Nat.add_zero, Nat.one_mul] at x0 x1 x2 x3
    clear hc HX
    by_cases hN0 : N = 0
    · subst hN0
      go_enter Tryz.func111, Tryz.ntmps111
      go_upto_region 1 with fail
      obtain ⟨B1, B2, B3⟩ := (Kept.refl (((w.alloc (.cells #[.int .i64 op, .int .i64 0] 171)).alloc (.cells #[.slice AE nE ce, .slice AT nT cT, .slice AI nI cI, .slice AD nD cD, .slice AM nM cM, .bool hm] 137)).alloc (.cells #[.int .i64 0, .int .i64 0] 47))).blk3
      have KK := K0.out
      generalize ((w.alloc (.cells #[.int .i64 op, .int .i64 0] 171)).alloc (.cells #[.slice AE nE ce, .slice AT nT cT, .slice AI nI cI, .slice AD nD cD, .slice AM nM cM, .bool hm] 137)).alloc (.cells #[.int .i64 0, .int .i64 0] 47) = W at *
      have c1 := B1.cell
      have l1 := B1.lt
      have c2 := B2.cell
      have l2 := B2.lt
      have c3 := B3.cell
      have l3 := B3.lt
      have f3 := B3.frozen
      go_upto_region 9 with (first
        | (go_at_call 122; refine (HME.out _).mono ?_; rintro e w1 ⟨b, rfl, rfl⟩; cases b)
        | (go_at_call 123; refine (HRA.out _ KK).mono ?_; rintro e w2 ⟨b, rfl, k2, hq2⟩; have C1 := B1.kept k2; have C2 := B2.kept k2; have C3 := B3.kept k2; have c1z := C1.cell; have c2z := C2.cell; have c3z := C3.cell; have l1z := C1.lt; have l2z := C2.lt; have l3z := C3.lt; have f3z := C3.frozen; have K2 := KK.trans k2; cases b)
        | (go_at_call 124; refine (HFO.out _ K2 (hq2 (by decide)).1).mono ?_; rintro e w3 ⟨b, rfl, k3, hq3⟩; have D1 := C1.kept k3; have D2 := C2.kept k3; have D3 := C3.kept k3; have d1z := D1.cell; have d2z := D2.cell; have d3z := D3.cell; have m1z := D1.lt; have m2z := D2.lt; have m3z := D3.lt; have g3z := D3.frozen; have K3 := K2.trans k3; cases b))
      · skip
        have BW := (C3.set_ 0 (.int .i64 0)).set_ 1 (.int .i64 0)
        have KF : Kept w ((w2.setCell ⟨w.heap.size + 1 + 1, 0, none⟩ (.int .i64 0)).setCell ⟨w.heap.size + 1 + 1, 1, none⟩ (.int .i64 0)) := by
          repeat refine Kept.setCell ?_ (by simp only; omega) _
          exact K2
        generalize (w2.setCell ⟨w.heap.size + 1 + 1, 0, none⟩ (.int .i64 0)).setCell ⟨w.heap.size + 1 + 1, 1, none⟩ (.int .i64 0) = WW at *
        have bw := BW.cell
        exact bodyPost_ret (v := .tuple #[.agg #[.int .i64 0, .int .i64 0], .int .i64 3]) (by simp [results, Tryz.results111, go_sem, bw]) rfl ⟨_, _, _, rfl, KF⟩
      · skip
        have BW := (D3.set_ 0 (.int .i64 0)).set_ 1 (.int .i64 0)
        have KF : Kept w ((w3.setCell ⟨w.heap.size + 1 + 1, 0, none⟩ (.int .i64 0)).setCell ⟨w.heap.size + 1 + 1, 1, none⟩ (.int .i64 0)) := by
          repeat refine Kept.setCell ?_ (by simp only; omega) _
          exact K3
        generalize (w3.setCell ⟨w.heap.size + 1 + 1, 0, none⟩ (.int .i64 0)).setCell ⟨w.heap.size + 1 + 1, 1, none⟩ (.int .i64 0) = WW at *
        have bw := BW.cell
        exact bodyPost_ret (v := .tuple #[.agg #[.int .i64 0, .int .i64 0], .int .i64 6]) (by simp [results, Tryz.results111, go_sem, bw]) rfl ⟨_, _, _, rfl, KF⟩
      · skip
        have hQ := hq3 (by decide)
        have hR := hq2 (by decide)
        clear c1 c2 c3 l1 l2 l3 f3 c1z c2z c3z l1z l2z l3z f3z B1 B2 B3 C1 C2 C3 k2 k3 hq2 hq3 d1z d2z d3z m1z m2z m3z g3z KK K2
        have HQ := Lib.hid hQ
        have HR := Lib.hid hR
        clear hQ hR
        have E4 := Blk.new w3 47 #[.int .i64 0, .int .i64 0]
        have E1 := D1.alloc (.cells #[.int .i64 0, .int .i64 0] 47)
        have E2 := D2.alloc (.cells #[.int .i64 0, .int .i64 0] 47)
        have E3 := D3.alloc (.cells #[.int .i64 0, .int .i64 0] 47)
        have K4 := K3.alloc (.cells #[.int .i64 0, .int .i64 0] 47)
        have hgt : w.heap.size + 1 + 1 < w3.heap.size := D3.lt
        clear D1 D2 D3 K3
        generalize w3.alloc (.cells #[.int .i64 0, .int .i64 0] 47) = W4 at *
        generalize w3.heap.size = gt at *
        have c1 := E1.cell
        have l1 := E1.lt
        have c2 := E2.cell
        have l2 := E2.lt
        have c4 := E4.cell
        have l4 := E4.lt
        have f4 := E4.frozen
        go_upto_region 17 with fail
        clear c1 c2 c4 l1 l2 l4 f4
        have HALL := Lib.hid (show ∀ W, Kept w W → Blk W w.heap.size 171 #[.int .i64 op, .int .i64 0] → Blk W (w.heap.size + 1) 137 #[.slice AE nE ce, .slice AT nT cT, .slice AI nI cI, .slice AD nD cD, .slice AM nM cM, .bool hm] → (Kept w W ∧ Blk W w.heap.size 171 #[.int .i64 op, .int .i64 0] ∧ Blk W (w.heap.size + 1) 137 #[.slice AE nE ce, .slice AT nT cT, .slice AI nI cI, .slice AD nD cD, .slice AM nM cM, .bool hm] ∧ (∀ i, W.cell? ⟨w.heap.size, i, none⟩ = #[Value.int .i64 op, .int .i64 0][i]?) ∧ (∀ i, W.cell? ⟨w.heap.size + 1, i, none⟩ = #[Value.slice AE nE ce, .slice AT nT cT, .slice AI nI cI, .slice AD nD cD, .slice AM nM cM, .bool hm][i]?) ∧ W.cell? ⟨b, off, none⟩ = some (.int .i64 a0) ∧ W.cell? ⟨b, off + 1, none⟩ = some (.int .i64 a1) ∧ W.cell? ⟨b, off + 2, none⟩ = some (.int .i64 y0) ∧ W.cell? ⟨b, off + 2 + 1, none⟩ = some (.int .i64 y1)) from fun W k b1 b2 => ⟨k, b1, b2, b1.cell, b2.cell, k.cell (p := ⟨b, _, none⟩) hb x0, k.cell (p := ⟨b, _, none⟩) hb x1, k.cell (p := ⟨b, _, none⟩) hb x2, k.cell (p := ⟨b, _, none⟩) hb x3⟩)
        obtain ⟨_, _, _, d1, d2, v0, v1, v2, v3⟩ := HALL.out W4 K4 E1 E2
        have l4 := E4.lt
        go_region_held3 (fun W => Kept w W ∧ Blk W w.heap.size 171 #[.int .i64 op, .int .i64 0] ∧ Blk W (w.heap.size + 1) 137 #[.slice AE nE ce, .slice AT nT cT, .slice AI nI cI, .slice AD nD cD, .slice AM nM cM, .bool hm] ∧ (∀ i, W.cell? ⟨w.heap.size, i, none⟩ = #[Value.int .i64 op, .int .i64 0][i]?) ∧ (∀ i, W.cell? ⟨w.heap.size + 1, i, none⟩ = #[Value.slice AE nE ce, .slice AT nT cT, .slice AI nI cI, .slice AD nD cD, .slice AM nM cM, .bool hm][i]?) ∧ W.cell? ⟨b, off, none⟩ = some (.int .i64 a0) ∧ W.cell? ⟨b, off + 1, none⟩ = some (.int .i64 a1) ∧ W.cell? ⟨b, off + 2, none⟩ = some (.int .i64 y0) ∧ W.cell? ⟨b, off + 2 + 1, none⟩ = some (.int .i64 y1))
          ((refine HALL.out _ ?_ ?_ ?_; (· (repeat (first | with_reducible exact Kept.refl _ | with_reducible assumption | with_reducible refine Kept.drew ?_ | with_reducible refine Kept.alloc ?_ _ | with_reducible refine Kept.setCell ?_ (by simp only; omega) _ | with_reducible refine Kept.trans ?_ ‹Kept _ _›))); (· (repeat (first | with_reducible assumption | with_reducible refine Blk.drew ?_ | with_reducible refine Blk.far ?_ (by simp only; omega) _ | with_reducible refine Blk.kept ?_ ‹Kept _ _›))); (· (repeat (first | with_reducible assumption | with_reducible refine Blk.drew ?_ | with_reducible refine Blk.far ?_ (by simp only; omega) _ | with_reducible refine Blk.kept ?_ ‹Kept _ _›)))))
          ((go_at_call 127; refine (HDO.out _ _ _ _ _ HOP.out).mono ?_; rintro e w5 ⟨k, e, b, rfl, k5⟩; have M4 := E4.drew.kept k5; have m4c := M4.cell; have m4l := M4.lt; have m4f := M4.frozen))
        rename_i hHeld
        clear hHeld
        have M3 := E3.drew.kept k5
        have N4 := (M4.set_ 0 (.int .i64 k)).set_ 1 (.int .i64 e)
        have N3 := (M3.far (p := ⟨gt, 0, none⟩) (by simp only; omega) (.int .i64 k)).far (p := ⟨gt, 1, none⟩) (by simp only; omega) (.int .i64 e)
        have KN : Kept w ((w5.setCell ⟨gt, 0, none⟩ (.int .i64 k)).setCell ⟨gt, 1, none⟩ (.int .i64 e)) := by
          repeat refine Kept.setCell ?_ (by simp only; omega) _
          exact K4.drew.trans k5
        clear m4c m4l m4f M3 M4 d1 d2 l4 v0 v1 v2 v3
        generalize (w5.setCell ⟨gt, 0, none⟩ (.int .i64 k)).setCell ⟨gt, 1, none⟩ (.int .i64 e) = W6 at *
        have n3c := N3.cell
        have n3l := N3.lt
        have n3f := N3.frozen
        have n4c := N4.cell
        have n4l := N4.lt
        cases b
        · go_wp2_with fail
          have BW := (N3.set_ 0 (.int .i64 0)).set_ 1 (.int .i64 0)
          have KF : Kept w ((W6.setCell ⟨w.heap.size + 1 + 1, 0, none⟩ (.int .i64 0)).setCell ⟨w.heap.size + 1 + 1, 1, none⟩ (.int .i64 0)) := by
            repeat refine Kept.setCell ?_ (by simp only; omega) _
            exact KN
          generalize (W6.setCell ⟨w.heap.size + 1 + 1, 0, none⟩ (.int .i64 0)).setCell ⟨w.heap.size + 1 + 1, 1, none⟩ (.int .i64 0) = WW at *
          have bw := BW.cell
          exact bodyPost_ret (v := .tuple #[.agg #[.int .i64 0, .int .i64 0], .int .i64 8]) (by simp [results, Tryz.results111, go_sem, bw]) rfl ⟨_, _, _, rfl, KF⟩
        · go_wp2_with fail
          have BW := (N3.set_ 0 (.int .i64 k)).set_ 1 (.int .i64 e)
          have KF : Kept w ((W6.setCell ⟨w.heap.size + 1 + 1, 0, none⟩ (.int .i64 k)).setCell ⟨w.heap.size + 1 + 1, 1, none⟩ (.int .i64 e)) := by
            repeat refine Kept.setCell ?_ (by simp only; omega) _
            exact KN
          generalize (W6.setCell ⟨w.heap.size + 1 + 1, 0, none⟩ (.int .i64 k)).setCell ⟨w.heap.size + 1 + 1, 1, none⟩ (.int .i64 e) = WW at *
          have bw := BW.cell
          exact bodyPost_ret (v := .tuple #[.agg #[.int .i64 k, .int .i64 e], .int .i64 0]) (by simp [results, Tryz.results111, go_sem, bw]) rfl ⟨_, _, _, rfl, KF⟩
    · have qN : (N == 0) = false := by simpa using hN0
      have qM : (N != 0) = true := by simpa using hN0
      clear hN0
      go_enter Tryz.func111, Tryz.ntmps111
      go_upto_region 1 with fail
      obtain ⟨B1, B2, B3⟩ := (Kept.refl (((w.alloc (.cells #[.int .i64 op, .int .i64 N] 171)).alloc (.cells #[.slice AE nE ce, .slice AT nT cT, .slice AI nI cI, .slice AD nD cD, .slice AM nM cM, .bool hm] 137)).alloc (.cells #[.int .i64 0, .int .i64 0] 47))).blk3
      have KK := K0.out
      generalize ((w.alloc (.cells #[.int .i64 op, .int .i64 N] 171)).alloc (.cells #[.slice AE nE ce, .slice AT nT cT, .slice AI nI cI, .slice AD nD cD, .slice AM nM cM, .bool hm] 137)).alloc (.cells #[.int .i64 0, .int .i64 0] 47) = W at *
      have c1 := B1.cell
      have l1 := B1.lt
      have c2 := B2.cell
      have l2 := B2.lt
      have c3 := B3.cell
      have l3 := B3.lt
      have f3 := B3.frozen
      go_upto_region 9 with (first
        | (go_at_call 122; refine (HME.out _).mono ?_; rintro e w1 ⟨b, rfl, rfl⟩; cases b)
        | (go_at_call 123; refine (HRA.out _ KK).mono ?_; rintro e w2 ⟨b, rfl, k2, hq2⟩; have C1 := B1.kept k2; have C2 := B2.kept k2; have C3 := B3.kept k2; have c1z := C1.cell; have c2z := C2.cell; have c3z := C3.cell; have l1z := C1.lt; have l2z := C2.lt; have l3z := C3.lt; have f3z := C3.frozen; have K2 := KK.trans k2; cases b)
        | (go_at_call 124; refine (HFO.out _ K2 (hq2 (by decide)).1).mono ?_; rintro e w3 ⟨b, rfl, k3, hq3⟩; have D1 := C1.kept k3; have D2 := C2.kept k3; have D3 := C3.kept k3; have d1z := D1.cell; have d2z := D2.cell; have d3z := D3.cell; have m1z := D1.lt; have m2z := D2.lt; have m3z := D3.lt; have g3z := D3.frozen; have K3 := K2.trans k3; cases b))
      · skip
        have BW := (B3.set_ 0 (.int .i64 0)).set_ 1 (.int .i64 0)
        have KF : Kept w ((W.setCell ⟨w.heap.size + 1 + 1, 0, none⟩ (.int .i64 0)).setCell ⟨w.heap.size + 1 + 1, 1, none⟩ (.int .i64 0)) := by
          repeat refine Kept.setCell ?_ (by simp only; omega) _
          exact KK
        generalize (W.setCell ⟨w.heap.size + 1 + 1, 0, none⟩ (.int .i64 0)).setCell ⟨w.heap.size + 1 + 1, 1, none⟩ (.int .i64 0) = WW at *
        have bw := BW.cell
        exact bodyPost_ret (v := .tuple #[.agg #[.int .i64 0, .int .i64 0], .int .i64 2]) (by simp [results, Tryz.results111, go_sem, bw]) rfl ⟨_, _, _, rfl, KF⟩
      · skip
        have BW := (C3.set_ 0 (.int .i64 0)).set_ 1 (.int .i64 0)
        have KF : Kept w ((w2.setCell ⟨w.heap.size + 1 + 1, 0, none⟩ (.int .i64 0)).setCell ⟨w.heap.size + 1 + 1, 1, none⟩ (.int .i64 0)) := by
          repeat refine Kept.setCell ?_ (by simp only; omega) _
          exact K2
        generalize (w2.setCell ⟨w.heap.size + 1 + 1, 0, none⟩ (.int .i64 0)).setCell ⟨w.heap.size + 1 + 1, 1, none⟩ (.int .i64 0) = WW at *
        have bw := BW.cell
        exact bodyPost_ret (v := .tuple #[.agg #[.int .i64 0, .int .i64 0], .int .i64 3]) (by simp [results, Tryz.results111, go_sem, bw]) rfl ⟨_, _, _, rfl, KF⟩
      · skip
        have BW := (D3.set_ 0 (.int .i64 0)).set_ 1 (.int .i64 0)
        have KF : Kept w ((w3.setCell ⟨w.heap.size + 1 + 1, 0, none⟩ (.int .i64 0)).setCell ⟨w.heap.size + 1 + 1, 1, none⟩ (.int .i64 0)) := by
          repeat refine Kept.setCell ?_ (by simp only; omega) _
          exact K3
        generalize (w3.setCell ⟨w.heap.size + 1 + 1, 0, none⟩ (.int .i64 0)).setCell ⟨w.heap.size + 1 + 1, 1, none⟩ (.int .i64 0) = WW at *
        have bw := BW.cell
        exact bodyPost_ret (v := .tuple #[.agg #[.int .i64 0, .int .i64 0], .int .i64 6]) (by simp [results, Tryz.results111, go_sem, bw]) rfl ⟨_, _, _, rfl, KF⟩
      · skip
        have hQ := hq3 (by decide)
        have hR := hq2 (by decide)
        clear c1 c2 c3 l1 l2 l3 f3 c1z c2z c3z l1z l2z l3z f3z B1 B2 B3 C1 C2 C3 k2 k3 hq2 hq3 d1z d2z d3z m1z m2z m3z g3z KK K2
        have HQ := Lib.hid hQ
        have HR := Lib.hid hR
        clear hQ hR
        have E4 := Blk.new w3 47 #[.int .i64 0, .int .i64 0]
        have E1 := D1.alloc (.cells #[.int .i64 0, .int .i64 0] 47)
        have E2 := D2.alloc (.cells #[.int .i64 0, .int .i64 0] 47)
        have E3 := D3.alloc (.cells #[.int .i64 0, .int .i64 0] 47)
        have K4 := K3.alloc (.cells #[.int .i64 0, .int .i64 0] 47)
        have hgt : w.heap.size + 1 + 1 < w3.heap.size := D3.lt
        clear D1 D2 D3 K3
        generalize w3.alloc (.cells #[.int .i64 0, .int .i64 0] 47) = W4 at *
        generalize w3.heap.size = gt at *
        have c1 := E1.cell
        have l1 := E1.lt
        have c2 := E2.cell
        have l2 := E2.lt
        have c4 := E4.cell
        have l4 := E4.lt
        have f4 := E4.frozen
        go_upto_region 17 with fail
        clear c1 c2 c4 l1 l2 l4 f4
        have HALL := Lib.hid (show ∀ W, Kept w W → Blk W w.heap.size 171 #[.int .i64 op, .int .i64 N] → Blk W (w.heap.size + 1) 137 #[.slice AE nE ce, .slice AT nT cT, .slice AI nI cI, .slice AD nD cD, .slice AM nM cM, .bool hm] → (Kept w W ∧ Blk W w.heap.size 171 #[.int .i64 op, .int .i64 N] ∧ Blk W (w.heap.size + 1) 137 #[.slice AE nE ce, .slice AT nT cT, .slice AI nI cI, .slice AD nD cD, .slice AM nM cM, .bool hm] ∧ (∀ i, W.cell? ⟨w.heap.size, i, none⟩ = #[Value.int .i64 op, .int .i64 N][i]?) ∧ (∀ i, W.cell? ⟨w.heap.size + 1, i, none⟩ = #[Value.slice AE nE ce, .slice AT nT cT, .slice AI nI cI, .slice AD nD cD, .slice AM nM cM, .bool hm][i]?) ∧ W.cell? ⟨b, off, none⟩ = some (.int .i64 a0) ∧ W.cell? ⟨b, off + 1, none⟩ = some (.int .i64 a1) ∧ W.cell? ⟨b, off + 2, none⟩ = some (.int .i64 y0) ∧ W.cell? ⟨b, off + 2 + 1, none⟩ = some (.int .i64 y1)) from fun W k b1 b2 => ⟨k, b1, b2, b1.cell, b2.cell, k.cell (p := ⟨b, _, none⟩) hb x0, k.cell (p := ⟨b, _, none⟩) hb x1, k.cell (p := ⟨b, _, none⟩) hb x2, k.cell (p := ⟨b, _, none⟩) hb x3⟩)
        obtain ⟨_, _, _, d1, d2, v0, v1, v2, v3⟩ := HALL.out W4 K4 E1 E2
        have l4 := E4.lt
        go_region_held3 (fun W => Kept w W ∧ Blk W w.heap.size 171 #[.int .i64 op, .int .i64 N] ∧ Blk W (w.heap.size + 1) 137 #[.slice AE nE ce, .slice AT nT cT, .slice AI nI cI, .slice AD nD cD, .slice AM nM cM, .bool hm] ∧ (∀ i, W.cell? ⟨w.heap.size, i, none⟩ = #[Value.int .i64 op, .int .i64 N][i]?) ∧ (∀ i, W.cell? ⟨w.heap.size + 1, i, none⟩ = #[Value.slice AE nE ce, .slice AT nT cT, .slice AI nI cI, .slice AD nD cD, .slice AM nM cM, .bool hm][i]?) ∧ W.cell? ⟨b, off, none⟩ = some (.int .i64 a0) ∧ W.cell? ⟨b, off + 1, none⟩ = some (.int .i64 a1) ∧ W.cell? ⟨b, off + 2, none⟩ = some (.int .i64 y0) ∧ W.cell? ⟨b, off + 2 + 1, none⟩ = some (.int .i64 y1))
          ((refine HALL.out _ ?_ ?_ ?_; (· (repeat (first | with_reducible exact Kept.refl _ | with_reducible assumption | with_reducible refine Kept.drew ?_ | with_reducible refine Kept.alloc ?_ _ | with_reducible refine Kept.setCell ?_ (by simp only; omega) _ | with_reducible refine Kept.trans ?_ ‹Kept _ _›))); (· (repeat (first | with_reducible assumption | with_reducible refine Blk.drew ?_ | with_reducible refine Blk.far ?_ (by simp only; omega) _ | with_reducible refine Blk.kept ?_ ‹Kept _ _›))); (· (repeat (first | with_reducible assumption | with_reducible refine Blk.drew ?_ | with_reducible refine Blk.far ?_ (by simp only; omega) _ | with_reducible refine Blk.kept ?_ ‹Kept _ _›)))))
          ((go_at_call 127; refine (HDO.out _ _ _ _ _ HOP.out).mono ?_; rintro e w5 ⟨k, e, b, rfl, k5⟩; have M4 := E4.drew.kept k5; have m4c := M4.cell; have m4l := M4.lt; have m4f := M4.frozen))
        rename_i hHeld
        clear hHeld
        have M3 := E3.drew.kept k5
        have N4 := (M4.set_ 0 (.int .i64 k)).set_ 1 (.int .i64 e)
        have N3 := (M3.far (p := ⟨gt, 0, none⟩) (by simp only; omega) (.int .i64 k)).far (p := ⟨gt, 1, none⟩) (by simp only; omega) (.int .i64 e)
        have KN : Kept w ((w5.setCell ⟨gt, 0, none⟩ (.int .i64 k)).setCell ⟨gt, 1, none⟩ (.int .i64 e)) := by
          repeat refine Kept.setCell ?_ (by simp only; omega) _
          exact K4.drew.trans k5
        clear m4c m4l m4f M3 M4 d1 d2 l4 v0 v1 v2 v3
        generalize (w5.setCell ⟨gt, 0, none⟩ (.int .i64 k)).setCell ⟨gt, 1, none⟩ (.int .i64 e) = W6 at *
        have n3c := N3.cell
        have n3l := N3.lt
        have n3f := N3.frozen
        have n4c := N4.cell
        have n4l := N4.lt
        cases b
        · go_wp2_with fail
          have BW := (N3.set_ 0 (.int .i64 0)).set_ 1 (.int .i64 0)
          have KF : Kept w ((W6.setCell ⟨w.heap.size + 1 + 1, 0, none⟩ (.int .i64 0)).setCell ⟨w.heap.size + 1 + 1, 1, none⟩ (.int .i64 0)) := by
            repeat refine Kept.setCell ?_ (by simp only; omega) _
            exact KN
          generalize (W6.setCell ⟨w.heap.size + 1 + 1, 0, none⟩ (.int .i64 0)).setCell ⟨w.heap.size + 1 + 1, 1, none⟩ (.int .i64 0) = WW at *
          have bw := BW.cell
          exact bodyPost_ret (v := .tuple #[.agg #[.int .i64 0, .int .i64 0], .int .i64 8]) (by simp [results, Tryz.results111, go_sem, bw]) rfl ⟨_, _, _, rfl, KF⟩
        · go_wp2_with fail
          have BW := (N3.set_ 0 (.int .i64 k)).set_ 1 (.int .i64 e)
          have KF : Kept w ((W6.setCell ⟨w.heap.size + 1 + 1, 0, none⟩ (.int .i64 k)).setCell ⟨w.heap.size + 1 + 1, 1, none⟩ (.int .i64 e)) := by
            repeat refine Kept.setCell ?_ (by simp only; omega) _
            exact KN
          generalize (W6.setCell ⟨w.heap.size + 1 + 1, 0, none⟩ (.int .i64 k)).setCell ⟨w.heap.size + 1 + 1, 1, none⟩ (.int .i64 e) = WW at *
          have bw := BW.cell
          exact bodyPost_ret (v := .tuple #[.agg #[.int .i64 k, .int .i64 e], .int .i64 0]) (by simp [results, Tryz.results111, go_sem, bw]) rfl ⟨_, _, _, rfl, KF⟩
  · -- 3
    obtain ⟨b, off, rfl, hb, hc⟩ := HX.out (by omega)
    obtain ⟨⟨a0, x0⟩, ⟨a1, x1⟩⟩ := hc 0 (by omega)
    obtain ⟨⟨y0, x2⟩, ⟨y1, x3⟩⟩ := hc 1 (by omega)
    obtain ⟨⟨z0, x4⟩, ⟨z1, x5⟩⟩ := hc 2 (by omega)
    simp only [Nat.zero_mul, Nat.add_zero, Nat.one_mul, Nat.reduceMul] at x0 x1 x2 x3 x4 x5
    clear hc HX
    by_cases hN0 : N = 0
    · subst hN0
      go_enter Tryz.func111, Tryz.ntmps111
      go_upto_region 1 with fail
      obtain ⟨B1, B2, B3⟩ := (Kept.refl (((w.alloc (.cells #[.int .i64 op, .int .i64 0] 171)).alloc (.cells #[.slice AE nE ce, .slice AT nT cT, .slice AI nI cI, .slice AD nD cD, .slice AM nM cM, .bool hm] 137)).alloc (.cells #[.int .i64 0, .int .i64 0] 47))).blk3
      have KK := K0.out
      generalize ((w.alloc (.cells #[.int .i64 op, .int .i64 0] 171)).alloc (.cells #[.slice AE nE ce, .slice AT nT cT, .slice AI nI cI, .slice AD nD cD, .slice AM nM cM, .bool hm] 137)).alloc (.cells #[.int .i64 0, .int .i64 0] 47) = W at *
      have c1 := B1.cell
      have l1 := B1.lt
      have c2 := B2.cell
      have l2 := B2.lt
      have c3 := B3.cell
      have l3 := B3.lt
      have f3 := B3.frozen
      go_upto_region 9 with (first
        | (go_at_call 122; refine (HME.out _).mono ?_; rintro e w1 ⟨b, rfl, rfl⟩; cases b)
        | (go_at_call 123; refine (HRA.out _ KK).mono ?_; rintro e w2 ⟨b, rfl, k2, hq2⟩; have C1 := B1.kept k2; have C2 := B2.kept k2; have C3 := B3.kept k2; have c1z := C1.cell; have c2z := C2.cell; have c3z := C3.cell; have l1z := C1.lt; have l2z := C2.lt; have l3z := C3.lt; have f3z := C3.frozen; have K2 := KK.trans k2; cases b)
        | (go_at_call 124; refine (HFO.out _ K2 (hq2 (by decide)).1).mono ?_; rintro e w3 ⟨b, rfl, k3, hq3⟩; have D1 := C1.kept k3; have D2 := C2.kept k3; have D3 := C3.kept k3; have d1z := D1.cell; have d2z := D2.cell; have d3z := D3.cell; have m1z := D1.lt; have m2z := D2.lt; have m3z := D3.lt; have g3z := D3.frozen; have K3 := K2.trans k3; cases b))
      · skip
        have BW := (C3.set_ 0 (.int .i64 0)).set_ 1 (.int .i64 0)
        have KF : Kept w ((w2.setCell ⟨w.heap.size + 1 + 1, 0, none⟩ (.int .i64 0)).setCell ⟨w.heap.size + 1 + 1, 1, none⟩ (.int .i64 0)) := by
          repeat refine Kept.setCell ?_ (by simp only; omega) _
          exact K2
        generalize (w2.setCell ⟨w.heap.size + 1 + 1, 0, none⟩ (.int .i64 0)).setCell ⟨w.heap.size + 1 + 1, 1, none⟩ (.int .i64 0) = WW at *
        have bw := BW.cell
        exact bodyPost_ret (v := .tuple #[.agg #[.int .i64 0, .int .i64 0], .int .i64 3]) (by simp [results, Tryz.results111, go_sem, bw]) rfl ⟨_, _, _, rfl, KF⟩
      · skip
        have BW := (D3.set_ 0 (.int .i64 0)).set_ 1 (.int .i64 0)
        have KF : Kept w ((w3.setCell ⟨w.heap.size + 1 + 1, 0, none⟩ (.int .i64 0)).setCell ⟨w.heap.size + 1 + 1, 1, none⟩ (.int .i64 0)) := by
          repeat refine Kept.setCell ?_ (by simp only; omega) _
          exact K3
        generalize (w3.setCell ⟨w.heap.size + 1 + 1, 0, none⟩ (.int .i64 0)).setCell ⟨w.heap.size + 1 + 1, 1, none⟩ (.int .i64 0) = WW at *
        have bw := BW.cell
        exact bodyPost_ret (v := .tuple #[.agg #[.int .i64 0, .int .i64 0], .int .i64 6]) (by simp [results, Tryz.results111, go_sem, bw]) rfl ⟨_, _, _, rfl, KF⟩
      · skip
        have hQ := hq3 (by decide)
        have hR := hq2 (by decide)
        clear c1 c2 c3 l1 l2 l3 f3 c1z c2z c3z l1z l2z l3z f3z B1 B2 B3 C1 C2 C3 k2 k3 hq2 hq3 d1z d2z d3z m1z m2z m3z g3z KK K2
        have HQ := Lib.hid hQ
        have HR := Lib.hid hR
        clear hQ hR
        have E4 := Blk.new w3 47 #[.int .i64 0, .int .i64 0]
        have E1 := D1.alloc (.cells #[.int .i64 0, .int .i64 0] 47)
        have E2 := D2.alloc (.cells #[.int .i64 0, .int .i64 0] 47)
        have E3 := D3.alloc (.cells #[.int .i64 0, .int .i64 0] 47)
        have K4 := K3.alloc (.cells #[.int .i64 0, .int .i64 0] 47)
        have hgt : w.heap.size + 1 + 1 < w3.heap.size := D3.lt
        clear D1 D2 D3 K3
        generalize w3.alloc (.cells #[.int .i64 0, .int .i64 0] 47) = W4 at *
        generalize w3.heap.size = gt at *
        have c1 := E1.cell
        have l1 := E1.lt
        have c2 := E2.cell
        have l2 := E2.lt
        have c4 := E4.cell
        have l4 := E4.lt
        have f4 := E4.frozen
        have v0 := K4.cell (p := ⟨b, _, none⟩) hb x0
        have v1 := K4.cell (p := ⟨b, _, none⟩) hb x1
        have v2 := K4.cell (p := ⟨b, _, none⟩) hb x2
        have v3 := K4.cell (p := ⟨b, _, none⟩) hb x3
        have v4 := K4.cell (p := ⟨b, _, none⟩) hb x4
        have v5 := K4.cell (p := ⟨b, _, none⟩) hb x5
        have hbW := Nat.lt_of_lt_of_le hb K4.size
        go_upto_region 11 with fail
        clear c1 c2 c4 l1 l2 l4 f4 hbW v0 v1 v2 v3 v4 v5
        have N4 := (E4.set_ 0 (.int .i64 y0)).set_ 1 (.int .i64 y1)
        have N3 := (E3.far (p := ⟨gt, 0, none⟩) (by simp only; omega) (.int .i64 y0)).far (p := ⟨gt, 1, none⟩) (by simp only; omega) (.int .i64 y1)
        have KN : Kept w ((W4.setCell ⟨gt, 0, none⟩ (.int .i64 y0)).setCell ⟨gt, 1, none⟩ (.int .i64 y1)) := by
          repeat refine Kept.setCell ?_ (by simp only; omega) _
          exact K4
        clear E1 E2 E3 E4 K4
        generalize (W4.setCell ⟨gt, 0, none⟩ (.int .i64 y0)).setCell ⟨gt, 1, none⟩ (.int .i64 y1) = W6 at *
        have v0 := KW.cell (Nat.lt_of_lt_of_le hb KN.size) (KN.cell (p := ⟨b, _, none⟩) hb x0)
        have v1 := KW.cell (Nat.lt_of_lt_of_le hb KN.size) (KN.cell (p := ⟨b, _, none⟩) hb x1)
        have v2 := KW.cell (Nat.lt_of_lt_of_le hb KN.size) (KN.cell (p := ⟨b, _, none⟩) hb x2)
        have v3 := KW.cell (Nat.lt_of_lt_of_le hb KN.size) (KN.cell (p := ⟨b, _, none⟩) hb x3)
        have v4 := KW.cell (Nat.lt_of_lt_of_le hb KN.size) (KN.cell (p := ⟨b, _, none⟩) hb x4)
        have v5 := KW.cell (Nat.lt_of_lt_of_le hb KN.size) (KN.cell (p := ⟨b, _, none⟩) hb x5)
        by_cases h1 : a0 = 1
        · have e1 : (a0 == 1) = true := by simpa using h1
          by_cases h2 : y0 = z0
          · have e2 : (y0 == z0) = true := by simpa using h2
            by_cases h3 : y1 = z1
            · have e3 : (y1 == z1) = true := by simpa using h3
              clear h1 h2 h3
              refine wp_region_kept (by kernel_rfl) (by kernel_rfl) ?_
              repeat (go_big_quiet_step (fail))
              refine wpQuiet_nil ?_
              rintro w7 ⟨⟨wx, hx2⟩, hh⟩
              obtain rfl : w7 = wx := hh
              have P3 := N3.kept hx2
              have p3c := P3.cell
              have p3l := P3.lt
              have p3f := P3.frozen
              have P4 := N4.kept hx2
              have p4c := P4.cell
              have p4l := P4.lt
              have KP := KN.trans hx2
              clear v0 v1 v2 v3 v4 v5
              go_wp2_with fail
              have BW := (P3.set_ 0 (.int .i64 y0)).set_ 1 (.int .i64 y1)
              have KF : Kept w ((w7.setCell ⟨w.heap.size + 1 + 1, 0, none⟩ (.int .i64 y0)).setCell ⟨w.heap.size + 1 + 1, 1, none⟩ (.int .i64 y1)) := by
                repeat refine Kept.setCell ?_ (by simp only; omega) _
                exact KP
              generalize (w7.setCell ⟨w.heap.size + 1 + 1, 0, none⟩ (.int .i64 y0)).setCell ⟨w.heap.size + 1 + 1, 1, none⟩ (.int .i64 y1) = WW at *
              have bw := BW.cell
              exact bodyPost_ret (v := .tuple #[.agg #[.int .i64 y0, .int .i64 y1], .int .i64 0]) (by simp [results, Tryz.results111, go_sem, bw]) rfl ⟨_, _, _, rfl, KF⟩
            · have e3 : (y1 == z1) = false := by simpa using h3
              clear h1 h2 h3
              refine wp_region_kept (by kernel_rfl) (by kernel_rfl) ?_
              repeat (go_big_quiet_step (fail))
              refine wpQuiet_nil ?_
              rintro w7 ⟨⟨wx, hx2⟩, hh⟩
              obtain rfl : w7 = wx := hh
              have P3 := N3.kept hx2
              have p3c := P3.cell
              have p3l := P3.lt
              have p3f := P3.frozen
              have P4 := N4.kept hx2
              have p4c := P4.cell
              have p4l := P4.lt
              have KP := KN.trans hx2
              clear v0 v1 v2 v3 v4 v5
              go_wp2_with fail
              have BW := (P3.set_ 0 (.int .i64 0)).set_ 1 (.int .i64 0)
              have KF : Kept w ((w7.setCell ⟨w.heap.size + 1 + 1, 0, none⟩ (.int .i64 0)).setCell ⟨w.heap.size + 1 + 1, 1, none⟩ (.int .i64 0)) := by
                repeat refine Kept.setCell ?_ (by simp only; omega) _
                exact KP
              generalize (w7.setCell ⟨w.heap.size + 1 + 1, 0, none⟩ (.int .i64 0)).setCell ⟨w.heap.size + 1 + 1, 1, none⟩ (.int .i64 0) = WW at *
              have bw := BW.cell
              exact bodyPost_ret (v := .tuple #[.agg #[.int .i64 0, .int .i64 0], .int .i64 8]) (by simp [results, Tryz.results111, go_sem, bw]) rfl ⟨_, _, _, rfl, KF⟩
          · have e2 : (y0 == z0) = false := by simpa using h2
            clear h1 h2
            refine wp_region_kept (by kernel_rfl) (by kernel_rfl) ?_
            repeat (go_big_quiet_step (fail))
            refine wpQuiet_nil ?_
            rintro w7 ⟨⟨wx, hx2⟩, hh⟩
            obtain rfl : w7 = wx := hh
            have P3 := N3.kept hx2
            have p3c := P3.cell
            have p3l := P3.lt
            have p3f := P3.frozen
            have P4 := N4.kept hx2
            have p4c := P4.cell
            have p4l := P4.lt
            have KP := KN.trans hx2
            clear v0 v1 v2 v3 v4 v5
            go_wp2_with fail
            have BW := (P3.set_ 0 (.int .i64 0)).set_ 1 (.int .i64 0)
            have KF : Kept w ((w7.setCell ⟨w.heap.size + 1 + 1, 0, none⟩ (.int .i64 0)).setCell ⟨w.heap.size + 1 + 1, 1, none⟩ (.int .i64 0)) := by
              repeat refine Kept.setCell ?_ (by simp only; omega) _
              exact KP
            generalize (w7.setCell ⟨w.heap.size + 1 + 1, 0, none⟩ (.int .i64 0)).setCell ⟨w.heap.size + 1 + 1, 1, none⟩ (.int .i64 0) = WW at *
            have bw := BW.cell
            exact bodyPost_ret (v := .tuple #[.agg #[.int .i64 0, .int .i64 0], .int .i64 8]) (by simp [results, Tryz.results111, go_sem, bw]) rfl ⟨_, _, _, rfl, KF⟩
        · have e1 : (a0 == 1) = false := by simpa using h1
          clear h1
          refine wp_region_kept (by kernel_rfl) (by kernel_rfl) ?_
          repeat (go_big_quiet_step (fail))
          refine wpQuiet_nil ?_
          rintro w7 ⟨⟨wx, hx2⟩, hh⟩
          obtain rfl : w7 = wx := hh
          have P3 := N3.kept hx2
          have p3c := P3.cell
          have p3l := P3.lt
          have p3f := P3.frozen
          have P4 := N4.kept hx2
          have p4c := P4.cell
          have p4l := P4.lt
          have KP := KN.trans hx2
          clear v0 v1 v2 v3 v4 v5
          go_wp2_with fail
          have BW := (P3.set_ 0 (.int .i64 0)).set_ 1 (.int .i64 0)
          have KF : Kept w ((w7.setCell ⟨w.heap.size + 1 + 1, 0, none⟩ (.int .i64 0)).setCell ⟨w.heap.size + 1 + 1, 1, none⟩ (.int .i64 0)) := by
            repeat refine Kept.setCell ?_ (by simp only; omega) _
            exact KP
          generalize (w7.setCell ⟨w.heap.size + 1 + 1, 0, none⟩ (.int .i64 0)).setCell ⟨w.heap.size + 1 + 1, 1, none⟩ (.int .i64 0) = WW at *
          have bw := BW.cell
          exact bodyPost_ret (v := .tuple #[.agg #[.int .i64 0, .int .i64 0], .int .i64 8]) (by simp [results, Tryz.results111, go_sem, bw]) rfl ⟨_, _, _, rfl, KF⟩
    · have qN : (N == 0) = false := by simpa using hN0
      have qM : (N != 0) = true := by simpa using hN0
      clear hN0
      go_enter Tryz.func111, Tryz.ntmps111
      go_upto_region 1 with fail
      obtain ⟨B1, B2, B3⟩ := (Kept.refl (((w.alloc (.cells #[.int .i64 op, .int .i64 N] 171)).alloc (.cells #[.slice AE nE ce, .slice AT nT cT, .slice AI nI cI, .slice AD nD cD, .slice AM nM cM, .bool hm] 137)).alloc (.cells #[.int .i64 0, .int .i64 0] 47))).blk3
      have KK := K0.out
      generalize ((w.alloc (.cells #[.int .i64 op, .int .i64 N] 171)).alloc (.cells #[.slice AE nE ce, .slice AT nT cT, .slice AI nI cI, .slice AD nD cD, .slice AM nM cM, .bool hm] 137)).alloc (.cells #[.int .i64 0, .int .i64 0] 47) = W at *
      have c1 := B1.cell
      have l1 := B1.lt
      have c2 := B2.cell
      have l2 := B2.lt
      have c3 := B3.cell
      have l3 := B3.lt
      have f3 := B3.frozen
      go_upto_region 9 with (first
        | (go_at_call 122; refine (HME.out _).mono ?_; rintro e w1 ⟨b, rfl, rfl⟩; cases b)
        | (go_at_call 123; refine (HRA.out _ KK).mono ?_; rintro e w2 ⟨b, rfl, k2, hq2⟩; have C1 := B1.kept k2; have C2 := B2.kept k2; have C3 := B3.kept k2; have c1z := C1.cell; have c2z := C2.cell; have c3z := C3.cell; have l1z := C1.lt; have l2z := C2.lt; have l3z := C3.lt; have f3z := C3.frozen; have K2 := KK.trans k2; cases b)
        | (go_at_call 124; refine (HFO.out _ K2 (hq2 (by decide)).1).mono ?_; rintro e w3 ⟨b, rfl, k3, hq3⟩; have D1 := C1.kept k3; have D2 := C2.kept k3; have D3 := C3.kept k3; have d1z := D1.cell; have d2z := D2.cell; have d3z := D3.cell; have m1z := D1.lt; have m2z := D2.lt; have m3z := D3.lt; have g3z := D3.frozen; have K3 := K2.trans k3; cases b))
      · skip
        have BW := (B3.set_ 0 (.int .i64 0)).set_ 1 (.int .i64 0)
        have KF : Kept w ((W.setCell ⟨w.heap.size + 1 + 1, 0, none⟩ (.int .i64 0)).setCell ⟨w.heap.size + 1 + 1, 1, none⟩ (.int .i64 0)) := by
          repeat refine Kept.setCell ?_ (by simp only; omega) _
          exact KK
        generalize (W.setCell ⟨w.heap.size + 1 + 1, 0, none⟩ (.int .i64 0)).setCell ⟨w.heap.size + 1 + 1, 1, none⟩ (.int .i64 0) = WW at *
        have bw := BW.cell
        exact bodyPost_ret (v := .tuple #[.agg #[.int .i64 0, .int .i64 0], .int .i64 2]) (by simp [results, Tryz.results111, go_sem, bw]) rfl ⟨_, _, _, rfl, KF⟩
      · skip
        have BW := (C3.set_ 0 (.int .i64 0)).set_ 1 (.int .i64 0)
        have KF : Kept w ((w2.setCell ⟨w.heap.size + 1 + 1, 0, none⟩ (.int .i64 0)).setCell ⟨w.heap.size + 1 + 1, 1, none⟩ (.int .i64 0)) := by
          repeat refine Kept.setCell ?_ (by simp only; omega) _
          exact K2
        generalize (w2.setCell ⟨w.heap.size + 1 + 1, 0, none⟩ (.int .i64 0)).setCell ⟨w.heap.size + 1 + 1, 1, none⟩ (.int .i64 0) = WW at *
        have bw := BW.cell
        exact bodyPost_ret (v := .tuple #[.agg #[.int .i64 0, .int .i64 0], .int .i64 3]) (by simp [results, Tryz.results111, go_sem, bw]) rfl ⟨_, _, _, rfl, KF⟩
      · skip
        have BW := (D3.set_ 0 (.int .i64 0)).set_ 1 (.int .i64 0)
        have KF : Kept w ((w3.setCell ⟨w.heap.size + 1 + 1, 0, none⟩ (.int .i64 0)).setCell ⟨w.heap.size + 1 + 1, 1, none⟩ (.int .i64 0)) := by
          repeat refine Kept.setCell ?_ (by simp only; omega) _
          exact K3
        generalize (w3.setCell ⟨w.heap.size + 1 + 1, 0, none⟩ (.int .i64 0)).setCell ⟨w.heap.size + 1 + 1, 1, none⟩ (.int .i64 0) = WW at *
        have bw := BW.cell
        exact bodyPost_ret (v := .tuple #[.agg #[.int .i64 0, .int .i64 0], .int .i64 6]) (by simp [results, Tryz.results111, go_sem, bw]) rfl ⟨_, _, _, rfl, KF⟩
      · skip
        have hQ := hq3 (by decide)
        have hR := hq2 (by decide)
        clear c1 c2 c3 l1 l2 l3 f3 c1z c2z c3z l1z l2z l3z f3z B1 B2 B3 C1 C2 C3 k2 k3 hq2 hq3 d1z d2z d3z m1z m2z m3z g3z KK K2
        have HQ := Lib.hid hQ
        have HR := Lib.hid hR
        clear hQ hR
        have E4 := Blk.new w3 47 #[.int .i64 0, .int .i64 0]
        have E1 := D1.alloc (.cells #[.int .i64 0, .int .i64 0] 47)
        have E2 := D2.alloc (.cells #[.int .i64 0, .int .i64 0] 47)
        have E3 := D3.alloc (.cells #[.int .i64 0, .int .i64 0] 47)
        have K4 := K3.alloc (.cells #[.int .i64 0, .int .i64 0] 47)
        have hgt : w.heap.size + 1 + 1 < w3.heap.size := D3.lt
        clear D1 D2 D3 K3
        generalize w3.alloc (.cells #[.int .i64 0, .int .i64 0] 47) = W4 at *
        generalize w3.heap.size = gt at *
        have c1 := E1.cell
        have l1 := E1.lt
        have c2 := E2.cell
        have l2 := E2.lt
        have c4 := E4.cell
        have l4 := E4.lt
        have f4 := E4.frozen
        have v0 := K4.cell (p := ⟨b, _, none⟩) hb x0
        have v1 := K4.cell (p := ⟨b, _, none⟩) hb x1
        have v2 := K4.cell (p := ⟨b, _, none⟩) hb x2
        have v3 := K4.cell (p := ⟨b, _, none⟩) hb x3
        have v4 := K4.cell (p := ⟨b, _, none⟩) hb x4
        have v5 := K4.cell (p := ⟨b, _, none⟩) hb x5
        have hbW := Nat.lt_of_lt_of_le hb K4.size
        go_upto_region 11 with fail
        clear c1 c2 c4 l1 l2 l4 f4 hbW v0 v1 v2 v3 v4 v5
        have N4 := (E4.set_ 0 (.int .i64 y0)).set_ 1 (.int .i64 y1)
        have N3 := (E3.far (p := ⟨gt, 0, none⟩) (by simp only; omega) (.int .i64 y0)).far (p := ⟨gt, 1, none⟩) (by simp only; omega) (.int .i64 y1)
        have KN : Kept w ((W4.setCell ⟨gt, 0, none⟩ (.int .i64 y0)).setCell ⟨gt, 1, none⟩ (.int .i64 y1)) := by
          repeat refine Kept.setCell ?_ (by simp only; omega) _
          exact K4
        clear E1 E2 E3 E4 K4
        generalize (W4.setCell ⟨gt, 0, none⟩ (.int .i64 y0)).setCell ⟨gt, 1, none⟩ (.int .i64 y1) = W6 at *
        have v0 := KW.cell (Nat.lt_of_lt_of_le hb KN.size) (KN.cell (p := ⟨b, _, none⟩) hb x0)
        have v1 := KW.cell (Nat.lt_of_lt_of_le hb KN.size) (KN.cell (p := ⟨b, _, none⟩) hb x1)
        have v2 := KW.cell (Nat.lt_of_lt_of_le hb KN.size) (KN.cell (p := ⟨b, _, none⟩) hb x2)
        have v3 := KW.cell (Nat.lt_of_lt_of_le hb KN.size) (KN.cell (p := ⟨b, _, none⟩) hb x3)
        have v4 := KW.cell (Nat.lt_of_lt_of_le hb KN.size) (KN.cell (p := ⟨b, _, none⟩) hb x4)
        have v5 := KW.cell (Nat.lt_of_lt_of_le hb KN.size) (KN.cell (p := ⟨b, _, none⟩) hb x5)
        by_cases h1 : a0 = 1
        · have e1 : (a0 == 1) = true := by simpa using h1
          by_cases h2 : y0 = z0
          · have e2 : (y0 == z0) = true := by simpa using h2
            by_cases h3 : y1 = z1
            · have e3 : (y1 == z1) = true := by simpa using h3
              clear h1 h2 h3
              refine wp_region_kept (by kernel_rfl) (by kernel_rfl) ?_
              repeat (go_big_quiet_step (fail))
              refine wpQuiet_nil ?_
              rintro w7 ⟨⟨wx, hx2⟩, hh⟩
              obtain rfl : w7 = wx := hh
              have P3 := N3.kept hx2
              have p3c := P3.cell
              have p3l := P3.lt
              have p3f := P3.frozen
              have P4 := N4.kept hx2
              have p4c := P4.cell
              have p4l := P4.lt
              have KP := KN.trans hx2
              clear v0 v1 v2 v3 v4 v5
              go_wp2_with fail
              have BW := (P3.set_ 0 (.int .i64 y0)).set_ 1 (.int .i64 y1)
              have KF : Kept w ((w7.setCell ⟨w.heap.size + 1 + 1, 0, none⟩ (.int .i64 y0)).setCell ⟨w.heap.size + 1 + 1, 1, none⟩ (.int .i64 y1)) := by
                repeat refine Kept.setCell ?_ (by simp only; omega) _
                exact KP
              generalize (w7.setCell ⟨w.heap.size + 1 + 1, 0, none⟩ (.int .i64 y0)).setCell ⟨w.heap.size + 1 + 1, 1, none⟩ (.int .i64 y1) = WW at *
              have bw := BW.cell
              exact bodyPost_ret (v := .tuple #[.agg #[.int .i64 y0, .int .i64 y1], .int .i64 0]) (by simp [results, Tryz.results111, go_sem, bw]) rfl ⟨_, _, _, rfl, KF⟩
            · have e3 : (y1 == z1) = false := by simpa using h3
              clear h1 h2 h3
              refine wp_region_kept (by kernel_rfl) (by kernel_rfl) ?_
              repeat (go_big_quiet_step (fail))
              refine wpQuiet_nil ?_
              rintro w7 ⟨⟨wx, hx2⟩, hh⟩
              obtain rfl : w7 = wx := hh
              have P3 := N3.kept hx2
              have p3c := P3.cell
              have p3l := P3.lt
              have p3f := P3.frozen
              have P4 := N4.kept hx2
              have p4c := P4.cell
              have p4l := P4.lt
              have KP := KN.trans hx2
              clear v0 v1 v2 v3 v4 v5
              go_wp2_with fail
              have BW := (P3.set_ 0 (.int .i64 0)).set_ 1 (.int .i64 0)
              have KF : Kept w ((w7.setCell ⟨w.heap.size + 1 + 1, 0, none⟩ (.int .i64 0)).setCell ⟨w.heap.size + 1 + 1, 1, none⟩ (.int .i64 0)) := by
                repeat refine Kept.setCell ?_ (by simp only; omega) _
                exact KP
              generalize (w7.setCell ⟨w.heap.size + 1 + 1, 0, none⟩ (.int .i64 0)).setCell ⟨w.heap.size + 1 + 1, 1, none⟩ (.int .i64 0) = WW at *
              have bw := BW.cell
              exact bodyPost_ret (v := .tuple #[.agg #[.int .i64 0, .int .i64 0], .int .i64 8]) (by simp [results, Tryz.results111, go_sem, bw]) rfl ⟨_, _, _, rfl, KF⟩
          · have e2 : (y0 == z0) = false := by simpa using h2
            clear h1 h2
            refine wp_region_kept (by kernel_rfl) (by kernel_rfl) ?_
            repeat (go_big_quiet_step (fail))
            refine wpQuiet_nil ?_
            rintro w7 ⟨⟨wx, hx2⟩, hh⟩
            obtain rfl : w7 = wx := hh
            have P3 := N3.kept hx2
            have p3c := P3.cell
            have p3l := P3.lt
            have p3f := P3.frozen
            have P4 := N4.kept hx2
            have p4c := P4.cell
            have p4l := P4.lt
            have KP := KN.trans hx2
            clear v0 v1 v2 v3 v4 v5
            go_wp2_with fail
            have BW := (P3.set_ 0 (.int .i64 0)).set_ 1 (.int .i64 0)
            have KF : Kept w ((w7.setCell ⟨w.heap.size + 1 + 1, 0, none⟩ (.int .i64 0)).setCell ⟨w.heap.size + 1 + 1, 1, none⟩ (.int .i64 0)) := by
              repeat refine Kept.setCell ?_ (by simp only; omega) _
              exact KP
            generalize (w7.setCell ⟨w.heap.size + 1 + 1, 0, none⟩ (.int .i64 0)).setCell ⟨w.heap.size + 1 + 1, 1, none⟩ (.int .i64 0) = WW at *
            have bw := BW.cell
            exact bodyPost_ret (v := .tuple #[.agg #[.int .i64 0, .int .i64 0], .int .i64 8]) (by simp [results, Tryz.results111, go_sem, bw]) rfl ⟨_, _, _, rfl, KF⟩
        · have e1 : (a0 == 1) = false := by simpa using h1
          clear h1
          refine wp_region_kept (by kernel_rfl) (by kernel_rfl) ?_
          repeat (go_big_quiet_step (fail))
          refine wpQuiet_nil ?_
          rintro w7 ⟨⟨wx, hx2⟩, hh⟩
          obtain rfl : w7 = wx := hh
          have P3 := N3.kept hx2
          have p3c := P3.cell
          have p3l := P3.lt
          have p3f := P3.frozen
          have P4 := N4.kept hx2
          have p4c := P4.cell
          have p4l := P4.lt
          have KP := KN.trans hx2
          clear v0 v1 v2 v3 v4 v5
          go_wp2_with fail
          have BW := (P3.set_ 0 (.int .i64 0)).set_ 1 (.int .i64 0)
          have KF : Kept w ((w7.setCell ⟨w.heap.size + 1 + 1, 0, none⟩ (.int .i64 0)).setCell ⟨w.heap.size + 1 + 1, 1, none⟩ (.int .i64 0)) := by
            repeat refine Kept.setCell ?_ (by simp only; omega) _
            exact KP
          generalize (w7.setCell ⟨w.heap.size + 1 + 1, 0, none⟩ (.int .i64 0)).setCell ⟨w.heap.size + 1 + 1, 1, none⟩ (.int .i64 0) = WW at *
          have bw := BW.cell
          exact bodyPost_ret (v := .tuple #[.agg #[.int .i64 0, .int .i64 0], .int .i64 8]) (by simp [results, Tryz.results111, go_sem, bw]) rfl ⟨_, _, _, rfl, KF⟩
end Go.Proofs.YtjeifmjcgemlgaaGreatDoor
