/- The type of a node without operands: the reference ends, if what the node refers to is there. -/
import Derived.Test.YtjeifmjcgemlgaaGreatDoorRtC
namespace Go.Proofs.YtjeifmjcgemlgaaGreatDoor
open Go.RowKit

set_option maxRecDepth 100000 in
set_option maxHeartbeats 16000000 in
theorem rleaf_k (op N : Int) (sv : Value) (ms : List (List ByteArray)) (nT nI nD nM : Nat) (w : World) (hS : SigD w sv ms nT nI nD nM) (hop : arS op = 0) (hF : FndQ op N nT nI nD nM) (h6 : op = 6 → 0 ≤ N) (h9 : N ≤ 9223372036854775807) :
    Calls Tryz.prog 125 #[.agg #[.int .i64 op, .int .i64 N], sv] w (TyB w) := by
  have hops : op = 1 ∨ op = 2 ∨ op = 3 ∨ op = 4 ∨ op = 5 ∨ op = 6 ∨ op = 7 ∨ op = 8 ∨ op = 9 ∨ op = 35 ∨ op = 36 ∨ op = 37 ∨ op = 38 ∨ op = 39 := by
    unfold arS at hop
    split at hop
    · omega
    · split at hop
      · exact absurd hop (by decide)
      · split at hop
        · exact absurd hop (by decide)
        · split at hop
          · exact absurd hop (by decide)
          · exact absurd hop (by decide)
  obtain ⟨AE, ce, AT, cT, AI, cI, AD, cD, AM, cM, hm, rfl, hE, hT, hI, hD, hM⟩ := hS
  have HV := Lib.hid (fun k e (w1 : World) (h : Kept w w1) => rvtype_any k e (.slice AE ms.length ce) ms w1 (hE.kept h))
  have HK := Lib.hid (fun k w1 => rkind_k k w1)
  have HO := Lib.hid (fun k w1 => rordered_k k w1)
  generalize ms.length = nE at *
  have HI := Lib.hid hI.items
  have HD := Lib.hid hD.items
  have HMM := Lib.hid hM.items
  have HF := Lib.hid hF
  unfold FndQ at HF
  have H6 := Lib.hid h6
  have K0 := Lib.hid (((((Kept.refl w).alloc (.cells #[.int .i64 op, .int .i64 N] 171)).alloc (.cells #[.slice AE nE ce, .slice AT nT cT, .slice AI nI cI, .slice AD nD cD, .slice AM nM cM, .bool hm] 137)).alloc (.cells #[.int .i64 0, .int .i64 0] 47)).alloc (.cells #[.int .i64 0, .int .i64 0] 47))
  clear hE hT hI hD hM hF hop h6
  rcases hops with rfl | rfl | rfl | rfl | rfl | rfl | rfl | rfl | rfl | rfl | rfl | rfl | rfl | rfl
  · -- 1
    go_enter Tryz.func125, Tryz.ntmps125
    go_upto_region 2 with fail
    obtain ⟨B1, B2, B3, B4⟩ := (Kept.refl ((((w.alloc (.cells #[.int .i64 1, .int .i64 N] 171)).alloc (.cells #[.slice AE nE ce, .slice AT nT cT, .slice AI nI cI, .slice AD nD cD, .slice AM nM cM, .bool hm] 137)).alloc (.cells #[.int .i64 0, .int .i64 0] 47)).alloc (.cells #[.int .i64 0, .int .i64 0] 47))).blk4
    have KK := K0.out
    generalize (((w.alloc (.cells #[.int .i64 1, .int .i64 N] 171)).alloc (.cells #[.slice AE nE ce, .slice AT nT cT, .slice AI nI cI, .slice AD nD cD, .slice AM nM cM, .bool hm] 137)).alloc (.cells #[.int .i64 0, .int .i64 0] 47)).alloc (.cells #[.int .i64 0, .int .i64 0] 47) = W at *
    have c1 := B1.cell
    have l1 := B1.lt
    have c2 := B2.cell
    have l2 := B2.lt
    have c4 := B4.cell
    have l4 := B4.lt
    have f4 := B4.frozen
    go_upto_region 19 with (go_at_call 134; refine (HK.out _ _).mono ?_; rintro e w1 ⟨rfl, k1⟩; have C4 := B4.kept k1; have cc4 := C4.cell; have ll4 := C4.lt; have ff4 := C4.frozen)
    have C1 := B1.kept k1
    have C2 := B2.kept k1
    have C3 := B3.kept k1
    have KX := KK.trans k1
    clear cc4 ll4 ff4
    clear c1 c2 c4 l1 l2 l4 f4
    have M4 := (C4.set_ 0 (.int .i64 1)).set_ 1 (.int .i64 0)
    have M1 := (C1.far (p := ⟨w.heap.size + 1 + 1 + 1, 0, none⟩) (by simp only; omega) (.int .i64 1)).far (p := ⟨w.heap.size + 1 + 1 + 1, 1, none⟩) (by simp only; omega) (.int .i64 0)
    have M2 := (C2.far (p := ⟨w.heap.size + 1 + 1 + 1, 0, none⟩) (by simp only; omega) (.int .i64 1)).far (p := ⟨w.heap.size + 1 + 1 + 1, 1, none⟩) (by simp only; omega) (.int .i64 0)
    have M3 := (C3.far (p := ⟨w.heap.size + 1 + 1 + 1, 0, none⟩) (by simp only; omega) (.int .i64 1)).far (p := ⟨w.heap.size + 1 + 1 + 1, 1, none⟩) (by simp only; omega) (.int .i64 0)
    have KM : Kept w ((w1.setCell ⟨w.heap.size + 1 + 1 + 1, 0, none⟩ (.int .i64 1)).setCell ⟨w.heap.size + 1 + 1 + 1, 1, none⟩ (.int .i64 0)) := by
      repeat refine Kept.setCell ?_ (by simp only; omega) _
      exact KX
    clear C1 C2 C3 C4 KX
    generalize (w1.setCell ⟨w.heap.size + 1 + 1 + 1, 0, none⟩ (.int .i64 1)).setCell ⟨w.heap.size + 1 + 1 + 1, 1, none⟩ (.int .i64 0) = W6 at *
    have c1 := M1.cell
    have l1 := M1.lt
    have c2 := M2.cell
    have l2 := M2.lt
    have c4 := M4.cell
    have l4 := M4.lt
    go_wp2_with (first
      | (go_at_call 67; refine (HV.out _ _ _ KM).mono ?_; rintro e w7 ⟨rfl, k7⟩; have N1 := M1.kept k7; have n1c := N1.cell; have n1l := N1.lt; have N4 := M4.kept k7; have n4c := N4.cell; have n4l := N4.lt; have N3 := M3.kept k7; have n3c := N3.cell; have n3l := N3.lt; have n3f := N3.frozen)
      | (go_at_call 135; refine (HO.out _ _).mono ?_; rintro e w8 ⟨rfl, rfl⟩))
    have BW := (N3.set_ 0 (.int .i64 1)).set_ 1 (.int .i64 0)
    have KF : Kept w ((w7.setCell ⟨w.heap.size + 1 + 1, 0, none⟩ (.int .i64 1)).setCell ⟨w.heap.size + 1 + 1, 1, none⟩ (.int .i64 0)) := by
      repeat refine Kept.setCell ?_ (by simp only; omega) _
      exact KM.trans k7
    generalize (w7.setCell ⟨w.heap.size + 1 + 1, 0, none⟩ (.int .i64 1)).setCell ⟨w.heap.size + 1 + 1, 1, none⟩ (.int .i64 0) = WW at *
    have bw := BW.cell
    exact bodyPost_ret (v := .tuple #[.agg #[.int .i64 1, .int .i64 0], .bool (vtB 1 0 ms)]) (by simp [results, Tryz.results125, go_sem, bw]) rfl ⟨_, _, _, rfl, KF⟩
  · -- 2
    go_enter Tryz.func125, Tryz.ntmps125
    go_upto_region 2 with fail
    obtain ⟨B1, B2, B3, B4⟩ := (Kept.refl ((((w.alloc (.cells #[.int .i64 2, .int .i64 N] 171)).alloc (.cells #[.slice AE nE ce, .slice AT nT cT, .slice AI nI cI, .slice AD nD cD, .slice AM nM cM, .bool hm] 137)).alloc (.cells #[.int .i64 0, .int .i64 0] 47)).alloc (.cells #[.int .i64 0, .int .i64 0] 47))).blk4
    have KK := K0.out
    generalize (((w.alloc (.cells #[.int .i64 2, .int .i64 N] 171)).alloc (.cells #[.slice AE nE ce, .slice AT nT cT, .slice AI nI cI, .slice AD nD cD, .slice AM nM cM, .bool hm] 137)).alloc (.cells #[.int .i64 0, .int .i64 0] 47)).alloc (.cells #[.int .i64 0, .int .i64 0] 47) = W at *
    have c1 := B1.cell
    have l1 := B1.lt
    have c2 := B2.cell
    have l2 := B2.lt
    have c4 := B4.cell
    have l4 := B4.lt
    have f4 := B4.frozen
    go_upto_region 19 with (go_at_call 134; refine (HK.out _ _).mono ?_; rintro e w1 ⟨rfl, k1⟩; have C4 := B4.kept k1; have cc4 := C4.cell; have ll4 := C4.lt; have ff4 := C4.frozen)
    have C1 := B1.kept k1
    have C2 := B2.kept k1
    have C3 := B3.kept k1
    have KX := KK.trans k1
    clear cc4 ll4 ff4
    clear c1 c2 c4 l1 l2 l4 f4
    have M4 := (C4.set_ 0 (.int .i64 2)).set_ 1 (.int .i64 0)
    have M1 := (C1.far (p := ⟨w.heap.size + 1 + 1 + 1, 0, none⟩) (by simp only; omega) (.int .i64 2)).far (p := ⟨w.heap.size + 1 + 1 + 1, 1, none⟩) (by simp only; omega) (.int .i64 0)
    have M2 := (C2.far (p := ⟨w.heap.size + 1 + 1 + 1, 0, none⟩) (by simp only; omega) (.int .i64 2)).far (p := ⟨w.heap.size + 1 + 1 + 1, 1, none⟩) (by simp only; omega) (.int .i64 0)
    have M3 := (C3.far (p := ⟨w.heap.size + 1 + 1 + 1, 0, none⟩) (by simp only; omega) (.int .i64 2)).far (p := ⟨w.heap.size + 1 + 1 + 1, 1, none⟩) (by simp only; omega) (.int .i64 0)
    have KM : Kept w ((w1.setCell ⟨w.heap.size + 1 + 1 + 1, 0, none⟩ (.int .i64 2)).setCell ⟨w.heap.size + 1 + 1 + 1, 1, none⟩ (.int .i64 0)) := by
      repeat refine Kept.setCell ?_ (by simp only; omega) _
      exact KX
    clear C1 C2 C3 C4 KX
    generalize (w1.setCell ⟨w.heap.size + 1 + 1 + 1, 0, none⟩ (.int .i64 2)).setCell ⟨w.heap.size + 1 + 1 + 1, 1, none⟩ (.int .i64 0) = W6 at *
    have c1 := M1.cell
    have l1 := M1.lt
    have c2 := M2.cell
    have l2 := M2.lt
    have c4 := M4.cell
    have l4 := M4.lt
    go_wp2_with (first
      | (go_at_call 67; refine (HV.out _ _ _ KM).mono ?_; rintro e w7 ⟨rfl, k7⟩; have N1 := M1.kept k7; have n1c := N1.cell; have n1l := N1.lt; have N4 := M4.kept k7; have n4c := N4.cell; have n4l := N4.lt; have N3 := M3.kept k7; have n3c := N3.cell; have n3l := N3.lt; have n3f := N3.frozen)
      | (go_at_call 135; refine (HO.out _ _).mono ?_; rintro e w8 ⟨rfl, rfl⟩))
    have BW := (N3.set_ 0 (.int .i64 2)).set_ 1 (.int .i64 0)
    have KF : Kept w ((w7.setCell ⟨w.heap.size + 1 + 1, 0, none⟩ (.int .i64 2)).setCell ⟨w.heap.size + 1 + 1, 1, none⟩ (.int .i64 0)) := by
      repeat refine Kept.setCell ?_ (by simp only; omega) _
      exact KM.trans k7
    generalize (w7.setCell ⟨w.heap.size + 1 + 1, 0, none⟩ (.int .i64 2)).setCell ⟨w.heap.size + 1 + 1, 1, none⟩ (.int .i64 0) = WW at *
    have bw := BW.cell
    exact bodyPost_ret (v := .tuple #[.agg #[.int .i64 2, .int .i64 0], .bool (vtB 2 0 ms)]) (by simp [results, Tryz.results125, go_sem, bw]) rfl ⟨_, _, _, rfl, KF⟩
  · -- 3
    go_enter Tryz.func125, Tryz.ntmps125
    go_upto_region 2 with fail
    obtain ⟨B1, B2, B3, B4⟩ := (Kept.refl ((((w.alloc (.cells #[.int .i64 3, .int .i64 N] 171)).alloc (.cells #[.slice AE nE ce, .slice AT nT cT, .slice AI nI cI, .slice AD nD cD, .slice AM nM cM, .bool hm] 137)).alloc (.cells #[.int .i64 0, .int .i64 0] 47)).alloc (.cells #[.int .i64 0, .int .i64 0] 47))).blk4
    have KK := K0.out
    generalize (((w.alloc (.cells #[.int .i64 3, .int .i64 N] 171)).alloc (.cells #[.slice AE nE ce, .slice AT nT cT, .slice AI nI cI, .slice AD nD cD, .slice AM nM cM, .bool hm] 137)).alloc (.cells #[.int .i64 0, .int .i64 0] 47)).alloc (.cells #[.int .i64 0, .int .i64 0] 47) = W at *
    have c1 := B1.cell
    have l1 := B1.lt
    have c2 := B2.cell
    have l2 := B2.lt
    have c4 := B4.cell
    have l4 := B4.lt
    have f4 := B4.frozen
    go_upto_region 19 with (go_at_call 134; refine (HK.out _ _).mono ?_; rintro e w1 ⟨rfl, k1⟩; have C4 := B4.kept k1; have cc4 := C4.cell; have ll4 := C4.lt; have ff4 := C4.frozen)
    have C1 := B1.kept k1
    have C2 := B2.kept k1
    have C3 := B3.kept k1
    have KX := KK.trans k1
    clear cc4 ll4 ff4
    clear c1 c2 c4 l1 l2 l4 f4
    have M4 := (C4.set_ 0 (.int .i64 3)).set_ 1 (.int .i64 0)
    have M1 := (C1.far (p := ⟨w.heap.size + 1 + 1 + 1, 0, none⟩) (by simp only; omega) (.int .i64 3)).far (p := ⟨w.heap.size + 1 + 1 + 1, 1, none⟩) (by simp only; omega) (.int .i64 0)
    have M2 := (C2.far (p := ⟨w.heap.size + 1 + 1 + 1, 0, none⟩) (by simp only; omega) (.int .i64 3)).far (p := ⟨w.heap.size + 1 + 1 + 1, 1, none⟩) (by simp only; omega) (.int .i64 0)
    have M3 := (C3.far (p := ⟨w.heap.size + 1 + 1 + 1, 0, none⟩) (by simp only; omega) (.int .i64 3)).far (p := ⟨w.heap.size + 1 + 1 + 1, 1, none⟩) (by simp only; omega) (.int .i64 0)
    have KM : Kept w ((w1.setCell ⟨w.heap.size + 1 + 1 + 1, 0, none⟩ (.int .i64 3)).setCell ⟨w.heap.size + 1 + 1 + 1, 1, none⟩ (.int .i64 0)) := by
      repeat refine Kept.setCell ?_ (by simp only; omega) _
      exact KX
    clear C1 C2 C3 C4 KX
    generalize (w1.setCell ⟨w.heap.size + 1 + 1 + 1, 0, none⟩ (.int .i64 3)).setCell ⟨w.heap.size + 1 + 1 + 1, 1, none⟩ (.int .i64 0) = W6 at *
    have c1 := M1.cell
    have l1 := M1.lt
    have c2 := M2.cell
    have l2 := M2.lt
    have c4 := M4.cell
    have l4 := M4.lt
    go_wp2_with (first
      | (go_at_call 67; refine (HV.out _ _ _ KM).mono ?_; rintro e w7 ⟨rfl, k7⟩; have N1 := M1.kept k7; have n1c := N1.cell; have n1l := N1.lt; have N4 := M4.kept k7; have n4c := N4.cell; have n4l := N4.lt; have N3 := M3.kept k7; have n3c := N3.cell; have n3l := N3.lt; have n3f := N3.frozen)
      | (go_at_call 135; refine (HO.out _ _).mono ?_; rintro e w8 ⟨rfl, rfl⟩))
    have BW := (N3.set_ 0 (.int .i64 3)).set_ 1 (.int .i64 0)
    have KF : Kept w ((w7.setCell ⟨w.heap.size + 1 + 1, 0, none⟩ (.int .i64 3)).setCell ⟨w.heap.size + 1 + 1, 1, none⟩ (.int .i64 0)) := by
      repeat refine Kept.setCell ?_ (by simp only; omega) _
      exact KM.trans k7
    generalize (w7.setCell ⟨w.heap.size + 1 + 1, 0, none⟩ (.int .i64 3)).setCell ⟨w.heap.size + 1 + 1, 1, none⟩ (.int .i64 0) = WW at *
    have bw := BW.cell
    exact bodyPost_ret (v := .tuple #[.agg #[.int .i64 3, .int .i64 0], .bool (vtB 3 0 ms)]) (by simp [results, Tryz.results125, go_sem, bw]) rfl ⟨_, _, _, rfl, KF⟩
  · -- 4
    go_enter Tryz.func125, Tryz.ntmps125
    go_upto_region 2 with fail
    obtain ⟨B1, B2, B3, B4⟩ := (Kept.refl ((((w.alloc (.cells #[.int .i64 4, .int .i64 N] 171)).alloc (.cells #[.slice AE nE ce, .slice AT nT cT, .slice AI nI cI, .slice AD nD cD, .slice AM nM cM, .bool hm] 137)).alloc (.cells #[.int .i64 0, .int .i64 0] 47)).alloc (.cells #[.int .i64 0, .int .i64 0] 47))).blk4
    have KK := K0.out
    generalize (((w.alloc (.cells #[.int .i64 4, .int .i64 N] 171)).alloc (.cells #[.slice AE nE ce, .slice AT nT cT, .slice AI nI cI, .slice AD nD cD, .slice AM nM cM, .bool hm] 137)).alloc (.cells #[.int .i64 0, .int .i64 0] 47)).alloc (.cells #[.int .i64 0, .int .i64 0] 47) = W at *
    have c1 := B1.cell
    have l1 := B1.lt
    have c2 := B2.cell
    have l2 := B2.lt
    have c4 := B4.cell
    have l4 := B4.lt
    have f4 := B4.frozen
    go_upto_region 19 with (go_at_call 134; refine (HK.out _ _).mono ?_; rintro e w1 ⟨rfl, k1⟩; have C4 := B4.kept k1; have cc4 := C4.cell; have ll4 := C4.lt; have ff4 := C4.frozen)
    have C1 := B1.kept k1
    have C2 := B2.kept k1
    have C3 := B3.kept k1
    have KX := KK.trans k1
    clear cc4 ll4 ff4
    clear c1 c2 c4 l1 l2 l4 f4
    have M4 := (C4.set_ 0 (.int .i64 4)).set_ 1 (.int .i64 0)
    have M1 := (C1.far (p := ⟨w.heap.size + 1 + 1 + 1, 0, none⟩) (by simp only; omega) (.int .i64 4)).far (p := ⟨w.heap.size + 1 + 1 + 1, 1, none⟩) (by simp only; omega) (.int .i64 0)
    have M2 := (C2.far (p := ⟨w.heap.size + 1 + 1 + 1, 0, none⟩) (by simp only; omega) (.int .i64 4)).far (p := ⟨w.heap.size + 1 + 1 + 1, 1, none⟩) (by simp only; omega) (.int .i64 0)
    have M3 := (C3.far (p := ⟨w.heap.size + 1 + 1 + 1, 0, none⟩) (by simp only; omega) (.int .i64 4)).far (p := ⟨w.heap.size + 1 + 1 + 1, 1, none⟩) (by simp only; omega) (.int .i64 0)
    have KM : Kept w ((w1.setCell ⟨w.heap.size + 1 + 1 + 1, 0, none⟩ (.int .i64 4)).setCell ⟨w.heap.size + 1 + 1 + 1, 1, none⟩ (.int .i64 0)) := by
      repeat refine Kept.setCell ?_ (by simp only; omega) _
      exact KX
    clear C1 C2 C3 C4 KX
    generalize (w1.setCell ⟨w.heap.size + 1 + 1 + 1, 0, none⟩ (.int .i64 4)).setCell ⟨w.heap.size + 1 + 1 + 1, 1, none⟩ (.int .i64 0) = W6 at *
    have c1 := M1.cell
    have l1 := M1.lt
    have c2 := M2.cell
    have l2 := M2.lt
    have c4 := M4.cell
    have l4 := M4.lt
    go_wp2_with (first
      | (go_at_call 67; refine (HV.out _ _ _ KM).mono ?_; rintro e w7 ⟨rfl, k7⟩; have N1 := M1.kept k7; have n1c := N1.cell; have n1l := N1.lt; have N4 := M4.kept k7; have n4c := N4.cell; have n4l := N4.lt; have N3 := M3.kept k7; have n3c := N3.cell; have n3l := N3.lt; have n3f := N3.frozen)
      | (go_at_call 135; refine (HO.out _ _).mono ?_; rintro e w8 ⟨rfl, rfl⟩))
    have BW := (N3.set_ 0 (.int .i64 4)).set_ 1 (.int .i64 0)
    have KF : Kept w ((w7.setCell ⟨w.heap.size + 1 + 1, 0, none⟩ (.int .i64 4)).setCell ⟨w.heap.size + 1 + 1, 1, none⟩ (.int .i64 0)) := by
      repeat refine Kept.setCell ?_ (by simp only; omega) _
      exact KM.trans k7
    generalize (w7.setCell ⟨w.heap.size + 1 + 1, 0, none⟩ (.int .i64 4)).setCell ⟨w.heap.size + 1 + 1, 1, none⟩ (.int .i64 0) = WW at *
    have bw := BW.cell
    exact bodyPost_ret (v := .tuple #[.agg #[.int .i64 4, .int .i64 0], .bool (vtB 4 0 ms)]) (by simp [results, Tryz.results125, go_sem, bw]) rfl ⟨_, _, _, rfl, KF⟩
  · -- 5
    go_enter Tryz.func125, Tryz.ntmps125
    go_upto_region 2 with fail
    obtain ⟨B1, B2, B3, B4⟩ := (Kept.refl ((((w.alloc (.cells #[.int .i64 5, .int .i64 N] 171)).alloc (.cells #[.slice AE nE ce, .slice AT nT cT, .slice AI nI cI, .slice AD nD cD, .slice AM nM cM, .bool hm] 137)).alloc (.cells #[.int .i64 0, .int .i64 0] 47)).alloc (.cells #[.int .i64 0, .int .i64 0] 47))).blk4
    have KK := K0.out
    generalize (((w.alloc (.cells #[.int .i64 5, .int .i64 N] 171)).alloc (.cells #[.slice AE nE ce, .slice AT nT cT, .slice AI nI cI, .slice AD nD cD, .slice AM nM cM, .bool hm] 137)).alloc (.cells #[.int .i64 0, .int .i64 0] 47)).alloc (.cells #[.int .i64 0, .int .i64 0] 47) = W at *
    have c1 := B1.cell
    have l1 := B1.lt
    have c2 := B2.cell
    have l2 := B2.lt
    have c4 := B4.cell
    have l4 := B4.lt
    have f4 := B4.frozen
    go_upto_region 19 with (go_at_call 134; refine (HK.out _ _).mono ?_; rintro e w1 ⟨rfl, k1⟩; have C4 := B4.kept k1; have cc4 := C4.cell; have ll4 := C4.lt; have ff4 := C4.frozen)
    have C1 := B1.kept k1
    have C2 := B2.kept k1
    have C3 := B3.kept k1
    have KX := KK.trans k1
    clear cc4 ll4 ff4
    clear c1 c2 c4 l1 l2 l4 f4
    have M4 := (C4.set_ 0 (.int .i64 5)).set_ 1 (.int .i64 0)
    have M1 := (C1.far (p := ⟨w.heap.size + 1 + 1 + 1, 0, none⟩) (by simp only; omega) (.int .i64 5)).far (p := ⟨w.heap.size + 1 + 1 + 1, 1, none⟩) (by simp only; omega) (.int .i64 0)
    have M2 := (C2.far (p := ⟨w.heap.size + 1 + 1 + 1, 0, none⟩) (by simp only; omega) (.int .i64 5)).far (p := ⟨w.heap.size + 1 + 1 + 1, 1, none⟩) (by simp only; omega) (.int .i64 0)
    have M3 := (C3.far (p := ⟨w.heap.size + 1 + 1 + 1, 0, none⟩) (by simp only; omega) (.int .i64 5)).far (p := ⟨w.heap.size + 1 + 1 + 1, 1, none⟩) (by simp only; omega) (.int .i64 0)
    have KM : Kept w ((w1.setCell ⟨w.heap.size + 1 + 1 + 1, 0, none⟩ (.int .i64 5)).setCell ⟨w.heap.size + 1 + 1 + 1, 1, none⟩ (.int .i64 0)) := by
      repeat refine Kept.setCell ?_ (by simp only; omega) _
      exact KX
    clear C1 C2 C3 C4 KX
    generalize (w1.setCell ⟨w.heap.size + 1 + 1 + 1, 0, none⟩ (.int .i64 5)).setCell ⟨w.heap.size + 1 + 1 + 1, 1, none⟩ (.int .i64 0) = W6 at *
    have c1 := M1.cell
    have l1 := M1.lt
    have c2 := M2.cell
    have l2 := M2.lt
    have c4 := M4.cell
    have l4 := M4.lt
    go_wp2_with (first
      | (go_at_call 67; refine (HV.out _ _ _ KM).mono ?_; rintro e w7 ⟨rfl, k7⟩; have N1 := M1.kept k7; have n1c := N1.cell; have n1l := N1.lt; have N4 := M4.kept k7; have n4c := N4.cell; have n4l := N4.lt; have N3 := M3.kept k7; have n3c := N3.cell; have n3l := N3.lt; have n3f := N3.frozen)
      | (go_at_call 135; refine (HO.out _ _).mono ?_; rintro e w8 ⟨rfl, rfl⟩))
    have BW := (N3.set_ 0 (.int .i64 5)).set_ 1 (.int .i64 0)
    have KF : Kept w ((w7.setCell ⟨w.heap.size + 1 + 1, 0, none⟩ (.int .i64 5)).setCell ⟨w.heap.size + 1 + 1, 1, none⟩ (.int .i64 0)) := by
      repeat refine Kept.setCell ?_ (by simp only; omega) _
      exact KM.trans k7
    generalize (w7.setCell ⟨w.heap.size + 1 + 1, 0, none⟩ (.int .i64 5)).setCell ⟨w.heap.size + 1 + 1, 1, none⟩ (.int .i64 0) = WW at *
    have bw := BW.cell
    exact bodyPost_ret (v := .tuple #[.agg #[.int .i64 5, .int .i64 0], .bool (vtB 5 0 ms)]) (by simp [results, Tryz.results125, go_sem, bw]) rfl ⟨_, _, _, rfl, KF⟩
  · -- 6
    obtain ⟨m, rfl⟩ : ∃ m : Nat, N = m := ⟨N.toNat, by have := H6.out rfl; omega⟩
    obtain ⟨q, w1⟩ : ∃ q : Nat, (m : Int) / 16 = q := ⟨m / 16, by omega⟩
    go_enter Tryz.func125, Tryz.ntmps125
    go_upto_region 2 with fail
    obtain ⟨B1, B2, B3, B4⟩ := (Kept.refl ((((w.alloc (.cells #[.int .i64 6, .int .i64 (m : Int)] 171)).alloc (.cells #[.slice AE nE ce, .slice AT nT cT, .slice AI nI cI, .slice AD nD cD, .slice AM nM cM, .bool hm] 137)).alloc (.cells #[.int .i64 0, .int .i64 0] 47)).alloc (.cells #[.int .i64 0, .int .i64 0] 47))).blk4
    have KK := K0.out
    generalize (((w.alloc (.cells #[.int .i64 6, .int .i64 (m : Int)] 171)).alloc (.cells #[.slice AE nE ce, .slice AT nT cT, .slice AI nI cI, .slice AD nD cD, .slice AM nM cM, .bool hm] 137)).alloc (.cells #[.int .i64 0, .int .i64 0] 47)).alloc (.cells #[.int .i64 0, .int .i64 0] 47) = W at *
    have c1 := B1.cell
    have l1 := B1.lt
    have c2 := B2.cell
    have l2 := B2.lt
    have c4 := B4.cell
    have l4 := B4.lt
    have f4 := B4.frozen
    go_upto_region 19 with fail
    have C1 := B1
    have C2 := B2
    have C3 := B3
    have C4 := B4
    have KX := KK
    clear c1 c2 c4 l1 l2 l4 f4
    have M4 := (C4.set_ 0 (.int .i64 6)).set_ 1 (.int .i64 (q : Int))
    have M1 := (C1.far (p := ⟨w.heap.size + 1 + 1 + 1, 0, none⟩) (by simp only; omega) (.int .i64 6)).far (p := ⟨w.heap.size + 1 + 1 + 1, 1, none⟩) (by simp only; omega) (.int .i64 (q : Int))
    have M2 := (C2.far (p := ⟨w.heap.size + 1 + 1 + 1, 0, none⟩) (by simp only; omega) (.int .i64 6)).far (p := ⟨w.heap.size + 1 + 1 + 1, 1, none⟩) (by simp only; omega) (.int .i64 (q : Int))
    have M3 := (C3.far (p := ⟨w.heap.size + 1 + 1 + 1, 0, none⟩) (by simp only; omega) (.int .i64 6)).far (p := ⟨w.heap.size + 1 + 1 + 1, 1, none⟩) (by simp only; omega) (.int .i64 (q : Int))
    have KM : Kept w ((W.setCell ⟨w.heap.size + 1 + 1 + 1, 0, none⟩ (.int .i64 6)).setCell ⟨w.heap.size + 1 + 1 + 1, 1, none⟩ (.int .i64 (q : Int))) := by
      repeat refine Kept.setCell ?_ (by simp only; omega) _
      exact KX
    clear C1 C2 C3 C4 KX
    generalize (W.setCell ⟨w.heap.size + 1 + 1 + 1, 0, none⟩ (.int .i64 6)).setCell ⟨w.heap.size + 1 + 1 + 1, 1, none⟩ (.int .i64 (q : Int)) = W6 at *
    have c1 := M1.cell
    have l1 := M1.lt
    have c2 := M2.cell
    have l2 := M2.lt
    have c4 := M4.cell
    have l4 := M4.lt
    go_wp2_with (first
      | (go_at_call 67; refine (HV.out _ _ _ KM).mono ?_; rintro e w7 ⟨rfl, k7⟩; have N1 := M1.kept k7; have n1c := N1.cell; have n1l := N1.lt; have N4 := M4.kept k7; have n4c := N4.cell; have n4l := N4.lt; have N3 := M3.kept k7; have n3c := N3.cell; have n3l := N3.lt; have n3f := N3.frozen)
      | (go_at_call 135; refine (HO.out _ _).mono ?_; rintro e w8 ⟨rfl, rfl⟩))
    have BW := (N3.set_ 0 (.int .i64 6)).set_ 1 (.int .i64 (q : Int))
    have KF : Kept w ((w7.setCell ⟨w.heap.size + 1 + 1, 0, none⟩ (.int .i64 6)).setCell ⟨w.heap.size + 1 + 1, 1, none⟩ (.int .i64 (q : Int))) := by
      repeat refine Kept.setCell ?_ (by simp only; omega) _
      exact KM.trans k7
    generalize (w7.setCell ⟨w.heap.size + 1 + 1, 0, none⟩ (.int .i64 6)).setCell ⟨w.heap.size + 1 + 1, 1, none⟩ (.int .i64 (q : Int)) = WW at *
    have bw := BW.cell
    exact bodyPost_ret (v := .tuple #[.agg #[.int .i64 6, .int .i64 (q : Int)], .bool (vtB 6 q ms)]) (by simp [results, Tryz.results125, go_sem, bw]) rfl ⟨_, _, _, rfl, KF⟩
  · -- 7
    obtain ⟨hF0, hF1⟩ : 0 ≤ N ∧ N < nI := HF.out.1 rfl
    obtain ⟨j, rfl⟩ : ∃ j : Nat, N = j := ⟨N.toNat, by omega⟩
    obtain ⟨hn, hx⟩ := HI.out
    obtain ⟨b, off, rfl, hb, hc⟩ := hx (by omega)
    obtain ⟨⟨tk, t0⟩, ⟨te, t1⟩⟩ := hc j (by omega)
    clear hc hx HI HD HMM HF
    go_enter Tryz.func125, Tryz.ntmps125
    go_upto_region 2 with fail
    obtain ⟨B1, B2, B3, B4⟩ := (Kept.refl ((((w.alloc (.cells #[.int .i64 7, .int .i64 (j : Int)] 171)).alloc (.cells #[.slice AE nE ce, .slice AT nT cT, .slice (some ⟨b, off, none⟩) nI cI, .slice AD nD cD, .slice AM nM cM, .bool hm] 137)).alloc (.cells #[.int .i64 0, .int .i64 0] 47)).alloc (.cells #[.int .i64 0, .int .i64 0] 47))).blk4
    have KK := K0.out
    generalize (((w.alloc (.cells #[.int .i64 7, .int .i64 (j : Int)] 171)).alloc (.cells #[.slice AE nE ce, .slice AT nT cT, .slice (some ⟨b, off, none⟩) nI cI, .slice AD nD cD, .slice AM nM cM, .bool hm] 137)).alloc (.cells #[.int .i64 0, .int .i64 0] 47)).alloc (.cells #[.int .i64 0, .int .i64 0] 47) = W at *
    have x0 := KK.cell (p := ⟨b, _, none⟩) hb t0
    have x1 := KK.cell (p := ⟨b, _, none⟩) hb t1
    have hbW := Nat.lt_of_lt_of_le hb KK.size
    have c1 := B1.cell
    have l1 := B1.lt
    have c2 := B2.cell
    have l2 := B2.lt
    have c4 := B4.cell
    have l4 := B4.lt
    have f4 := B4.frozen
    go_upto_region 19 with fail
    have C1 := B1
    have C2 := B2
    have C3 := B3
    have C4 := B4
    have KX := KK
    clear c1 c2 c4 l1 l2 l4 f4 x0 x1 hbW
    have M4 := (C4.set_ 0 (.int .i64 tk)).set_ 1 (.int .i64 te)
    have M1 := (C1.far (p := ⟨w.heap.size + 1 + 1 + 1, 0, none⟩) (by simp only; omega) (.int .i64 tk)).far (p := ⟨w.heap.size + 1 + 1 + 1, 1, none⟩) (by simp only; omega) (.int .i64 te)
    have M2 := (C2.far (p := ⟨w.heap.size + 1 + 1 + 1, 0, none⟩) (by simp only; omega) (.int .i64 tk)).far (p := ⟨w.heap.size + 1 + 1 + 1, 1, none⟩) (by simp only; omega) (.int .i64 te)
    have M3 := (C3.far (p := ⟨w.heap.size + 1 + 1 + 1, 0, none⟩) (by simp only; omega) (.int .i64 tk)).far (p := ⟨w.heap.size + 1 + 1 + 1, 1, none⟩) (by simp only; omega) (.int .i64 te)
    have KM : Kept w ((W.setCell ⟨w.heap.size + 1 + 1 + 1, 0, none⟩ (.int .i64 tk)).setCell ⟨w.heap.size + 1 + 1 + 1, 1, none⟩ (.int .i64 te)) := by
      repeat refine Kept.setCell ?_ (by simp only; omega) _
      exact KX
    clear C1 C2 C3 C4 KX
    generalize (W.setCell ⟨w.heap.size + 1 + 1 + 1, 0, none⟩ (.int .i64 tk)).setCell ⟨w.heap.size + 1 + 1 + 1, 1, none⟩ (.int .i64 te) = W6 at *
    have c1 := M1.cell
    have l1 := M1.lt
    have c2 := M2.cell
    have l2 := M2.lt
    have c4 := M4.cell
    have l4 := M4.lt
    go_wp2_with (first
      | (go_at_call 67; refine (HV.out _ _ _ KM).mono ?_; rintro e w7 ⟨rfl, k7⟩; have N1 := M1.kept k7; have n1c := N1.cell; have n1l := N1.lt; have N4 := M4.kept k7; have n4c := N4.cell; have n4l := N4.lt; have N3 := M3.kept k7; have n3c := N3.cell; have n3l := N3.lt; have n3f := N3.frozen)
      | (go_at_call 135; refine (HO.out _ _).mono ?_; rintro e w8 ⟨rfl, rfl⟩))
    have BW := (N3.set_ 0 (.int .i64 tk)).set_ 1 (.int .i64 te)
    have KF : Kept w ((w7.setCell ⟨w.heap.size + 1 + 1, 0, none⟩ (.int .i64 tk)).setCell ⟨w.heap.size + 1 + 1, 1, none⟩ (.int .i64 te)) := by
      repeat refine Kept.setCell ?_ (by simp only; omega) _
      exact KM.trans k7
    generalize (w7.setCell ⟨w.heap.size + 1 + 1, 0, none⟩ (.int .i64 tk)).setCell ⟨w.heap.size + 1 + 1, 1, none⟩ (.int .i64 te) = WW at *
    have bw := BW.cell
    exact bodyPost_ret (v := .tuple #[.agg #[.int .i64 tk, .int .i64 te], .bool (vtB tk te ms)]) (by simp [results, Tryz.results125, go_sem, bw]) rfl ⟨_, _, _, rfl, KF⟩
  · -- 8
    obtain ⟨hF0, hF1⟩ : 0 ≤ N ∧ N < nD := HF.out.2.1 rfl
    obtain ⟨j, rfl⟩ : ∃ j : Nat, N = j := ⟨N.toNat, by omega⟩
    obtain ⟨hn, hx⟩ := HD.out
    obtain ⟨b, off, rfl, hb, hc⟩ := hx (by omega)
    obtain ⟨⟨tk, t0⟩, ⟨te, t1⟩⟩ := hc j (by omega)
    clear hc hx HI HD HMM HF
    go_enter Tryz.func125, Tryz.ntmps125
    go_upto_region 2 with fail
    obtain ⟨B1, B2, B3, B4⟩ := (Kept.refl ((((w.alloc (.cells #[.int .i64 8, .int .i64 (j : Int)] 171)).alloc (.cells #[.slice AE nE ce, .slice AT nT cT, .slice AI nI cI, .slice (some ⟨b, off, none⟩) nD cD, .slice AM nM cM, .bool hm] 137)).alloc (.cells #[.int .i64 0, .int .i64 0] 47)).alloc (.cells #[.int .i64 0, .int .i64 0] 47))).blk4
    have KK := K0.out
    generalize (((w.alloc (.cells #[.int .i64 8, .int .i64 (j : Int)] 171)).alloc (.cells #[.slice AE nE ce, .slice AT nT cT, .slice AI nI cI, .slice (some ⟨b, off, none⟩) nD cD, .slice AM nM cM, .bool hm] 137)).alloc (.cells #[.int .i64 0, .int .i64 0] 47)).alloc (.cells #[.int .i64 0, .int .i64 0] 47) = W at *
    have x0 := KK.cell (p := ⟨b, _, none⟩) hb t0
    have x1 := KK.cell (p := ⟨b, _, none⟩) hb t1
    have hbW := Nat.lt_of_lt_of_le hb KK.size
    have c1 := B1.cell
    have l1 := B1.lt
    have c2 := B2.cell
    have l2 := B2.lt
    have c4 := B4.cell
    have l4 := B4.lt
    have f4 := B4.frozen
    go_upto_region 19 with fail
    have C1 := B1
    have C2 := B2
    have C3 := B3
    have C4 := B4
    have KX := KK
    clear c1 c2 c4 l1 l2 l4 f4 x0 x1 hbW
    have M4 := (C4.set_ 0 (.int .i64 tk)).set_ 1 (.int .i64 te)
    have M1 := (C1.far (p := ⟨w.heap.size + 1 + 1 + 1, 0, none⟩) (by simp only; omega) (.int .i64 tk)).far (p := ⟨w.heap.size + 1 + 1 + 1, 1, none⟩) (by simp only; omega) (.int .i64 te)
    have M2 := (C2.far (p := ⟨w.heap.size + 1 + 1 + 1, 0, none⟩) (by simp only; omega) (.int .i64 tk)).far (p := ⟨w.heap.size + 1 + 1 + 1, 1, none⟩) (by simp only; omega) (.int .i64 te)
    have M3 := (C3.far (p := ⟨w.heap.size + 1 + 1 + 1, 0, none⟩) (by simp only; omega) (.int .i64 tk)).far (p := ⟨w.heap.size + 1 + 1 + 1, 1, none⟩) (by simp only; omega) (.int .i64 te)
    have KM : Kept w ((W.setCell ⟨w.heap.size + 1 + 1 + 1, 0, none⟩ (.int .i64 tk)).setCell ⟨w.heap.size + 1 + 1 + 1, 1, none⟩ (.int .i64 te)) := by
      repeat refine Kept.setCell ?_ (by simp only; omega) _
      exact KX
    clear C1 C2 C3 C4 KX
    generalize (W.setCell ⟨w.heap.size + 1 + 1 + 1, 0, none⟩ (.int .i64 tk)).setCell ⟨w.heap.size + 1 + 1 + 1, 1, none⟩ (.int .i64 te) = W6 at *
    have c1 := M1.cell
    have l1 := M1.lt
    have c2 := M2.cell
    have l2 := M2.lt
    have c4 := M4.cell
    have l4 := M4.lt
    go_wp2_with (first
      | (go_at_call 67; refine (HV.out _ _ _ KM).mono ?_; rintro e w7 ⟨rfl, k7⟩; have N1 := M1.kept k7; have n1c := N1.cell; have n1l := N1.lt; have N4 := M4.kept k7; have n4c := N4.cell; have n4l := N4.lt; have N3 := M3.kept k7; have n3c := N3.cell; have n3l := N3.lt; have n3f := N3.frozen)
      | (go_at_call 135; refine (HO.out _ _).mono ?_; rintro e w8 ⟨rfl, rfl⟩))
    have BW := (N3.set_ 0 (.int .i64 tk)).set_ 1 (.int .i64 te)
    have KF : Kept w ((w7.setCell ⟨w.heap.size + 1 + 1, 0, none⟩ (.int .i64 tk)).setCell ⟨w.heap.size + 1 + 1, 1, none⟩ (.int .i64 te)) := by
      repeat refine Kept.setCell ?_ (by simp only; omega) _
      exact KM.trans k7
    generalize (w7.setCell ⟨w.heap.size + 1 + 1, 0, none⟩ (.int .i64 tk)).setCell ⟨w.heap.size + 1 + 1, 1, none⟩ (.int .i64 te) = WW at *
    have bw := BW.cell
    exact bodyPost_ret (v := .tuple #[.agg #[.int .i64 tk, .int .i64 te], .bool (vtB tk te ms)]) (by simp [results, Tryz.results125, go_sem, bw]) rfl ⟨_, _, _, rfl, KF⟩
  · -- 9
    go_enter Tryz.func125, Tryz.ntmps125
    go_upto_region 2 with fail
    obtain ⟨B1, B2, B3, B4⟩ := (Kept.refl ((((w.alloc (.cells #[.int .i64 9, .int .i64 N] 171)).alloc (.cells #[.slice AE nE ce, .slice AT nT cT, .slice AI nI cI, .slice AD nD cD, .slice AM nM cM, .bool hm] 137)).alloc (.cells #[.int .i64 0, .int .i64 0] 47)).alloc (.cells #[.int .i64 0, .int .i64 0] 47))).blk4
    have KK := K0.out
    generalize (((w.alloc (.cells #[.int .i64 9, .int .i64 N] 171)).alloc (.cells #[.slice AE nE ce, .slice AT nT cT, .slice AI nI cI, .slice AD nD cD, .slice AM nM cM, .bool hm] 137)).alloc (.cells #[.int .i64 0, .int .i64 0] 47)).alloc (.cells #[.int .i64 0, .int .i64 0] 47) = W at *
    have c1 := B1.cell
    have l1 := B1.lt
    have c2 := B2.cell
    have l2 := B2.lt
    have c4 := B4.cell
    have l4 := B4.lt
    have f4 := B4.frozen
    go_upto_region 19 with (go_at_call 134; refine (HK.out _ _).mono ?_; rintro e w1 ⟨rfl, k1⟩; have C4 := B4.kept k1; have cc4 := C4.cell; have ll4 := C4.lt; have ff4 := C4.frozen)
    have C1 := B1.kept k1
    have C2 := B2.kept k1
    have C3 := B3.kept k1
    have KX := KK.trans k1
    clear cc4 ll4 ff4
    clear c1 c2 c4 l1 l2 l4 f4
    have M4 := (C4.set_ 0 (.int .i64 5)).set_ 1 (.int .i64 0)
    have M1 := (C1.far (p := ⟨w.heap.size + 1 + 1 + 1, 0, none⟩) (by simp only; omega) (.int .i64 5)).far (p := ⟨w.heap.size + 1 + 1 + 1, 1, none⟩) (by simp only; omega) (.int .i64 0)
    have M2 := (C2.far (p := ⟨w.heap.size + 1 + 1 + 1, 0, none⟩) (by simp only; omega) (.int .i64 5)).far (p := ⟨w.heap.size + 1 + 1 + 1, 1, none⟩) (by simp only; omega) (.int .i64 0)
    have M3 := (C3.far (p := ⟨w.heap.size + 1 + 1 + 1, 0, none⟩) (by simp only; omega) (.int .i64 5)).far (p := ⟨w.heap.size + 1 + 1 + 1, 1, none⟩) (by simp only; omega) (.int .i64 0)
    have KM : Kept w ((w1.setCell ⟨w.heap.size + 1 + 1 + 1, 0, none⟩ (.int .i64 5)).setCell ⟨w.heap.size + 1 + 1 + 1, 1, none⟩ (.int .i64 0)) := by
      repeat refine Kept.setCell ?_ (by simp only; omega) _
      exact KX
    clear C1 C2 C3 C4 KX
    generalize (w1.setCell ⟨w.heap.size + 1 + 1 + 1, 0, none⟩ (.int .i64 5)).setCell ⟨w.heap.size + 1 + 1 + 1, 1, none⟩ (.int .i64 0) = W6 at *
    have c1 := M1.cell
    have l1 := M1.lt
    have c2 := M2.cell
    have l2 := M2.lt
    have c4 := M4.cell
    have l4 := M4.lt
    go_wp2_with (first
      | (go_at_call 67; refine (HV.out _ _ _ KM).mono ?_; rintro e w7 ⟨rfl, k7⟩; have N1 := M1.kept k7; have n1c := N1.cell; have n1l := N1.lt; have N4 := M4.kept k7; have n4c := N4.cell; have n4l := N4.lt; have N3 := M3.kept k7; have n3c := N3.cell; have n3l := N3.lt; have n3f := N3.frozen)
      | (go_at_call 135; refine (HO.out _ _).mono ?_; rintro e w8 ⟨rfl, rfl⟩))
    have BW := (N3.set_ 0 (.int .i64 5)).set_ 1 (.int .i64 0)
    have KF : Kept w ((w7.setCell ⟨w.heap.size + 1 + 1, 0, none⟩ (.int .i64 5)).setCell ⟨w.heap.size + 1 + 1, 1, none⟩ (.int .i64 0)) := by
      repeat refine Kept.setCell ?_ (by simp only; omega) _
      exact KM.trans k7
    generalize (w7.setCell ⟨w.heap.size + 1 + 1, 0, none⟩ (.int .i64 5)).setCell ⟨w.heap.size + 1 + 1, 1, none⟩ (.int .i64 0) = WW at *
    have bw := BW.cell
    exact bodyPost_ret (v := .tuple #[.agg #[.int .i64 5, .int .i64 0], .bool (vtB 5 0 ms)]) (by simp [results, Tryz.results125, go_sem, bw]) rfl ⟨_, _, _, rfl, KF⟩
  · -- 35
    go_enter Tryz.func125, Tryz.ntmps125
    go_upto_region 2 with fail
    obtain ⟨B1, B2, B3, B4⟩ := (Kept.refl ((((w.alloc (.cells #[.int .i64 35, .int .i64 N] 171)).alloc (.cells #[.slice AE nE ce, .slice AT nT cT, .slice AI nI cI, .slice AD nD cD, .slice AM nM cM, .bool hm] 137)).alloc (.cells #[.int .i64 0, .int .i64 0] 47)).alloc (.cells #[.int .i64 0, .int .i64 0] 47))).blk4
    have KK := K0.out
    generalize (((w.alloc (.cells #[.int .i64 35, .int .i64 N] 171)).alloc (.cells #[.slice AE nE ce, .slice AT nT cT, .slice AI nI cI, .slice AD nD cD, .slice AM nM cM, .bool hm] 137)).alloc (.cells #[.int .i64 0, .int .i64 0] 47)).alloc (.cells #[.int .i64 0, .int .i64 0] 47) = W at *
    have c1 := B1.cell
    have l1 := B1.lt
    have c2 := B2.cell
    have l2 := B2.lt
    have c4 := B4.cell
    have l4 := B4.lt
    have f4 := B4.frozen
    go_upto_region 19 with (go_at_call 134; refine (HK.out _ _).mono ?_; rintro e w1 ⟨rfl, k1⟩; have C4 := B4.kept k1; have cc4 := C4.cell; have ll4 := C4.lt; have ff4 := C4.frozen)
    have C1 := B1.kept k1
    have C2 := B2.kept k1
    have C3 := B3.kept k1
    have KX := KK.trans k1
    clear cc4 ll4 ff4
    clear c1 c2 c4 l1 l2 l4 f4
    have M4 := (C4.set_ 0 (.int .i64 2)).set_ 1 (.int .i64 0)
    have M1 := (C1.far (p := ⟨w.heap.size + 1 + 1 + 1, 0, none⟩) (by simp only; omega) (.int .i64 2)).far (p := ⟨w.heap.size + 1 + 1 + 1, 1, none⟩) (by simp only; omega) (.int .i64 0)
    have M2 := (C2.far (p := ⟨w.heap.size + 1 + 1 + 1, 0, none⟩) (by simp only; omega) (.int .i64 2)).far (p := ⟨w.heap.size + 1 + 1 + 1, 1, none⟩) (by simp only; omega) (.int .i64 0)
    have M3 := (C3.far (p := ⟨w.heap.size + 1 + 1 + 1, 0, none⟩) (by simp only; omega) (.int .i64 2)).far (p := ⟨w.heap.size + 1 + 1 + 1, 1, none⟩) (by simp only; omega) (.int .i64 0)
    have KM : Kept w ((w1.setCell ⟨w.heap.size + 1 + 1 + 1, 0, none⟩ (.int .i64 2)).setCell ⟨w.heap.size + 1 + 1 + 1, 1, none⟩ (.int .i64 0)) := by
      repeat refine Kept.setCell ?_ (by simp only; omega) _
      exact KX
    clear C1 C2 C3 C4 KX
    generalize (w1.setCell ⟨w.heap.size + 1 + 1 + 1, 0, none⟩ (.int .i64 2)).setCell ⟨w.heap.size + 1 + 1 + 1, 1, none⟩ (.int .i64 0) = W6 at *
    have c1 := M1.cell
    have l1 := M1.lt
    have c2 := M2.cell
    have l2 := M2.lt
    have c4 := M4.cell
    have l4 := M4.lt
    go_wp2_with (first
      | (go_at_call 67; refine (HV.out _ _ _ KM).mono ?_; rintro e w7 ⟨rfl, k7⟩; have N1 := M1.kept k7; have n1c := N1.cell; have n1l := N1.lt; have N4 := M4.kept k7; have n4c := N4.cell; have n4l := N4.lt; have N3 := M3.kept k7; have n3c := N3.cell; have n3l := N3.lt; have n3f := N3.frozen)
      | (go_at_call 135; refine (HO.out _ _).mono ?_; rintro e w8 ⟨rfl, rfl⟩))
    have BW := (N3.set_ 0 (.int .i64 2)).set_ 1 (.int .i64 0)
    have KF : Kept w ((w7.setCell ⟨w.heap.size + 1 + 1, 0, none⟩ (.int .i64 2)).setCell ⟨w.heap.size + 1 + 1, 1, none⟩ (.int .i64 0)) := by
      repeat refine Kept.setCell ?_ (by simp only; omega) _
      exact KM.trans k7
    generalize (w7.setCell ⟨w.heap.size + 1 + 1, 0, none⟩ (.int .i64 2)).setCell ⟨w.heap.size + 1 + 1, 1, none⟩ (.int .i64 0) = WW at *
    have bw := BW.cell
    exact bodyPost_ret (v := .tuple #[.agg #[.int .i64 2, .int .i64 0], .bool (vtB 2 0 ms)]) (by simp [results, Tryz.results125, go_sem, bw]) rfl ⟨_, _, _, rfl, KF⟩
  · -- 36
    obtain ⟨hF0, hF1⟩ : 0 ≤ N ∧ N < nM := HF.out.2.2.2.2 ⟨by decide, by decide⟩
    obtain ⟨j, rfl⟩ : ∃ j : Nat, N = j := ⟨N.toNat, by omega⟩
    obtain ⟨hn, hx⟩ := HMM.out
    obtain ⟨b, off, rfl, hb, hc⟩ := hx (by omega)
    obtain ⟨⟨tk, t0⟩, ⟨te, t1⟩⟩ := hc j (by omega)
    clear hc hx HI HD HMM HF
    have HVV := Lib.hid (HV.out tk te)
    clear HV
    generalize vtB tk te ms = vb at *
    cases vb
    · skip
      go_enter Tryz.func125, Tryz.ntmps125
      go_upto_region 2 with fail
      obtain ⟨B1, B2, B3, B4⟩ := (Kept.refl ((((w.alloc (.cells #[.int .i64 36, .int .i64 (j : Int)] 171)).alloc (.cells #[.slice AE nE ce, .slice AT nT cT, .slice AI nI cI, .slice AD nD cD, .slice (some ⟨b, off, none⟩) nM cM, .bool hm] 137)).alloc (.cells #[.int .i64 0, .int .i64 0] 47)).alloc (.cells #[.int .i64 0, .int .i64 0] 47))).blk4
      have KK := K0.out
      generalize (((w.alloc (.cells #[.int .i64 36, .int .i64 (j : Int)] 171)).alloc (.cells #[.slice AE nE ce, .slice AT nT cT, .slice AI nI cI, .slice AD nD cD, .slice (some ⟨b, off, none⟩) nM cM, .bool hm] 137)).alloc (.cells #[.int .i64 0, .int .i64 0] 47)).alloc (.cells #[.int .i64 0, .int .i64 0] 47) = W at *
      have x0 := KK.cell (p := ⟨b, _, none⟩) hb t0
      have x1 := KK.cell (p := ⟨b, _, none⟩) hb t1
      have hbW := Nat.lt_of_lt_of_le hb KK.size
      have c1 := B1.cell
      have l1 := B1.lt
      have c2 := B2.cell
      have l2 := B2.lt
      have c4 := B4.cell
      have l4 := B4.lt
      have f4 := B4.frozen
      go_upto_region 19 with fail
      have C1 := B1
      have C2 := B2
      have C3 := B3
      have C4 := B4
      have KX := KK
      clear c1 c2 c4 l1 l2 l4 f4 x0 x1 hbW
      have M4 := (C4.set_ 0 (.int .i64 tk)).set_ 1 (.int .i64 te)
      have M1 := (C1.far (p := ⟨w.heap.size + 1 + 1 + 1, 0, none⟩) (by simp only; omega) (.int .i64 tk)).far (p := ⟨w.heap.size + 1 + 1 + 1, 1, none⟩) (by simp only; omega) (.int .i64 te)
      have M2 := (C2.far (p := ⟨w.heap.size + 1 + 1 + 1, 0, none⟩) (by simp only; omega) (.int .i64 tk)).far (p := ⟨w.heap.size + 1 + 1 + 1, 1, none⟩) (by simp only; omega) (.int .i64 te)
      have M3 := (C3.far (p := ⟨w.heap.size + 1 + 1 + 1, 0, none⟩) (by simp only; omega) (.int .i64 tk)).far (p := ⟨w.heap.size + 1 + 1 + 1, 1, none⟩) (by simp only; omega) (.int .i64 te)
      have KM : Kept w ((W.setCell ⟨w.heap.size + 1 + 1 + 1, 0, none⟩ (.int .i64 tk)).setCell ⟨w.heap.size + 1 + 1 + 1, 1, none⟩ (.int .i64 te)) := by
        repeat refine Kept.setCell ?_ (by simp only; omega) _
        exact KX
      clear C1 C2 C3 C4 KX
      generalize (W.setCell ⟨w.heap.size + 1 + 1 + 1, 0, none⟩ (.int .i64 tk)).setCell ⟨w.heap.size + 1 + 1 + 1, 1, none⟩ (.int .i64 te) = W6 at *
      have c1 := M1.cell
      have l1 := M1.lt
      have c2 := M2.cell
      have l2 := M2.lt
      have c4 := M4.cell
      have l4 := M4.lt
      go_wp2_with (first
        | (go_at_call 67; refine (HVV.out _ KM).mono ?_; rintro e w7 ⟨rfl, k7⟩; have N1 := M1.kept k7; have n1c := N1.cell; have n1l := N1.lt; have N4 := M4.kept k7; have n4c := N4.cell; have n4l := N4.lt; have N3 := M3.kept k7; have n3c := N3.cell; have n3l := N3.lt; have n3f := N3.frozen)
        | (go_at_call 135; refine (HO.out _ _).mono ?_; rintro e w8 ⟨rfl, rfl⟩))
      have BW := (N3.set_ 0 (.int .i64 tk)).set_ 1 (.int .i64 te)
      have KF : Kept w ((w7.setCell ⟨w.heap.size + 1 + 1, 0, none⟩ (.int .i64 tk)).setCell ⟨w.heap.size + 1 + 1, 1, none⟩ (.int .i64 te)) := by
        repeat refine Kept.setCell ?_ (by simp only; omega) _
        exact KM.trans k7
      generalize (w7.setCell ⟨w.heap.size + 1 + 1, 0, none⟩ (.int .i64 tk)).setCell ⟨w.heap.size + 1 + 1, 1, none⟩ (.int .i64 te) = WW at *
      have bw := BW.cell
      exact bodyPost_ret (v := .tuple #[.agg #[.int .i64 tk, .int .i64 te], .bool (false)]) (by simp [results, Tryz.results125, go_sem, bw]) rfl ⟨_, _, _, rfl, KF⟩
    · skip
      by_cases h2 : tk = 2
      · subst h2
        go_enter Tryz.func125, Tryz.ntmps125
        go_upto_region 2 with fail
        obtain ⟨B1, B2, B3, B4⟩ := (Kept.refl ((((w.alloc (.cells #[.int .i64 36, .int .i64 (j : Int)] 171)).alloc (.cells #[.slice AE nE ce, .slice AT nT cT, .slice AI nI cI, .slice AD nD cD, .slice (some ⟨b, off, none⟩) nM cM, .bool hm] 137)).alloc (.cells #[.int .i64 0, .int .i64 0] 47)).alloc (.cells #[.int .i64 0, .int .i64 0] 47))).blk4
        have KK := K0.out
        generalize (((w.alloc (.cells #[.int .i64 36, .int .i64 (j : Int)] 171)).alloc (.cells #[.slice AE nE ce, .slice AT nT cT, .slice AI nI cI, .slice AD nD cD, .slice (some ⟨b, off, none⟩) nM cM, .bool hm] 137)).alloc (.cells #[.int .i64 0, .int .i64 0] 47)).alloc (.cells #[.int .i64 0, .int .i64 0] 47) = W at *
        have x0 := KK.cell (p := ⟨b, _, none⟩) hb t0
        have x1 := KK.cell (p := ⟨b, _, none⟩) hb t1
        have hbW := Nat.lt_of_lt_of_le hb KK.size
        have c1 := B1.cell
        have l1 := B1.lt
        have c2 := B2.cell
        have l2 := B2.lt
        have c4 := B4.cell
        have l4 := B4.lt
        have f4 := B4.frozen
        go_upto_region 19 with fail
        have C1 := B1
        have C2 := B2
        have C3 := B3
        have C4 := B4
        have KX := KK
        clear c1 c2 c4 l1 l2 l4 f4 x0 x1 hbW
        have M4 := (C4.set_ 0 (.int .i64 2)).set_ 1 (.int .i64 te)
        have M1 := (C1.far (p := ⟨w.heap.size + 1 + 1 + 1, 0, none⟩) (by simp only; omega) (.int .i64 2)).far (p := ⟨w.heap.size + 1 + 1 + 1, 1, none⟩) (by simp only; omega) (.int .i64 te)
        have M2 := (C2.far (p := ⟨w.heap.size + 1 + 1 + 1, 0, none⟩) (by simp only; omega) (.int .i64 2)).far (p := ⟨w.heap.size + 1 + 1 + 1, 1, none⟩) (by simp only; omega) (.int .i64 te)
        have M3 := (C3.far (p := ⟨w.heap.size + 1 + 1 + 1, 0, none⟩) (by simp only; omega) (.int .i64 2)).far (p := ⟨w.heap.size + 1 + 1 + 1, 1, none⟩) (by simp only; omega) (.int .i64 te)
        have KM : Kept w ((W.setCell ⟨w.heap.size + 1 + 1 + 1, 0, none⟩ (.int .i64 2)).setCell ⟨w.heap.size + 1 + 1 + 1, 1, none⟩ (.int .i64 te)) := by
          repeat refine Kept.setCell ?_ (by simp only; omega) _
          exact KX
        clear C1 C2 C3 C4 KX
        generalize (W.setCell ⟨w.heap.size + 1 + 1 + 1, 0, none⟩ (.int .i64 2)).setCell ⟨w.heap.size + 1 + 1 + 1, 1, none⟩ (.int .i64 te) = W6 at *
        have c1 := M1.cell
        have l1 := M1.lt
        have c2 := M2.cell
        have l2 := M2.lt
        have c4 := M4.cell
        have l4 := M4.lt
        go_wp2_with (first
          | (go_at_call 67; refine (HVV.out _ KM).mono ?_; rintro e w7 ⟨rfl, k7⟩; have N1 := M1.kept k7; have n1c := N1.cell; have n1l := N1.lt; have N4 := M4.kept k7; have n4c := N4.cell; have n4l := N4.lt; have N3 := M3.kept k7; have n3c := N3.cell; have n3l := N3.lt; have n3f := N3.frozen)
          | (go_at_call 135; refine (HO.out _ _).mono ?_; rintro e w8 ⟨rfl, rfl⟩))
        have BW := (N3.set_ 0 (.int .i64 2)).set_ 1 (.int .i64 te)
        have KF : Kept w ((w7.setCell ⟨w.heap.size + 1 + 1, 0, none⟩ (.int .i64 2)).setCell ⟨w.heap.size + 1 + 1, 1, none⟩ (.int .i64 te)) := by
          repeat refine Kept.setCell ?_ (by simp only; omega) _
          exact KM.trans k7
        generalize (w7.setCell ⟨w.heap.size + 1 + 1, 0, none⟩ (.int .i64 2)).setCell ⟨w.heap.size + 1 + 1, 1, none⟩ (.int .i64 te) = WW at *
        have bw := BW.cell
        exact bodyPost_ret (v := .tuple #[.agg #[.int .i64 2, .int .i64 te], .bool (true)]) (by simp [results, Tryz.results125, go_sem, bw]) rfl ⟨_, _, _, rfl, KF⟩
      · have q2 := bne_k h2
        go_enter Tryz.func125, Tryz.ntmps125
        go_upto_region 2 with fail
        obtain ⟨B1, B2, B3, B4⟩ := (Kept.refl ((((w.alloc (.cells #[.int .i64 36, .int .i64 (j : Int)] 171)).alloc (.cells #[.slice AE nE ce, .slice AT nT cT, .slice AI nI cI, .slice AD nD cD, .slice (some ⟨b, off, none⟩) nM cM, .bool hm] 137)).alloc (.cells #[.int .i64 0, .int .i64 0] 47)).alloc (.cells #[.int .i64 0, .int .i64 0] 47))).blk4
        have KK := K0.out
        generalize (((w.alloc (.cells #[.int .i64 36, .int .i64 (j : Int)] 171)).alloc (.cells #[.slice AE nE ce, .slice AT nT cT, .slice AI nI cI, .slice AD nD cD, .slice (some ⟨b, off, none⟩) nM cM, .bool hm] 137)).alloc (.cells #[.int .i64 0, .int .i64 0] 47)).alloc (.cells #[.int .i64 0, .int .i64 0] 47) = W at *
        have x0 := KK.cell (p := ⟨b, _, none⟩) hb t0
        have x1 := KK.cell (p := ⟨b, _, none⟩) hb t1
        have hbW := Nat.lt_of_lt_of_le hb KK.size
        have c1 := B1.cell
        have l1 := B1.lt
        have c2 := B2.cell
        have l2 := B2.lt
        have c4 := B4.cell
        have l4 := B4.lt
        have f4 := B4.frozen
        go_upto_region 19 with fail
        have C1 := B1
        have C2 := B2
        have C3 := B3
        have C4 := B4
        have KX := KK
        clear c1 c2 c4 l1 l2 l4 f4 x0 x1 hbW
        have M4 := (C4.set_ 0 (.int .i64 tk)).set_ 1 (.int .i64 te)
        have M1 := (C1.far (p := ⟨w.heap.size + 1 + 1 + 1, 0, none⟩) (by simp only; omega) (.int .i64 tk)).far (p := ⟨w.heap.size + 1 + 1 + 1, 1, none⟩) (by simp only; omega) (.int .i64 te)
        have M2 := (C2.far (p := ⟨w.heap.size + 1 + 1 + 1, 0, none⟩) (by simp only; omega) (.int .i64 tk)).far (p := ⟨w.heap.size + 1 + 1 + 1, 1, none⟩) (by simp only; omega) (.int .i64 te)
        have M3 := (C3.far (p := ⟨w.heap.size + 1 + 1 + 1, 0, none⟩) (by simp only; omega) (.int .i64 tk)).far (p := ⟨w.heap.size + 1 + 1 + 1, 1, none⟩) (by simp only; omega) (.int .i64 te)
        have KM : Kept w ((W.setCell ⟨w.heap.size + 1 + 1 + 1, 0, none⟩ (.int .i64 tk)).setCell ⟨w.heap.size + 1 + 1 + 1, 1, none⟩ (.int .i64 te)) := by
          repeat refine Kept.setCell ?_ (by simp only; omega) _
          exact KX
        clear C1 C2 C3 C4 KX
        generalize (W.setCell ⟨w.heap.size + 1 + 1 + 1, 0, none⟩ (.int .i64 tk)).setCell ⟨w.heap.size + 1 + 1 + 1, 1, none⟩ (.int .i64 te) = W6 at *
        have c1 := M1.cell
        have l1 := M1.lt
        have c2 := M2.cell
        have l2 := M2.lt
        have c4 := M4.cell
        have l4 := M4.lt
        go_wp2_with (first
          | (go_at_call 67; refine (HVV.out _ KM).mono ?_; rintro e w7 ⟨rfl, k7⟩; have N1 := M1.kept k7; have n1c := N1.cell; have n1l := N1.lt; have N4 := M4.kept k7; have n4c := N4.cell; have n4l := N4.lt; have N3 := M3.kept k7; have n3c := N3.cell; have n3l := N3.lt; have n3f := N3.frozen)
          | (go_at_call 135; refine (HO.out _ _).mono ?_; rintro e w8 ⟨rfl, rfl⟩))
        have BW := (N3.set_ 0 (.int .i64 tk)).set_ 1 (.int .i64 te)
        have KF : Kept w ((w7.setCell ⟨w.heap.size + 1 + 1, 0, none⟩ (.int .i64 tk)).setCell ⟨w.heap.size + 1 + 1, 1, none⟩ (.int .i64 te)) := by
          repeat refine Kept.setCell ?_ (by simp only; omega) _
          exact KM.trans k7
        generalize (w7.setCell ⟨w.heap.size + 1 + 1, 0, none⟩ (.int .i64 tk)).setCell ⟨w.heap.size + 1 + 1, 1, none⟩ (.int .i64 te) = WW at *
        have bw := BW.cell
        exact bodyPost_ret (v := .tuple #[.agg #[.int .i64 tk, .int .i64 te], .bool (tk == 3)]) (by simp [results, Tryz.results125, go_sem, bw]) rfl ⟨_, _, _, rfl, KF⟩
  · -- 37
    obtain ⟨hF0, hF1⟩ : 0 ≤ N ∧ N < nM := HF.out.2.2.2.2 ⟨by decide, by decide⟩
    obtain ⟨j, rfl⟩ : ∃ j : Nat, N = j := ⟨N.toNat, by omega⟩
    obtain ⟨hn, hx⟩ := HMM.out
    obtain ⟨b, off, rfl, hb, hc⟩ := hx (by omega)
    obtain ⟨⟨tk, t0⟩, ⟨te, t1⟩⟩ := hc j (by omega)
    clear hc hx HI HD HMM HF
    have HVV := Lib.hid (HV.out tk te)
    clear HV
    generalize vtB tk te ms = vb at *
    cases vb
    · skip
      go_enter Tryz.func125, Tryz.ntmps125
      go_upto_region 2 with fail
      obtain ⟨B1, B2, B3, B4⟩ := (Kept.refl ((((w.alloc (.cells #[.int .i64 37, .int .i64 (j : Int)] 171)).alloc (.cells #[.slice AE nE ce, .slice AT nT cT, .slice AI nI cI, .slice AD nD cD, .slice (some ⟨b, off, none⟩) nM cM, .bool hm] 137)).alloc (.cells #[.int .i64 0, .int .i64 0] 47)).alloc (.cells #[.int .i64 0, .int .i64 0] 47))).blk4
      have KK := K0.out
      generalize (((w.alloc (.cells #[.int .i64 37, .int .i64 (j : Int)] 171)).alloc (.cells #[.slice AE nE ce, .slice AT nT cT, .slice AI nI cI, .slice AD nD cD, .slice (some ⟨b, off, none⟩) nM cM, .bool hm] 137)).alloc (.cells #[.int .i64 0, .int .i64 0] 47)).alloc (.cells #[.int .i64 0, .int .i64 0] 47) = W at *
      have x0 := KK.cell (p := ⟨b, _, none⟩) hb t0
      have x1 := KK.cell (p := ⟨b, _, none⟩) hb t1
      have hbW := Nat.lt_of_lt_of_le hb KK.size
      have c1 := B1.cell
      have l1 := B1.lt
      have c2 := B2.cell
      have l2 := B2.lt
      have c4 := B4.cell
      have l4 := B4.lt
      have f4 := B4.frozen
      go_upto_region 19 with fail
      have C1 := B1
      have C2 := B2
      have C3 := B3
      have C4 := B4
      have KX := KK
      clear c1 c2 c4 l1 l2 l4 f4 x0 x1 hbW
      have M4 := (C4.set_ 0 (.int .i64 tk)).set_ 1 (.int .i64 te)
      have M1 := (C1.far (p := ⟨w.heap.size + 1 + 1 + 1, 0, none⟩) (by simp only; omega) (.int .i64 tk)).far (p := ⟨w.heap.size + 1 + 1 + 1, 1, none⟩) (by simp only; omega) (.int .i64 te)
      have M2 := (C2.far (p := ⟨w.heap.size + 1 + 1 + 1, 0, none⟩) (by simp only; omega) (.int .i64 tk)).far (p := ⟨w.heap.size + 1 + 1 + 1, 1, none⟩) (by simp only; omega) (.int .i64 te)
      have M3 := (C3.far (p := ⟨w.heap.size + 1 + 1 + 1, 0, none⟩) (by simp only; omega) (.int .i64 tk)).far (p := ⟨w.heap.size + 1 + 1 + 1, 1, none⟩) (by simp only; omega) (.int .i64 te)
      have KM : Kept w ((W.setCell ⟨w.heap.size + 1 + 1 + 1, 0, none⟩ (.int .i64 tk)).setCell ⟨w.heap.size + 1 + 1 + 1, 1, none⟩ (.int .i64 te)) := by
        repeat refine Kept.setCell ?_ (by simp only; omega) _
        exact KX
      clear C1 C2 C3 C4 KX
      generalize (W.setCell ⟨w.heap.size + 1 + 1 + 1, 0, none⟩ (.int .i64 tk)).setCell ⟨w.heap.size + 1 + 1 + 1, 1, none⟩ (.int .i64 te) = W6 at *
      have c1 := M1.cell
      have l1 := M1.lt
      have c2 := M2.cell
      have l2 := M2.lt
      have c4 := M4.cell
      have l4 := M4.lt
      go_wp2_with (first
        | (go_at_call 67; refine (HVV.out _ KM).mono ?_; rintro e w7 ⟨rfl, k7⟩; have N1 := M1.kept k7; have n1c := N1.cell; have n1l := N1.lt; have N4 := M4.kept k7; have n4c := N4.cell; have n4l := N4.lt; have N3 := M3.kept k7; have n3c := N3.cell; have n3l := N3.lt; have n3f := N3.frozen)
        | (go_at_call 135; refine (HO.out _ _).mono ?_; rintro e w8 ⟨rfl, rfl⟩))
      have BW := (N3.set_ 0 (.int .i64 tk)).set_ 1 (.int .i64 te)
      have KF : Kept w ((w7.setCell ⟨w.heap.size + 1 + 1, 0, none⟩ (.int .i64 tk)).setCell ⟨w.heap.size + 1 + 1, 1, none⟩ (.int .i64 te)) := by
        repeat refine Kept.setCell ?_ (by simp only; omega) _
        exact KM.trans k7
      generalize (w7.setCell ⟨w.heap.size + 1 + 1, 0, none⟩ (.int .i64 tk)).setCell ⟨w.heap.size + 1 + 1, 1, none⟩ (.int .i64 te) = WW at *
      have bw := BW.cell
      exact bodyPost_ret (v := .tuple #[.agg #[.int .i64 tk, .int .i64 te], .bool (false)]) (by simp [results, Tryz.results125, go_sem, bw]) rfl ⟨_, _, _, rfl, KF⟩
    · skip
      go_enter Tryz.func125, Tryz.ntmps125
      go_upto_region 2 with fail
      obtain ⟨B1, B2, B3, B4⟩ := (Kept.refl ((((w.alloc (.cells #[.int .i64 37, .int .i64 (j : Int)] 171)).alloc (.cells #[.slice AE nE ce, .slice AT nT cT, .slice AI nI cI, .slice AD nD cD, .slice (some ⟨b, off, none⟩) nM cM, .bool hm] 137)).alloc (.cells #[.int .i64 0, .int .i64 0] 47)).alloc (.cells #[.int .i64 0, .int .i64 0] 47))).blk4
      have KK := K0.out
      generalize (((w.alloc (.cells #[.int .i64 37, .int .i64 (j : Int)] 171)).alloc (.cells #[.slice AE nE ce, .slice AT nT cT, .slice AI nI cI, .slice AD nD cD, .slice (some ⟨b, off, none⟩) nM cM, .bool hm] 137)).alloc (.cells #[.int .i64 0, .int .i64 0] 47)).alloc (.cells #[.int .i64 0, .int .i64 0] 47) = W at *
      have x0 := KK.cell (p := ⟨b, _, none⟩) hb t0
      have x1 := KK.cell (p := ⟨b, _, none⟩) hb t1
      have hbW := Nat.lt_of_lt_of_le hb KK.size
      have c1 := B1.cell
      have l1 := B1.lt
      have c2 := B2.cell
      have l2 := B2.lt
      have c4 := B4.cell
      have l4 := B4.lt
      have f4 := B4.frozen
      go_upto_region 19 with fail
      have C1 := B1
      have C2 := B2
      have C3 := B3
      have C4 := B4
      have KX := KK
      clear c1 c2 c4 l1 l2 l4 f4 x0 x1 hbW
      have M4 := (C4.set_ 0 (.int .i64 tk)).set_ 1 (.int .i64 te)
      have M1 := (C1.far (p := ⟨w.heap.size + 1 + 1 + 1, 0, none⟩) (by simp only; omega) (.int .i64 tk)).far (p := ⟨w.heap.size + 1 + 1 + 1, 1, none⟩) (by simp only; omega) (.int .i64 te)
      have M2 := (C2.far (p := ⟨w.heap.size + 1 + 1 + 1, 0, none⟩) (by simp only; omega) (.int .i64 tk)).far (p := ⟨w.heap.size + 1 + 1 + 1, 1, none⟩) (by simp only; omega) (.int .i64 te)
      have M3 := (C3.far (p := ⟨w.heap.size + 1 + 1 + 1, 0, none⟩) (by simp only; omega) (.int .i64 tk)).far (p := ⟨w.heap.size + 1 + 1 + 1, 1, none⟩) (by simp only; omega) (.int .i64 te)
      have KM : Kept w ((W.setCell ⟨w.heap.size + 1 + 1 + 1, 0, none⟩ (.int .i64 tk)).setCell ⟨w.heap.size + 1 + 1 + 1, 1, none⟩ (.int .i64 te)) := by
        repeat refine Kept.setCell ?_ (by simp only; omega) _
        exact KX
      clear C1 C2 C3 C4 KX
      generalize (W.setCell ⟨w.heap.size + 1 + 1 + 1, 0, none⟩ (.int .i64 tk)).setCell ⟨w.heap.size + 1 + 1 + 1, 1, none⟩ (.int .i64 te) = W6 at *
      have c1 := M1.cell
      have l1 := M1.lt
      have c2 := M2.cell
      have l2 := M2.lt
      have c4 := M4.cell
      have l4 := M4.lt
      go_wp2_with (first
        | (go_at_call 67; refine (HVV.out _ KM).mono ?_; rintro e w7 ⟨rfl, k7⟩; have N1 := M1.kept k7; have n1c := N1.cell; have n1l := N1.lt; have N4 := M4.kept k7; have n4c := N4.cell; have n4l := N4.lt; have N3 := M3.kept k7; have n3c := N3.cell; have n3l := N3.lt; have n3f := N3.frozen)
        | (go_at_call 135; refine (HO.out _ _).mono ?_; rintro e w8 ⟨rfl, rfl⟩))
      have BW := (N3.set_ 0 (.int .i64 tk)).set_ 1 (.int .i64 te)
      have KF : Kept w ((w7.setCell ⟨w.heap.size + 1 + 1, 0, none⟩ (.int .i64 tk)).setCell ⟨w.heap.size + 1 + 1, 1, none⟩ (.int .i64 te)) := by
        repeat refine Kept.setCell ?_ (by simp only; omega) _
        exact KM.trans k7
      generalize (w7.setCell ⟨w.heap.size + 1 + 1, 0, none⟩ (.int .i64 tk)).setCell ⟨w.heap.size + 1 + 1, 1, none⟩ (.int .i64 te) = WW at *
      have bw := BW.cell
      exact bodyPost_ret (v := .tuple #[.agg #[.int .i64 tk, .int .i64 te], .bool (tk == 1)]) (by simp [results, Tryz.results125, go_sem, bw]) rfl ⟨_, _, _, rfl, KF⟩
  · -- 38
    obtain ⟨hF0, hF1⟩ : 0 ≤ N ∧ N < nM := HF.out.2.2.2.2 ⟨by decide, by decide⟩
    obtain ⟨j, rfl⟩ : ∃ j : Nat, N = j := ⟨N.toNat, by omega⟩
    obtain ⟨hn, hx⟩ := HMM.out
    obtain ⟨b, off, rfl, hb, hc⟩ := hx (by omega)
    obtain ⟨⟨tk, t0⟩, ⟨te, t1⟩⟩ := hc j (by omega)
    clear hc hx HI HD HMM HF
    have HVV := Lib.hid (HV.out tk te)
    clear HV
    generalize vtB tk te ms = vb at *
    cases vb
    · skip
      go_enter Tryz.func125, Tryz.ntmps125
      go_upto_region 2 with fail
      obtain ⟨B1, B2, B3, B4⟩ := (Kept.refl ((((w.alloc (.cells #[.int .i64 38, .int .i64 (j : Int)] 171)).alloc (.cells #[.slice AE nE ce, .slice AT nT cT, .slice AI nI cI, .slice AD nD cD, .slice (some ⟨b, off, none⟩) nM cM, .bool hm] 137)).alloc (.cells #[.int .i64 0, .int .i64 0] 47)).alloc (.cells #[.int .i64 0, .int .i64 0] 47))).blk4
      have KK := K0.out
      generalize (((w.alloc (.cells #[.int .i64 38, .int .i64 (j : Int)] 171)).alloc (.cells #[.slice AE nE ce, .slice AT nT cT, .slice AI nI cI, .slice AD nD cD, .slice (some ⟨b, off, none⟩) nM cM, .bool hm] 137)).alloc (.cells #[.int .i64 0, .int .i64 0] 47)).alloc (.cells #[.int .i64 0, .int .i64 0] 47) = W at *
      have x0 := KK.cell (p := ⟨b, _, none⟩) hb t0
      have x1 := KK.cell (p := ⟨b, _, none⟩) hb t1
      have hbW := Nat.lt_of_lt_of_le hb KK.size
      have c1 := B1.cell
      have l1 := B1.lt
      have c2 := B2.cell
      have l2 := B2.lt
      have c4 := B4.cell
      have l4 := B4.lt
      have f4 := B4.frozen
      go_upto_region 19 with fail
      have C1 := B1
      have C2 := B2
      have C3 := B3
      have C4 := B4
      have KX := KK
      clear c1 c2 c4 l1 l2 l4 f4 x0 x1 hbW
      have M4 := (C4.set_ 0 (.int .i64 tk)).set_ 1 (.int .i64 te)
      have M1 := (C1.far (p := ⟨w.heap.size + 1 + 1 + 1, 0, none⟩) (by simp only; omega) (.int .i64 tk)).far (p := ⟨w.heap.size + 1 + 1 + 1, 1, none⟩) (by simp only; omega) (.int .i64 te)
      have M2 := (C2.far (p := ⟨w.heap.size + 1 + 1 + 1, 0, none⟩) (by simp only; omega) (.int .i64 tk)).far (p := ⟨w.heap.size + 1 + 1 + 1, 1, none⟩) (by simp only; omega) (.int .i64 te)
      have M3 := (C3.far (p := ⟨w.heap.size + 1 + 1 + 1, 0, none⟩) (by simp only; omega) (.int .i64 tk)).far (p := ⟨w.heap.size + 1 + 1 + 1, 1, none⟩) (by simp only; omega) (.int .i64 te)
      have KM : Kept w ((W.setCell ⟨w.heap.size + 1 + 1 + 1, 0, none⟩ (.int .i64 tk)).setCell ⟨w.heap.size + 1 + 1 + 1, 1, none⟩ (.int .i64 te)) := by
        repeat refine Kept.setCell ?_ (by simp only; omega) _
        exact KX
      clear C1 C2 C3 C4 KX
      generalize (W.setCell ⟨w.heap.size + 1 + 1 + 1, 0, none⟩ (.int .i64 tk)).setCell ⟨w.heap.size + 1 + 1 + 1, 1, none⟩ (.int .i64 te) = W6 at *
      have c1 := M1.cell
      have l1 := M1.lt
      have c2 := M2.cell
      have l2 := M2.lt
      have c4 := M4.cell
      have l4 := M4.lt
      go_wp2_with (first
        | (go_at_call 67; refine (HVV.out _ KM).mono ?_; rintro e w7 ⟨rfl, k7⟩; have N1 := M1.kept k7; have n1c := N1.cell; have n1l := N1.lt; have N4 := M4.kept k7; have n4c := N4.cell; have n4l := N4.lt; have N3 := M3.kept k7; have n3c := N3.cell; have n3l := N3.lt; have n3f := N3.frozen)
        | (go_at_call 135; refine (HO.out _ _).mono ?_; rintro e w8 ⟨rfl, rfl⟩))
      have BW := (N3.set_ 0 (.int .i64 tk)).set_ 1 (.int .i64 te)
      have KF : Kept w ((w7.setCell ⟨w.heap.size + 1 + 1, 0, none⟩ (.int .i64 tk)).setCell ⟨w.heap.size + 1 + 1, 1, none⟩ (.int .i64 te)) := by
        repeat refine Kept.setCell ?_ (by simp only; omega) _
        exact KM.trans k7
      generalize (w7.setCell ⟨w.heap.size + 1 + 1, 0, none⟩ (.int .i64 tk)).setCell ⟨w.heap.size + 1 + 1, 1, none⟩ (.int .i64 te) = WW at *
      have bw := BW.cell
      exact bodyPost_ret (v := .tuple #[.agg #[.int .i64 tk, .int .i64 te], .bool (false)]) (by simp [results, Tryz.results125, go_sem, bw]) rfl ⟨_, _, _, rfl, KF⟩
    · skip
      go_enter Tryz.func125, Tryz.ntmps125
      go_upto_region 2 with fail
      obtain ⟨B1, B2, B3, B4⟩ := (Kept.refl ((((w.alloc (.cells #[.int .i64 38, .int .i64 (j : Int)] 171)).alloc (.cells #[.slice AE nE ce, .slice AT nT cT, .slice AI nI cI, .slice AD nD cD, .slice (some ⟨b, off, none⟩) nM cM, .bool hm] 137)).alloc (.cells #[.int .i64 0, .int .i64 0] 47)).alloc (.cells #[.int .i64 0, .int .i64 0] 47))).blk4
      have KK := K0.out
      generalize (((w.alloc (.cells #[.int .i64 38, .int .i64 (j : Int)] 171)).alloc (.cells #[.slice AE nE ce, .slice AT nT cT, .slice AI nI cI, .slice AD nD cD, .slice (some ⟨b, off, none⟩) nM cM, .bool hm] 137)).alloc (.cells #[.int .i64 0, .int .i64 0] 47)).alloc (.cells #[.int .i64 0, .int .i64 0] 47) = W at *
      have x0 := KK.cell (p := ⟨b, _, none⟩) hb t0
      have x1 := KK.cell (p := ⟨b, _, none⟩) hb t1
      have hbW := Nat.lt_of_lt_of_le hb KK.size
      have c1 := B1.cell
      have l1 := B1.lt
      have c2 := B2.cell
      have l2 := B2.lt
      have c4 := B4.cell
      have l4 := B4.lt
      have f4 := B4.frozen
      go_upto_region 19 with fail
      have C1 := B1
      have C2 := B2
      have C3 := B3
      have C4 := B4
      have KX := KK
      clear c1 c2 c4 l1 l2 l4 f4 x0 x1 hbW
      have M4 := (C4.set_ 0 (.int .i64 tk)).set_ 1 (.int .i64 te)
      have M1 := (C1.far (p := ⟨w.heap.size + 1 + 1 + 1, 0, none⟩) (by simp only; omega) (.int .i64 tk)).far (p := ⟨w.heap.size + 1 + 1 + 1, 1, none⟩) (by simp only; omega) (.int .i64 te)
      have M2 := (C2.far (p := ⟨w.heap.size + 1 + 1 + 1, 0, none⟩) (by simp only; omega) (.int .i64 tk)).far (p := ⟨w.heap.size + 1 + 1 + 1, 1, none⟩) (by simp only; omega) (.int .i64 te)
      have M3 := (C3.far (p := ⟨w.heap.size + 1 + 1 + 1, 0, none⟩) (by simp only; omega) (.int .i64 tk)).far (p := ⟨w.heap.size + 1 + 1 + 1, 1, none⟩) (by simp only; omega) (.int .i64 te)
      have KM : Kept w ((W.setCell ⟨w.heap.size + 1 + 1 + 1, 0, none⟩ (.int .i64 tk)).setCell ⟨w.heap.size + 1 + 1 + 1, 1, none⟩ (.int .i64 te)) := by
        repeat refine Kept.setCell ?_ (by simp only; omega) _
        exact KX
      clear C1 C2 C3 C4 KX
      generalize (W.setCell ⟨w.heap.size + 1 + 1 + 1, 0, none⟩ (.int .i64 tk)).setCell ⟨w.heap.size + 1 + 1 + 1, 1, none⟩ (.int .i64 te) = W6 at *
      have c1 := M1.cell
      have l1 := M1.lt
      have c2 := M2.cell
      have l2 := M2.lt
      have c4 := M4.cell
      have l4 := M4.lt
      go_wp2_with (first
        | (go_at_call 67; refine (HVV.out _ KM).mono ?_; rintro e w7 ⟨rfl, k7⟩; have N1 := M1.kept k7; have n1c := N1.cell; have n1l := N1.lt; have N4 := M4.kept k7; have n4c := N4.cell; have n4l := N4.lt; have N3 := M3.kept k7; have n3c := N3.cell; have n3l := N3.lt; have n3f := N3.frozen)
        | (go_at_call 135; refine (HO.out _ _).mono ?_; rintro e w8 ⟨rfl, rfl⟩))
      have BW := (N3.set_ 0 (.int .i64 tk)).set_ 1 (.int .i64 te)
      have KF : Kept w ((w7.setCell ⟨w.heap.size + 1 + 1, 0, none⟩ (.int .i64 tk)).setCell ⟨w.heap.size + 1 + 1, 1, none⟩ (.int .i64 te)) := by
        repeat refine Kept.setCell ?_ (by simp only; omega) _
        exact KM.trans k7
      generalize (w7.setCell ⟨w.heap.size + 1 + 1, 0, none⟩ (.int .i64 tk)).setCell ⟨w.heap.size + 1 + 1, 1, none⟩ (.int .i64 te) = WW at *
      have bw := BW.cell
      exact bodyPost_ret (v := .tuple #[.agg #[.int .i64 tk, .int .i64 te], .bool (tk == 1)]) (by simp [results, Tryz.results125, go_sem, bw]) rfl ⟨_, _, _, rfl, KF⟩
  · -- 39
    obtain ⟨hF0, hF1⟩ : 0 ≤ N ∧ N < nM := HF.out.2.2.2.2 ⟨by decide, by decide⟩
    obtain ⟨j, rfl⟩ : ∃ j : Nat, N = j := ⟨N.toNat, by omega⟩
    obtain ⟨hn, hx⟩ := HMM.out
    obtain ⟨b, off, rfl, hb, hc⟩ := hx (by omega)
    obtain ⟨⟨tk, t0⟩, ⟨te, t1⟩⟩ := hc j (by omega)
    clear hc hx HI HD HMM HF
    have HVV := Lib.hid (HV.out tk te)
    clear HV
    generalize vtB tk te ms = vb at *
    cases vb
    · skip
      go_enter Tryz.func125, Tryz.ntmps125
      go_upto_region 2 with fail
      obtain ⟨B1, B2, B3, B4⟩ := (Kept.refl ((((w.alloc (.cells #[.int .i64 39, .int .i64 (j : Int)] 171)).alloc (.cells #[.slice AE nE ce, .slice AT nT cT, .slice AI nI cI, .slice AD nD cD, .slice (some ⟨b, off, none⟩) nM cM, .bool hm] 137)).alloc (.cells #[.int .i64 0, .int .i64 0] 47)).alloc (.cells #[.int .i64 0, .int .i64 0] 47))).blk4
      have KK := K0.out
      generalize (((w.alloc (.cells #[.int .i64 39, .int .i64 (j : Int)] 171)).alloc (.cells #[.slice AE nE ce, .slice AT nT cT, .slice AI nI cI, .slice AD nD cD, .slice (some ⟨b, off, none⟩) nM cM, .bool hm] 137)).alloc (.cells #[.int .i64 0, .int .i64 0] 47)).alloc (.cells #[.int .i64 0, .int .i64 0] 47) = W at *
      have x0 := KK.cell (p := ⟨b, _, none⟩) hb t0
      have x1 := KK.cell (p := ⟨b, _, none⟩) hb t1
      have hbW := Nat.lt_of_lt_of_le hb KK.size
      have c1 := B1.cell
      have l1 := B1.lt
      have c2 := B2.cell
      have l2 := B2.lt
      have c4 := B4.cell
      have l4 := B4.lt
      have f4 := B4.frozen
      go_upto_region 19 with fail
      have C1 := B1
      have C2 := B2
      have C3 := B3
      have C4 := B4
      have KX := KK
      clear c1 c2 c4 l1 l2 l4 f4 x0 x1 hbW
      have M4 := (C4.set_ 0 (.int .i64 tk)).set_ 1 (.int .i64 te)
      have M1 := (C1.far (p := ⟨w.heap.size + 1 + 1 + 1, 0, none⟩) (by simp only; omega) (.int .i64 tk)).far (p := ⟨w.heap.size + 1 + 1 + 1, 1, none⟩) (by simp only; omega) (.int .i64 te)
      have M2 := (C2.far (p := ⟨w.heap.size + 1 + 1 + 1, 0, none⟩) (by simp only; omega) (.int .i64 tk)).far (p := ⟨w.heap.size + 1 + 1 + 1, 1, none⟩) (by simp only; omega) (.int .i64 te)
      have M3 := (C3.far (p := ⟨w.heap.size + 1 + 1 + 1, 0, none⟩) (by simp only; omega) (.int .i64 tk)).far (p := ⟨w.heap.size + 1 + 1 + 1, 1, none⟩) (by simp only; omega) (.int .i64 te)
      have KM : Kept w ((W.setCell ⟨w.heap.size + 1 + 1 + 1, 0, none⟩ (.int .i64 tk)).setCell ⟨w.heap.size + 1 + 1 + 1, 1, none⟩ (.int .i64 te)) := by
        repeat refine Kept.setCell ?_ (by simp only; omega) _
        exact KX
      clear C1 C2 C3 C4 KX
      generalize (W.setCell ⟨w.heap.size + 1 + 1 + 1, 0, none⟩ (.int .i64 tk)).setCell ⟨w.heap.size + 1 + 1 + 1, 1, none⟩ (.int .i64 te) = W6 at *
      have c1 := M1.cell
      have l1 := M1.lt
      have c2 := M2.cell
      have l2 := M2.lt
      have c4 := M4.cell
      have l4 := M4.lt
      go_wp2_with (first
        | (go_at_call 67; refine (HVV.out _ KM).mono ?_; rintro e w7 ⟨rfl, k7⟩; have N1 := M1.kept k7; have n1c := N1.cell; have n1l := N1.lt; have N4 := M4.kept k7; have n4c := N4.cell; have n4l := N4.lt; have N3 := M3.kept k7; have n3c := N3.cell; have n3l := N3.lt; have n3f := N3.frozen)
        | (go_at_call 135; refine (HO.out _ _).mono ?_; rintro e w8 ⟨rfl, rfl⟩))
      have BW := (N3.set_ 0 (.int .i64 tk)).set_ 1 (.int .i64 te)
      have KF : Kept w ((w7.setCell ⟨w.heap.size + 1 + 1, 0, none⟩ (.int .i64 tk)).setCell ⟨w.heap.size + 1 + 1, 1, none⟩ (.int .i64 te)) := by
        repeat refine Kept.setCell ?_ (by simp only; omega) _
        exact KM.trans k7
      generalize (w7.setCell ⟨w.heap.size + 1 + 1, 0, none⟩ (.int .i64 tk)).setCell ⟨w.heap.size + 1 + 1, 1, none⟩ (.int .i64 te) = WW at *
      have bw := BW.cell
      exact bodyPost_ret (v := .tuple #[.agg #[.int .i64 tk, .int .i64 te], .bool (false)]) (by simp [results, Tryz.results125, go_sem, bw]) rfl ⟨_, _, _, rfl, KF⟩
    · skip
      go_enter Tryz.func125, Tryz.ntmps125
      go_upto_region 2 with fail
      obtain ⟨B1, B2, B3, B4⟩ := (Kept.refl ((((w.alloc (.cells #[.int .i64 39, .int .i64 (j : Int)] 171)).alloc (.cells #[.slice AE nE ce, .slice AT nT cT, .slice AI nI cI, .slice AD nD cD, .slice (some ⟨b, off, none⟩) nM cM, .bool hm] 137)).alloc (.cells #[.int .i64 0, .int .i64 0] 47)).alloc (.cells #[.int .i64 0, .int .i64 0] 47))).blk4
      have KK := K0.out
      generalize (((w.alloc (.cells #[.int .i64 39, .int .i64 (j : Int)] 171)).alloc (.cells #[.slice AE nE ce, .slice AT nT cT, .slice AI nI cI, .slice AD nD cD, .slice (some ⟨b, off, none⟩) nM cM, .bool hm] 137)).alloc (.cells #[.int .i64 0, .int .i64 0] 47)).alloc (.cells #[.int .i64 0, .int .i64 0] 47) = W at *
      have x0 := KK.cell (p := ⟨b, _, none⟩) hb t0
      have x1 := KK.cell (p := ⟨b, _, none⟩) hb t1
      have hbW := Nat.lt_of_lt_of_le hb KK.size
      have c1 := B1.cell
      have l1 := B1.lt
      have c2 := B2.cell
      have l2 := B2.lt
      have c4 := B4.cell
      have l4 := B4.lt
      have f4 := B4.frozen
      go_upto_region 19 with fail
      have C1 := B1
      have C2 := B2
      have C3 := B3
      have C4 := B4
      have KX := KK
      clear c1 c2 c4 l1 l2 l4 f4 x0 x1 hbW
      have M4 := (C4.set_ 0 (.int .i64 tk)).set_ 1 (.int .i64 te)
      have M1 := (C1.far (p := ⟨w.heap.size + 1 + 1 + 1, 0, none⟩) (by simp only; omega) (.int .i64 tk)).far (p := ⟨w.heap.size + 1 + 1 + 1, 1, none⟩) (by simp only; omega) (.int .i64 te)
      have M2 := (C2.far (p := ⟨w.heap.size + 1 + 1 + 1, 0, none⟩) (by simp only; omega) (.int .i64 tk)).far (p := ⟨w.heap.size + 1 + 1 + 1, 1, none⟩) (by simp only; omega) (.int .i64 te)
      have M3 := (C3.far (p := ⟨w.heap.size + 1 + 1 + 1, 0, none⟩) (by simp only; omega) (.int .i64 tk)).far (p := ⟨w.heap.size + 1 + 1 + 1, 1, none⟩) (by simp only; omega) (.int .i64 te)
      have KM : Kept w ((W.setCell ⟨w.heap.size + 1 + 1 + 1, 0, none⟩ (.int .i64 tk)).setCell ⟨w.heap.size + 1 + 1 + 1, 1, none⟩ (.int .i64 te)) := by
        repeat refine Kept.setCell ?_ (by simp only; omega) _
        exact KX
      clear C1 C2 C3 C4 KX
      generalize (W.setCell ⟨w.heap.size + 1 + 1 + 1, 0, none⟩ (.int .i64 tk)).setCell ⟨w.heap.size + 1 + 1 + 1, 1, none⟩ (.int .i64 te) = W6 at *
      have c1 := M1.cell
      have l1 := M1.lt
      have c2 := M2.cell
      have l2 := M2.lt
      have c4 := M4.cell
      have l4 := M4.lt
      go_wp2_with (first
        | (go_at_call 67; refine (HVV.out _ KM).mono ?_; rintro e w7 ⟨rfl, k7⟩; have N1 := M1.kept k7; have n1c := N1.cell; have n1l := N1.lt; have N4 := M4.kept k7; have n4c := N4.cell; have n4l := N4.lt; have N3 := M3.kept k7; have n3c := N3.cell; have n3l := N3.lt; have n3f := N3.frozen)
        | (go_at_call 135; refine (HO.out _ _).mono ?_; rintro e w8 ⟨rfl, rfl⟩))
      have BW := (N3.set_ 0 (.int .i64 tk)).set_ 1 (.int .i64 te)
      have KF : Kept w ((w7.setCell ⟨w.heap.size + 1 + 1, 0, none⟩ (.int .i64 tk)).setCell ⟨w.heap.size + 1 + 1, 1, none⟩ (.int .i64 te)) := by
        repeat refine Kept.setCell ?_ (by simp only; omega) _
        exact KM.trans k7
      generalize (w7.setCell ⟨w.heap.size + 1 + 1, 0, none⟩ (.int .i64 tk)).setCell ⟨w.heap.size + 1 + 1, 1, none⟩ (.int .i64 te) = WW at *
      have bw := BW.cell
      exact bodyPost_ret (v := .tuple #[.agg #[.int .i64 tk, .int .i64 te], .bool (ordB tk)]) (by simp [results, Tryz.results125, go_sem, bw]) rfl ⟨_, _, _, rfl, KF⟩
end Go.Proofs.YtjeifmjcgemlgaaGreatDoor
