/- The type of a node with one operand: the reference ends, if what the node refers to is there. -/
import Derived.Test.YtjeifmjcgemlgaaGreatDoorRtD
namespace Go.Proofs.YtjeifmjcgemlgaaGreatDoor
open Go.RowKit

set_option maxRecDepth 100000 in
set_option maxHeartbeats 16000000 in
theorem rsingle_k (op N ak ae : Int) (sv : Value) (ms : List (List ByteArray)) (nT nI nD nM : Nat) (w : World) (hS : SigD w sv ms nT nI nD nM) (hop : arS op = 1) (hF : FndQ op N nT nI nD nM) (h34 : op = 34 → 0 ≤ N) (h9 : N ≤ 9223372036854775807) :
    Calls Tryz.prog 126 #[.agg #[.int .i64 op, .int .i64 N], .agg #[.int .i64 ak, .int .i64 ae], sv] w (TyB w) := by
  have hops : op = 10 ∨ op = 25 ∨ op = 31 ∨ op = 32 ∨ op = 33 ∨ op = 34 := by
    unfold arS at hop
    split at hop
    · exact absurd hop (by decide)
    · split at hop
      · omega
      · split at hop
        · exact absurd hop (by decide)
        · split at hop
          · exact absurd hop (by decide)
          · exact absurd hop (by decide)
  obtain ⟨AE, ce, AT, cT, AI, cI, AD, cD, AM, cM, hm, rfl, hE, hT, hI, hD, hM⟩ := hS
  have HV := Lib.hid (fun k e (w1 : World) (h : Kept w w1) => rvtype_any k e (.slice AE ms.length ce) ms w1 (hE.kept h))
  have HK := Lib.hid (fun k w1 => rkind_k k w1)
  have HN := Lib.hid (fun k w1 => rnumber_k k w1)
  generalize ms.length = nE at *
  have HT := Lib.hid hT.items
  have HF := Lib.hid hF
  unfold FndQ at HF
  have H34 := Lib.hid h34
  have K0 := Lib.hid (((((Kept.refl w).alloc (.cells #[.int .i64 op, .int .i64 N] 171)).alloc (.cells #[.int .i64 ak, .int .i64 ae] 47)).alloc (.cells #[.slice AE nE ce, .slice AT nT cT, .slice AI nI cI, .slice AD nD cD, .slice AM nM cM, .bool hm] 137)).alloc (.cells #[.int .i64 0, .int .i64 0] 47))
  clear hE hT hI hD hM hF hop h34
  rcases hops with rfl | rfl | rfl | rfl | rfl | rfl
  · -- 10
    go_enter Tryz.func126, Tryz.ntmps126
    go_upto_region 1 with fail
    obtain ⟨B1, B2, B3, B4⟩ := (Kept.refl ((((w.alloc (.cells #[.int .i64 10, .int .i64 N] 171)).alloc (.cells #[.int .i64 ak, .int .i64 ae] 47)).alloc (.cells #[.slice AE nE ce, .slice AT nT cT, .slice AI nI cI, .slice AD nD cD, .slice AM nM cM, .bool hm] 137)).alloc (.cells #[.int .i64 0, .int .i64 0] 47))).blk4
    have KK := K0.out
    generalize (((w.alloc (.cells #[.int .i64 10, .int .i64 N] 171)).alloc (.cells #[.int .i64 ak, .int .i64 ae] 47)).alloc (.cells #[.slice AE nE ce, .slice AT nT cT, .slice AI nI cI, .slice AD nD cD, .slice AM nM cM, .bool hm] 137)).alloc (.cells #[.int .i64 0, .int .i64 0] 47) = W at *
    have c1 := B1.cell 0
    have l1 := B1.lt
    go_upto_region 3 with fail
    clear c1 l1
    have a0 := KG.cell (g := w.heap.size + 1 + 1 + 1) (T := 47) (by omega) B2.lt (B2.cell 0)
    have a1 := KG.cell (g := w.heap.size + 1 + 1 + 1) (T := 47) (by omega) B2.lt (B2.cell 1)
    try simp only [List.getElem?_toArray, List.getElem?_cons_zero, List.getElem?_cons_succ] at a0 a1
    have NE : Nonempty (KG W (w.heap.size + 1 + 1 + 1) 47) := KG.ne B4
    refine wp_region_store (C := fun w1 => ∃ x : KG W (w.heap.size + 1 + 1 + 1) 47, w1 = x.W) 4 _ (by kernel_rfl) (by kernel_rfl) rfl rfl (KG.start B4) ?_
    simp only [List.take_succ_cons, List.take_zero, List.drop_succ_cons, List.drop_zero]
    repeat (go_big_quiet_step (first | (go_at_call 134; exact KG.call (HK.out _ _)) | (go_at_call 136; exact KG.pure (HN.out _ _))))
    refine wpQuiet_nil ?_
    refine ⟨rfl, KG.store rfl rfl rfl (by kernel_rfl), ?_⟩
    repeat (go_big_quiet_step (fail))
    refine wpQuiet_nil ?_
    rintro w5 ⟨x5, rfl⟩
    obtain ⟨k5, e5, h5⟩ := x5.own
    have KX := KG.kept KK (by omega) x5
    have bw := h5.cell
    go_wp2_with fail
    exact bodyPost_ret (v := .tuple #[.agg #[.int .i64 k5, .int .i64 e5], .bool (numB ak)]) (by simp [results, Tryz.results126, go_sem, bw]) rfl ⟨_, _, _, rfl, KX⟩
  · -- 25
    go_enter Tryz.func126, Tryz.ntmps126
    go_upto_region 1 with fail
    obtain ⟨B1, B2, B3, B4⟩ := (Kept.refl ((((w.alloc (.cells #[.int .i64 25, .int .i64 N] 171)).alloc (.cells #[.int .i64 ak, .int .i64 ae] 47)).alloc (.cells #[.slice AE nE ce, .slice AT nT cT, .slice AI nI cI, .slice AD nD cD, .slice AM nM cM, .bool hm] 137)).alloc (.cells #[.int .i64 0, .int .i64 0] 47))).blk4
    have KK := K0.out
    generalize (((w.alloc (.cells #[.int .i64 25, .int .i64 N] 171)).alloc (.cells #[.int .i64 ak, .int .i64 ae] 47)).alloc (.cells #[.slice AE nE ce, .slice AT nT cT, .slice AI nI cI, .slice AD nD cD, .slice AM nM cM, .bool hm] 137)).alloc (.cells #[.int .i64 0, .int .i64 0] 47) = W at *
    have c1 := B1.cell 0
    have l1 := B1.lt
    go_upto_region 5 with fail
    clear c1 l1
    have a0 := KG.cell (g := w.heap.size + 1 + 1 + 1) (T := 47) (by omega) B2.lt (B2.cell 0)
    have a1 := KG.cell (g := w.heap.size + 1 + 1 + 1) (T := 47) (by omega) B2.lt (B2.cell 1)
    try simp only [List.getElem?_toArray, List.getElem?_cons_zero, List.getElem?_cons_succ] at a0 a1
    have NE : Nonempty (KG W (w.heap.size + 1 + 1 + 1) 47) := KG.ne B4
    refine wp_region_store (C := fun w1 => ∃ x : KG W (w.heap.size + 1 + 1 + 1) 47, w1 = x.W) 4 _ (by kernel_rfl) (by kernel_rfl) rfl rfl (KG.start B4) ?_
    simp only [List.take_succ_cons, List.take_zero, List.drop_succ_cons, List.drop_zero]
    repeat (go_big_quiet_step (first | (go_at_call 134; exact KG.call (HK.out _ _)) | (go_at_call 136; exact KG.pure (HN.out _ _))))
    refine wpQuiet_nil ?_
    refine ⟨rfl, KG.store rfl rfl rfl (by kernel_rfl), ?_⟩
    repeat (go_big_quiet_step (fail))
    refine wpQuiet_nil ?_
    rintro w5 ⟨x5, rfl⟩
    obtain ⟨k5, e5, h5⟩ := x5.own
    have KX := KG.kept KK (by omega) x5
    have bw := h5.cell
    go_wp2_with fail
    exact bodyPost_ret (v := .tuple #[.agg #[.int .i64 k5, .int .i64 e5], .bool (ak == 1)]) (by simp [results, Tryz.results126, go_sem, bw]) rfl ⟨_, _, _, rfl, KX⟩
  · -- 31
    go_enter Tryz.func126, Tryz.ntmps126
    go_upto_region 1 with fail
    obtain ⟨B1, B2, B3, B4⟩ := (Kept.refl ((((w.alloc (.cells #[.int .i64 31, .int .i64 N] 171)).alloc (.cells #[.int .i64 ak, .int .i64 ae] 47)).alloc (.cells #[.slice AE nE ce, .slice AT nT cT, .slice AI nI cI, .slice AD nD cD, .slice AM nM cM, .bool hm] 137)).alloc (.cells #[.int .i64 0, .int .i64 0] 47))).blk4
    have KK := K0.out
    generalize (((w.alloc (.cells #[.int .i64 31, .int .i64 N] 171)).alloc (.cells #[.int .i64 ak, .int .i64 ae] 47)).alloc (.cells #[.slice AE nE ce, .slice AT nT cT, .slice AI nI cI, .slice AD nD cD, .slice AM nM cM, .bool hm] 137)).alloc (.cells #[.int .i64 0, .int .i64 0] 47) = W at *
    have c1 := B1.cell 0
    have l1 := B1.lt
    go_upto_region 8 with fail
    clear c1 l1
    have a0 := KG.cell (g := w.heap.size + 1 + 1 + 1) (T := 47) (by omega) B2.lt (B2.cell 0)
    have a1 := KG.cell (g := w.heap.size + 1 + 1 + 1) (T := 47) (by omega) B2.lt (B2.cell 1)
    try simp only [List.getElem?_toArray, List.getElem?_cons_zero, List.getElem?_cons_succ] at a0 a1
    have NE : Nonempty (KG W (w.heap.size + 1 + 1 + 1) 47) := KG.ne B4
    refine wp_region_store (C := fun w1 => ∃ x : KG W (w.heap.size + 1 + 1 + 1) 47, w1 = x.W) 4 _ (by kernel_rfl) (by kernel_rfl) rfl rfl (KG.start B4) ?_
    simp only [List.take_succ_cons, List.take_zero, List.drop_succ_cons, List.drop_zero]
    repeat (go_big_quiet_step (first | (go_at_call 134; exact KG.call (HK.out _ _)) | (go_at_call 136; exact KG.pure (HN.out _ _))))
    refine wpQuiet_nil ?_
    refine ⟨rfl, KG.store rfl rfl rfl (by kernel_rfl), ?_⟩
    repeat (go_big_quiet_step (fail))
    refine wpQuiet_nil ?_
    rintro w5 ⟨x5, rfl⟩
    obtain ⟨k5, e5, h5⟩ := x5.own
    have KX := KG.kept KK (by omega) x5
    have bw := h5.cell
    go_wp2_with fail
    exact bodyPost_ret (v := .tuple #[.agg #[.int .i64 k5, .int .i64 e5], .bool (ak == 5)]) (by simp [results, Tryz.results126, go_sem, bw]) rfl ⟨_, _, _, rfl, KX⟩
  · -- 32
    go_enter Tryz.func126, Tryz.ntmps126
    go_upto_region 1 with fail
    obtain ⟨B1, B2, B3, B4⟩ := (Kept.refl ((((w.alloc (.cells #[.int .i64 32, .int .i64 N] 171)).alloc (.cells #[.int .i64 ak, .int .i64 ae] 47)).alloc (.cells #[.slice AE nE ce, .slice AT nT cT, .slice AI nI cI, .slice AD nD cD, .slice AM nM cM, .bool hm] 137)).alloc (.cells #[.int .i64 0, .int .i64 0] 47))).blk4
    have KK := K0.out
    generalize (((w.alloc (.cells #[.int .i64 32, .int .i64 N] 171)).alloc (.cells #[.int .i64 ak, .int .i64 ae] 47)).alloc (.cells #[.slice AE nE ce, .slice AT nT cT, .slice AI nI cI, .slice AD nD cD, .slice AM nM cM, .bool hm] 137)).alloc (.cells #[.int .i64 0, .int .i64 0] 47) = W at *
    have c1 := B1.cell 0
    have l1 := B1.lt
    go_upto_region 8 with fail
    clear c1 l1
    have a0 := KG.cell (g := w.heap.size + 1 + 1 + 1) (T := 47) (by omega) B2.lt (B2.cell 0)
    have a1 := KG.cell (g := w.heap.size + 1 + 1 + 1) (T := 47) (by omega) B2.lt (B2.cell 1)
    try simp only [List.getElem?_toArray, List.getElem?_cons_zero, List.getElem?_cons_succ] at a0 a1
    have NE : Nonempty (KG W (w.heap.size + 1 + 1 + 1) 47) := KG.ne B4
    refine wp_region_store (C := fun w1 => ∃ x : KG W (w.heap.size + 1 + 1 + 1) 47, w1 = x.W) 4 _ (by kernel_rfl) (by kernel_rfl) rfl rfl (KG.start B4) ?_
    simp only [List.take_succ_cons, List.take_zero, List.drop_succ_cons, List.drop_zero]
    repeat (go_big_quiet_step (first | (go_at_call 134; exact KG.call (HK.out _ _)) | (go_at_call 136; exact KG.pure (HN.out _ _))))
    refine wpQuiet_nil ?_
    refine ⟨rfl, KG.store rfl rfl rfl (by kernel_rfl), ?_⟩
    repeat (go_big_quiet_step (fail))
    refine wpQuiet_nil ?_
    rintro w5 ⟨x5, rfl⟩
    obtain ⟨k5, e5, h5⟩ := x5.own
    have KX := KG.kept KK (by omega) x5
    have bw := h5.cell
    go_wp2_with fail
    exact bodyPost_ret (v := .tuple #[.agg #[.int .i64 k5, .int .i64 e5], .bool (ak == 5)]) (by simp [results, Tryz.results126, go_sem, bw]) rfl ⟨_, _, _, rfl, KX⟩
  · -- 33
    obtain ⟨hF0, hF1⟩ : 0 ≤ N ∧ N < nT := HF.out.2.2.1 rfl
    obtain ⟨j, rfl⟩ : ∃ j : Nat, N = j := ⟨N.toNat, by omega⟩
    obtain ⟨hn, hx⟩ := HT.out
    obtain ⟨b, off, rfl, hb, hc⟩ := hx (by omega)
    obtain ⟨⟨nm, t0⟩, ⟨kk, t1⟩, ⟨ke, t2⟩, ⟨vk, t3⟩, ⟨ve, t4⟩, rv, t5, hrv⟩ := hc j (by omega)
    obtain ⟨Ar, nr, cr, rfl, -, -, -⟩ := hrv
    clear hc hx HF HT
    have HV1 := Lib.hid (HV.out kk ke)
    have HV2 := Lib.hid (HV.out vk ve)
    clear HV
    generalize vtB kk ke ms = v1 at *
    generalize vtB vk ve ms = v2 at *
    cases v1
    · skip
      go_enter Tryz.func126, Tryz.ntmps126
      go_upto_region 1 with fail
      obtain ⟨B1, B2, B3, B4⟩ := (Kept.refl ((((w.alloc (.cells #[.int .i64 33, .int .i64 (j : Int)] 171)).alloc (.cells #[.int .i64 ak, .int .i64 ae] 47)).alloc (.cells #[.slice AE nE ce, .slice (some ⟨b, off, none⟩) nT cT, .slice AI nI cI, .slice AD nD cD, .slice AM nM cM, .bool hm] 137)).alloc (.cells #[.int .i64 0, .int .i64 0] 47))).blk4
      have KK := K0.out
      generalize (((w.alloc (.cells #[.int .i64 33, .int .i64 (j : Int)] 171)).alloc (.cells #[.int .i64 ak, .int .i64 ae] 47)).alloc (.cells #[.slice AE nE ce, .slice (some ⟨b, off, none⟩) nT cT, .slice AI nI cI, .slice AD nD cD, .slice AM nM cM, .bool hm] 137)).alloc (.cells #[.int .i64 0, .int .i64 0] 47) = W at *
      have x0 := KK.cell (p := ⟨b, _, none⟩) hb t0
      have x1 := KK.cell (p := ⟨b, _, none⟩) hb t1
      have x2 := KK.cell (p := ⟨b, _, none⟩) hb t2
      have x3 := KK.cell (p := ⟨b, _, none⟩) hb t3
      have x4 := KK.cell (p := ⟨b, _, none⟩) hb t4
      have x5 := KK.cell (p := ⟨b, _, none⟩) hb t5
      have hbW := Nat.lt_of_lt_of_le hb KK.size
      have c1 := B1.cell
      have l1 := B1.lt
      have c3 := B3.cell
      have l3 := B3.lt
      go_upto_region 11 with fail
      clear c1 c3 l1 l3 x0 x1 x2 x3 x4 x5 hbW
      have B5 := Blk.new W 50 #[.string nm, .int .i64 kk, .int .i64 ke, .int .i64 vk, .int .i64 ve, .slice Ar nr cr]
      have hgW : w.heap.size + 1 + 1 + 1 < W.heap.size := B4.lt
      replace B1 := B1.alloc (.cells #[.string nm, .int .i64 kk, .int .i64 ke, .int .i64 vk, .int .i64 ve, .slice Ar nr cr] 50)
      replace B2 := B2.alloc (.cells #[.string nm, .int .i64 kk, .int .i64 ke, .int .i64 vk, .int .i64 ve, .slice Ar nr cr] 50)
      replace B3 := B3.alloc (.cells #[.string nm, .int .i64 kk, .int .i64 ke, .int .i64 vk, .int .i64 ve, .slice Ar nr cr] 50)
      replace B4 := B4.alloc (.cells #[.string nm, .int .i64 kk, .int .i64 ke, .int .i64 vk, .int .i64 ve, .slice Ar nr cr] 50)
      have KT := KK.alloc (.cells #[.string nm, .int .i64 kk, .int .i64 ke, .int .i64 vk, .int .i64 ve, .slice Ar nr cr] 50)
      generalize hgz : W.heap.size = gz at *
      generalize W.alloc (.cells #[.string nm, .int .i64 kk, .int .i64 ke, .int .i64 vk, .int .i64 ve, .slice Ar nr cr] 50) = W7 at *
      have a0 := KG.cell (g := w.heap.size + 1 + 1 + 1) (T := 47) (by omega) B2.lt (B2.cell 0)
      have a1 := KG.cell (g := w.heap.size + 1 + 1 + 1) (T := 47) (by omega) B2.lt (B2.cell 1)
      have s0 := KG.cell (g := w.heap.size + 1 + 1 + 1) (T := 47) (by omega) B3.lt (B3.cell 0)
      have d1 := KG.cell (g := w.heap.size + 1 + 1 + 1) (T := 47) (by omega) B5.lt (B5.cell 1)
      have d2 := KG.cell (g := w.heap.size + 1 + 1 + 1) (T := 47) (by omega) B5.lt (B5.cell 2)
      have d3 := KG.cell (g := w.heap.size + 1 + 1 + 1) (T := 47) (by omega) B5.lt (B5.cell 3)
      have d4 := KG.cell (g := w.heap.size + 1 + 1 + 1) (T := 47) (by omega) B5.lt (B5.cell 4)
      try simp only [List.getElem?_toArray, List.getElem?_cons_zero, List.getElem?_cons_succ] at a0 a1 s0 d1 d2 d3 d4
      have NE : Nonempty (KG W7 (w.heap.size + 1 + 1 + 1) 47) := KG.ne B4
      refine wp_region_store (C := fun w1 => ∃ x : KG W7 (w.heap.size + 1 + 1 + 1) 47, w1 = x.W) 20 _ (by kernel_rfl) (by kernel_rfl) rfl rfl (KG.start B4) ?_
      simp only [List.take_succ_cons, List.take_zero, List.drop_succ_cons, List.drop_zero]
      repeat (go_big_quiet_step (first | (go_at_call 134; exact KG.call (HK.out _ _)) | (go_at_call 136; exact KG.pure (HN.out _ _)) | (go_at_call 67; with_reducible exact KG.call (HV1.out _ (KG.kept KT (by omega) _))) | (go_at_call 67; with_reducible exact KG.call (HV2.out _ (KG.kept KT (by omega) _)))))
      refine wpQuiet_nil ?_
      refine ⟨rfl, KG.store rfl rfl rfl (by kernel_rfl), ?_⟩
      repeat (go_big_quiet_step (fail))
      refine wpQuiet_nil ?_
      rintro w5 ⟨x5, rfl⟩
      obtain ⟨k5, e5, h5⟩ := x5.own
      have KX := KG.kept KT (by omega) x5
      have bw := h5.cell
      go_wp2_with fail
      exact bodyPost_ret (v := .tuple #[.agg #[.int .i64 k5, .int .i64 e5], .bool (false)]) (by simp [results, Tryz.results126, go_sem, bw]) rfl ⟨_, _, _, rfl, KX⟩
    · cases v2
      · skip
        go_enter Tryz.func126, Tryz.ntmps126
        go_upto_region 1 with fail
        obtain ⟨B1, B2, B3, B4⟩ := (Kept.refl ((((w.alloc (.cells #[.int .i64 33, .int .i64 (j : Int)] 171)).alloc (.cells #[.int .i64 ak, .int .i64 ae] 47)).alloc (.cells #[.slice AE nE ce, .slice (some ⟨b, off, none⟩) nT cT, .slice AI nI cI, .slice AD nD cD, .slice AM nM cM, .bool hm] 137)).alloc (.cells #[.int .i64 0, .int .i64 0] 47))).blk4
        have KK := K0.out
        generalize (((w.alloc (.cells #[.int .i64 33, .int .i64 (j : Int)] 171)).alloc (.cells #[.int .i64 ak, .int .i64 ae] 47)).alloc (.cells #[.slice AE nE ce, .slice (some ⟨b, off, none⟩) nT cT, .slice AI nI cI, .slice AD nD cD, .slice AM nM cM, .bool hm] 137)).alloc (.cells #[.int .i64 0, .int .i64 0] 47) = W at *
        have x0 := KK.cell (p := ⟨b, _, none⟩) hb t0
        have x1 := KK.cell (p := ⟨b, _, none⟩) hb t1
        have x2 := KK.cell (p := ⟨b, _, none⟩) hb t2
        have x3 := KK.cell (p := ⟨b, _, none⟩) hb t3
        have x4 := KK.cell (p := ⟨b, _, none⟩) hb t4
        have x5 := KK.cell (p := ⟨b, _, none⟩) hb t5
        have hbW := Nat.lt_of_lt_of_le hb KK.size
        have c1 := B1.cell
        have l1 := B1.lt
        have c3 := B3.cell
        have l3 := B3.lt
        go_upto_region 11 with fail
        clear c1 c3 l1 l3 x0 x1 x2 x3 x4 x5 hbW
        have B5 := Blk.new W 50 #[.string nm, .int .i64 kk, .int .i64 ke, .int .i64 vk, .int .i64 ve, .slice Ar nr cr]
        have hgW : w.heap.size + 1 + 1 + 1 < W.heap.size := B4.lt
        replace B1 := B1.alloc (.cells #[.string nm, .int .i64 kk, .int .i64 ke, .int .i64 vk, .int .i64 ve, .slice Ar nr cr] 50)
        replace B2 := B2.alloc (.cells #[.string nm, .int .i64 kk, .int .i64 ke, .int .i64 vk, .int .i64 ve, .slice Ar nr cr] 50)
        replace B3 := B3.alloc (.cells #[.string nm, .int .i64 kk, .int .i64 ke, .int .i64 vk, .int .i64 ve, .slice Ar nr cr] 50)
        replace B4 := B4.alloc (.cells #[.string nm, .int .i64 kk, .int .i64 ke, .int .i64 vk, .int .i64 ve, .slice Ar nr cr] 50)
        have KT := KK.alloc (.cells #[.string nm, .int .i64 kk, .int .i64 ke, .int .i64 vk, .int .i64 ve, .slice Ar nr cr] 50)
        generalize hgz : W.heap.size = gz at *
        generalize W.alloc (.cells #[.string nm, .int .i64 kk, .int .i64 ke, .int .i64 vk, .int .i64 ve, .slice Ar nr cr] 50) = W7 at *
        have a0 := KG.cell (g := w.heap.size + 1 + 1 + 1) (T := 47) (by omega) B2.lt (B2.cell 0)
        have a1 := KG.cell (g := w.heap.size + 1 + 1 + 1) (T := 47) (by omega) B2.lt (B2.cell 1)
        have s0 := KG.cell (g := w.heap.size + 1 + 1 + 1) (T := 47) (by omega) B3.lt (B3.cell 0)
        have d1 := KG.cell (g := w.heap.size + 1 + 1 + 1) (T := 47) (by omega) B5.lt (B5.cell 1)
        have d2 := KG.cell (g := w.heap.size + 1 + 1 + 1) (T := 47) (by omega) B5.lt (B5.cell 2)
        have d3 := KG.cell (g := w.heap.size + 1 + 1 + 1) (T := 47) (by omega) B5.lt (B5.cell 3)
        have d4 := KG.cell (g := w.heap.size + 1 + 1 + 1) (T := 47) (by omega) B5.lt (B5.cell 4)
        try simp only [List.getElem?_toArray, List.getElem?_cons_zero, List.getElem?_cons_succ] at a0 a1 s0 d1 d2 d3 d4
        have NE : Nonempty (KG W7 (w.heap.size + 1 + 1 + 1) 47) := KG.ne B4
        refine wp_region_store (C := fun w1 => ∃ x : KG W7 (w.heap.size + 1 + 1 + 1) 47, w1 = x.W) 20 _ (by kernel_rfl) (by kernel_rfl) rfl rfl (KG.start B4) ?_
        simp only [List.take_succ_cons, List.take_zero, List.drop_succ_cons, List.drop_zero]
        repeat (go_big_quiet_step (first | (go_at_call 134; exact KG.call (HK.out _ _)) | (go_at_call 136; exact KG.pure (HN.out _ _)) | (go_at_call 67; with_reducible exact KG.call (HV1.out _ (KG.kept KT (by omega) _))) | (go_at_call 67; with_reducible exact KG.call (HV2.out _ (KG.kept KT (by omega) _)))))
        refine wpQuiet_nil ?_
        refine ⟨rfl, KG.store rfl rfl rfl (by kernel_rfl), ?_⟩
        repeat (go_big_quiet_step (fail))
        refine wpQuiet_nil ?_
        rintro w5 ⟨x5, rfl⟩
        obtain ⟨k5, e5, h5⟩ := x5.own
        have KX := KG.kept KT (by omega) x5
        have bw := h5.cell
        go_wp2_with fail
        exact bodyPost_ret (v := .tuple #[.agg #[.int .i64 k5, .int .i64 e5], .bool (false)]) (by simp [results, Tryz.results126, go_sem, bw]) rfl ⟨_, _, _, rfl, KX⟩
      · by_cases h1 : ak = kk
        · subst h1
          have e1 : (ak == ak) = true := by simp
          by_cases h2 : ae = ke
          · subst h2
            have e2 : (ae == ae) = true := by simp
            go_enter Tryz.func126, Tryz.ntmps126
            go_upto_region 1 with fail
            obtain ⟨B1, B2, B3, B4⟩ := (Kept.refl ((((w.alloc (.cells #[.int .i64 33, .int .i64 (j : Int)] 171)).alloc (.cells #[.int .i64 ak, .int .i64 ae] 47)).alloc (.cells #[.slice AE nE ce, .slice (some ⟨b, off, none⟩) nT cT, .slice AI nI cI, .slice AD nD cD, .slice AM nM cM, .bool hm] 137)).alloc (.cells #[.int .i64 0, .int .i64 0] 47))).blk4
            have KK := K0.out
            generalize (((w.alloc (.cells #[.int .i64 33, .int .i64 (j : Int)] 171)).alloc (.cells #[.int .i64 ak, .int .i64 ae] 47)).alloc (.cells #[.slice AE nE ce, .slice (some ⟨b, off, none⟩) nT cT, .slice AI nI cI, .slice AD nD cD, .slice AM nM cM, .bool hm] 137)).alloc (.cells #[.int .i64 0, .int .i64 0] 47) = W at *
            have x0 := KK.cell (p := ⟨b, _, none⟩) hb t0
            have x1 := KK.cell (p := ⟨b, _, none⟩) hb t1
            have x2 := KK.cell (p := ⟨b, _, none⟩) hb t2
            have x3 := KK.cell (p := ⟨b, _, none⟩) hb t3
            have x4 := KK.cell (p := ⟨b, _, none⟩) hb t4
            have x5 := KK.cell (p := ⟨b, _, none⟩) hb t5
            have hbW := Nat.lt_of_lt_of_le hb KK.size
            have c1 := B1.cell
            have l1 := B1.lt
            have c3 := B3.cell
            have l3 := B3.lt
            go_upto_region 11 with fail
            clear c1 c3 l1 l3 x0 x1 x2 x3 x4 x5 hbW
            have B5 := Blk.new W 50 #[.string nm, .int .i64 ak, .int .i64 ae, .int .i64 vk, .int .i64 ve, .slice Ar nr cr]
            have hgW : w.heap.size + 1 + 1 + 1 < W.heap.size := B4.lt
            replace B1 := B1.alloc (.cells #[.string nm, .int .i64 ak, .int .i64 ae, .int .i64 vk, .int .i64 ve, .slice Ar nr cr] 50)
            replace B2 := B2.alloc (.cells #[.string nm, .int .i64 ak, .int .i64 ae, .int .i64 vk, .int .i64 ve, .slice Ar nr cr] 50)
            replace B3 := B3.alloc (.cells #[.string nm, .int .i64 ak, .int .i64 ae, .int .i64 vk, .int .i64 ve, .slice Ar nr cr] 50)
            replace B4 := B4.alloc (.cells #[.string nm, .int .i64 ak, .int .i64 ae, .int .i64 vk, .int .i64 ve, .slice Ar nr cr] 50)
            have KT := KK.alloc (.cells #[.string nm, .int .i64 ak, .int .i64 ae, .int .i64 vk, .int .i64 ve, .slice Ar nr cr] 50)
            generalize hgz : W.heap.size = gz at *
            generalize W.alloc (.cells #[.string nm, .int .i64 ak, .int .i64 ae, .int .i64 vk, .int .i64 ve, .slice Ar nr cr] 50) = W7 at *
            have a0 := KG.cell (g := w.heap.size + 1 + 1 + 1) (T := 47) (by omega) B2.lt (B2.cell 0)
            have a1 := KG.cell (g := w.heap.size + 1 + 1 + 1) (T := 47) (by omega) B2.lt (B2.cell 1)
            have s0 := KG.cell (g := w.heap.size + 1 + 1 + 1) (T := 47) (by omega) B3.lt (B3.cell 0)
            have d1 := KG.cell (g := w.heap.size + 1 + 1 + 1) (T := 47) (by omega) B5.lt (B5.cell 1)
            have d2 := KG.cell (g := w.heap.size + 1 + 1 + 1) (T := 47) (by omega) B5.lt (B5.cell 2)
            have d3 := KG.cell (g := w.heap.size + 1 + 1 + 1) (T := 47) (by omega) B5.lt (B5.cell 3)
            have d4 := KG.cell (g := w.heap.size + 1 + 1 + 1) (T := 47) (by omega) B5.lt (B5.cell 4)
            try simp only [List.getElem?_toArray, List.getElem?_cons_zero, List.getElem?_cons_succ] at a0 a1 s0 d1 d2 d3 d4
            have NE : Nonempty (KG W7 (w.heap.size + 1 + 1 + 1) 47) := KG.ne B4
            refine wp_region_store (C := fun w1 => ∃ x : KG W7 (w.heap.size + 1 + 1 + 1) 47, w1 = x.W) 20 _ (by kernel_rfl) (by kernel_rfl) rfl rfl (KG.start B4) ?_
            simp only [List.take_succ_cons, List.take_zero, List.drop_succ_cons, List.drop_zero]
            repeat (go_big_quiet_step (first | (go_at_call 134; exact KG.call (HK.out _ _)) | (go_at_call 136; exact KG.pure (HN.out _ _)) | (go_at_call 67; with_reducible exact KG.call (HV1.out _ (KG.kept KT (by omega) _))) | (go_at_call 67; with_reducible exact KG.call (HV2.out _ (KG.kept KT (by omega) _)))))
            refine wpQuiet_nil ?_
            refine ⟨rfl, KG.store rfl rfl rfl (by kernel_rfl), ?_⟩
            repeat (go_big_quiet_step (fail))
            refine wpQuiet_nil ?_
            rintro w5 ⟨x5, rfl⟩
            obtain ⟨k5, e5, h5⟩ := x5.own
            have KX := KG.kept KT (by omega) x5
            have bw := h5.cell
            go_wp2_with fail
            exact bodyPost_ret (v := .tuple #[.agg #[.int .i64 k5, .int .i64 e5], .bool (true)]) (by simp [results, Tryz.results126, go_sem, bw]) rfl ⟨_, _, _, rfl, KX⟩
          · have e2 : (ae == ke) = false := by simpa using h2
            go_enter Tryz.func126, Tryz.ntmps126
            go_upto_region 1 with fail
            obtain ⟨B1, B2, B3, B4⟩ := (Kept.refl ((((w.alloc (.cells #[.int .i64 33, .int .i64 (j : Int)] 171)).alloc (.cells #[.int .i64 ak, .int .i64 ae] 47)).alloc (.cells #[.slice AE nE ce, .slice (some ⟨b, off, none⟩) nT cT, .slice AI nI cI, .slice AD nD cD, .slice AM nM cM, .bool hm] 137)).alloc (.cells #[.int .i64 0, .int .i64 0] 47))).blk4
            have KK := K0.out
            generalize (((w.alloc (.cells #[.int .i64 33, .int .i64 (j : Int)] 171)).alloc (.cells #[.int .i64 ak, .int .i64 ae] 47)).alloc (.cells #[.slice AE nE ce, .slice (some ⟨b, off, none⟩) nT cT, .slice AI nI cI, .slice AD nD cD, .slice AM nM cM, .bool hm] 137)).alloc (.cells #[.int .i64 0, .int .i64 0] 47) = W at *
            have x0 := KK.cell (p := ⟨b, _, none⟩) hb t0
            have x1 := KK.cell (p := ⟨b, _, none⟩) hb t1
            have x2 := KK.cell (p := ⟨b, _, none⟩) hb t2
            have x3 := KK.cell (p := ⟨b, _, none⟩) hb t3
            have x4 := KK.cell (p := ⟨b, _, none⟩) hb t4
            have x5 := KK.cell (p := ⟨b, _, none⟩) hb t5
            have hbW := Nat.lt_of_lt_of_le hb KK.size
            have c1 := B1.cell
            have l1 := B1.lt
            have c3 := B3.cell
            have l3 := B3.lt
            go_upto_region 11 with fail
            clear c1 c3 l1 l3 x0 x1 x2 x3 x4 x5 hbW
            have B5 := Blk.new W 50 #[.string nm, .int .i64 ak, .int .i64 ke, .int .i64 vk, .int .i64 ve, .slice Ar nr cr]
            have hgW : w.heap.size + 1 + 1 + 1 < W.heap.size := B4.lt
            replace B1 := B1.alloc (.cells #[.string nm, .int .i64 ak, .int .i64 ke, .int .i64 vk, .int .i64 ve, .slice Ar nr cr] 50)
            replace B2 := B2.alloc (.cells #[.string nm, .int .i64 ak, .int .i64 ke, .int .i64 vk, .int .i64 ve, .slice Ar nr cr] 50)
            replace B3 := B3.alloc (.cells #[.string nm, .int .i64 ak, .int .i64 ke, .int .i64 vk, .int .i64 ve, .slice Ar nr cr] 50)
            replace B4 := B4.alloc (.cells #[.string nm, .int .i64 ak, .int .i64 ke, .int .i64 vk, .int .i64 ve, .slice Ar nr cr] 50)
            have KT := KK.alloc (.cells #[.string nm, .int .i64 ak, .int .i64 ke, .int .i64 vk, .int .i64 ve, .slice Ar nr cr] 50)
            generalize hgz : W.heap.size = gz at *
            generalize W.alloc (.cells #[.string nm, .int .i64 ak, .int .i64 ke, .int .i64 vk, .int .i64 ve, .slice Ar nr cr] 50) = W7 at *
            have a0 := KG.cell (g := w.heap.size + 1 + 1 + 1) (T := 47) (by omega) B2.lt (B2.cell 0)
            have a1 := KG.cell (g := w.heap.size + 1 + 1 + 1) (T := 47) (by omega) B2.lt (B2.cell 1)
            have s0 := KG.cell (g := w.heap.size + 1 + 1 + 1) (T := 47) (by omega) B3.lt (B3.cell 0)
            have d1 := KG.cell (g := w.heap.size + 1 + 1 + 1) (T := 47) (by omega) B5.lt (B5.cell 1)
            have d2 := KG.cell (g := w.heap.size + 1 + 1 + 1) (T := 47) (by omega) B5.lt (B5.cell 2)
            have d3 := KG.cell (g := w.heap.size + 1 + 1 + 1) (T := 47) (by omega) B5.lt (B5.cell 3)
            have d4 := KG.cell (g := w.heap.size + 1 + 1 + 1) (T := 47) (by omega) B5.lt (B5.cell 4)
            try simp only [List.getElem?_toArray, List.getElem?_cons_zero, List.getElem?_cons_succ] at a0 a1 s0 d1 d2 d3 d4
            have NE : Nonempty (KG W7 (w.heap.size + 1 + 1 + 1) 47) := KG.ne B4
            refine wp_region_store (C := fun w1 => ∃ x : KG W7 (w.heap.size + 1 + 1 + 1) 47, w1 = x.W) 20 _ (by kernel_rfl) (by kernel_rfl) rfl rfl (KG.start B4) ?_
            simp only [List.take_succ_cons, List.take_zero, List.drop_succ_cons, List.drop_zero]
            repeat (go_big_quiet_step (first | (go_at_call 134; exact KG.call (HK.out _ _)) | (go_at_call 136; exact KG.pure (HN.out _ _)) | (go_at_call 67; with_reducible exact KG.call (HV1.out _ (KG.kept KT (by omega) _))) | (go_at_call 67; with_reducible exact KG.call (HV2.out _ (KG.kept KT (by omega) _)))))
            refine wpQuiet_nil ?_
            refine ⟨rfl, KG.store rfl rfl rfl (by kernel_rfl), ?_⟩
            repeat (go_big_quiet_step (fail))
            refine wpQuiet_nil ?_
            rintro w5 ⟨x5, rfl⟩
            obtain ⟨k5, e5, h5⟩ := x5.own
            have KX := KG.kept KT (by omega) x5
            have bw := h5.cell
            go_wp2_with fail
            exact bodyPost_ret (v := .tuple #[.agg #[.int .i64 k5, .int .i64 e5], .bool (false)]) (by simp [results, Tryz.results126, go_sem, bw]) rfl ⟨_, _, _, rfl, KX⟩
        · have e1 : (ak == kk) = false := by simpa using h1
          go_enter Tryz.func126, Tryz.ntmps126
          go_upto_region 1 with fail
          obtain ⟨B1, B2, B3, B4⟩ := (Kept.refl ((((w.alloc (.cells #[.int .i64 33, .int .i64 (j : Int)] 171)).alloc (.cells #[.int .i64 ak, .int .i64 ae] 47)).alloc (.cells #[.slice AE nE ce, .slice (some ⟨b, off, none⟩) nT cT, .slice AI nI cI, .slice AD nD cD, .slice AM nM cM, .bool hm] 137)).alloc (.cells #[.int .i64 0, .int .i64 0] 47))).blk4
          have KK := K0.out
          generalize (((w.alloc (.cells #[.int .i64 33, .int .i64 (j : Int)] 171)).alloc (.cells #[.int .i64 ak, .int .i64 ae] 47)).alloc (.cells #[.slice AE nE ce, .slice (some ⟨b, off, none⟩) nT cT, .slice AI nI cI, .slice AD nD cD, .slice AM nM cM, .bool hm] 137)).alloc (.cells #[.int .i64 0, .int .i64 0] 47) = W at *
          have x0 := KK.cell (p := ⟨b, _, none⟩) hb t0
          have x1 := KK.cell (p := ⟨b, _, none⟩) hb t1
          have x2 := KK.cell (p := ⟨b, _, none⟩) hb t2
          have x3 := KK.cell (p := ⟨b, _, none⟩) hb t3
          have x4 := KK.cell (p := ⟨b, _, none⟩) hb t4
          have x5 := KK.cell (p := ⟨b, _, none⟩) hb t5
          have hbW := Nat.lt_of_lt_of_le hb KK.size
          have c1 := B1.cell
          have l1 := B1.lt
          have c3 := B3.cell
          have l3 := B3.lt
          go_upto_region 11 with fail
          clear c1 c3 l1 l3 x0 x1 x2 x3 x4 x5 hbW
          have B5 := Blk.new W 50 #[.string nm, .int .i64 kk, .int .i64 ke, .int .i64 vk, .int .i64 ve, .slice Ar nr cr]
          have hgW : w.heap.size + 1 + 1 + 1 < W.heap.size := B4.lt
          replace B1 := B1.alloc (.cells #[.string nm, .int .i64 kk, .int .i64 ke, .int .i64 vk, .int .i64 ve, .slice Ar nr cr] 50)
          replace B2 := B2.alloc (.cells #[.string nm, .int .i64 kk, .int .i64 ke, .int .i64 vk, .int .i64 ve, .slice Ar nr cr] 50)
          replace B3 := B3.alloc (.cells #[.string nm, .int .i64 kk, .int .i64 ke, .int .i64 vk, .int .i64 ve, .slice Ar nr cr] 50)
          replace B4 := B4.alloc (.cells #[.string nm, .int .i64 kk, .int .i64 ke, .int .i64 vk, .int .i64 ve, .slice Ar nr cr] 50)
          have KT := KK.alloc (.cells #[.string nm, .int .i64 kk, .int .i64 ke, .int .i64 vk, .int .i64 ve, .slice Ar nr cr] 50)
          generalize hgz : W.heap.size = gz at *
          generalize W.alloc (.cells #[.string nm, .int .i64 kk, .int .i64 ke, .int .i64 vk, .int .i64 ve, .slice Ar nr cr] 50) = W7 at *
          have a0 := KG.cell (g := w.heap.size + 1 + 1 + 1) (T := 47) (by omega) B2.lt (B2.cell 0)
          have a1 := KG.cell (g := w.heap.size + 1 + 1 + 1) (T := 47) (by omega) B2.lt (B2.cell 1)
          have s0 := KG.cell (g := w.heap.size + 1 + 1 + 1) (T := 47) (by omega) B3.lt (B3.cell 0)
          have d1 := KG.cell (g := w.heap.size + 1 + 1 + 1) (T := 47) (by omega) B5.lt (B5.cell 1)
          have d2 := KG.cell (g := w.heap.size + 1 + 1 + 1) (T := 47) (by omega) B5.lt (B5.cell 2)
          have d3 := KG.cell (g := w.heap.size + 1 + 1 + 1) (T := 47) (by omega) B5.lt (B5.cell 3)
          have d4 := KG.cell (g := w.heap.size + 1 + 1 + 1) (T := 47) (by omega) B5.lt (B5.cell 4)
          try simp only [List.getElem?_toArray, List.getElem?_cons_zero, List.getElem?_cons_succ] at a0 a1 s0 d1 d2 d3 d4
          have NE : Nonempty (KG W7 (w.heap.size + 1 + 1 + 1) 47) := KG.ne B4
          refine wp_region_store (C := fun w1 => ∃ x : KG W7 (w.heap.size + 1 + 1 + 1) 47, w1 = x.W) 20 _ (by kernel_rfl) (by kernel_rfl) rfl rfl (KG.start B4) ?_
          simp only [List.take_succ_cons, List.take_zero, List.drop_succ_cons, List.drop_zero]
          repeat (go_big_quiet_step (first | (go_at_call 134; exact KG.call (HK.out _ _)) | (go_at_call 136; exact KG.pure (HN.out _ _)) | (go_at_call 67; with_reducible exact KG.call (HV1.out _ (KG.kept KT (by omega) _))) | (go_at_call 67; with_reducible exact KG.call (HV2.out _ (KG.kept KT (by omega) _)))))
          refine wpQuiet_nil ?_
          refine ⟨rfl, KG.store rfl rfl rfl (by kernel_rfl), ?_⟩
          repeat (go_big_quiet_step (fail))
          refine wpQuiet_nil ?_
          rintro w5 ⟨x5, rfl⟩
          obtain ⟨k5, e5, h5⟩ := x5.own
          have KX := KG.kept KT (by omega) x5
          have bw := h5.cell
          go_wp2_with fail
          exact bodyPost_ret (v := .tuple #[.agg #[.int .i64 k5, .int .i64 e5], .bool (false)]) (by simp [results, Tryz.results126, go_sem, bw]) rfl ⟨_, _, _, rfl, KX⟩
  · -- 34
    have hF0 := HF.out.2.2.2.1 rfl
    have hN0 := H34.out rfl
    rw [Int.tdiv_eq_ediv_of_nonneg hN0] at hF0
    obtain ⟨m, rfl⟩ : ∃ m : Nat, N = m := ⟨N.toNat, by omega⟩
    obtain ⟨j, w1⟩ : ∃ j : Nat, (m : Int) / 8 = j := ⟨m / 8, by omega⟩
    rw [w1] at hF0
    obtain ⟨hn, hx⟩ := HT.out
    obtain ⟨b, off, rfl, hb, hc⟩ := hx (by omega)
    obtain ⟨⟨nm, t0⟩, ⟨kk, t1⟩, ⟨ke, t2⟩, ⟨vk, t3⟩, ⟨ve, t4⟩, rv, t5, hrv⟩ := hc j (by omega)
    obtain ⟨Ar, nr, cr, rfl, -, -, -⟩ := hrv
    clear hc hx HF HT
    clear HV
    by_cases h0 : ak = 3
    · subst h0
      by_cases h1 : kk = 3
      · subst h1
        by_cases h2 : ke = 0
        · subst h2
          by_cases h3 : vk = 4
          · subst h3
            by_cases h4 : ve = 0
            · subst h4
              go_enter Tryz.func126, Tryz.ntmps126
              go_upto_region 1 with fail
              obtain ⟨B1, B2, B3, B4⟩ := (Kept.refl ((((w.alloc (.cells #[.int .i64 34, .int .i64 (m : Int)] 171)).alloc (.cells #[.int .i64 3, .int .i64 ae] 47)).alloc (.cells #[.slice AE nE ce, .slice (some ⟨b, off, none⟩) nT cT, .slice AI nI cI, .slice AD nD cD, .slice AM nM cM, .bool hm] 137)).alloc (.cells #[.int .i64 0, .int .i64 0] 47))).blk4
              have KK := K0.out
              generalize (((w.alloc (.cells #[.int .i64 34, .int .i64 (m : Int)] 171)).alloc (.cells #[.int .i64 3, .int .i64 ae] 47)).alloc (.cells #[.slice AE nE ce, .slice (some ⟨b, off, none⟩) nT cT, .slice AI nI cI, .slice AD nD cD, .slice AM nM cM, .bool hm] 137)).alloc (.cells #[.int .i64 0, .int .i64 0] 47) = W at *
              have x0 := KK.cell (p := ⟨b, _, none⟩) hb t0
              have x1 := KK.cell (p := ⟨b, _, none⟩) hb t1
              have x2 := KK.cell (p := ⟨b, _, none⟩) hb t2
              have x3 := KK.cell (p := ⟨b, _, none⟩) hb t3
              have x4 := KK.cell (p := ⟨b, _, none⟩) hb t4
              have x5 := KK.cell (p := ⟨b, _, none⟩) hb t5
              have hbW := Nat.lt_of_lt_of_le hb KK.size
              have c1 := B1.cell
              have l1 := B1.lt
              have c3 := B3.cell
              have l3 := B3.lt
              go_upto_region 13 with fail
              clear c1 c3 l1 l3 x0 x1 x2 x3 x4 x5 hbW
              have B5 := Blk.new W 50 #[.string nm, .int .i64 3, .int .i64 0, .int .i64 4, .int .i64 0, .slice Ar nr cr]
              have hgW : w.heap.size + 1 + 1 + 1 < W.heap.size := B4.lt
              replace B1 := B1.alloc (.cells #[.string nm, .int .i64 3, .int .i64 0, .int .i64 4, .int .i64 0, .slice Ar nr cr] 50)
              replace B2 := B2.alloc (.cells #[.string nm, .int .i64 3, .int .i64 0, .int .i64 4, .int .i64 0, .slice Ar nr cr] 50)
              replace B3 := B3.alloc (.cells #[.string nm, .int .i64 3, .int .i64 0, .int .i64 4, .int .i64 0, .slice Ar nr cr] 50)
              replace B4 := B4.alloc (.cells #[.string nm, .int .i64 3, .int .i64 0, .int .i64 4, .int .i64 0, .slice Ar nr cr] 50)
              have KT := KK.alloc (.cells #[.string nm, .int .i64 3, .int .i64 0, .int .i64 4, .int .i64 0, .slice Ar nr cr] 50)
              generalize hgz : W.heap.size = gz at *
              generalize W.alloc (.cells #[.string nm, .int .i64 3, .int .i64 0, .int .i64 4, .int .i64 0, .slice Ar nr cr] 50) = W7 at *
              have a0 := KG.cell (g := w.heap.size + 1 + 1 + 1) (T := 47) (by omega) B2.lt (B2.cell 0)
              have a1 := KG.cell (g := w.heap.size + 1 + 1 + 1) (T := 47) (by omega) B2.lt (B2.cell 1)
              have s0 := KG.cell (g := w.heap.size + 1 + 1 + 1) (T := 47) (by omega) B3.lt (B3.cell 0)
              have d1 := KG.cell (g := w.heap.size + 1 + 1 + 1) (T := 47) (by omega) B5.lt (B5.cell 1)
              have d2 := KG.cell (g := w.heap.size + 1 + 1 + 1) (T := 47) (by omega) B5.lt (B5.cell 2)
              have d3 := KG.cell (g := w.heap.size + 1 + 1 + 1) (T := 47) (by omega) B5.lt (B5.cell 3)
              have d4 := KG.cell (g := w.heap.size + 1 + 1 + 1) (T := 47) (by omega) B5.lt (B5.cell 4)
              try simp only [List.getElem?_toArray, List.getElem?_cons_zero, List.getElem?_cons_succ] at a0 a1 s0 d1 d2 d3 d4
              have NE : Nonempty (KG W7 (w.heap.size + 1 + 1 + 1) 47) := KG.ne B4
              refine wp_region_store (C := fun w1 => ∃ x : KG W7 (w.heap.size + 1 + 1 + 1) 47, w1 = x.W) 16 _ (by kernel_rfl) (by kernel_rfl) rfl rfl (KG.start B4) ?_
              simp only [List.take_succ_cons, List.take_zero, List.drop_succ_cons, List.drop_zero]
              repeat (go_big_quiet_step (first | (go_at_call 134; exact KG.call (HK.out _ _)) | (go_at_call 136; exact KG.pure (HN.out _ _))))
              refine wpQuiet_nil ?_
              refine ⟨rfl, KG.store rfl rfl rfl (by kernel_rfl), ?_⟩
              repeat (go_big_quiet_step (fail))
              refine wpQuiet_nil ?_
              rintro w5 ⟨x5, rfl⟩
              obtain ⟨k5, e5, h5⟩ := x5.own
              have KX := KG.kept KT (by omega) x5
              have bw := h5.cell
              go_wp2_with fail
              exact bodyPost_ret (v := .tuple #[.agg #[.int .i64 k5, .int .i64 e5], .bool (true)]) (by simp [results, Tryz.results126, go_sem, bw]) rfl ⟨_, _, _, rfl, KX⟩
            · have e4 : (ve == 0) = false := by simpa using h4
              go_enter Tryz.func126, Tryz.ntmps126
              go_upto_region 1 with fail
              obtain ⟨B1, B2, B3, B4⟩ := (Kept.refl ((((w.alloc (.cells #[.int .i64 34, .int .i64 (m : Int)] 171)).alloc (.cells #[.int .i64 3, .int .i64 ae] 47)).alloc (.cells #[.slice AE nE ce, .slice (some ⟨b, off, none⟩) nT cT, .slice AI nI cI, .slice AD nD cD, .slice AM nM cM, .bool hm] 137)).alloc (.cells #[.int .i64 0, .int .i64 0] 47))).blk4
              have KK := K0.out
              generalize (((w.alloc (.cells #[.int .i64 34, .int .i64 (m : Int)] 171)).alloc (.cells #[.int .i64 3, .int .i64 ae] 47)).alloc (.cells #[.slice AE nE ce, .slice (some ⟨b, off, none⟩) nT cT, .slice AI nI cI, .slice AD nD cD, .slice AM nM cM, .bool hm] 137)).alloc (.cells #[.int .i64 0, .int .i64 0] 47) = W at *
              have x0 := KK.cell (p := ⟨b, _, none⟩) hb t0
              have x1 := KK.cell (p := ⟨b, _, none⟩) hb t1
              have x2 := KK.cell (p := ⟨b, _, none⟩) hb t2
              have x3 := KK.cell (p := ⟨b, _, none⟩) hb t3
              have x4 := KK.cell (p := ⟨b, _, none⟩) hb t4
              have x5 := KK.cell (p := ⟨b, _, none⟩) hb t5
              have hbW := Nat.lt_of_lt_of_le hb KK.size
              have c1 := B1.cell
              have l1 := B1.lt
              have c3 := B3.cell
              have l3 := B3.lt
              go_upto_region 13 with fail
              clear c1 c3 l1 l3 x0 x1 x2 x3 x4 x5 hbW
              have B5 := Blk.new W 50 #[.string nm, .int .i64 3, .int .i64 0, .int .i64 4, .int .i64 ve, .slice Ar nr cr]
              have hgW : w.heap.size + 1 + 1 + 1 < W.heap.size := B4.lt
              replace B1 := B1.alloc (.cells #[.string nm, .int .i64 3, .int .i64 0, .int .i64 4, .int .i64 ve, .slice Ar nr cr] 50)
              replace B2 := B2.alloc (.cells #[.string nm, .int .i64 3, .int .i64 0, .int .i64 4, .int .i64 ve, .slice Ar nr cr] 50)
              replace B3 := B3.alloc (.cells #[.string nm, .int .i64 3, .int .i64 0, .int .i64 4, .int .i64 ve, .slice Ar nr cr] 50)
              replace B4 := B4.alloc (.cells #[.string nm, .int .i64 3, .int .i64 0, .int .i64 4, .int .i64 ve, .slice Ar nr cr] 50)
              have KT := KK.alloc (.cells #[.string nm, .int .i64 3, .int .i64 0, .int .i64 4, .int .i64 ve, .slice Ar nr cr] 50)
              generalize hgz : W.heap.size = gz at *
              generalize W.alloc (.cells #[.string nm, .int .i64 3, .int .i64 0, .int .i64 4, .int .i64 ve, .slice Ar nr cr] 50) = W7 at *
              have a0 := KG.cell (g := w.heap.size + 1 + 1 + 1) (T := 47) (by omega) B2.lt (B2.cell 0)
              have a1 := KG.cell (g := w.heap.size + 1 + 1 + 1) (T := 47) (by omega) B2.lt (B2.cell 1)
              have s0 := KG.cell (g := w.heap.size + 1 + 1 + 1) (T := 47) (by omega) B3.lt (B3.cell 0)
              have d1 := KG.cell (g := w.heap.size + 1 + 1 + 1) (T := 47) (by omega) B5.lt (B5.cell 1)
              have d2 := KG.cell (g := w.heap.size + 1 + 1 + 1) (T := 47) (by omega) B5.lt (B5.cell 2)
              have d3 := KG.cell (g := w.heap.size + 1 + 1 + 1) (T := 47) (by omega) B5.lt (B5.cell 3)
              have d4 := KG.cell (g := w.heap.size + 1 + 1 + 1) (T := 47) (by omega) B5.lt (B5.cell 4)
              try simp only [List.getElem?_toArray, List.getElem?_cons_zero, List.getElem?_cons_succ] at a0 a1 s0 d1 d2 d3 d4
              have NE : Nonempty (KG W7 (w.heap.size + 1 + 1 + 1) 47) := KG.ne B4
              refine wp_region_store (C := fun w1 => ∃ x : KG W7 (w.heap.size + 1 + 1 + 1) 47, w1 = x.W) 16 _ (by kernel_rfl) (by kernel_rfl) rfl rfl (KG.start B4) ?_
              simp only [List.take_succ_cons, List.take_zero, List.drop_succ_cons, List.drop_zero]
              repeat (go_big_quiet_step (first | (go_at_call 134; exact KG.call (HK.out _ _)) | (go_at_call 136; exact KG.pure (HN.out _ _))))
              refine wpQuiet_nil ?_
              refine ⟨rfl, KG.store rfl rfl rfl (by kernel_rfl), ?_⟩
              repeat (go_big_quiet_step (fail))
              refine wpQuiet_nil ?_
              rintro w5 ⟨x5, rfl⟩
              obtain ⟨k5, e5, h5⟩ := x5.own
              have KX := KG.kept KT (by omega) x5
              have bw := h5.cell
              go_wp2_with fail
              exact bodyPost_ret (v := .tuple #[.agg #[.int .i64 k5, .int .i64 e5], .bool (false)]) (by simp [results, Tryz.results126, go_sem, bw]) rfl ⟨_, _, _, rfl, KX⟩
          · have e3 : (vk == 4) = false := by simpa using h3
            go_enter Tryz.func126, Tryz.ntmps126
            go_upto_region 1 with fail
            obtain ⟨B1, B2, B3, B4⟩ := (Kept.refl ((((w.alloc (.cells #[.int .i64 34, .int .i64 (m : Int)] 171)).alloc (.cells #[.int .i64 3, .int .i64 ae] 47)).alloc (.cells #[.slice AE nE ce, .slice (some ⟨b, off, none⟩) nT cT, .slice AI nI cI, .slice AD nD cD, .slice AM nM cM, .bool hm] 137)).alloc (.cells #[.int .i64 0, .int .i64 0] 47))).blk4
            have KK := K0.out
            generalize (((w.alloc (.cells #[.int .i64 34, .int .i64 (m : Int)] 171)).alloc (.cells #[.int .i64 3, .int .i64 ae] 47)).alloc (.cells #[.slice AE nE ce, .slice (some ⟨b, off, none⟩) nT cT, .slice AI nI cI, .slice AD nD cD, .slice AM nM cM, .bool hm] 137)).alloc (.cells #[.int .i64 0, .int .i64 0] 47) = W at *
            have x0 := KK.cell (p := ⟨b, _, none⟩) hb t0
            have x1 := KK.cell (p := ⟨b, _, none⟩) hb t1
            have x2 := KK.cell (p := ⟨b, _, none⟩) hb t2
            have x3 := KK.cell (p := ⟨b, _, none⟩) hb t3
            have x4 := KK.cell (p := ⟨b, _, none⟩) hb t4
            have x5 := KK.cell (p := ⟨b, _, none⟩) hb t5
            have hbW := Nat.lt_of_lt_of_le hb KK.size
            have c1 := B1.cell
            have l1 := B1.lt
            have c3 := B3.cell
            have l3 := B3.lt
            go_upto_region 13 with fail
            clear c1 c3 l1 l3 x0 x1 x2 x3 x4 x5 hbW
            have B5 := Blk.new W 50 #[.string nm, .int .i64 3, .int .i64 0, .int .i64 vk, .int .i64 ve, .slice Ar nr cr]
            have hgW : w.heap.size + 1 + 1 + 1 < W.heap.size := B4.lt
            replace B1 := B1.alloc (.cells #[.string nm, .int .i64 3, .int .i64 0, .int .i64 vk, .int .i64 ve, .slice Ar nr cr] 50)
            replace B2 := B2.alloc (.cells #[.string nm, .int .i64 3, .int .i64 0, .int .i64 vk, .int .i64 ve, .slice Ar nr cr] 50)
            replace B3 := B3.alloc (.cells #[.string nm, .int .i64 3, .int .i64 0, .int .i64 vk, .int .i64 ve, .slice Ar nr cr] 50)
            replace B4 := B4.alloc (.cells #[.string nm, .int .i64 3, .int .i64 0, .int .i64 vk, .int .i64 ve, .slice Ar nr cr] 50)
            have KT := KK.alloc (.cells #[.string nm, .int .i64 3, .int .i64 0, .int .i64 vk, .int .i64 ve, .slice Ar nr cr] 50)
            generalize hgz : W.heap.size = gz at *
            generalize W.alloc (.cells #[.string nm, .int .i64 3, .int .i64 0, .int .i64 vk, .int .i64 ve, .slice Ar nr cr] 50) = W7 at *
            have a0 := KG.cell (g := w.heap.size + 1 + 1 + 1) (T := 47) (by omega) B2.lt (B2.cell 0)
            have a1 := KG.cell (g := w.heap.size + 1 + 1 + 1) (T := 47) (by omega) B2.lt (B2.cell 1)
            have s0 := KG.cell (g := w.heap.size + 1 + 1 + 1) (T := 47) (by omega) B3.lt (B3.cell 0)
            have d1 := KG.cell (g := w.heap.size + 1 + 1 + 1) (T := 47) (by omega) B5.lt (B5.cell 1)
            have d2 := KG.cell (g := w.heap.size + 1 + 1 + 1) (T := 47) (by omega) B5.lt (B5.cell 2)
            have d3 := KG.cell (g := w.heap.size + 1 + 1 + 1) (T := 47) (by omega) B5.lt (B5.cell 3)
            have d4 := KG.cell (g := w.heap.size + 1 + 1 + 1) (T := 47) (by omega) B5.lt (B5.cell 4)
            try simp only [List.getElem?_toArray, List.getElem?_cons_zero, List.getElem?_cons_succ] at a0 a1 s0 d1 d2 d3 d4
            have NE : Nonempty (KG W7 (w.heap.size + 1 + 1 + 1) 47) := KG.ne B4
            refine wp_region_store (C := fun w1 => ∃ x : KG W7 (w.heap.size + 1 + 1 + 1) 47, w1 = x.W) 16 _ (by kernel_rfl) (by kernel_rfl) rfl rfl (KG.start B4) ?_
            simp only [List.take_succ_cons, List.take_zero, List.drop_succ_cons, List.drop_zero]
            repeat (go_big_quiet_step (first | (go_at_call 134; exact KG.call (HK.out _ _)) | (go_at_call 136; exact KG.pure (HN.out _ _))))
            refine wpQuiet_nil ?_
            refine ⟨rfl, KG.store rfl rfl rfl (by kernel_rfl), ?_⟩
            repeat (go_big_quiet_step (fail))
            refine wpQuiet_nil ?_
            rintro w5 ⟨x5, rfl⟩
            obtain ⟨k5, e5, h5⟩ := x5.own
            have KX := KG.kept KT (by omega) x5
            have bw := h5.cell
            go_wp2_with fail
            exact bodyPost_ret (v := .tuple #[.agg #[.int .i64 k5, .int .i64 e5], .bool (false)]) (by simp [results, Tryz.results126, go_sem, bw]) rfl ⟨_, _, _, rfl, KX⟩
        · have e2 : (ke == 0) = false := by simpa using h2
          go_enter Tryz.func126, Tryz.ntmps126
          go_upto_region 1 with fail
          obtain ⟨B1, B2, B3, B4⟩ := (Kept.refl ((((w.alloc (.cells #[.int .i64 34, .int .i64 (m : Int)] 171)).alloc (.cells #[.int .i64 3, .int .i64 ae] 47)).alloc (.cells #[.slice AE nE ce, .slice (some ⟨b, off, none⟩) nT cT, .slice AI nI cI, .slice AD nD cD, .slice AM nM cM, .bool hm] 137)).alloc (.cells #[.int .i64 0, .int .i64 0] 47))).blk4
          have KK := K0.out
          generalize (((w.alloc (.cells #[.int .i64 34, .int .i64 (m : Int)] 171)).alloc (.cells #[.int .i64 3, .int .i64 ae] 47)).alloc (.cells #[.slice AE nE ce, .slice (some ⟨b, off, none⟩) nT cT, .slice AI nI cI, .slice AD nD cD, .slice AM nM cM, .bool hm] 137)).alloc (.cells #[.int .i64 0, .int .i64 0] 47) = W at *
          have x0 := KK.cell (p := ⟨b, _, none⟩) hb t0
          have x1 := KK.cell (p := ⟨b, _, none⟩) hb t1
          have x2 := KK.cell (p := ⟨b, _, none⟩) hb t2
          have x3 := KK.cell (p := ⟨b, _, none⟩) hb t3
          have x4 := KK.cell (p := ⟨b, _, none⟩) hb t4
          have x5 := KK.cell (p := ⟨b, _, none⟩) hb t5
          have hbW := Nat.lt_of_lt_of_le hb KK.size
          have c1 := B1.cell
          have l1 := B1.lt
          have c3 := B3.cell
          have l3 := B3.lt
          go_upto_region 13 with fail
          clear c1 c3 l1 l3 x0 x1 x2 x3 x4 x5 hbW
          have B5 := Blk.new W 50 #[.string nm, .int .i64 3, .int .i64 ke, .int .i64 vk, .int .i64 ve, .slice Ar nr cr]
          have hgW : w.heap.size + 1 + 1 + 1 < W.heap.size := B4.lt
          replace B1 := B1.alloc (.cells #[.string nm, .int .i64 3, .int .i64 ke, .int .i64 vk, .int .i64 ve, .slice Ar nr cr] 50)
          replace B2 := B2.alloc (.cells #[.string nm, .int .i64 3, .int .i64 ke, .int .i64 vk, .int .i64 ve, .slice Ar nr cr] 50)
          replace B3 := B3.alloc (.cells #[.string nm, .int .i64 3, .int .i64 ke, .int .i64 vk, .int .i64 ve, .slice Ar nr cr] 50)
          replace B4 := B4.alloc (.cells #[.string nm, .int .i64 3, .int .i64 ke, .int .i64 vk, .int .i64 ve, .slice Ar nr cr] 50)
          have KT := KK.alloc (.cells #[.string nm, .int .i64 3, .int .i64 ke, .int .i64 vk, .int .i64 ve, .slice Ar nr cr] 50)
          generalize hgz : W.heap.size = gz at *
          generalize W.alloc (.cells #[.string nm, .int .i64 3, .int .i64 ke, .int .i64 vk, .int .i64 ve, .slice Ar nr cr] 50) = W7 at *
          have a0 := KG.cell (g := w.heap.size + 1 + 1 + 1) (T := 47) (by omega) B2.lt (B2.cell 0)
          have a1 := KG.cell (g := w.heap.size + 1 + 1 + 1) (T := 47) (by omega) B2.lt (B2.cell 1)
          have s0 := KG.cell (g := w.heap.size + 1 + 1 + 1) (T := 47) (by omega) B3.lt (B3.cell 0)
          have d1 := KG.cell (g := w.heap.size + 1 + 1 + 1) (T := 47) (by omega) B5.lt (B5.cell 1)
          have d2 := KG.cell (g := w.heap.size + 1 + 1 + 1) (T := 47) (by omega) B5.lt (B5.cell 2)
          have d3 := KG.cell (g := w.heap.size + 1 + 1 + 1) (T := 47) (by omega) B5.lt (B5.cell 3)
          have d4 := KG.cell (g := w.heap.size + 1 + 1 + 1) (T := 47) (by omega) B5.lt (B5.cell 4)
          try simp only [List.getElem?_toArray, List.getElem?_cons_zero, List.getElem?_cons_succ] at a0 a1 s0 d1 d2 d3 d4
          have NE : Nonempty (KG W7 (w.heap.size + 1 + 1 + 1) 47) := KG.ne B4
          refine wp_region_store (C := fun w1 => ∃ x : KG W7 (w.heap.size + 1 + 1 + 1) 47, w1 = x.W) 16 _ (by kernel_rfl) (by kernel_rfl) rfl rfl (KG.start B4) ?_
          simp only [List.take_succ_cons, List.take_zero, List.drop_succ_cons, List.drop_zero]
          repeat (go_big_quiet_step (first | (go_at_call 134; exact KG.call (HK.out _ _)) | (go_at_call 136; exact KG.pure (HN.out _ _))))
          refine wpQuiet_nil ?_
          refine ⟨rfl, KG.store rfl rfl rfl (by kernel_rfl), ?_⟩
          repeat (go_big_quiet_step (fail))
          refine wpQuiet_nil ?_
          rintro w5 ⟨x5, rfl⟩
          obtain ⟨k5, e5, h5⟩ := x5.own
          have KX := KG.kept KT (by omega) x5
          have bw := h5.cell
          go_wp2_with fail
          exact bodyPost_ret (v := .tuple #[.agg #[.int .i64 k5, .int .i64 e5], .bool (false)]) (by simp [results, Tryz.results126, go_sem, bw]) rfl ⟨_, _, _, rfl, KX⟩
      · have e1 : (kk == 3) = false := by simpa using h1
        go_enter Tryz.func126, Tryz.ntmps126
        go_upto_region 1 with fail
        obtain ⟨B1, B2, B3, B4⟩ := (Kept.refl ((((w.alloc (.cells #[.int .i64 34, .int .i64 (m : Int)] 171)).alloc (.cells #[.int .i64 3, .int .i64 ae] 47)).alloc (.cells #[.slice AE nE ce, .slice (some ⟨b, off, none⟩) nT cT, .slice AI nI cI, .slice AD nD cD, .slice AM nM cM, .bool hm] 137)).alloc (.cells #[.int .i64 0, .int .i64 0] 47))).blk4
        have KK := K0.out
        generalize (((w.alloc (.cells #[.int .i64 34, .int .i64 (m : Int)] 171)).alloc (.cells #[.int .i64 3, .int .i64 ae] 47)).alloc (.cells #[.slice AE nE ce, .slice (some ⟨b, off, none⟩) nT cT, .slice AI nI cI, .slice AD nD cD, .slice AM nM cM, .bool hm] 137)).alloc (.cells #[.int .i64 0, .int .i64 0] 47) = W at *
        have x0 := KK.cell (p := ⟨b, _, none⟩) hb t0
        have x1 := KK.cell (p := ⟨b, _, none⟩) hb t1
        have x2 := KK.cell (p := ⟨b, _, none⟩) hb t2
        have x3 := KK.cell (p := ⟨b, _, none⟩) hb t3
        have x4 := KK.cell (p := ⟨b, _, none⟩) hb t4
        have x5 := KK.cell (p := ⟨b, _, none⟩) hb t5
        have hbW := Nat.lt_of_lt_of_le hb KK.size
        have c1 := B1.cell
        have l1 := B1.lt
        have c3 := B3.cell
        have l3 := B3.lt
        go_upto_region 13 with fail
        clear c1 c3 l1 l3 x0 x1 x2 x3 x4 x5 hbW
        have B5 := Blk.new W 50 #[.string nm, .int .i64 kk, .int .i64 ke, .int .i64 vk, .int .i64 ve, .slice Ar nr cr]
        have hgW : w.heap.size + 1 + 1 + 1 < W.heap.size := B4.lt
        replace B1 := B1.alloc (.cells #[.string nm, .int .i64 kk, .int .i64 ke, .int .i64 vk, .int .i64 ve, .slice Ar nr cr] 50)
        replace B2 := B2.alloc (.cells #[.string nm, .int .i64 kk, .int .i64 ke, .int .i64 vk, .int .i64 ve, .slice Ar nr cr] 50)
        replace B3 := B3.alloc (.cells #[.string nm, .int .i64 kk, .int .i64 ke, .int .i64 vk, .int .i64 ve, .slice Ar nr cr] 50)
        replace B4 := B4.alloc (.cells #[.string nm, .int .i64 kk, .int .i64 ke, .int .i64 vk, .int .i64 ve, .slice Ar nr cr] 50)
        have KT := KK.alloc (.cells #[.string nm, .int .i64 kk, .int .i64 ke, .int .i64 vk, .int .i64 ve, .slice Ar nr cr] 50)
        generalize hgz : W.heap.size = gz at *
        generalize W.alloc (.cells #[.string nm, .int .i64 kk, .int .i64 ke, .int .i64 vk, .int .i64 ve, .slice Ar nr cr] 50) = W7 at *
        have a0 := KG.cell (g := w.heap.size + 1 + 1 + 1) (T := 47) (by omega) B2.lt (B2.cell 0)
        have a1 := KG.cell (g := w.heap.size + 1 + 1 + 1) (T := 47) (by omega) B2.lt (B2.cell 1)
        have s0 := KG.cell (g := w.heap.size + 1 + 1 + 1) (T := 47) (by omega) B3.lt (B3.cell 0)
        have d1 := KG.cell (g := w.heap.size + 1 + 1 + 1) (T := 47) (by omega) B5.lt (B5.cell 1)
        have d2 := KG.cell (g := w.heap.size + 1 + 1 + 1) (T := 47) (by omega) B5.lt (B5.cell 2)
        have d3 := KG.cell (g := w.heap.size + 1 + 1 + 1) (T := 47) (by omega) B5.lt (B5.cell 3)
        have d4 := KG.cell (g := w.heap.size + 1 + 1 + 1) (T := 47) (by omega) B5.lt (B5.cell 4)
        try simp only [List.getElem?_toArray, List.getElem?_cons_zero, List.getElem?_cons_succ] at a0 a1 s0 d1 d2 d3 d4
        have NE : Nonempty (KG W7 (w.heap.size + 1 + 1 + 1) 47) := KG.ne B4
        refine wp_region_store (C := fun w1 => ∃ x : KG W7 (w.heap.size + 1 + 1 + 1) 47, w1 = x.W) 16 _ (by kernel_rfl) (by kernel_rfl) rfl rfl (KG.start B4) ?_
        simp only [List.take_succ_cons, List.take_zero, List.drop_succ_cons, List.drop_zero]
        repeat (go_big_quiet_step (first | (go_at_call 134; exact KG.call (HK.out _ _)) | (go_at_call 136; exact KG.pure (HN.out _ _))))
        refine wpQuiet_nil ?_
        refine ⟨rfl, KG.store rfl rfl rfl (by kernel_rfl), ?_⟩
        repeat (go_big_quiet_step (fail))
        refine wpQuiet_nil ?_
        rintro w5 ⟨x5, rfl⟩
        obtain ⟨k5, e5, h5⟩ := x5.own
        have KX := KG.kept KT (by omega) x5
        have bw := h5.cell
        go_wp2_with fail
        exact bodyPost_ret (v := .tuple #[.agg #[.int .i64 k5, .int .i64 e5], .bool (false)]) (by simp [results, Tryz.results126, go_sem, bw]) rfl ⟨_, _, _, rfl, KX⟩
    · have e0 : (ak == 3) = false := by simpa using h0
      go_enter Tryz.func126, Tryz.ntmps126
      go_upto_region 1 with fail
      obtain ⟨B1, B2, B3, B4⟩ := (Kept.refl ((((w.alloc (.cells #[.int .i64 34, .int .i64 (m : Int)] 171)).alloc (.cells #[.int .i64 ak, .int .i64 ae] 47)).alloc (.cells #[.slice AE nE ce, .slice (some ⟨b, off, none⟩) nT cT, .slice AI nI cI, .slice AD nD cD, .slice AM nM cM, .bool hm] 137)).alloc (.cells #[.int .i64 0, .int .i64 0] 47))).blk4
      have KK := K0.out
      generalize (((w.alloc (.cells #[.int .i64 34, .int .i64 (m : Int)] 171)).alloc (.cells #[.int .i64 ak, .int .i64 ae] 47)).alloc (.cells #[.slice AE nE ce, .slice (some ⟨b, off, none⟩) nT cT, .slice AI nI cI, .slice AD nD cD, .slice AM nM cM, .bool hm] 137)).alloc (.cells #[.int .i64 0, .int .i64 0] 47) = W at *
      have x0 := KK.cell (p := ⟨b, _, none⟩) hb t0
      have x1 := KK.cell (p := ⟨b, _, none⟩) hb t1
      have x2 := KK.cell (p := ⟨b, _, none⟩) hb t2
      have x3 := KK.cell (p := ⟨b, _, none⟩) hb t3
      have x4 := KK.cell (p := ⟨b, _, none⟩) hb t4
      have x5 := KK.cell (p := ⟨b, _, none⟩) hb t5
      have hbW := Nat.lt_of_lt_of_le hb KK.size
      have c1 := B1.cell
      have l1 := B1.lt
      have c3 := B3.cell
      have l3 := B3.lt
      go_upto_region 13 with fail
      clear c1 c3 l1 l3 x0 x1 x2 x3 x4 x5 hbW
      have B5 := Blk.new W 50 #[.string nm, .int .i64 kk, .int .i64 ke, .int .i64 vk, .int .i64 ve, .slice Ar nr cr]
      have hgW : w.heap.size + 1 + 1 + 1 < W.heap.size := B4.lt
      replace B1 := B1.alloc (.cells #[.string nm, .int .i64 kk, .int .i64 ke, .int .i64 vk, .int .i64 ve, .slice Ar nr cr] 50)
      replace B2 := B2.alloc (.cells #[.string nm, .int .i64 kk, .int .i64 ke, .int .i64 vk, .int .i64 ve, .slice Ar nr cr] 50)
      replace B3 := B3.alloc (.cells #[.string nm, .int .i64 kk, .int .i64 ke, .int .i64 vk, .int .i64 ve, .slice Ar nr cr] 50)
      replace B4 := B4.alloc (.cells #[.string nm, .int .i64 kk, .int .i64 ke, .int .i64 vk, .int .i64 ve, .slice Ar nr cr] 50)
      have KT := KK.alloc (.cells #[.string nm, .int .i64 kk, .int .i64 ke, .int .i64 vk, .int .i64 ve, .slice Ar nr cr] 50)
      generalize hgz : W.heap.size = gz at *
      generalize W.alloc (.cells #[.string nm, .int .i64 kk, .int .i64 ke, .int .i64 vk, .int .i64 ve, .slice Ar nr cr] 50) = W7 at *
      have a0 := KG.cell (g := w.heap.size + 1 + 1 + 1) (T := 47) (by omega) B2.lt (B2.cell 0)
      have a1 := KG.cell (g := w.heap.size + 1 + 1 + 1) (T := 47) (by omega) B2.lt (B2.cell 1)
      have s0 := KG.cell (g := w.heap.size + 1 + 1 + 1) (T := 47) (by omega) B3.lt (B3.cell 0)
      have d1 := KG.cell (g := w.heap.size + 1 + 1 + 1) (T := 47) (by omega) B5.lt (B5.cell 1)
      have d2 := KG.cell (g := w.heap.size + 1 + 1 + 1) (T := 47) (by omega) B5.lt (B5.cell 2)
      have d3 := KG.cell (g := w.heap.size + 1 + 1 + 1) (T := 47) (by omega) B5.lt (B5.cell 3)
      have d4 := KG.cell (g := w.heap.size + 1 + 1 + 1) (T := 47) (by omega) B5.lt (B5.cell 4)
      try simp only [List.getElem?_toArray, List.getElem?_cons_zero, List.getElem?_cons_succ] at a0 a1 s0 d1 d2 d3 d4
      have NE : Nonempty (KG W7 (w.heap.size + 1 + 1 + 1) 47) := KG.ne B4
      refine wp_region_store (C := fun w1 => ∃ x : KG W7 (w.heap.size + 1 + 1 + 1) 47, w1 = x.W) 16 _ (by kernel_rfl) (by kernel_rfl) rfl rfl (KG.start B4) ?_
      simp only [List.take_succ_cons, List.take_zero, List.drop_succ_cons, List.drop_zero]
      repeat (go_big_quiet_step (first | (go_at_call 134; exact KG.call (HK.out _ _)) | (go_at_call 136; exact KG.pure (HN.out _ _))))
      refine wpQuiet_nil ?_
      refine ⟨rfl, KG.store rfl rfl rfl (by kernel_rfl), ?_⟩
      repeat (go_big_quiet_step (fail))
      refine wpQuiet_nil ?_
      rintro w5 ⟨x5, rfl⟩
      obtain ⟨k5, e5, h5⟩ := x5.own
      have KX := KG.kept KT (by omega) x5
      have bw := h5.cell
      go_wp2_with fail
      exact bodyPost_ret (v := .tuple #[.agg #[.int .i64 k5, .int .i64 e5], .bool (false)]) (by simp [results, Tryz.results126, go_sem, bw]) rfl ⟨_, _, _, rfl, KX⟩
end Go.Proofs.YtjeifmjcgemlgaaGreatDoor
