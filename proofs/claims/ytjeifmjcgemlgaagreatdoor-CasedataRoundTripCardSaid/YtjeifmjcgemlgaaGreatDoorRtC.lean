/- Signatures in memory; which numbers of nodes the reference accepts. -/
import Derived.Test.YtjeifmjcgemlgaaGreatDoorRgJ
import Derived.Test.YtjeifmjcgemlgaaGreatDoorRgI
import Derived.Test.YtjeifmjcgemlgaaGreatDoorRgF
import Derived.BigQuiet
namespace Go.Proofs.YtjeifmjcgemlgaaGreatDoor
open Go.RowKit

/-- a signature: its enumerations, and of the rest how it lies -/
def SigD (w : World) (v : Value) (ms : List (List ByteArray)) (nT nI nD nM : Nat) : Prop :=
  ∃ AE ce AT cT AI cI AD cD AM cM hm, v = .agg #[.slice AE ms.length ce, .slice AT nT cT, .slice AI nI cI, .slice AD nD cD, .slice AM nM cM, .bool hm] ∧ Enums w (.slice AE ms.length ce) ms ∧
    SlZ w 6 TaP (.slice AT nT cT) ∧ SlZ w 2 TyP (.slice AI nI cI) ∧ SlZ w 2 TyP (.slice AD nD cD) ∧ SlZ w 2 TyP (.slice AM nM cM)
theorem SigD.kept {w w' : World} {v : Value} {ms : List (List ByteArray)} {nT nI nD nM : Nat} (h : SigD w v ms nT nI nD nM) (hk : Kept w w') : SigD w' v ms nT nI nD nM := by
  obtain ⟨AE, ce, AT, cT, AI, cI, AD, cD, AM, cM, hm, hv, hE, hT, hI, hD, hM⟩ := h
  exact ⟨AE, ce, AT, cT, AI, cI, AD, cD, AM, cM, hm, hv, hE.kept hk, hT.kept TaP.kept hk, hI.kept TyP.kept hk, hD.kept TyP.kept hk, hM.kept TyP.kept hk⟩
theorem SlZ.items {w : World} {k : Nat} {p : World → Nat → Nat → Prop} {A : Option Addr} {n cap : Nat} (h : SlZ w k p (.slice A n cap)) : n ≤ 8796093022208 ∧ (0 < n → ∃ b off, A = some ⟨b, off, none⟩ ∧ b < w.heap.size ∧ ∀ j, j < n → p w b (off + j * k)) := by
  obtain ⟨A', n', c', hv, hc, hn, hx⟩ := h
  simp only [Value.slice.injEq] at hv
  obtain ⟨rfl, rfl, rfl⟩ := hv
  exact ⟨hn, hx⟩
theorem bne_k {a b : Int} (h : a ≠ b) : (a == b) = false := by simpa using h
theorem Enums.lenK {w : World} {v : Value} {ms : List (List ByteArray)} (h : Enums w v ms) : ms.length ≤ 9223372036854775807 := by
  obtain ⟨A, c, _, hm, _⟩ := h
  exact hm
set_option maxRecDepth 100000 in
set_option maxHeartbeats 8000000 in
theorem rranged_k (op N : Int) (sv : Value) (ms : List (List ByteArray)) (nT nI nD nM : Nat) (w : World) (hS : SigD w sv ms nT nI nD nM) :
    Calls Tryz.prog 123 #[.agg #[.int .i64 op, .int .i64 N], sv] w (BoolQ ((op = 6 → 0 ≤ N) ∧ (op = 34 → 0 ≤ N)) w) := by
  obtain ⟨AE, ce, AT, cT, AI, cI, AD, cD, AM, cM, hm, rfl, hE, -, -, -, -⟩ := hS
  have HB := Lib.hid (fun k (w1 : World) (h : Kept w w1) => rbounds_any k 0 (.slice AE ms.length ce) ms w1 (hE.kept h))
  have HK := Lib.hid (fun k w1 => rkind_k k w1)
  generalize ms.length = nE at *
  obtain ⟨Q, hQ⟩ : ∃ Q, ((op = 6 → 0 ≤ N) ∧ (op = 34 → 0 ≤ N)) = Q := ⟨_, rfl⟩
  rw [hQ]
  have HQ := Lib.hid (fun h => hQ ▸ h : ((op = 6 → 0 ≤ N) ∧ (op = 34 → 0 ≤ N)) → Q)
  clear hQ
  have K0 := Lib.hid (((Kept.refl w).alloc (.cells #[.int .i64 op, .int .i64 N] 171)).alloc (.cells #[.slice AE nE ce, .slice AT nT cT, .slice AI nI cI, .slice AD nD cD, .slice AM nM cM, .bool hm] 137))
  clear hE
  by_cases hlow : 1 ≤ op ∧ op ≤ 5
  · rcases (show op = 1 ∨ op = 2 ∨ op = 3 ∨ op = 4 ∨ op = 5 by omega) with rfl | rfl | rfl | rfl | rfl
    · clear hlow
      have HBB := Lib.hid (HB.out 1)
      generalize bndS 1 0 ms = R at *
      obtain ⟨lo, hi⟩ := R
      dsimp only at HBB
      clear HB
      go_enter Tryz.func123, Tryz.ntmps123
      go_wp2_with fail
      obtain ⟨B1, B2⟩ := (Kept.refl ((w.alloc (.cells #[.int .i64 1, .int .i64 N] 171)).alloc (.cells #[.slice AE nE ce, .slice AT nT cT, .slice AI nI cI, .slice AD nD cD, .slice AM nM cM, .bool hm] 137))).blk2
      have KK := K0.out
      generalize (w.alloc (.cells #[.int .i64 1, .int .i64 N] 171)).alloc (.cells #[.slice AE nE ce, .slice AT nT cT, .slice AI nI cI, .slice AD nD cD, .slice AM nM cM, .bool hm] 137) = W at *
      have a0 := KW.cell B1.lt (B1.cell 0)
      have b0 := KW.cell B2.lt (B2.cell 0)
      try simp only [List.getElem?_toArray, List.getElem?_cons_zero, List.getElem?_cons_succ] at a0 b0
      refine wp_region_kept (by kernel_rfl) (by kernel_rfl) ?_
      repeat (go_big_quiet_step (first | (go_at_call 134; exact KW.call (HK.out _ _)) | (go_at_call 108; exact KW.call (HBB.out _ (KK.trans (KW.h _))))))
      refine wpQuiet_nil ?_
      rintro w5 ⟨⟨wx, hx2⟩, hh⟩
      obtain rfl : w5 = wx := hh
      have C1 := B1.kept hx2
      have c1 := C1.cell 1
      have c1l := C1.lt
      have KX := Lib.hid (KK.trans hx2)
      clear a0 b0 KK B1 B2
      by_cases h1 : lo ≤ N
      · by_cases h2 : N ≤ hi
        · go_wp2_with fail
          go_ret
          exact ⟨_, rfl, KX.out, fun _ => HQ.out ⟨fun h => absurd h (by decide), fun h => absurd h (by decide)⟩⟩
        · have h2' : hi < N := by omega
          go_wp2_with fail
          go_ret
          exact ⟨_, rfl, KX.out, fun _ => HQ.out ⟨fun h => absurd h (by decide), fun h => absurd h (by decide)⟩⟩
      · have h1' : N < lo := by omega
        go_wp2_with fail
        go_ret
        exact ⟨_, rfl, KX.out, fun _ => HQ.out ⟨fun h => absurd h (by decide), fun h => absurd h (by decide)⟩⟩
    · clear hlow
      have HBB := Lib.hid (HB.out 2)
      generalize bndS 2 0 ms = R at *
      obtain ⟨lo, hi⟩ := R
      dsimp only at HBB
      clear HB
      go_enter Tryz.func123, Tryz.ntmps123
      go_wp2_with fail
      obtain ⟨B1, B2⟩ := (Kept.refl ((w.alloc (.cells #[.int .i64 2, .int .i64 N] 171)).alloc (.cells #[.slice AE nE ce, .slice AT nT cT, .slice AI nI cI, .slice AD nD cD, .slice AM nM cM, .bool hm] 137))).blk2
      have KK := K0.out
      generalize (w.alloc (.cells #[.int .i64 2, .int .i64 N] 171)).alloc (.cells #[.slice AE nE ce, .slice AT nT cT, .slice AI nI cI, .slice AD nD cD, .slice AM nM cM, .bool hm] 137) = W at *
      have a0 := KW.cell B1.lt (B1.cell 0)
      have b0 := KW.cell B2.lt (B2.cell 0)
      try simp only [List.getElem?_toArray, List.getElem?_cons_zero, List.getElem?_cons_succ] at a0 b0
      refine wp_region_kept (by kernel_rfl) (by kernel_rfl) ?_
      repeat (go_big_quiet_step (first | (go_at_call 134; exact KW.call (HK.out _ _)) | (go_at_call 108; exact KW.call (HBB.out _ (KK.trans (KW.h _))))))
      refine wpQuiet_nil ?_
      rintro w5 ⟨⟨wx, hx2⟩, hh⟩
      obtain rfl : w5 = wx := hh
      have C1 := B1.kept hx2
      have c1 := C1.cell 1
      have c1l := C1.lt
      have KX := Lib.hid (KK.trans hx2)
      clear a0 b0 KK B1 B2
      by_cases h1 : lo ≤ N
      · by_cases h2 : N ≤ hi
        · go_wp2_with fail
          go_ret
          exact ⟨_, rfl, KX.out, fun _ => HQ.out ⟨fun h => absurd h (by decide), fun h => absurd h (by decide)⟩⟩
        · have h2' : hi < N := by omega
          go_wp2_with fail
          go_ret
          exact ⟨_, rfl, KX.out, fun _ => HQ.out ⟨fun h => absurd h (by decide), fun h => absurd h (by decide)⟩⟩
      · have h1' : N < lo := by omega
        go_wp2_with fail
        go_ret
        exact ⟨_, rfl, KX.out, fun _ => HQ.out ⟨fun h => absurd h (by decide), fun h => absurd h (by decide)⟩⟩
    · clear hlow
      have HBB := Lib.hid (HB.out 3)
      generalize bndS 3 0 ms = R at *
      obtain ⟨lo, hi⟩ := R
      dsimp only at HBB
      clear HB
      go_enter Tryz.func123, Tryz.ntmps123
      go_wp2_with fail
      obtain ⟨B1, B2⟩ := (Kept.refl ((w.alloc (.cells #[.int .i64 3, .int .i64 N] 171)).alloc (.cells #[.slice AE nE ce, .slice AT nT cT, .slice AI nI cI, .slice AD nD cD, .slice AM nM cM, .bool hm] 137))).blk2
      have KK := K0.out
      generalize (w.alloc (.cells #[.int .i64 3, .int .i64 N] 171)).alloc (.cells #[.slice AE nE ce, .slice AT nT cT, .slice AI nI cI, .slice AD nD cD, .slice AM nM cM, .bool hm] 137) = W at *
      have a0 := KW.cell B1.lt (B1.cell 0)
      have b0 := KW.cell B2.lt (B2.cell 0)
      try simp only [List.getElem?_toArray, List.getElem?_cons_zero, List.getElem?_cons_succ] at a0 b0
      refine wp_region_kept (by kernel_rfl) (by kernel_rfl) ?_
      repeat (go_big_quiet_step (first | (go_at_call 134; exact KW.call (HK.out _ _)) | (go_at_call 108; exact KW.call (HBB.out _ (KK.trans (KW.h _))))))
      refine wpQuiet_nil ?_
      rintro w5 ⟨⟨wx, hx2⟩, hh⟩
      obtain rfl : w5 = wx := hh
      have C1 := B1.kept hx2
      have c1 := C1.cell 1
      have c1l := C1.lt
      have KX := Lib.hid (KK.trans hx2)
      clear a0 b0 KK B1 B2
      by_cases h1 : lo ≤ N
      · by_cases h2 : N ≤ hi
        · go_wp2_with fail
          go_ret
          exact ⟨_, rfl, KX.out, fun _ => HQ.out ⟨fun h => absurd h (by decide), fun h => absurd h (by decide)⟩⟩
        · have h2' : hi < N := by omega
          go_wp2_with fail
          go_ret
          exact ⟨_, rfl, KX.out, fun _ => HQ.out ⟨fun h => absurd h (by decide), fun h => absurd h (by decide)⟩⟩
      · have h1' : N < lo := by omega
        go_wp2_with fail
        go_ret
        exact ⟨_, rfl, KX.out, fun _ => HQ.out ⟨fun h => absurd h (by decide), fun h => absurd h (by decide)⟩⟩
    · clear hlow
      have HBB := Lib.hid (HB.out 4)
      generalize bndS 4 0 ms = R at *
      obtain ⟨lo, hi⟩ := R
      dsimp only at HBB
      clear HB
      go_enter Tryz.func123, Tryz.ntmps123
      go_wp2_with fail
      obtain ⟨B1, B2⟩ := (Kept.refl ((w.alloc (.cells #[.int .i64 4, .int .i64 N] 171)).alloc (.cells #[.slice AE nE ce, .slice AT nT cT, .slice AI nI cI, .slice AD nD cD, .slice AM nM cM, .bool hm] 137))).blk2
      have KK := K0.out
      generalize (w.alloc (.cells #[.int .i64 4, .int .i64 N] 171)).alloc (.cells #[.slice AE nE ce, .slice AT nT cT, .slice AI nI cI, .slice AD nD cD, .slice AM nM cM, .bool hm] 137) = W at *
      have a0 := KW.cell B1.lt (B1.cell 0)
      have b0 := KW.cell B2.lt (B2.cell 0)
      try simp only [List.getElem?_toArray, List.getElem?_cons_zero, List.getElem?_cons_succ] at a0 b0
      refine wp_region_kept (by kernel_rfl) (by kernel_rfl) ?_
      repeat (go_big_quiet_step (first | (go_at_call 134; exact KW.call (HK.out _ _)) | (go_at_call 108; exact KW.call (HBB.out _ (KK.trans (KW.h _))))))
      refine wpQuiet_nil ?_
      rintro w5 ⟨⟨wx, hx2⟩, hh⟩
      obtain rfl : w5 = wx := hh
      have C1 := B1.kept hx2
      have c1 := C1.cell 1
      have c1l := C1.lt
      have KX := Lib.hid (KK.trans hx2)
      clear a0 b0 KK B1 B2
      by_cases h1 : lo ≤ N
      · by_cases h2 : N ≤ hi
        · go_wp2_with fail
          go_ret
          exact ⟨_, rfl, KX.out, fun _ => HQ.out ⟨fun h => absurd h (by decide), fun h => absurd h (by decide)⟩⟩
        · have h2' : hi < N := by omega
          go_wp2_with fail
          go_ret
          exact ⟨_, rfl, KX.out, fun _ => HQ.out ⟨fun h => absurd h (by decide), fun h => absurd h (by decide)⟩⟩
      · have h1' : N < lo := by omega
        go_wp2_with fail
        go_ret
        exact ⟨_, rfl, KX.out, fun _ => HQ.out ⟨fun h => absurd h (by decide), fun h => absurd h (by decide)⟩⟩
    · clear hlow
      have HBB := Lib.hid (HB.out 5)
      generalize bndS 5 0 ms = R at *
      obtain ⟨lo, hi⟩ := R
      dsimp only at HBB
      clear HB
      go_enter Tryz.func123, Tryz.ntmps123
      go_wp2_with fail
      obtain ⟨B1, B2⟩ := (Kept.refl ((w.alloc (.cells #[.int .i64 5, .int .i64 N] 171)).alloc (.cells #[.slice AE nE ce, .slice AT nT cT, .slice AI nI cI, .slice AD nD cD, .slice AM nM cM, .bool hm] 137))).blk2
      have KK := K0.out
      generalize (w.alloc (.cells #[.int .i64 5, .int .i64 N] 171)).alloc (.cells #[.slice AE nE ce, .slice AT nT cT, .slice AI nI cI, .slice AD nD cD, .slice AM nM cM, .bool hm] 137) = W at *
      have a0 := KW.cell B1.lt (B1.cell 0)
      have b0 := KW.cell B2.lt (B2.cell 0)
      try simp only [List.getElem?_toArray, List.getElem?_cons_zero, List.getElem?_cons_succ] at a0 b0
      refine wp_region_kept (by kernel_rfl) (by kernel_rfl) ?_
      repeat (go_big_quiet_step (first | (go_at_call 134; exact KW.call (HK.out _ _)) | (go_at_call 108; exact KW.call (HBB.out _ (KK.trans (KW.h _))))))
      refine wpQuiet_nil ?_
      rintro w5 ⟨⟨wx, hx2⟩, hh⟩
      obtain rfl : w5 = wx := hh
      have C1 := B1.kept hx2
      have c1 := C1.cell 1
      have c1l := C1.lt
      have KX := Lib.hid (KK.trans hx2)
      clear a0 b0 KK B1 B2
      by_cases h1 : lo ≤ N
      · by_cases h2 : N ≤ hi
        · go_wp2_with fail
          go_ret
          exact ⟨_, rfl, KX.out, fun _ => HQ.out ⟨fun h => absurd h (by decide), fun h => absurd h (by decide)⟩⟩
        · have h2' : hi < N := by omega
          go_wp2_with fail
          go_ret
          exact ⟨_, rfl, KX.out, fun _ => HQ.out ⟨fun h => absurd h (by decide), fun h => absurd h (by decide)⟩⟩
      · have h1' : N < lo := by omega
        go_wp2_with fail
        go_ret
        exact ⟨_, rfl, KX.out, fun _ => HQ.out ⟨fun h => absurd h (by decide), fun h => absurd h (by decide)⟩⟩
  · have q1 := bne_k (show op ≠ 1 by omega)
    have q2 := bne_k (show op ≠ 2 by omega)
    have q3 := bne_k (show op ≠ 3 by omega)
    have q4 := bne_k (show op ≠ 4 by omega)
    have q5 := bne_k (show op ≠ 5 by omega)
    clear HB HK
    by_cases hmode : op = 14 ∨ op = 15 ∨ op = 16
    · have HM := Lib.hid (fun _ : Bool => (show (op = 6 → 0 ≤ N) ∧ (op = 34 → 0 ≤ N) from ⟨fun h => by omega, fun h => by omega⟩))
      by_cases h1 : 0 ≤ N
      · rcases hmode with rfl | rfl | rfl
        all_goals
          clear hlow q1 q2 q3 q4 q5
          go_enter Tryz.func123, Tryz.ntmps123
          go_wp2_with fail
          go_ret
          exact ⟨_, rfl, K0.out, fun _ => HQ.out (HM.out true)⟩
      · have h1' : N < 0 := by omega
        rcases hmode with rfl | rfl | rfl
        all_goals
          clear hlow q1 q2 q3 q4 q5
          go_enter Tryz.func123, Tryz.ntmps123
          go_wp2_with fail
          go_ret
          exact ⟨_, rfl, K0.out, fun _ => HQ.out (HM.out true)⟩
    · by_cases h34 : op = 34
      · subst h34
        clear hlow hmode q1 q2 q3 q4 q5
        by_cases h1 : 0 ≤ N
        · go_enter Tryz.func123, Tryz.ntmps123
          go_wp2_with fail
          go_ret
          exact ⟨_, rfl, K0.out, fun _ => HQ.out ⟨fun h => absurd h (by decide), fun _ => h1⟩⟩
        · have h1' : N < 0 := by omega
          go_enter Tryz.func123, Tryz.ntmps123
          go_wp2_with fail
          go_ret
          exact ⟨_, rfl, K0.out, fun h => by simp at h⟩
      · by_cases h6 : op = 6
        · subst h6
          clear hlow hmode h34 q1 q2 q3 q4 q5
          by_cases h1 : 0 ≤ N
          · go_enter Tryz.func123, Tryz.ntmps123
            go_wp2_with fail
            go_ret
            exact ⟨_, rfl, K0.out, fun _ => HQ.out ⟨fun _ => h1, fun h => absurd h (by decide)⟩⟩
          · have h1' : N < 0 := by omega
            go_enter Tryz.func123, Tryz.ntmps123
            go_wp2_with fail
            go_ret
            exact ⟨_, rfl, K0.out, fun h => by simp at h⟩
        · have HM := Lib.hid (show (op = 6 → 0 ≤ N) ∧ (op = 34 → 0 ≤ N) from ⟨fun h => absurd h h6, fun h => absurd h h34⟩)
          have q6 := bne_k h6
          have q34 := bne_k h34
          have q14 := bne_k (show op ≠ 14 by omega)
          have q15 := bne_k (show op ≠ 15 by omega)
          have q16 := bne_k (show op ≠ 16 by omega)
          clear hlow hmode h34 h6
          go_enter Tryz.func123, Tryz.ntmps123
          go_wp2_with fail
          go_ret
          exact ⟨_, rfl, K0.out, fun _ => HQ.out HM.out⟩
/-- what found tells of a node's number -/
def FndQ (op N : Int) (nT nI nD nM : Nat) : Prop :=
  (op = 7 → 0 ≤ N ∧ N < nI) ∧ (op = 8 → 0 ≤ N ∧ N < nD) ∧ (op = 33 → 0 ≤ N ∧ N < nT) ∧ (op = 34 → N.tdiv 8 < nT) ∧ (36 ≤ op ∧ op ≤ 39 → 0 ≤ N ∧ N < nM)
set_option maxRecDepth 100000 in
set_option maxHeartbeats 8000000 in
theorem rfound_k (op N : Int) (sv : Value) (ms : List (List ByteArray)) (nT nI nD nM : Nat) (w : World) (hS : SigD w sv ms nT nI nD nM) (hN : op = 6 → 0 ≤ N) (h0 : -9223372036854775808 ≤ N) (h9 : N ≤ 9223372036854775807) :
    Calls Tryz.prog 124 #[.agg #[.int .i64 op, .int .i64 N], sv] w (BoolQ (FndQ op N nT nI nD nM) w) := by
  obtain ⟨AE, ce, AT, cT, AI, cI, AD, cD, AM, cM, hm, rfl, hE, hT, hI, hD, hM⟩ := hS
  have hnT := hT.items.1
  have hnI := hI.items.1
  have hnD := hD.items.1
  have hnM := hM.items.1
  clear hT hI hD hM
  obtain ⟨Q, hQ⟩ : ∃ Q, FndQ op N nT nI nD nM = Q := ⟨_, rfl⟩
  rw [hQ]
  unfold FndQ at hQ
  have HQ := Lib.hid (fun h => hQ ▸ h : ((op = 7 → 0 ≤ N ∧ N < nI) ∧ (op = 8 → 0 ≤ N ∧ N < nD) ∧ (op = 33 → 0 ≤ N ∧ N < nT) ∧ (op = 34 → N.tdiv 8 < nT) ∧ (36 ≤ op ∧ op ≤ 39 → 0 ≤ N ∧ N < nM)) → Q)
  clear hQ
  have K0 := Lib.hid (((Kept.refl w).alloc (.cells #[.int .i64 op, .int .i64 N] 171)).alloc (.cells #[.slice AE ms.length ce, .slice AT nT cT, .slice AI nI cI, .slice AD nD cD, .slice AM nM cM, .bool hm] 137))
  by_cases h6 : op = 6
  · subst h6
    obtain ⟨m, rfl⟩ : ∃ m : Nat, N = m := ⟨N.toNat, by have := hN rfl; omega⟩
    have HQ1 := Lib.hid (HQ.out ⟨fun h => absurd h (by decide), fun h => absurd h (by decide), fun h => absurd h (by decide), fun h => absurd h (by decide), fun h => absurd h (by decide)⟩)
    clear HQ hN h0 hnT hnI hnD hnM
    obtain ⟨q, w1⟩ : ∃ q : Nat, (m : Int) / 16 = q := ⟨m / 16, by omega⟩
    obtain ⟨r, w2⟩ : ∃ r : Nat, (m : Int) % 16 = r := ⟨m % 16, by omega⟩
    have hn16 : q ≤ 9223372036854775807 := by omega
    by_cases hlt : q < ms.length
    · obtain ⟨A, cap, hv, hml, hx⟩ := hE
      simp only [Value.slice.injEq] at hv
      obtain ⟨rfl, -, rfl⟩ := hv
      obtain ⟨b, off, rfl, hb, hc⟩ := hx (by omega)
      have hg : ms[q]? = some (ms[q]'hlt) := List.getElem?_eq_getElem _
      obtain ⟨hll, mv, hmv, hst⟩ := hc _ _ hg
      obtain ⟨Am, cm', rfl, -⟩ := hst
      clear hc hx hg
      generalize (ms[q]'hlt).length = lm at *
      generalize ms.length = nE at *
      have hq : (q : Int) < nE := by omega
      go_enter Tryz.func124, Tryz.ntmps124
      go_wp2_with fail
      obtain ⟨B1, B2⟩ := (Kept.refl ((w.alloc (.cells #[.int .i64 6, .int .i64 (m : Int)] 171)).alloc (.cells #[.slice (some ⟨b, off, none⟩) nE ce, .slice AT nT cT, .slice AI nI cI, .slice AD nD cD, .slice AM nM cM, .bool hm] 137))).blk2
      have KK := K0.out
      generalize (w.alloc (.cells #[.int .i64 6, .int .i64 (m : Int)] 171)).alloc (.cells #[.slice (some ⟨b, off, none⟩) nE ce, .slice AT nT cT, .slice AI nI cI, .slice AD nD cD, .slice AM nM cM, .bool hm] 137) = W at *
      have a1 := KW.cell B1.lt (B1.cell 1)
      have b0 := KW.cell B2.lt (B2.cell 0)
      have e0 := KW.cell (Nat.lt_of_lt_of_le hb KK.size) (KK.cell (p := ⟨b, _, none⟩) hb hmv)
      try simp only [List.getElem?_toArray, List.getElem?_cons_zero, List.getElem?_cons_succ] at a1 b0
      clear hmv
      refine wp_region_kept (by kernel_rfl) (by kernel_rfl) ?_
      repeat (go_big_quiet_step (fail))
      refine wpQuiet_nil ?_
      rintro w5 ⟨⟨wx, hx2⟩, hh⟩
      obtain rfl : w5 = wx := hh
      have KX := Lib.hid (KK.trans hx2)
      clear a1 b0 e0 KK B1 B2
      go_wp2_with fail
      go_ret
      exact ⟨_, rfl, KX.out, fun _ => HQ1.out⟩
    · generalize ms.length = nE at *
      have hq : ¬ ((q : Int) < nE) := by omega
      clear hE
      go_enter Tryz.func124, Tryz.ntmps124
      go_wp2_with fail
      obtain ⟨B1, B2⟩ := (Kept.refl ((w.alloc (.cells #[.int .i64 6, .int .i64 (m : Int)] 171)).alloc (.cells #[.slice AE nE ce, .slice AT nT cT, .slice AI nI cI, .slice AD nD cD, .slice AM nM cM, .bool hm] 137))).blk2
      have KK := K0.out
      generalize (w.alloc (.cells #[.int .i64 6, .int .i64 (m : Int)] 171)).alloc (.cells #[.slice AE nE ce, .slice AT nT cT, .slice AI nI cI, .slice AD nD cD, .slice AM nM cM, .bool hm] 137) = W at *
      have a1 := KW.cell B1.lt (B1.cell 1)
      have b0 := KW.cell B2.lt (B2.cell 0)
      try simp only [List.getElem?_toArray, List.getElem?_cons_zero, List.getElem?_cons_succ] at a1 b0
      refine wp_region_kept (by kernel_rfl) (by kernel_rfl) ?_
      repeat (go_big_quiet_step (fail))
      refine wpQuiet_nil ?_
      rintro w5 ⟨⟨wx, hx2⟩, hh⟩
      obtain rfl : w5 = wx := hh
      have KX := Lib.hid (KK.trans hx2)
      clear a1 b0 KK B1 B2
      go_wp2_with fail
      go_ret
      exact ⟨_, rfl, KX.out, fun _ => HQ1.out⟩
  clear hE hN
  generalize ms.length = nE at *
  have q6 := bne_k h6
  clear h6
  by_cases h7 : op = 7
  · subst h7
    clear q6
    by_cases h1 : 0 ≤ N
    · by_cases h2 : N < nI
      · have HR := Lib.hid (show 0 ≤ N ∧ N < nI from ⟨h1, h2⟩)
        go_enter Tryz.func124, Tryz.ntmps124
        go_wp2_with fail
        go_ret
        exact ⟨_, rfl, K0.out, fun _ => HQ.out ⟨fun _ => HR.out, fun h => absurd h (by decide), fun h => absurd h (by decide), fun h => absurd h (by decide), fun h => absurd h (by decide)⟩⟩
      · go_enter Tryz.func124, Tryz.ntmps124
        go_wp2_with fail
        go_ret
        exact ⟨_, rfl, K0.out, fun h => by simp at h⟩
    · go_enter Tryz.func124, Tryz.ntmps124
      go_wp2_with fail
      go_ret
      exact ⟨_, rfl, K0.out, fun h => by simp at h⟩
  have q7 := bne_k h7
  by_cases h8 : op = 8
  · subst h8
    clear q6
    by_cases h1 : 0 ≤ N
    · by_cases h2 : N < nD
      · have HR := Lib.hid (show 0 ≤ N ∧ N < nD from ⟨h1, h2⟩)
        go_enter Tryz.func124, Tryz.ntmps124
        go_wp2_with fail
        go_ret
        exact ⟨_, rfl, K0.out, fun _ => HQ.out ⟨fun h => absurd h (by decide), fun _ => HR.out, fun h => absurd h (by decide), fun h => absurd h (by decide), fun h => absurd h (by decide)⟩⟩
      · go_enter Tryz.func124, Tryz.ntmps124
        go_wp2_with fail
        go_ret
        exact ⟨_, rfl, K0.out, fun h => by simp at h⟩
    · go_enter Tryz.func124, Tryz.ntmps124
      go_wp2_with fail
      go_ret
      exact ⟨_, rfl, K0.out, fun h => by simp at h⟩
  have q8 := bne_k h8
  by_cases h33 : op = 33
  · subst h33
    clear q6
    by_cases h1 : 0 ≤ N
    · by_cases h2 : N < nT
      · have HR := Lib.hid (show 0 ≤ N ∧ N < nT from ⟨h1, h2⟩)
        go_enter Tryz.func124, Tryz.ntmps124
        go_wp2_with fail
        go_ret
        exact ⟨_, rfl, K0.out, fun _ => HQ.out ⟨fun h => absurd h (by decide), fun h => absurd h (by decide), fun _ => HR.out, fun h => absurd h (by decide), fun h => absurd h (by decide)⟩⟩
      · go_enter Tryz.func124, Tryz.ntmps124
        go_wp2_with fail
        go_ret
        exact ⟨_, rfl, K0.out, fun h => by simp at h⟩
    · go_enter Tryz.func124, Tryz.ntmps124
      go_wp2_with fail
      go_ret
      exact ⟨_, rfl, K0.out, fun h => by simp at h⟩
  have q33 := bne_k h33
  by_cases h34 : op = 34
  · subst h34
    clear q6 q7 q8 q33
    have w1 : IntKind.i64.wrap (N.tdiv 8) = N.tdiv 8 := by
      rw [IntKind.wrap_i64]
      rcases Int.le_total 0 N with h | h
      · rw [Int.tdiv_eq_ediv_of_nonneg h]; omega
      · obtain ⟨M, rfl⟩ : ∃ M, N = -M := ⟨-N, by omega⟩
        rw [Int.neg_tdiv, Int.tdiv_eq_ediv_of_nonneg (by omega)]; omega
    by_cases h2 : N.tdiv 8 < nT
    · have HR := Lib.hid h2
      go_enter Tryz.func124, Tryz.ntmps124
      go_wp2_with fail
      go_ret
      exact ⟨_, rfl, K0.out, fun _ => HQ.out ⟨fun h => absurd h (by decide), fun h => absurd h (by decide), fun h => absurd h (by decide), fun _ => HR.out, fun h => absurd h (by decide)⟩⟩
    · go_enter Tryz.func124, Tryz.ntmps124
      go_wp2_with fail
      go_ret
      exact ⟨_, rfl, K0.out, fun h => by simp at h⟩
  have q34 := bne_k h34
  by_cases h35 : op = 35
  · subst h35
    clear q6 q7 q8 q33 q34
    have HR := Lib.hid (HQ.out ⟨fun h => absurd h (by decide), fun h => absurd h (by decide), fun h => absurd h (by decide), fun h => absurd h (by decide), fun h => absurd h (by decide)⟩)
    go_enter Tryz.func124, Tryz.ntmps124
    go_wp2_with fail
    go_ret
    exact ⟨_, rfl, K0.out, fun _ => HR.out⟩
  have q35 := bne_k h35
  by_cases hm4 : op = 36 ∨ op = 37 ∨ op = 38 ∨ op = 39
  · rcases hm4 with rfl | rfl | rfl | rfl
    all_goals
      clear q6 q7 q8 q33 q34 q35
      have HR := Lib.hid (fun h1 h2 => HQ.out ⟨fun h => absurd h (by decide), fun h => absurd h (by decide), fun h => absurd h (by decide), fun h => absurd h (by decide), fun _ => ⟨h1, h2⟩⟩)
      clear HQ h7 h8 h33 h34 h35
      cases hm
      · go_enter Tryz.func124, Tryz.ntmps124
        go_wp2_with fail
        go_ret
        exact ⟨_, rfl, K0.out, fun h => by simp at h⟩
      · by_cases h1 : 0 ≤ N
        · by_cases h2 : N < nM
          · have HR2 := Lib.hid (HR.out h1 h2)
            go_enter Tryz.func124, Tryz.ntmps124
            go_wp2_with fail
            go_ret
            exact ⟨_, rfl, K0.out, fun _ => HR2.out⟩
          · go_enter Tryz.func124, Tryz.ntmps124
            go_wp2_with fail
            go_ret
            exact ⟨_, rfl, K0.out, fun h => by simp at h⟩
        · go_enter Tryz.func124, Tryz.ntmps124
          go_wp2_with fail
          go_ret
          exact ⟨_, rfl, K0.out, fun h => by simp at h⟩
  have HR := Lib.hid (HQ.out ⟨fun h => absurd h h7, fun h => absurd h h8, fun h => absurd h h33, fun h => absurd h h34, fun h => by omega⟩)
  have q36 := bne_k (show op ≠ 36 by omega)
  have q37 := bne_k (show op ≠ 37 by omega)
  have q38 := bne_k (show op ≠ 38 by omega)
  have q39 := bne_k (show op ≠ 39 by omega)
  clear HQ h7 h8 h33 h34 h35 hm4
  go_enter Tryz.func124, Tryz.ntmps124
  go_wp2_with fail
  go_ret
  exact ⟨_, rfl, K0.out, fun _ => HR.out⟩
end Go.Proofs.YtjeifmjcgemlgaaGreatDoor
