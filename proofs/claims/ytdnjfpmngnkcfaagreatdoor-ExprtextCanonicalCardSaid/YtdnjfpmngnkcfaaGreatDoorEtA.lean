/- What atom, within and renderLiteral of package exprtext compute. -/
import Derived.Test.YtdnjfpmngnkcfaaGreatDoorEtMath
import Derived.Test.YtdnjfpmngnkcfaaGreatDoorVlM
import Derived.Test.YtdnjfpmngnkcfaaGreatDoorBlks
import Derived.Test.YtdnjfpmngnkcfaaGreatDoorBcArity
import Derived.Test.YtdnjfpmngnkcfaaGreatDoorStrs
namespace Go.Proofs.YtdnjfpmngnkcfaaGreatDoor
open Go.RowKit

def pcF (p : Pc) : List Value := [.string p.t, .int .i64 p.c, .bool p.b]
theorem pcF_len (p : Pc) : (pcF p).length = 3 := rfl
def pcV (p : Pc) : Value := .agg #[.string p.t, .int .i64 p.c, .bool p.b]
def ndV (x : Nd) : Value := .agg #[.int .i64 x.o, .int .i64 x.n]
theorem beq_noL {a b : Int} (h : a ≠ b) : (a == b) = false := by simpa using h
theorem bne_noL {a b : Int} (h : a ≠ b) : (a != b) = true := by simpa using h
set_option maxRecDepth 100000 in
set_option maxHeartbeats 4000000 in
theorem atom_any (s : ByteArray) (w : World) : Calls Tryz.prog 27 #[.string s] w fun e w' => e = .returned (pcV (atomP s)) ∧ Kept w w' := by
  unfold pcV atomP
  go_enter Tryz.func27, Tryz.ntmps27
  go_wp2_with fail
  refine bodyPost_ret (v := .agg #[.string s, .int .i64 7, .bool false]) (by simp [results, Tryz.results27, go_sem]) rfl ⟨rfl, (Kept.refl _).alloc _⟩
set_option maxRecDepth 100000 in
set_option maxHeartbeats 4000000 in
theorem pwithin_any (p : Pc) (c : Int) (hs : p.t.size ≤ 18014398509481984) (w : World) : Calls Tryz.prog 30 #[pcV p, .int .i64 c] w fun e w' => e = .returned (.string (withS p c)) ∧ Kept w w' := by
  obtain ⟨t, k, b⟩ := p
  unfold pcV withS
  dsimp only at hs ⊢
  have h1 : ¬ (9223372036854775807 < (⟨#[40]⟩ : ByteArray).size + t.size) := by show ¬ (_ < 1 + t.size); omega
  have h2 : ¬ (9223372036854775807 < (⟨#[40]⟩ ++ t : ByteArray).size + (⟨#[41]⟩ : ByteArray).size) := by rw [ByteArray.size_append]; show ¬ (_ < 1 + t.size + 1); omega
  by_cases h : k < c
  · rw [if_pos h]
    go_enter Tryz.func30, Tryz.ntmps30
    go_wp2_with fail
    go_ret
    exact ⟨rfl, (Kept.refl _).alloc _⟩
  · rw [if_neg h]
    go_enter Tryz.func30, Tryz.ntmps30
    go_wp2_with fail
    go_ret
    exact ⟨rfl, (Kept.refl _).alloc _⟩
/-- the text of a literal -/
noncomputable def litP (x : Nd) : Pc × Int := if (vfmtS x.o 0 x.n []).2 = 0 then (⟨(vfmtS x.o 0 x.n []).1, if (2 ≤ x.o ∧ x.o ≤ 4) ∧ x.n < 0 then 6 else 7, decide (2 ≤ x.o ∧ x.o ≤ 4)⟩, 0) else (pc0, 3)
def rnPost (R : Pc × Int) (w : World) (e : Ending) (w' : World) : Prop := e = .returned (.tuple #[pcV R.1, .int .i64 R.2]) ∧ Kept w w'
set_option maxRecDepth 100000 in
set_option maxHeartbeats 8000000 in
theorem renderLit_any (x : Nd) (h0 : -9223372036854775808 ≤ x.n) (h1 : x.n ≤ 9223372036854775807) (w : World) (hM : Mon w) (hP : Pow w) : Calls Tryz.prog 24 #[ndV x] w (rnPost (litP x) w) := by
  unfold rnPost
  have hlp : litP x = if (vfmtS x.o 0 x.n []).2 = 0 then (⟨(vfmtS x.o 0 x.n []).1, if (2 ≤ x.o ∧ x.o ≤ 4) ∧ x.n < 0 then 6 else 7, decide (2 ≤ x.o ∧ x.o ≤ 4)⟩, 0) else (pc0, 3) := rfl
  have HVF := Lib.hid (fun w1 hm hp => vformat_any x.o 0 x.n (.slice none 0 0) [] w1 (Enums.nil _) h0 h1 hm hp)
  generalize litP x = R at *
  obtain ⟨⟨rt, rc, rb⟩, rr⟩ := R
  unfold pcV ndV
  obtain ⟨o, n⟩ := x
  dsimp only at hlp HVF h0 h1 ⊢
  generalize vfmtS o 0 n [] = V at *
  obtain ⟨X, c⟩ := V
  dsimp only at HVF hlp
  have K0 := Lib.hid (((Kept.refl w).alloc (.cells #[.int .i64 o, .int .i64 n] 41)).alloc (.cells #[.string ⟨#[]⟩, .int .i64 0, .bool false] 50))
  by_cases hc : c = 0
  · subst hc
    rw [if_pos rfl] at hlp
    obtain ⟨e1, e2⟩ := Prod.mk.inj hlp
    have e3 := Pc.mk.inj e1
    obtain ⟨rfl, hrc, hrb⟩ := e3
    subst e2
    clear hlp e1
    rcases (show o = 2 ∨ o = 3 ∨ o = 4 ∨ ¬ (2 ≤ o ∧ o ≤ 4) by omega) with rfl | rfl | rfl | ho
    iterate 3
      rw [decide_eq_true (by decide)] at hrb
      by_cases hn : n < 0
      · rw [if_pos ⟨by decide, hn⟩] at hrc
        subst hrc hrb
        go_enter Tryz.func24, Tryz.ntmps24
        go_wp2_with (first
          | (go_at_call 41; refine (HVF.out _ (hM.kept K0.out) (hP.kept K0.out)).mono ?_; rintro e w1 ⟨rfl, k1⟩; obtain ⟨B1, B2⟩ := k1.blk2; have b10 := B1.cell 0; have b11 := B1.cell 1; have b1l := B1.lt; have b2l := B2.lt; have b2f := B2.frozen; have b2c := B2.cell)
          | (go_at_call 27; refine (atom_any _ _).mono ?_; unfold pcV atomP; rintro e w2 ⟨rfl, k2⟩; have C1 := B1.kept k2; have C2 := B2.kept k2; have c10 := C1.cell 0; have c11 := C1.cell 1; have c1l := C1.lt; have c2l := C2.lt; have c2f := C2.frozen; have c2c := C2.cell))
        have BW : Blk ((((w2.setCell ⟨w.heap.size + 1, 0, none⟩ (.string rt)).setCell ⟨w.heap.size + 1, 1, none⟩ (.int .i64 6)).setCell ⟨w.heap.size + 1, 2, none⟩ (.bool true)).alloc (.cells #[.string rt, .int .i64 6, .bool true] 50)) (w.heap.size + 1) 50 #[.string rt, .int .i64 6, .bool true] := (((C2.set_ 0 (.string rt)).set_ 1 (.int .i64 6)).set_ 2 (.bool true)).alloc _
        have KW : Kept w ((((w2.setCell ⟨w.heap.size + 1, 0, none⟩ (.string rt)).setCell ⟨w.heap.size + 1, 1, none⟩ (.int .i64 6)).setCell ⟨w.heap.size + 1, 2, none⟩ (.bool true)).alloc (.cells #[.string rt, .int .i64 6, .bool true] 50)) := by
          refine Kept.alloc ?_ _
          repeat refine Kept.setCell ?_ (by simp only; omega) _
          exact (K0.out.trans k1).trans k2
        generalize (((w2.setCell ⟨w.heap.size + 1, 0, none⟩ (.string rt)).setCell ⟨w.heap.size + 1, 1, none⟩ (.int .i64 6)).setCell ⟨w.heap.size + 1, 2, none⟩ (.bool true)).alloc (.cells #[.string rt, .int .i64 6, .bool true] 50) = WW at *
        have bw := BW.cell
        refine bodyPost_ret (v := .tuple #[.agg #[.string rt, .int .i64 6, .bool true], .int .i64 0]) (by simp [results, Tryz.results24, go_sem, bw]) rfl ⟨rfl, KW⟩
      · rw [if_neg (fun h => hn h.2)] at hrc
        subst hrc hrb
        go_enter Tryz.func24, Tryz.ntmps24
        go_wp2_with (first
          | (go_at_call 41; refine (HVF.out _ (hM.kept K0.out) (hP.kept K0.out)).mono ?_; rintro e w1 ⟨rfl, k1⟩; obtain ⟨B1, B2⟩ := k1.blk2; have b10 := B1.cell 0; have b11 := B1.cell 1; have b1l := B1.lt; have b2l := B2.lt; have b2f := B2.frozen; have b2c := B2.cell)
          | (go_at_call 27; refine (atom_any _ _).mono ?_; unfold pcV atomP; rintro e w2 ⟨rfl, k2⟩; have C1 := B1.kept k2; have C2 := B2.kept k2; have c10 := C1.cell 0; have c11 := C1.cell 1; have c1l := C1.lt; have c2l := C2.lt; have c2f := C2.frozen; have c2c := C2.cell))
        have BW : Blk ((((w2.setCell ⟨w.heap.size + 1, 0, none⟩ (.string rt)).setCell ⟨w.heap.size + 1, 1, none⟩ (.int .i64 7)).setCell ⟨w.heap.size + 1, 2, none⟩ (.bool true)).alloc (.cells #[.string rt, .int .i64 7, .bool true] 50)) (w.heap.size + 1) 50 #[.string rt, .int .i64 7, .bool true] := (((C2.set_ 0 (.string rt)).set_ 1 (.int .i64 7)).set_ 2 (.bool true)).alloc _
        have KW : Kept w ((((w2.setCell ⟨w.heap.size + 1, 0, none⟩ (.string rt)).setCell ⟨w.heap.size + 1, 1, none⟩ (.int .i64 7)).setCell ⟨w.heap.size + 1, 2, none⟩ (.bool true)).alloc (.cells #[.string rt, .int .i64 7, .bool true] 50)) := by
          refine Kept.alloc ?_ _
          repeat refine Kept.setCell ?_ (by simp only; omega) _
          exact (K0.out.trans k1).trans k2
        generalize (((w2.setCell ⟨w.heap.size + 1, 0, none⟩ (.string rt)).setCell ⟨w.heap.size + 1, 1, none⟩ (.int .i64 7)).setCell ⟨w.heap.size + 1, 2, none⟩ (.bool true)).alloc (.cells #[.string rt, .int .i64 7, .bool true] 50) = WW at *
        have bw := BW.cell
        refine bodyPost_ret (v := .tuple #[.agg #[.string rt, .int .i64 7, .bool true], .int .i64 0]) (by simp [results, Tryz.results24, go_sem, bw]) rfl ⟨rfl, KW⟩
    · rw [decide_eq_false ho] at hrb
      rw [if_neg (fun h => ho h.1)] at hrc
      subst hrc hrb
      have e2 := beq_noL (show o ≠ 2 by omega)
      have e3 := beq_noL (show o ≠ 3 by omega)
      have e4 := beq_noL (show o ≠ 4 by omega)
      clear ho
      go_enter Tryz.func24, Tryz.ntmps24
      go_wp2_with (first
        | (go_at_call 41; refine (HVF.out _ (hM.kept K0.out) (hP.kept K0.out)).mono ?_; rintro e w1 ⟨rfl, k1⟩; obtain ⟨B1, B2⟩ := k1.blk2; have b10 := B1.cell 0; have b11 := B1.cell 1; have b1l := B1.lt; have b2l := B2.lt; have b2f := B2.frozen; have b2c := B2.cell)
        | (go_at_call 27; refine (atom_any _ _).mono ?_; unfold pcV atomP; rintro e w2 ⟨rfl, k2⟩; have C1 := B1.kept k2; have C2 := B2.kept k2; have c10 := C1.cell 0; have c11 := C1.cell 1; have c1l := C1.lt; have c2l := C2.lt; have c2f := C2.frozen; have c2c := C2.cell))
      have BW : Blk ((((w2.setCell ⟨w.heap.size + 1, 0, none⟩ (.string rt)).setCell ⟨w.heap.size + 1, 1, none⟩ (.int .i64 7)).setCell ⟨w.heap.size + 1, 2, none⟩ (.bool false)).alloc (.cells #[.string rt, .int .i64 7, .bool false] 50)) (w.heap.size + 1) 50 #[.string rt, .int .i64 7, .bool false] := (((C2.set_ 0 (.string rt)).set_ 1 (.int .i64 7)).set_ 2 (.bool false)).alloc _
      have KW : Kept w ((((w2.setCell ⟨w.heap.size + 1, 0, none⟩ (.string rt)).setCell ⟨w.heap.size + 1, 1, none⟩ (.int .i64 7)).setCell ⟨w.heap.size + 1, 2, none⟩ (.bool false)).alloc (.cells #[.string rt, .int .i64 7, .bool false] 50)) := by
        refine Kept.alloc ?_ _
        repeat refine Kept.setCell ?_ (by simp only; omega) _
        exact (K0.out.trans k1).trans k2
      generalize (((w2.setCell ⟨w.heap.size + 1, 0, none⟩ (.string rt)).setCell ⟨w.heap.size + 1, 1, none⟩ (.int .i64 7)).setCell ⟨w.heap.size + 1, 2, none⟩ (.bool false)).alloc (.cells #[.string rt, .int .i64 7, .bool false] 50) = WW at *
      have bw := BW.cell
      refine bodyPost_ret (v := .tuple #[.agg #[.string rt, .int .i64 7, .bool false], .int .i64 0]) (by simp [results, Tryz.results24, go_sem, bw]) rfl ⟨rfl, KW⟩
  · rw [if_neg hc] at hlp
    obtain ⟨e1, e2⟩ := Prod.mk.inj hlp
    have e3 := Pc.mk.inj e1
    obtain ⟨rfl, rfl, rfl⟩ := e3
    subst e2
    have hcb := bne_noL hc
    clear hlp e1 hc
    go_enter Tryz.func24, Tryz.ntmps24
    go_wp2_with (go_at_call 41; refine (HVF.out _ (hM.kept K0.out) (hP.kept K0.out)).mono ?_; rintro e w1 ⟨rfl, k1⟩; obtain ⟨B1, B2⟩ := k1.blk2; have b10 := B1.cell 0; have b11 := B1.cell 1; have b1l := B1.lt; have b2l := B2.lt; have b2f := B2.frozen; have b2c := B2.cell)
    refine bodyPost_ret (v := .tuple #[.agg #[.string ⟨#[]⟩, .int .i64 0, .bool false], .int .i64 3]) (by simp [results, Tryz.results24, go_sem, b2c]) rfl ⟨rfl, ?_⟩
    repeat refine Kept.setCell ?_ (by simp only; omega) _
    exact K0.out.trans k1
end Go.Proofs.YtdnjfpmngnkcfaaGreatDoor
/- The words of calls, of rounding modes, the signs of operations: what package exprtext tells of them. (Printed by wip/genetwords.py.) -/
namespace Go.Proofs.YtdnjfpmngnkcfaaGreatDoor
open Go.RowKit

set_option maxRecDepth 100000 in
set_option maxHeartbeats 8000000 in
theorem callWord_any (op : Int) (w : World) : Calls Tryz.prog 28 #[.int .i64 op] w fun e w' => e = .returned (.string (callW op)) ∧ w = w' := by
  rcases (show (op = 14 ∨ op = 15 ∨ op = 16 ∨ op = 17 ∨ op = 18 ∨ op = 27 ∨ op = 28 ∨ op = 29 ∨ op = 30 ∨ op = 31 ∨ op = 32 ∨ op = 33 ∨ op = 34 ∨ op = 35 ∨ op = 36 ∨ op = 37 ∨ op = 38 ∨ op = 39) ∨ ¬ (op = 14 ∨ op = 15 ∨ op = 16 ∨ op = 17 ∨ op = 18 ∨ op = 27 ∨ op = 28 ∨ op = 29 ∨ op = 30 ∨ op = 31 ∨ op = 32 ∨ op = 33 ∨ op = 34 ∨ op = 35 ∨ op = 36 ∨ op = 37 ∨ op = 38 ∨ op = 39) from Classical.em _) with hc | hc
  · rcases hc with rfl | rfl | rfl | rfl | rfl | rfl | rfl | rfl | rfl | rfl | rfl | rfl | rfl | rfl | rfl | rfl | rfl | rfl
    all_goals
      go_enter Tryz.func28, Tryz.ntmps28
      go_wp2_with fail
      go_ret
      exact ⟨rfl, rfl⟩
  · simp only [not_or] at hc
    obtain ⟨h14, h15, h16, h17, h18, h27, h28, h29, h30, h31, h32, h33, h34, h35, h36, h37, h38, h39⟩ := hc
    have HR := Lib.hid (show callW op = ⟨#[]⟩ by unfold callW; rw [if_neg h14]; rw [if_neg h15]; rw [if_neg h16]; rw [if_neg h17]; rw [if_neg h18]; rw [if_neg h27]; rw [if_neg h28]; rw [if_neg h29]; rw [if_neg h30]; rw [if_neg h31]; rw [if_neg h32]; rw [if_neg h33]; rw [if_neg h34]; rw [if_neg h35]; rw [if_neg h36]; rw [if_neg h37]; rw [if_neg h38]; rw [if_neg h39])
    rw [HR.out]
    have e14 := beq_noB h14
    have e15 := beq_noB h15
    have e16 := beq_noB h16
    have e17 := beq_noB h17
    have e18 := beq_noB h18
    have e27 := beq_noB h27
    have e28 := beq_noB h28
    have e29 := beq_noB h29
    have e30 := beq_noB h30
    have e31 := beq_noB h31
    have e32 := beq_noB h32
    have e33 := beq_noB h33
    have e34 := beq_noB h34
    have e35 := beq_noB h35
    have e36 := beq_noB h36
    have e37 := beq_noB h37
    have e38 := beq_noB h38
    have e39 := beq_noB h39
    clear HR
    go_enter Tryz.func28, Tryz.ntmps28
    go_wp2_with fail
    go_ret
    exact ⟨rfl, rfl⟩
set_option maxRecDepth 100000 in
set_option maxHeartbeats 8000000 in
theorem modeWord_any (m : Int) (w : World) : Calls Tryz.prog 29 #[.int .i64 m] w fun e w' => e = .returned (.string (modeW m)) ∧ w = w' := by
  rcases (show (m = 0 ∨ m = 1 ∨ m = 2 ∨ m = 3 ∨ m = 4 ∨ m = 5) ∨ ¬ (m = 0 ∨ m = 1 ∨ m = 2 ∨ m = 3 ∨ m = 4 ∨ m = 5) from Classical.em _) with hc | hc
  · rcases hc with rfl | rfl | rfl | rfl | rfl | rfl
    all_goals
      go_enter Tryz.func29, Tryz.ntmps29
      go_wp2_with fail
      go_ret
      exact ⟨rfl, rfl⟩
  · simp only [not_or] at hc
    obtain ⟨h0, h1, h2, h3, h4, h5⟩ := hc
    have HR := Lib.hid (show modeW m = ⟨#[]⟩ by unfold modeW; rw [if_neg h0]; rw [if_neg h1]; rw [if_neg h2]; rw [if_neg h3]; rw [if_neg h4]; rw [if_neg h5])
    rw [HR.out]
    have e0 := beq_noB h0
    have e1 := beq_noB h1
    have e2 := beq_noB h2
    have e3 := beq_noB h3
    have e4 := beq_noB h4
    have e5 := beq_noB h5
    clear HR
    go_enter Tryz.func29, Tryz.ntmps29
    go_wp2_with fail
    go_ret
    exact ⟨rfl, rfl⟩
set_option maxRecDepth 100000 in
set_option maxHeartbeats 8000000 in
theorem opSign_any (op : Int) (w : World) : Calls Tryz.prog 31 #[.int .i64 op] w fun e w' => e = .returned (.tuple #[.string (opSg op).1, .int .i64 (opSg op).2]) ∧ w = w' := by
  rcases (show (op = 24 ∨ op = 23 ∨ op = 19 ∨ op = 20 ∨ op = 21 ∨ op = 22 ∨ op = 11 ∨ op = 12 ∨ op = 13) ∨ ¬ (op = 24 ∨ op = 23 ∨ op = 19 ∨ op = 20 ∨ op = 21 ∨ op = 22 ∨ op = 11 ∨ op = 12 ∨ op = 13) from Classical.em _) with hc | hc
  · rcases hc with rfl | rfl | rfl | rfl | rfl | rfl | rfl | rfl | rfl
    all_goals
      go_enter Tryz.func31, Tryz.ntmps31
      go_wp2_with fail
      go_ret2
      exact ⟨rfl, rfl⟩
  · simp only [not_or] at hc
    obtain ⟨h24, h23, h19, h20, h21, h22, h11, h12, h13⟩ := hc
    have HR := Lib.hid (show opSg op = (⟨#[]⟩, 0) by unfold opSg; rw [if_neg h11]; rw [if_neg h12]; rw [if_neg h13]; rw [if_neg h19]; rw [if_neg h20]; rw [if_neg h21]; rw [if_neg h22]; rw [if_neg h23]; rw [if_neg h24])
    rw [HR.out]
    have e24 := beq_noB h24
    have e23 := beq_noB h23
    have e19 := beq_noB h19
    have e20 := beq_noB h20
    have e21 := beq_noB h21
    have e22 := beq_noB h22
    have e11 := beq_noB h11
    have e12 := beq_noB h12
    have e13 := beq_noB h13
    clear HR
    go_enter Tryz.func31, Tryz.ntmps31
    go_wp2_with fail
    go_ret2
    exact ⟨rfl, rfl⟩
set_option maxRecDepth 100000 in
set_option maxHeartbeats 8000000 in
theorem usesN_any (op : Int) (w : World) : Calls Tryz.prog 15 #[.int .i64 op] w fun e w' => e = .returned (.bool (usesB op)) ∧ w = w' := by
  rcases (show (op = 1 ∨ op = 2 ∨ op = 3 ∨ op = 4 ∨ op = 5 ∨ op = 6 ∨ op = 7 ∨ op = 8 ∨ op = 14 ∨ op = 15 ∨ op = 16 ∨ op = 33 ∨ op = 34 ∨ op = 36 ∨ op = 37 ∨ op = 38 ∨ op = 39) ∨ ¬ (op = 1 ∨ op = 2 ∨ op = 3 ∨ op = 4 ∨ op = 5 ∨ op = 6 ∨ op = 7 ∨ op = 8 ∨ op = 14 ∨ op = 15 ∨ op = 16 ∨ op = 33 ∨ op = 34 ∨ op = 36 ∨ op = 37 ∨ op = 38 ∨ op = 39) from Classical.em _) with hc | hc
  · rcases hc with rfl | rfl | rfl | rfl | rfl | rfl | rfl | rfl | rfl | rfl | rfl | rfl | rfl | rfl | rfl | rfl | rfl
    all_goals
      go_enter Tryz.func15, Tryz.ntmps15
      go_wp2_with fail
      go_ret
      exact ⟨rfl, rfl⟩
  · simp only [not_or] at hc
    obtain ⟨h1, h2, h3, h4, h5, h6, h7, h8, h14, h15, h16, h33, h34, h36, h37, h38, h39⟩ := hc
    have HR := Lib.hid (show usesB op = false by unfold usesB; rw [decide_eq_false (by omega), decide_eq_false (by omega), decide_eq_false (by omega), decide_eq_false (by omega)]; rfl)
    rw [HR.out]
    have e1 := beq_noB h1
    have e2 := beq_noB h2
    have e3 := beq_noB h3
    have e4 := beq_noB h4
    have e5 := beq_noB h5
    have e6 := beq_noB h6
    have e7 := beq_noB h7
    have e8 := beq_noB h8
    have e14 := beq_noB h14
    have e15 := beq_noB h15
    have e16 := beq_noB h16
    have e33 := beq_noB h33
    have e34 := beq_noB h34
    have e36 := beq_noB h36
    have e37 := beq_noB h37
    have e38 := beq_noB h38
    have e39 := beq_noB h39
    clear HR
    go_enter Tryz.func15, Tryz.ntmps15
    go_wp2_with fail
    go_ret
    exact ⟨rfl, rfl⟩
theorem neqE (X Y : ByteArray) : (X.toList == Y.toList) = decide (X = Y) := by
  rw [toList_L, toList_L]
  by_cases h : X = Y
  · subst h; simp
  · rw [decide_eq_false h]
    simpa using fun e => h (L_inj.1 e)
theorem empE (X : ByteArray) : (X.toList == ([] : List UInt8)) = decide (X = ⟨#[]⟩) := by
  have hz : (⟨#[]⟩ : ByteArray).toList = [] := by rw [toList_L]; rfl
  have := neqE X ⟨#[]⟩
  rw [hz] at this
  exact this
theorem callO_word {t : List UInt8} (h : callO t ≠ 0) : L (callW (callO t)) = t ∧ 14 ≤ callO t ∧ callO t ≤ 39 := by
  unfold callO at h ⊢
  by_cases h14 : t = [115, 104, 97, 114, 101]
  · subst h14; decide
  rw [if_neg h14] at h ⊢
  by_cases h15 : t = [100, 105, 118]
  · subst h15; decide
  rw [if_neg h15] at h ⊢
  by_cases h16 : t = [114, 111, 117, 110, 100]
  · subst h16; decide
  rw [if_neg h16] at h ⊢
  by_cases h17 : t = [109, 105, 110]
  · subst h17; decide
  rw [if_neg h17] at h ⊢
  by_cases h18 : t = [109, 97, 120]
  · subst h18; decide
  rw [if_neg h18] at h ⊢
  by_cases h27 : t = [112, 108, 117, 115]
  · subst h27; decide
  rw [if_neg h27] at h ⊢
  by_cases h28 : t = [109, 111, 110, 116, 104, 115]
  · subst h28; decide
  rw [if_neg h28] at h ⊢
  by_cases h29 : t = [100, 97, 121, 115]
  · subst h29; decide
  rw [if_neg h29] at h ⊢
  by_cases h30 : t = [121, 101, 97, 114, 115]
  · subst h30; decide
  rw [if_neg h30] at h ⊢
  by_cases h31 : t = [121, 101, 97, 114]
  · subst h31; decide
  rw [if_neg h31] at h ⊢
  by_cases h32 : t = [109, 111, 110, 116, 104]
  · subst h32; decide
  rw [if_neg h32] at h ⊢
  by_cases h33 : t = [116, 97, 98]
  · subst h33; decide
  rw [if_neg h33] at h ⊢
  by_cases h34 : t = [98, 97, 110, 100]
  · subst h34; decide
  rw [if_neg h34] at h ⊢
  by_cases h35 : t = [99, 111, 117, 110, 116]
  · subst h35; decide
  rw [if_neg h35] at h ⊢
  by_cases h36 : t = [115, 117, 109]
  · subst h36; decide
  rw [if_neg h36] at h ⊢
  by_cases h37 : t = [97, 108, 108]
  · subst h37; decide
  rw [if_neg h37] at h ⊢
  by_cases h38 : t = [97, 110, 121]
  · subst h38; decide
  rw [if_neg h38] at h ⊢
  by_cases h39 : t = [109, 111, 115, 116]
  · subst h39; decide
  rw [if_neg h39] at h ⊢
  exact absurd rfl h
theorem callO_of {op : Int} (h : callW op ≠ ⟨#[]⟩) : callO (L (callW op)) = op := by
  rcases (show (op = 14 ∨ op = 15 ∨ op = 16 ∨ op = 17 ∨ op = 18 ∨ op = 27 ∨ op = 28 ∨ op = 29 ∨ op = 30 ∨ op = 31 ∨ op = 32 ∨ op = 33 ∨ op = 34 ∨ op = 35 ∨ op = 36 ∨ op = 37 ∨ op = 38 ∨ op = 39) ∨ ¬ (op = 14 ∨ op = 15 ∨ op = 16 ∨ op = 17 ∨ op = 18 ∨ op = 27 ∨ op = 28 ∨ op = 29 ∨ op = 30 ∨ op = 31 ∨ op = 32 ∨ op = 33 ∨ op = 34 ∨ op = 35 ∨ op = 36 ∨ op = 37 ∨ op = 38 ∨ op = 39) from Classical.em _) with hc | hc
  · rcases hc with rfl | rfl | rfl | rfl | rfl | rfl | rfl | rfl | rfl | rfl | rfl | rfl | rfl | rfl | rfl | rfl | rfl | rfl <;> decide
  · simp only [not_or] at hc
    obtain ⟨h14, h15, h16, h17, h18, h27, h28, h29, h30, h31, h32, h33, h34, h35, h36, h37, h38, h39⟩ := hc
    exact absurd (by unfold callW; rw [if_neg h14]; rw [if_neg h15]; rw [if_neg h16]; rw [if_neg h17]; rw [if_neg h18]; rw [if_neg h27]; rw [if_neg h28]; rw [if_neg h29]; rw [if_neg h30]; rw [if_neg h31]; rw [if_neg h32]; rw [if_neg h33]; rw [if_neg h34]; rw [if_neg h35]; rw [if_neg h36]; rw [if_neg h37]; rw [if_neg h38]; rw [if_neg h39]) h
theorem modeO_word {t : List UInt8} (h : 0 ≤ modeO t) : L (modeW (modeO t)) = t ∧ modeO t ≤ 5 := by
  unfold modeO at h ⊢
  by_cases h0 : t = [100, 111, 119, 110]
  · subst h0; decide
  rw [if_neg h0] at h ⊢
  by_cases h1 : t = [117, 112]
  · subst h1; decide
  rw [if_neg h1] at h ⊢
  by_cases h2 : t = [122, 101, 114, 111]
  · subst h2; decide
  rw [if_neg h2] at h ⊢
  by_cases h3 : t = [97, 119, 97, 121]
  · subst h3; decide
  rw [if_neg h3] at h ⊢
  by_cases h4 : t = [104, 97, 108, 102]
  · subst h4; decide
  rw [if_neg h4] at h ⊢
  by_cases h5 : t = [101, 118, 101, 110]
  · subst h5; decide
  rw [if_neg h5] at h ⊢
  exact absurd h (by decide)
theorem modeO_of {m : Int} (h : 0 ≤ m ∧ m ≤ 5) : modeO (L (modeW m)) = m := by
  rcases (show m = 0 ∨ m = 1 ∨ m = 2 ∨ m = 3 ∨ m = 4 ∨ m = 5 by omega) with rfl | rfl | rfl | rfl | rfl | rfl <;> decide
theorem modeO_low (t : List UInt8) : -1 ≤ modeO t := by
  rcases Int.lt_or_le (modeO t) 0 with h | h
  · unfold modeO at h ⊢
    by_cases h0 : t = [100, 111, 119, 110]
    · subst h0; decide
    rw [if_neg h0] at h ⊢
    by_cases h1 : t = [117, 112]
    · subst h1; decide
    rw [if_neg h1] at h ⊢
    by_cases h2 : t = [122, 101, 114, 111]
    · subst h2; decide
    rw [if_neg h2] at h ⊢
    by_cases h3 : t = [97, 119, 97, 121]
    · subst h3; decide
    rw [if_neg h3] at h ⊢
    by_cases h4 : t = [104, 97, 108, 102]
    · subst h4; decide
    rw [if_neg h4] at h ⊢
    by_cases h5 : t = [101, 118, 101, 110]
    · subst h5; decide
    rw [if_neg h5] at h ⊢
    decide
  · omega
theorem callW_size (op : Int) : (callW op).size ≤ 6 := by
  unfold callW
  by_cases h14 : op = 14
  · rw [if_pos h14]; decide
  rw [if_neg h14]
  by_cases h15 : op = 15
  · rw [if_pos h15]; decide
  rw [if_neg h15]
  by_cases h16 : op = 16
  · rw [if_pos h16]; decide
  rw [if_neg h16]
  by_cases h17 : op = 17
  · rw [if_pos h17]; decide
  rw [if_neg h17]
  by_cases h18 : op = 18
  · rw [if_pos h18]; decide
  rw [if_neg h18]
  by_cases h27 : op = 27
  · rw [if_pos h27]; decide
  rw [if_neg h27]
  by_cases h28 : op = 28
  · rw [if_pos h28]; decide
  rw [if_neg h28]
  by_cases h29 : op = 29
  · rw [if_pos h29]; decide
  rw [if_neg h29]
  by_cases h30 : op = 30
  · rw [if_pos h30]; decide
  rw [if_neg h30]
  by_cases h31 : op = 31
  · rw [if_pos h31]; decide
  rw [if_neg h31]
  by_cases h32 : op = 32
  · rw [if_pos h32]; decide
  rw [if_neg h32]
  by_cases h33 : op = 33
  · rw [if_pos h33]; decide
  rw [if_neg h33]
  by_cases h34 : op = 34
  · rw [if_pos h34]; decide
  rw [if_neg h34]
  by_cases h35 : op = 35
  · rw [if_pos h35]; decide
  rw [if_neg h35]
  by_cases h36 : op = 36
  · rw [if_pos h36]; decide
  rw [if_neg h36]
  by_cases h37 : op = 37
  · rw [if_pos h37]; decide
  rw [if_neg h37]
  by_cases h38 : op = 38
  · rw [if_pos h38]; decide
  rw [if_neg h38]
  by_cases h39 : op = 39
  · rw [if_pos h39]; decide
  rw [if_neg h39]
  decide
def tokA (t : Tok) : Value := .agg #[.int .i64 t.k, .string (bs t.t), .int .i64 t.n, .int .i64 t.o]
set_option maxRecDepth 100000 in
set_option maxHeartbeats 4000000 in
theorem callOp_any (s : ByteArray) (w : World) : Calls Tryz.prog 84 #[.string s] w fun e w' => e = .returned (.int .i64 (callO (L s))) ∧ w = w' := by
  have he := empE s
  by_cases hs : s = ⟨#[]⟩
  · rw [decide_eq_true hs] at he
    have HR := Lib.hid (show callO (L s) = 0 by rw [hs]; rfl)
    clear hs
    go_enter Tryz.func84, Tryz.ntmps84
    go_wp2_with fail
    go_loopw [3] (fun z wr => ∃ op : Int, z = .int .i64 op ∧ 10 ≤ op ∧ op ≤ 40 ∧ w = wr) (fun z _ => (40 - intOf z).toNat)
    case atStart => exact ⟨10, rfl, by decide, by decide, rfl⟩
    case round =>
      obtain ⟨op, rfl, h1, h2, rfl⟩ := hrel
      by_cases hp : op ≤ 39
      · go_wp2_with fail
        go_roundw
        case rel => exact ⟨op + 1, rfl, by omega, by omega, trivial⟩
        case measure => simp only [intOf]; omega
      · go_wp2_with fail
        go_ret
        rw [HR.out]
        exact ⟨rfl, rfl⟩
  · rw [decide_eq_false hs] at he
    have HS := Lib.hid hs
    clear hs
    go_enter Tryz.func84, Tryz.ntmps84
    go_wp2_with fail
    go_loopw [3] (fun z wr => ∃ op : Int, z = .int .i64 op ∧ 10 ≤ op ∧ op ≤ 40 ∧ w = wr ∧ ∀ k : Int, 10 ≤ k → k < op → callW k ≠ s) (fun z _ => (40 - intOf z).toNat)
    case atStart => exact ⟨10, rfl, by decide, by decide, rfl, fun k h1 h2 => by omega⟩
    case round =>
      obtain ⟨op, rfl, h1, h2, rfl, hall⟩ := hrel
      have HALL := Lib.hid hall
      clear hall
      by_cases hp : op ≤ 39
      · have HC := Lib.hid (callWord_any op w)
        have hq := neqE (callW op) s
        by_cases hc : callW op = s
        · rw [decide_eq_true hc] at hq
          have HR := Lib.hid (show callO (L s) = op by rw [← hc]; exact callO_of (by rw [hc]; exact HS.out))
          clear hc
          generalize callW op = C at *
          go_wp2_with (go_at_call 28; refine HC.out.mono ?_; rintro e w1 ⟨rfl, rfl⟩)
          go_ret
          rw [HR.out]
          exact ⟨rfl, rfl⟩
        · rw [decide_eq_false hc] at hq
          have HN := Lib.hid hc
          clear hc
          obtain ⟨C, hC⟩ : ∃ C, C = callW op := ⟨_, rfl⟩
          rw [← hC] at HC hq HN
          have HCC := Lib.hid hC
          clear hC
          go_wp2_with (go_at_call 28; refine HC.out.mono ?_; rintro e w1 ⟨rfl, rfl⟩)
          go_roundw
          case rel =>
            refine ⟨op + 1, rfl, by omega, by omega, trivial, fun k q1 q2 => ?_⟩
            by_cases hk : k = op
            · subst hk
              rw [← HCC.out]
              exact HN.out
            · exact HALL.out k q1 (by omega)
          case measure => simp only [intOf]; omega
      · have HR := Lib.hid (show callO (L s) = 0 by
          by_cases h0 : callO (L s) = 0
          · exact h0
          · obtain ⟨q1, q2, q3⟩ := callO_word h0
            exact absurd (L_inj.1 q1) (HALL.out _ (by omega) (by omega)))
        go_wp2_with fail
        go_ret
        rw [HR.out]
        exact ⟨rfl, rfl⟩
set_option maxRecDepth 100000 in
set_option maxHeartbeats 4000000 in
theorem modeOf_any (s : ByteArray) (w : World) : Calls Tryz.prog 116 #[.string s] w fun e w' => e = .returned (.int .i64 (modeO (L s))) ∧ w = w' := by
  go_enter Tryz.func116, Tryz.ntmps116
  go_wp2_with fail
  go_loopw [3] (fun z wr => ∃ m : Int, z = .int .i64 m ∧ 0 ≤ m ∧ m ≤ 6 ∧ w = wr ∧ ∀ k : Int, 0 ≤ k → k < m → modeW k ≠ s) (fun z _ => (6 - intOf z).toNat)
  case atStart => exact ⟨0, rfl, by decide, by decide, rfl, fun k h1 h2 => by omega⟩
  case round =>
    obtain ⟨m, rfl, h1, h2, rfl, hall⟩ := hrel
    have HALL := Lib.hid hall
    clear hall
    by_cases hp : m ≤ 5
    · have HC := Lib.hid (modeWord_any m w)
      have hq := neqE (modeW m) s
      by_cases hc : modeW m = s
      · rw [decide_eq_true hc] at hq
        have HR := Lib.hid (show modeO (L s) = m by rw [← hc]; exact modeO_of ⟨h1, hp⟩)
        clear hc
        generalize modeW m = C at *
        go_wp2_with (go_at_call 29; refine HC.out.mono ?_; rintro e w1 ⟨rfl, rfl⟩)
        go_ret
        rw [HR.out]
        exact ⟨rfl, rfl⟩
      · rw [decide_eq_false hc] at hq
        have HN := Lib.hid hc
        clear hc
        obtain ⟨C, hC⟩ : ∃ C, C = modeW m := ⟨_, rfl⟩
        rw [← hC] at HC hq HN
        have HCC := Lib.hid hC
        clear hC
        go_wp2_with (go_at_call 29; refine HC.out.mono ?_; rintro e w1 ⟨rfl, rfl⟩)
        go_roundw
        case rel =>
          refine ⟨m + 1, rfl, by omega, by omega, trivial, fun k q1 q2 => ?_⟩
          by_cases hk : k = m
          · subst hk
            rw [← HCC.out]
            exact HN.out
          · exact HALL.out k q1 (by omega)
        case measure => simp only [intOf]; omega
    · have HR := Lib.hid (show modeO (L s) = -1 by
        rcases Int.lt_or_le (modeO (L s)) 0 with h0 | h0
        · have := modeO_low (L s); omega
        · obtain ⟨q1, q2⟩ := modeO_word h0
          exact absurd (L_inj.1 q1) (HALL.out _ h0 (by omega)))
      go_wp2_with fail
      go_ret
      rw [HR.out]
      exact ⟨rfl, rfl⟩
theorem opOf_of {t : Tok} {op : Int} (hk : t.k = 7 ∨ t.k = 1) (h0 : (opSg op).1 ≠ ⟨#[]⟩) (h : (opSg op).1 = bs t.t) : opOf t = (op, (opSg op).2) := by
  have ht : t.t = L (opSg op).1 := by rw [h, L_bs]
  unfold opOf
  rw [if_neg (by omega), ht]
  clear h ht
  rcases (show (op = 11 ∨ op = 12 ∨ op = 13 ∨ op = 19 ∨ op = 20 ∨ op = 21 ∨ op = 22 ∨ op = 23 ∨ op = 24) ∨ ¬ (op = 11 ∨ op = 12 ∨ op = 13 ∨ op = 19 ∨ op = 20 ∨ op = 21 ∨ op = 22 ∨ op = 23 ∨ op = 24) from Classical.em _) with hc | hc
  · rcases hc with rfl | rfl | rfl | rfl | rfl | rfl | rfl | rfl | rfl <;> decide
  · simp only [not_or] at hc
    obtain ⟨h11, h12, h13, h19, h20, h21, h22, h23, h24⟩ := hc
    exact absurd (by unfold opSg; rw [if_neg h11]; rw [if_neg h12]; rw [if_neg h13]; rw [if_neg h19]; rw [if_neg h20]; rw [if_neg h21]; rw [if_neg h22]; rw [if_neg h23]; rw [if_neg h24]) h0
theorem opOf_no {t : Tok} (h : ∀ k : Int, 11 ≤ k → k < 25 → (opSg k).1 = ⟨#[]⟩ ∨ (opSg k).1 ≠ bs t.t) : opOf t = (0, 0) := by
  unfold opOf
  by_cases hk : t.k ≠ 7 ∧ t.k ≠ 1
  · rw [if_pos hk]
  rw [if_neg hk]
  have key : ∀ (k : Int) (u : List UInt8), 11 ≤ k → k < 25 → (opSg k).1 = bs u → u ≠ [] → t.t ≠ u := fun k u h1 h2 h3 h4 he => by
    rcases h k h1 h2 with h5 | h5
    · rw [h3] at h5
      exact h4 (by rw [← L_bs u, h5]; rfl)
    · exact h5 (by rw [h3, he])
  rw [if_neg (key 11 _ (by decide) (by decide) rfl (by decide)), if_neg (key 12 _ (by decide) (by decide) rfl (by decide)), if_neg (key 13 _ (by decide) (by decide) rfl (by decide)), if_neg (key 19 _ (by decide) (by decide) rfl (by decide)), if_neg (key 20 _ (by decide) (by decide) rfl (by decide)), if_neg (key 21 _ (by decide) (by decide) rfl (by decide)), if_neg (key 22 _ (by decide) (by decide) rfl (by decide)), if_neg (key 23 _ (by decide) (by decide) rfl (by decide)), if_neg (key 24 _ (by decide) (by decide) rfl (by decide))]
set_option maxRecDepth 100000 in
set_option maxHeartbeats 4000000 in
theorem operatorOf_any (t : Tok) (w : World) : Calls Tryz.prog 51 #[tokA t] w fun e w' => e = .returned (.tuple #[.int .i64 (opOf t).1, .int .i64 (opOf t).2]) ∧ Kept w w' := by
  have HOF := Lib.hid (fun op h1 h2 h3 => opOf_of (t := t) (op := op) h1 h2 h3)
  have HNO := Lib.hid (fun h => opOf_no (t := t) h)
  have HOT := Lib.hid (show t.k ≠ 7 ∧ t.k ≠ 1 → opOf t = (0, 0) from fun h => by rw [opOf, if_pos h])
  generalize opOf t = R at *
  obtain ⟨r1, r2⟩ := R
  obtain ⟨k, tx, tn, tf⟩ := t
  unfold tokA
  dsimp only at HOF HNO HOT ⊢
  generalize bs tx = X at *
  have K0 := Lib.hid ((Kept.refl w).alloc (.cells #[.int .i64 k, .string X, .int .i64 tn, .int .i64 tf] 73))
  by_cases hk : k = 7 ∨ k = 1
  · have HK := Lib.hid hk
    have B0 := Blk.new w 73 #[.int .i64 k, .string X, .int .i64 tn, .int .i64 tf]
    rcases hk with rfl | rfl
    all_goals
      go_enter Tryz.func51, Tryz.ntmps51
      go_wp2_with fail
      go_loopw [4] (fun z wr => ∃ op : Int, z = .int .i64 op ∧ 11 ≤ op ∧ op ≤ 25 ∧ Kept w wr ∧ wr.cell? ⟨w.heap.size, 1, none⟩ = some (.string X) ∧ w.heap.size < wr.heap.size ∧ ∀ k : Int, 11 ≤ k → k < op → (opSg k).1 = ⟨#[]⟩ ∨ (opSg k).1 ≠ X) (fun z _ => (25 - intOf z).toNat)
      case atStart => exact ⟨11, rfl, by decide, by decide, K0.out, B0.cell 1, B0.lt, fun k h1 h2 => by omega⟩
      case round =>
        obtain ⟨op, rfl, h1, h2, hK, c1, cl, hall⟩ := hrel
        have HALL := Lib.hid hall
        clear hall
        by_cases hp : op ≤ 24
        · have HC := Lib.hid (opSign_any op wr)
          obtain ⟨C, hC⟩ : ∃ C, C = (opSg op).1 := ⟨_, rfl⟩
          have HOF2 := Lib.hid (fun h2 h3 => HOF.out op HK.out h2 h3)
          rw [← hC] at HC HOF2
          have HCC := Lib.hid hC
          clear hC
          generalize (opSg op).2 = cc at *
          have hq := neqE C X
          have he := empE C
          by_cases hce : C = ⟨#[]⟩
          · rw [decide_eq_true hce] at he
            have HN := Lib.hid hce
            clear hce hq
            go_wp2_with (go_at_call 31; refine HC.out.mono ?_; rintro e w1 ⟨rfl, rfl⟩)
            go_roundw
            case rel =>
              refine ⟨op + 1, rfl, by omega, by omega, hK, c1, cl, fun k q1 q2 => ?_⟩
              by_cases hk : k = op
              · subst hk
                rw [← HCC.out]
                exact .inl HN.out
              · exact HALL.out k q1 (by omega)
            case measure => simp only [intOf]; omega
          · rw [decide_eq_false hce] at he
            by_cases hcx : C = X
            · rw [decide_eq_true hcx] at hq
              have HR := Lib.hid (HOF2.out hce hcx)
              clear hce hcx
              go_wp2_with (go_at_call 31; refine HC.out.mono ?_; rintro e w1 ⟨rfl, rfl⟩)
              go_ret2
              obtain ⟨q1, q2⟩ := Prod.mk.inj HR.out
              rw [q1, q2]
              exact ⟨rfl, hK⟩
            · rw [decide_eq_false hcx] at hq
              have HN := Lib.hid hcx
              clear hce hcx
              go_wp2_with (go_at_call 31; refine HC.out.mono ?_; rintro e w1 ⟨rfl, rfl⟩)
              go_roundw
              case rel =>
                refine ⟨op + 1, rfl, by omega, by omega, hK, c1, cl, fun k q1 q2 => ?_⟩
                by_cases hk : k = op
                · subst hk
                  rw [← HCC.out]
                  exact .inr HN.out
                · exact HALL.out k q1 (by omega)
              case measure => simp only [intOf]; omega
        · have HR := Lib.hid (HNO.out (fun k q1 q2 => HALL.out k q1 (by omega)))
          go_wp2_with fail
          go_ret2
          obtain ⟨q1, q2⟩ := Prod.mk.inj HR.out
          rw [q1, q2]
          exact ⟨rfl, hK⟩
  · have HR := Lib.hid (HOT.out (by omega))
    have e1 := bne_noB (show k ≠ 7 by omega)
    have e2 := bne_noB (show k ≠ 1 by omega)
    clear hk
    go_enter Tryz.func51, Tryz.ntmps51
    go_wp2_with fail
    go_ret2
    obtain ⟨q1, q2⟩ := Prod.mk.inj HR.out
    rw [q1, q2]
    exact ⟨rfl, K0.out⟩
set_option maxRecDepth 100000 in
set_option maxHeartbeats 4000000 in
theorem literalOp_any (t : Tok) (w : World) : Calls Tryz.prog 66 #[tokA t] w fun e w' => e = .returned (.int .i64 (litO t)) ∧ Kept w w' := by
  obtain ⟨k, tx, tn, tf⟩ := t
  unfold tokA litO
  dsimp only
  generalize bs tx = X
  have K0 := Lib.hid ((Kept.refl w).alloc (.cells #[.int .i64 k, .string X, .int .i64 tn, .int .i64 tf] 73))
  rcases (show k = 2 ∨ k = 3 ∨ k = 4 ∨ ¬ (2 ≤ k ∧ k ≤ 4) by omega) with rfl | rfl | rfl | hk
  iterate 3
    go_enter Tryz.func66, Tryz.ntmps66
    go_wp2_with fail
    go_ret
    exact ⟨rfl, K0.out⟩
  (try rw [if_neg hk])
  have e1 := beq_noB (show k ≠ 2 by omega)
  have e2 := beq_noB (show k ≠ 3 by omega)
  have e3 := beq_noB (show k ≠ 4 by omega)
  clear hk
  go_enter Tryz.func66, Tryz.ntmps66
  go_wp2_with fail
  go_ret
  exact ⟨rfl, K0.out⟩
end Go.Proofs.YtdnjfpmngnkcfaaGreatDoor
/- Names in memory; what renderName of package exprtext computes. -/
namespace Go.Proofs.YtdnjfpmngnkcfaaGreatDoor
open Go.RowKit

theorem Strs.at3E {w : World} {v : Value} {xs : List ByteArray} (h : Strs w v xs) : ∃ A cap, v = .slice A xs.length cap ∧ (0 < xs.length → ∃ b off, A = some ⟨b, off, none⟩ ∧ b < w.heap.size ∧ ∀ (j : Nat) x, xs[j]? = some x → w.cell? ⟨b, off + j, none⟩ = some (.string x)) := by
  obtain ⟨A, cap, hv, hx⟩ := h
  refine ⟨A, cap, hv, fun hp => ?_⟩
  obtain ⟨b, off, hA, hb, hc⟩ := hx hp
  refine ⟨b, off, hA, hb, fun j x hj => ?_⟩
  have := hc j (List.getElem?_eq_some_iff.1 hj).1
  rwa [hj, Option.getD_some] at this
/-- enumerations with their names -/
def EnumsN (w : World) (v : Value) (en : List ByteArray) (ms : List (List ByteArray)) : Prop :=
  en.length = ms.length ∧ ∃ A cap, v = .slice A ms.length cap ∧ ms.length ≤ 9223372036854775807 ∧ (0 < ms.length → ∃ b off, A = some ⟨b, off, none⟩ ∧ b < w.heap.size ∧
    ∀ (j : Nat) x l, en[j]? = some x → ms[j]? = some l → l.length ≤ 9223372036854775807 ∧ w.cell? ⟨b, off + j * 2, none⟩ = some (.string x) ∧ ∃ mv, w.cell? ⟨b, off + j * 2 + 1, none⟩ = some mv ∧ Strs w mv l)
theorem EnumsN.kept {w w' : World} {v : Value} {en : List ByteArray} {ms : List (List ByteArray)} (h : EnumsN w v en ms) (hk : Kept w w') : EnumsN w' v en ms := by
  obtain ⟨hl, A, cap, hv, hn, hx⟩ := h
  refine ⟨hl, A, cap, hv, hn, fun hp => ?_⟩
  obtain ⟨b, off, hA, hb, hc⟩ := hx hp
  refine ⟨b, off, hA, Nat.lt_of_lt_of_le hb hk.size, fun j x l h1 h2 => ?_⟩
  obtain ⟨g0, g1, mv, g2, g3⟩ := hc j x l h1 h2
  exact ⟨g0, hk.cell (p := ⟨b, _, none⟩) hb g1, mv, hk.cell (p := ⟨b, _, none⟩) hb g2, g3.kept hk⟩
/-- the names of a scope -/
def Names (w : World) (v : Value) (nm : Nm) : Prop :=
  ∃ ev tv iv dv mv, v = .agg #[ev, tv, iv, dv, mv] ∧ EnumsN w ev nm.en nm.ms ∧ Strs w tv nm.tb ∧ Strs w iv nm.ins ∧ Strs w dv nm.ds ∧ Strs w mv nm.md ∧
    nm.tb.length ≤ 9223372036854775807 ∧ nm.ins.length ≤ 9223372036854775807 ∧ nm.ds.length ≤ 9223372036854775807 ∧ nm.md.length ≤ 9223372036854775807
theorem Names.kept {w w' : World} {v : Value} {nm : Nm} (h : Names w v nm) (hk : Kept w w') : Names w' v nm := by
  obtain ⟨ev, tv, iv, dv, mv, hv, h1, h2, h3, h4, h5, h6⟩ := h
  exact ⟨ev, tv, iv, dv, mv, hv, h1.kept hk, h2.kept hk, h3.kept hk, h4.kept hk, h5.kept hk, h6⟩
/-- the names that a node refers to -/
def refN (nm : Nm) (x : Nd) : List ByteArray :=
  if x.o = 6 then [nm.en[(x.n / 16).toNat]?.getD ⟨#[]⟩, (nm.ms[(x.n / 16).toNat]?.getD [])[(x.n % 16).toNat]?.getD ⟨#[]⟩]
  else if x.o = 7 then [nm.ins[x.n.toNat]?.getD ⟨#[]⟩] else if x.o = 8 then [nm.ds[x.n.toNat]?.getD ⟨#[]⟩]
  else if x.o = 33 ∨ x.o = 34 then [nm.tb[(tabI x).toNat]?.getD ⟨#[]⟩] else if 36 ≤ x.o ∧ x.o ≤ 39 then [nm.md[x.n.toNat]?.getD ⟨#[]⟩] else []
/-- the text of a node that is a name -/
def namP (nm : Nm) (x : Nd) : Pc × Int :=
  if x.o = 6 then (if x.n < 0 ∨ (nm.ms.length : Int) ≤ x.n / 16 then (pc0, 6) else nameAt (nm.ms[(x.n / 16).toNat]?.getD []) (x.n % 16) (nm.en[(x.n / 16).toNat]?.getD ⟨#[]⟩ ++ ⟨#[58]⟩) ⟨#[]⟩)
  else if x.o = 7 then nameAt nm.ins x.n ⟨#[]⟩ ⟨#[]⟩
  else if x.o = 8 then nameAt nm.ds x.n ⟨#[]⟩ ⟨#[]⟩
  else nameAt nm.md x.n (callW x.o ++ ⟨#[40]⟩) ⟨#[41]⟩
theorem emp_app (X : ByteArray) : (⟨#[]⟩ : ByteArray) ++ X = X := by rw [← L_inj, L_append]; rfl
theorem app_emp (X : ByteArray) : X ++ (⟨#[]⟩ : ByteArray) = X := by rw [← L_inj, L_append]; show L X ++ [] = _; simp
/-- a name out of a list, between two texts: the last part of renderName -/
theorem nameAt_out {l : List ByteArray} {i : Int} {a b : ByteArray} (h : i < 0 ∨ (l.length : Int) ≤ i) : nameAt l i a b = (pc0, 6) := by rw [nameAt, if_pos h]
theorem nameAt_in {l : List ByteArray} {i : Nat} {a b s : ByteArray} (h : l[i]? = some s) : nameAt l i a b = (atomP (a ++ s ++ b), 0) := by
  have := (List.getElem?_eq_some_iff.1 h).1
  rw [nameAt, if_neg (by omega), Int.toNat_natCast, h]; rfl
set_option maxRecDepth 100000 in
set_option maxHeartbeats 16000000 in
theorem renderName_any (x : Nd) (nv : Value) (nm : Nm) (hx : x.o = 6 ∨ x.o = 7 ∨ x.o = 8 ∨ (36 ≤ x.o ∧ x.o ≤ 39)) (h0 : -9223372036854775808 ≤ x.n) (h1 : x.n ≤ 9223372036854775807) (hs : ∀ s ∈ refN nm x, s.size ≤ 140737488355328) (w : World) (hN : Names w nv nm) :
    Calls Tryz.prog 25 #[ndV x, nv] w (rnPost (namP nm x) w) := by
  unfold rnPost
  obtain ⟨ev, tv, iv, dv, mv, rfl, hE, hT, hI, hD, hM, l1, l2, l3, l4⟩ := hN
  obtain ⟨hel, AE, ce, rfl, hml, hxe⟩ := hE
  obtain ⟨AT, ct, rfl, _⟩ := hT.at3E
  obtain ⟨AI, ci, rfl, hxi⟩ := hI.at3E
  obtain ⟨AD, cd, rfl, hxd⟩ := hD.at3E
  obtain ⟨AM, cm, rfl, hxm⟩ := hM.at3E
  obtain ⟨o, n⟩ := x
  unfold ndV pcV
  dsimp only at hx h0 h1 ⊢
  have K0 := Lib.hid ((((Kept.refl w).alloc (.cells #[.int .i64 o, .int .i64 n] 41)).alloc (.cells #[.slice AE nm.ms.length ce, .slice AT nm.tb.length ct, .slice AI nm.ins.length ci, .slice AD nm.ds.length cd, .slice AM nm.md.length cm] 26)).alloc (.cells #[.string ⟨#[]⟩, .int .i64 0, .bool false] 50))
  rcases hx with rfl | rfl | rfl | ho
  · -- a member of an enumeration
    have hnp : namP nm ⟨6, n⟩ = if n < 0 ∨ (nm.ms.length : Int) ≤ n / 16 then (pc0, 6) else nameAt (nm.ms[(n / 16).toNat]?.getD []) (n % 16) (nm.en[(n / 16).toNat]?.getD ⟨#[]⟩ ++ ⟨#[58]⟩) ⟨#[]⟩ := rfl
    have hs1 : ∀ s, s = nm.en[(n / 16).toNat]?.getD ⟨#[]⟩ → s.size ≤ 140737488355328 := fun s h => hs s (by show s ∈ [_, _]; rw [h]; simp)
    have hs2 : ∀ s, s = (nm.ms[(n / 16).toNat]?.getD [])[(n % 16).toNat]?.getD ⟨#[]⟩ → s.size ≤ 140737488355328 := fun s h => hs s (by show s ∈ [_, _]; rw [h]; simp)
    generalize namP nm ⟨6, n⟩ = R at *
    clear hs hxi hxd hxm hT hI hD hM
    obtain ⟨lm, hlm⟩ : ∃ lm, lm = nm.ms.length := ⟨_, rfl⟩
    rw [← hlm] at hxe hml hnp K0 hel ⊢
    have HLM := Lib.hid hlm
    have HEL := Lib.hid hel
    clear hlm hel
    by_cases hout : n < 0 ∨ (lm : Int) ≤ n / 16
    · rw [if_pos hout] at hnp
      rw [hnp]
      unfold pc0
      dsimp only
      clear hs1 hs2 hnp hxe
      rcases (show n < 0 ∨ (¬ n < 0 ∧ 0 ≤ n ∧ (lm : Int) ≤ n / 16) by omega) with hn | ⟨hn, hn0, hn2⟩
      · clear hout
        go_enter Tryz.func25, Tryz.ntmps25
        go_wp2_with fail
        obtain ⟨B1, B2, B3⟩ := (Kept.refl (((w.alloc (.cells #[.int .i64 6, .int .i64 n] 41)).alloc (.cells #[.slice AE lm ce, .slice AT nm.tb.length ct, .slice AI nm.ins.length ci, .slice AD nm.ds.length cd, .slice AM nm.md.length cm] 26)).alloc (.cells #[.string ⟨#[]⟩, .int .i64 0, .bool false] 50))).blk3
        have KK := K0.out
        generalize ((w.alloc (.cells #[.int .i64 6, .int .i64 n] 41)).alloc (.cells #[.slice AE lm ce, .slice AT nm.tb.length ct, .slice AI nm.ins.length ci, .slice AD nm.ds.length cd, .slice AM nm.md.length cm] 26)).alloc (.cells #[.string ⟨#[]⟩, .int .i64 0, .bool false] 50) = W at *
        have a0 := KW.cell B1.lt (B1.cell 0)
        have a1 := KW.cell B1.lt (B1.cell 1)
        have e4 := KW.cell B2.lt (B2.cell 4)
        refine wp_region_kept (by kernel_rfl) (by kernel_rfl) ?_
        repeat (go_big_quiet_step (fail))
        refine wpQuiet_nil ?_
        rintro W2 ⟨⟨wx, hx2⟩, hh⟩
        obtain rfl : W2 = wx := hh
        have D1 := B1.kept hx2
        have D2 := B2.kept hx2
        have D3 := B3.kept hx2
        have d10 := D1.cell 0
        have d11 := D1.cell 1
        have d1l := D1.lt
        have d20 := D2.cell 0
        have d2l := D2.lt
        have d3c := D3.cell
        have d3l := D3.lt
        have d3f := D3.frozen
        have K2 := KK.trans hx2
        clear a0 a1 e4 B1 B2 B3 hx2
        go_wp2_with fail
        refine bodyPost_ret (v := .tuple #[.agg #[.string ⟨#[]⟩, .int .i64 0, .bool false], .int .i64 6]) (by simp [results, Tryz.results25, go_sem, d3c]) rfl ⟨rfl, ?_⟩
        repeat refine Kept.setCell ?_ (by simp only; omega) _
        exact K2
      · clear hout
        go_enter Tryz.func25, Tryz.ntmps25
        go_wp2_with fail
        obtain ⟨B1, B2, B3⟩ := (Kept.refl (((w.alloc (.cells #[.int .i64 6, .int .i64 n] 41)).alloc (.cells #[.slice AE lm ce, .slice AT nm.tb.length ct, .slice AI nm.ins.length ci, .slice AD nm.ds.length cd, .slice AM nm.md.length cm] 26)).alloc (.cells #[.string ⟨#[]⟩, .int .i64 0, .bool false] 50))).blk3
        have KK := K0.out
        generalize ((w.alloc (.cells #[.int .i64 6, .int .i64 n] 41)).alloc (.cells #[.slice AE lm ce, .slice AT nm.tb.length ct, .slice AI nm.ins.length ci, .slice AD nm.ds.length cd, .slice AM nm.md.length cm] 26)).alloc (.cells #[.string ⟨#[]⟩, .int .i64 0, .bool false] 50) = W at *
        have a0 := KW.cell B1.lt (B1.cell 0)
        have a1 := KW.cell B1.lt (B1.cell 1)
        have e4 := KW.cell B2.lt (B2.cell 4)
        refine wp_region_kept (by kernel_rfl) (by kernel_rfl) ?_
        repeat (go_big_quiet_step (fail))
        refine wpQuiet_nil ?_
        rintro W2 ⟨⟨wx, hx2⟩, hh⟩
        obtain rfl : W2 = wx := hh
        have D1 := B1.kept hx2
        have D2 := B2.kept hx2
        have D3 := B3.kept hx2
        have d10 := D1.cell 0
        have d11 := D1.cell 1
        have d1l := D1.lt
        have d20 := D2.cell 0
        have d2l := D2.lt
        have d3c := D3.cell
        have d3l := D3.lt
        have d3f := D3.frozen
        have K2 := KK.trans hx2
        clear a0 a1 e4 B1 B2 B3 hx2
        go_wp2_with fail
        refine bodyPost_ret (v := .tuple #[.agg #[.string ⟨#[]⟩, .int .i64 0, .bool false], .int .i64 6]) (by simp [results, Tryz.results25, go_sem, d3c]) rfl ⟨rfl, ?_⟩
        repeat refine Kept.setCell ?_ (by simp only; omega) _
        exact K2
    · rw [if_neg hout] at hnp
      obtain ⟨N, rfl⟩ : ∃ N : Nat, n = N := ⟨n.toNat, by omega⟩
      obtain ⟨j, hj⟩ : ∃ j : Nat, j = N / 16 := ⟨_, rfl⟩
      obtain ⟨r, hr⟩ : ∃ r : Nat, r = N % 16 := ⟨_, rfl⟩
      have hq2 : (N : Int) / 16 = j := by omega
      have hr2 : (N : Int) % 16 = r := by omega
      have hq1 : (N : Int).tdiv 16 = j := by rw [Int.tdiv_eq_ediv_of_nonneg (by omega)]; exact hq2
      have hr1 : (N : Int).tmod 16 = r := by rw [Int.tmod_eq_emod_of_nonneg (by omega)]; exact hr2
      have hw1 : IntKind.i64.wrap (j : Int) = j := IntWalk.i64_in _ ⟨by omega, by omega⟩
      have hw2 : IntKind.i64.wrap (r : Int) = r := IntWalk.i64_in _ ⟨by omega, by omega⟩
      have hjm : j < lm := by omega
      have hjmi : (j : Int) < lm := by omega
      have hjmi2 : ¬ (lm : Int) ≤ j := by omega
      have hn0 : ¬ (N : Int) < 0 := by omega
      rw [hq2, Int.toNat_natCast] at hnp hs1 hs2
      rw [hr2] at hnp hs2
      rw [Int.toNat_natCast] at hs2
      have hg1 : nm.ms[j]? = some (nm.ms[j]'(by have := HLM.out; omega)) := List.getElem?_eq_getElem _
      have hg2 : nm.en[j]? = some (nm.en[j]'(by have := HEL.out; omega)) := List.getElem?_eq_getElem _
      obtain ⟨b1, o1, rfl, hb1, hc1⟩ := hxe (by omega)
      obtain ⟨hll, x0, mw, x1, hst⟩ := hc1 j _ _ hg2 hg1
      rw [hg1, hg2, Option.getD_some, Option.getD_some] at hnp
      rw [hg2, Option.getD_some] at hs1
      rw [hg1, Option.getD_some] at hs2
      generalize nm.ms[j]'(by have := HLM.out; omega) = l at *
      generalize nm.en[j]'(by have := HEL.out; omega) = X at *
      have hXs := hs1 X rfl
      have q1 : ¬ (9223372036854775807 < X.size + (⟨#[58]⟩ : ByteArray).size) := by show ¬ (_ < X.size + 1); omega
      have hz1 : (X ++ ⟨#[58]⟩ : ByteArray).size ≤ 140737488355329 := by rw [ByteArray.size_append]; show X.size + 1 ≤ _; omega
      obtain ⟨Am, cmm, rfl, hxl⟩ := hst.at3E
      obtain ⟨nl, hnl⟩ : ∃ nl, nl = l.length := ⟨_, rfl⟩
      rw [← hnl] at x1 hxl hll
      have HNL := Lib.hid hnl
      have HJ := Lib.hid hj
      have HR0 := Lib.hid hr
      have HNP := Lib.hid hnp
      clear hnl hc1 hg1 hg2 hs1 hst hout hj hr hnp
      have hr0 : ¬ (r : Int) < 0 := by omega
      by_cases hrl : r < nl
      · have hg3 : l[r]? = some (l[r]'(by have := HNL.out; omega)) := List.getElem?_eq_getElem _
        have HR := Lib.hid (HNP.out.trans (nameAt_in hg3))
        rw [hg3, Option.getD_some] at hs2
        obtain ⟨b2, o2, rfl, hb2, hc2⟩ := hxl (by omega)
        have y0 := hc2 r _ hg3
        generalize l[r]'(by have := HNL.out; omega) = Y at *
        have hYs := hs2 Y rfl
        have hri : (r : Int) < nl := by omega
        have hri2 : ¬ (nl : Int) ≤ r := by omega
        rw [HR.out]
        unfold atomP
        dsimp only
        have q2 : ¬ (9223372036854775807 < (X ++ ⟨#[58]⟩ : ByteArray).size + Y.size) := by omega
        have q3 : ¬ (9223372036854775807 < (X ++ ⟨#[58]⟩ ++ Y : ByteArray).size + (⟨#[]⟩ : ByteArray).size) := by rw [ByteArray.size_append]; show ¬ (_ < _ + 0); omega
        clear hs2 hg3 hc2
        go_enter Tryz.func25, Tryz.ntmps25
        go_wp2_with fail
        obtain ⟨B1, B2, B3⟩ := (Kept.refl (((w.alloc (.cells #[.int .i64 6, .int .i64 (N : Nat)] 41)).alloc (.cells #[.slice (some ⟨b1, o1, none⟩) lm ce, .slice AT nm.tb.length ct, .slice AI nm.ins.length ci, .slice AD nm.ds.length cd, .slice AM nm.md.length cm] 26)).alloc (.cells #[.string ⟨#[]⟩, .int .i64 0, .bool false] 50))).blk3
        have KK := K0.out
        generalize ((w.alloc (.cells #[.int .i64 6, .int .i64 (N : Nat)] 41)).alloc (.cells #[.slice (some ⟨b1, o1, none⟩) lm ce, .slice AT nm.tb.length ct, .slice AI nm.ins.length ci, .slice AD nm.ds.length cd, .slice AM nm.md.length cm] 26)).alloc (.cells #[.string ⟨#[]⟩, .int .i64 0, .bool false] 50) = W at *
        have a0 := KW.cell B1.lt (B1.cell 0)
        have a1 := KW.cell B1.lt (B1.cell 1)
        have e4 := KW.cell B2.lt (B2.cell 4)
        refine wp_region_kept (by kernel_rfl) (by kernel_rfl) ?_
        repeat (go_big_quiet_step (fail))
        refine wpQuiet_nil ?_
        rintro W2 ⟨⟨wx, hx2⟩, hh⟩
        obtain rfl : W2 = wx := hh
        have D1 := B1.kept hx2
        have D2 := B2.kept hx2
        have D3 := B3.kept hx2
        have d10 := D1.cell 0
        have d11 := D1.cell 1
        have d1l := D1.lt
        have d20 := D2.cell 0
        have d2l := D2.lt
        have d3c := D3.cell
        have d3l := D3.lt
        have d3f := D3.frozen
        have K2 := KK.trans hx2
        clear a0 a1 e4 B1 B2 B3 hx2
        have X0 := K2.cell (p := ⟨b1, _, none⟩) hb1 x0
        have X1 := K2.cell (p := ⟨b1, _, none⟩) hb1 x1
        have hb1r := Nat.lt_of_lt_of_le hb1 K2.size
        go_wp2_with fail
        have k3 := (Kept.refl W2).alloc (.cells #[.string X, .slice (some ⟨b2, o2, none⟩) nl cmm] 38)
        have F := Blk.new W2 38 #[.string X, .slice (some ⟨b2, o2, none⟩) nl cmm]
        have E1 := D1.alloc (.cells #[.string X, .slice (some ⟨b2, o2, none⟩) nl cmm] 38)
        have E3 := D3.alloc (.cells #[.string X, .slice (some ⟨b2, o2, none⟩) nl cmm] 38)
        generalize W2.alloc (.cells #[.string X, .slice (some ⟨b2, o2, none⟩) nl cmm] 38) = W3 at *
        have f0 := KW.cell F.lt (F.cell 0)
        have f1 := KW.cell F.lt (F.cell 1)
        have g1 := KW.cell E1.lt (E1.cell 1)
        refine wp_region_kept (by kernel_rfl) (by kernel_rfl) ?_
        repeat (go_big_quiet_step (fail))
        refine wpQuiet_nil ?_
        rintro W4 ⟨⟨wx4, hx4⟩, hh⟩
        obtain rfl : W4 = wx4 := hh
        have G3 := E3.kept hx4
        have g3c := G3.cell
        have g3l := G3.lt
        have g3f := G3.frozen
        have K4 := (K2.trans k3).trans hx4
        clear f0 f1 g1 k3 F E1 E3 hx4 d10 d11 d1l d20 d2l d3c d3l d3f
        have Y0 := K4.cell (p := ⟨b2, _, none⟩) hb2 y0
        have hb2r := Nat.lt_of_lt_of_le hb2 K4.size
        go_wp2_with (go_at_call 27; refine (atom_any _ _).mono ?_; unfold pcV atomP; rintro e w5 ⟨rfl, k5⟩; have C3 := G3.kept k5; have c3c := C3.cell; have c3l := C3.lt; have c3f := C3.frozen)
        generalize (X ++ ⟨#[58]⟩ ++ Y ++ ⟨#[]⟩ : ByteArray) = TT at *
        have BW : Blk (((w5.setCell ⟨w.heap.size + 1 + 1, 0, none⟩ (.string TT)).setCell ⟨w.heap.size + 1 + 1, 1, none⟩ (.int .i64 7)).setCell ⟨w.heap.size + 1 + 1, 2, none⟩ (.bool false)) (w.heap.size + 1 + 1) 50 #[.string TT, .int .i64 7, .bool false] := ((C3.set_ 0 (.string TT)).set_ 1 (.int .i64 7)).set_ 2 (.bool false)
        have KF : Kept w (((w5.setCell ⟨w.heap.size + 1 + 1, 0, none⟩ (.string TT)).setCell ⟨w.heap.size + 1 + 1, 1, none⟩ (.int .i64 7)).setCell ⟨w.heap.size + 1 + 1, 2, none⟩ (.bool false)) := by
          repeat refine Kept.setCell ?_ (by simp only; omega) _
          exact K4.trans k5
        generalize ((w5.setCell ⟨w.heap.size + 1 + 1, 0, none⟩ (.string TT)).setCell ⟨w.heap.size + 1 + 1, 1, none⟩ (.int .i64 7)).setCell ⟨w.heap.size + 1 + 1, 2, none⟩ (.bool false) = WW at *
        have bw := BW.cell
        refine bodyPost_ret (v := .tuple #[.agg #[.string TT, .int .i64 7, .bool false], .int .i64 0]) (by simp [results, Tryz.results25, go_sem, bw]) rfl ⟨rfl, KF⟩
      · have HR := Lib.hid (HNP.out.trans (nameAt_out (by have := HNL.out; omega)))
        have hri2 : (nl : Int) ≤ r := by omega
        rw [HR.out]
        unfold pc0
        dsimp only
        clear hs2 hxl
        go_enter Tryz.func25, Tryz.ntmps25
        go_wp2_with fail
        obtain ⟨B1, B2, B3⟩ := (Kept.refl (((w.alloc (.cells #[.int .i64 6, .int .i64 (N : Nat)] 41)).alloc (.cells #[.slice (some ⟨b1, o1, none⟩) lm ce, .slice AT nm.tb.length ct, .slice AI nm.ins.length ci, .slice AD nm.ds.length cd, .slice AM nm.md.length cm] 26)).alloc (.cells #[.string ⟨#[]⟩, .int .i64 0, .bool false] 50))).blk3
        have KK := K0.out
        generalize ((w.alloc (.cells #[.int .i64 6, .int .i64 (N : Nat)] 41)).alloc (.cells #[.slice (some ⟨b1, o1, none⟩) lm ce, .slice AT nm.tb.length ct, .slice AI nm.ins.length ci, .slice AD nm.ds.length cd, .slice AM nm.md.length cm] 26)).alloc (.cells #[.string ⟨#[]⟩, .int .i64 0, .bool false] 50) = W at *
        have a0 := KW.cell B1.lt (B1.cell 0)
        have a1 := KW.cell B1.lt (B1.cell 1)
        have e4 := KW.cell B2.lt (B2.cell 4)
        refine wp_region_kept (by kernel_rfl) (by kernel_rfl) ?_
        repeat (go_big_quiet_step (fail))
        refine wpQuiet_nil ?_
        rintro W2 ⟨⟨wx, hx2⟩, hh⟩
        obtain rfl : W2 = wx := hh
        have D1 := B1.kept hx2
        have D2 := B2.kept hx2
        have D3 := B3.kept hx2
        have d10 := D1.cell 0
        have d11 := D1.cell 1
        have d1l := D1.lt
        have d20 := D2.cell 0
        have d2l := D2.lt
        have d3c := D3.cell
        have d3l := D3.lt
        have d3f := D3.frozen
        have K2 := KK.trans hx2
        clear a0 a1 e4 B1 B2 B3 hx2
        have X0 := K2.cell (p := ⟨b1, _, none⟩) hb1 x0
        have X1 := K2.cell (p := ⟨b1, _, none⟩) hb1 x1
        have hb1r := Nat.lt_of_lt_of_le hb1 K2.size
        go_wp2_with fail
        have k3 := (Kept.refl W2).alloc (.cells #[.string X, .slice Am nl cmm] 38)
        have F := Blk.new W2 38 #[.string X, .slice Am nl cmm]
        have E1 := D1.alloc (.cells #[.string X, .slice Am nl cmm] 38)
        have E3 := D3.alloc (.cells #[.string X, .slice Am nl cmm] 38)
        generalize W2.alloc (.cells #[.string X, .slice Am nl cmm] 38) = W3 at *
        have f0 := KW.cell F.lt (F.cell 0)
        have f1 := KW.cell F.lt (F.cell 1)
        have g1 := KW.cell E1.lt (E1.cell 1)
        refine wp_region_kept (by kernel_rfl) (by kernel_rfl) ?_
        repeat (go_big_quiet_step (fail))
        refine wpQuiet_nil ?_
        rintro W4 ⟨⟨wx4, hx4⟩, hh⟩
        obtain rfl : W4 = wx4 := hh
        have G3 := E3.kept hx4
        have g3c := G3.cell
        have g3l := G3.lt
        have g3f := G3.frozen
        have K4 := (K2.trans k3).trans hx4
        clear f0 f1 g1 k3 F E1 E3 hx4 d10 d11 d1l d20 d2l d3c d3l d3f
        go_wp2_with fail
        refine bodyPost_ret (v := .tuple #[.agg #[.string ⟨#[]⟩, .int .i64 0, .bool false], .int .i64 6]) (by simp [results, Tryz.results25, go_sem, g3c]) rfl ⟨rfl, ?_⟩
        repeat refine Kept.setCell ?_ (by simp only; omega) _
        exact K4
  · -- an input
    have hnp : namP nm ⟨7, n⟩ = nameAt nm.ins n (⟨#[]⟩) (⟨#[]⟩) := rfl
    have hsz : ∀ (i : Nat) s, nm.ins[i]? = some s → n = i → s.size ≤ 140737488355328 := fun i s hg hn => by
      subst hn
      refine hs s ?_
      show s ∈ [nm.ins[(i : Int).toNat]?.getD ⟨#[]⟩]
      rw [Int.toNat_natCast, hg]; simp
    clear hs hxe hxd hxm hel hT hI hD hM
    generalize namP nm ⟨7, n⟩ = R at *
    generalize nm.ins = xs at *
    obtain ⟨ln, hln⟩ : ∃ ln, ln = xs.length := ⟨_, rfl⟩
    rw [← hln] at hxi l2 K0 ⊢
    have HLN := Lib.hid hln
    clear hln
    by_cases hin : n < 0 ∨ (ln : Int) ≤ n
    · have HR := Lib.hid (hnp.trans (nameAt_out (by have := HLN.out; omega)))
      rw [HR.out]
      unfold pc0
      dsimp only
      clear hsz hnp hxi
      rcases (show n < 0 ∨ (¬ n < 0 ∧ (ln : Int) ≤ n) by omega) with hn | ⟨hn, hn2⟩
      all_goals
        go_enter Tryz.func25, Tryz.ntmps25
        go_wp2_with fail
        obtain ⟨B1, B2, B3⟩ := (Kept.refl (((w.alloc (.cells #[.int .i64 7, .int .i64 n] 41)).alloc (.cells #[.slice AE nm.ms.length ce, .slice AT nm.tb.length ct, .slice AI ln ci, .slice AD nm.ds.length cd, .slice AM nm.md.length cm] 26)).alloc (.cells #[.string ⟨#[]⟩, .int .i64 0, .bool false] 50))).blk3
        have KK := K0.out
        generalize ((w.alloc (.cells #[.int .i64 7, .int .i64 n] 41)).alloc (.cells #[.slice AE nm.ms.length ce, .slice AT nm.tb.length ct, .slice AI ln ci, .slice AD nm.ds.length cd, .slice AM nm.md.length cm] 26)).alloc (.cells #[.string ⟨#[]⟩, .int .i64 0, .bool false] 50) = W at *
        have a0 := KW.cell B1.lt (B1.cell 0)
        have a1 := KW.cell B1.lt (B1.cell 1)
        have e4 := KW.cell B2.lt (B2.cell 4)
        refine wp_region_kept (by kernel_rfl) (by kernel_rfl) ?_
        repeat (go_big_quiet_step (fail))
        refine wpQuiet_nil ?_
        rintro W2 ⟨⟨wx, hx2⟩, hh⟩
        obtain rfl : W2 = wx := hh
        have D1 := B1.kept hx2
        have D2 := B2.kept hx2
        have D3 := B3.kept hx2
        have d10 := D1.cell 0
        have d11 := D1.cell 1
        have d1l := D1.lt
        have d22 := D2.cell 2
        have d2l := D2.lt
        have d3c := D3.cell
        have d3l := D3.lt
        have d3f := D3.frozen
        have K2 := KK.trans hx2
        clear a0 a1 e4 B1 B2 B3 hx2
        go_wp2_with fail
        refine bodyPost_ret (v := .tuple #[.agg #[.string ⟨#[]⟩, .int .i64 0, .bool false], .int .i64 6]) (by simp [results, Tryz.results25, go_sem, d3c]) rfl ⟨rfl, ?_⟩
        repeat refine Kept.setCell ?_ (by simp only; omega) _
        exact K2
    · obtain ⟨i, rfl⟩ : ∃ i : Nat, n = i := ⟨n.toNat, by omega⟩
      have hil : i < ln := by omega
      have hii : (i : Int) < ln := by omega
      have hi0 : ¬ (i : Int) < 0 := by omega
      have hii2 : ¬ (ln : Int) ≤ i := by omega
      have hg : xs[i]? = some (xs[i]'(by have := HLN.out; omega)) := List.getElem?_eq_getElem _
      have hsi := hsz i _ hg rfl
      have HR := Lib.hid (hnp.trans (nameAt_in hg))
      obtain ⟨b1, o1, rfl, hb1, hc1⟩ := hxi (by omega)
      have x0 := hc1 i _ hg
      generalize xs[i]'(by have := HLN.out; omega) = X at *
      rw [HR.out]
      unfold atomP
      dsimp only
      have q1 : ¬ (9223372036854775807 < (⟨#[]⟩ : ByteArray).size + X.size) := by show ¬ (_ < 0 + X.size); omega
      have q2 : ¬ (9223372036854775807 < (⟨#[]⟩ ++ X : ByteArray).size + (⟨#[]⟩ : ByteArray).size) := by rw [ByteArray.size_append]; show ¬ (_ < 0 + X.size + 0); omega
      clear hsz hnp hc1 hg hin
      go_enter Tryz.func25, Tryz.ntmps25
      go_wp2_with fail
      obtain ⟨B1, B2, B3⟩ := (Kept.refl (((w.alloc (.cells #[.int .i64 7, .int .i64 (i : Nat)] 41)).alloc (.cells #[.slice AE nm.ms.length ce, .slice AT nm.tb.length ct, .slice (some ⟨b1, o1, none⟩) ln ci, .slice AD nm.ds.length cd, .slice AM nm.md.length cm] 26)).alloc (.cells #[.string ⟨#[]⟩, .int .i64 0, .bool false] 50))).blk3
      have KK := K0.out
      generalize ((w.alloc (.cells #[.int .i64 7, .int .i64 (i : Nat)] 41)).alloc (.cells #[.slice AE nm.ms.length ce, .slice AT nm.tb.length ct, .slice (some ⟨b1, o1, none⟩) ln ci, .slice AD nm.ds.length cd, .slice AM nm.md.length cm] 26)).alloc (.cells #[.string ⟨#[]⟩, .int .i64 0, .bool false] 50) = W at *
      have a0 := KW.cell B1.lt (B1.cell 0)
      have a1 := KW.cell B1.lt (B1.cell 1)
      have e4 := KW.cell B2.lt (B2.cell 4)
      refine wp_region_kept (by kernel_rfl) (by kernel_rfl) ?_
      repeat (go_big_quiet_step (fail))
      refine wpQuiet_nil ?_
      rintro W2 ⟨⟨wx, hx2⟩, hh⟩
      obtain rfl : W2 = wx := hh
      have D1 := B1.kept hx2
      have D2 := B2.kept hx2
      have D3 := B3.kept hx2
      have d10 := D1.cell 0
      have d11 := D1.cell 1
      have d1l := D1.lt
      have d22 := D2.cell 2
      have d2l := D2.lt
      have d3c := D3.cell
      have d3l := D3.lt
      have d3f := D3.frozen
      have K2 := KK.trans hx2
      clear a0 a1 e4 B1 B2 B3 hx2
      have X0 := K2.cell (p := ⟨b1, _, none⟩) hb1 x0
      have hb1r := Nat.lt_of_lt_of_le hb1 K2.size
      go_wp2_with (go_at_call 27; refine (atom_any _ _).mono ?_; unfold pcV atomP; rintro e w5 ⟨rfl, k5⟩; have C3 := D3.kept k5; have c3c := C3.cell; have c3l := C3.lt; have c3f := C3.frozen)
      generalize (⟨#[]⟩ ++ X ++ ⟨#[]⟩ : ByteArray) = TT at *
      have BW : Blk (((w5.setCell ⟨w.heap.size + 1 + 1, 0, none⟩ (.string (TT))).setCell ⟨w.heap.size + 1 + 1, 1, none⟩ (.int .i64 7)).setCell ⟨w.heap.size + 1 + 1, 2, none⟩ (.bool false)) (w.heap.size + 1 + 1) 50 #[.string (TT), .int .i64 7, .bool false] := ((C3.set_ 0 (.string (TT))).set_ 1 (.int .i64 7)).set_ 2 (.bool false)
      have KF : Kept w (((w5.setCell ⟨w.heap.size + 1 + 1, 0, none⟩ (.string (TT))).setCell ⟨w.heap.size + 1 + 1, 1, none⟩ (.int .i64 7)).setCell ⟨w.heap.size + 1 + 1, 2, none⟩ (.bool false)) := by
        repeat refine Kept.setCell ?_ (by simp only; omega) _
        exact K2.trans k5
      generalize ((w5.setCell ⟨w.heap.size + 1 + 1, 0, none⟩ (.string (TT))).setCell ⟨w.heap.size + 1 + 1, 1, none⟩ (.int .i64 7)).setCell ⟨w.heap.size + 1 + 1, 2, none⟩ (.bool false) = WW at *
      have bw := BW.cell
      refine bodyPost_ret (v := .tuple #[.agg #[.string (TT), .int .i64 7, .bool false], .int .i64 0]) (by simp [results, Tryz.results25, go_sem, bw]) rfl ⟨rfl, KF⟩
  · -- a definition
    have hnp : namP nm ⟨8, n⟩ = nameAt nm.ds n (⟨#[]⟩) (⟨#[]⟩) := rfl
    have hsz : ∀ (i : Nat) s, nm.ds[i]? = some s → n = i → s.size ≤ 140737488355328 := fun i s hg hn => by
      subst hn
      refine hs s ?_
      show s ∈ [nm.ds[(i : Int).toNat]?.getD ⟨#[]⟩]
      rw [Int.toNat_natCast, hg]; simp
    clear hs hxe hxi hxm hel hT hI hD hM
    generalize namP nm ⟨8, n⟩ = R at *
    generalize nm.ds = xs at *
    obtain ⟨ln, hln⟩ : ∃ ln, ln = xs.length := ⟨_, rfl⟩
    rw [← hln] at hxd l3 K0 ⊢
    have HLN := Lib.hid hln
    clear hln
    by_cases hin : n < 0 ∨ (ln : Int) ≤ n
    · have HR := Lib.hid (hnp.trans (nameAt_out (by have := HLN.out; omega)))
      rw [HR.out]
      unfold pc0
      dsimp only
      clear hsz hnp hxd
      rcases (show n < 0 ∨ (¬ n < 0 ∧ (ln : Int) ≤ n) by omega) with hn | ⟨hn, hn2⟩
      all_goals
        go_enter Tryz.func25, Tryz.ntmps25
        go_wp2_with fail
        obtain ⟨B1, B2, B3⟩ := (Kept.refl (((w.alloc (.cells #[.int .i64 8, .int .i64 n] 41)).alloc (.cells #[.slice AE nm.ms.length ce, .slice AT nm.tb.length ct, .slice AI nm.ins.length ci, .slice AD ln cd, .slice AM nm.md.length cm] 26)).alloc (.cells #[.string ⟨#[]⟩, .int .i64 0, .bool false] 50))).blk3
        have KK := K0.out
        generalize ((w.alloc (.cells #[.int .i64 8, .int .i64 n] 41)).alloc (.cells #[.slice AE nm.ms.length ce, .slice AT nm.tb.length ct, .slice AI nm.ins.length ci, .slice AD ln cd, .slice AM nm.md.length cm] 26)).alloc (.cells #[.string ⟨#[]⟩, .int .i64 0, .bool false] 50) = W at *
        have a0 := KW.cell B1.lt (B1.cell 0)
        have a1 := KW.cell B1.lt (B1.cell 1)
        have e4 := KW.cell B2.lt (B2.cell 4)
        refine wp_region_kept (by kernel_rfl) (by kernel_rfl) ?_
        repeat (go_big_quiet_step (fail))
        refine wpQuiet_nil ?_
        rintro W2 ⟨⟨wx, hx2⟩, hh⟩
        obtain rfl : W2 = wx := hh
        have D1 := B1.kept hx2
        have D2 := B2.kept hx2
        have D3 := B3.kept hx2
        have d10 := D1.cell 0
        have d11 := D1.cell 1
        have d1l := D1.lt
        have d23 := D2.cell 3
        have d2l := D2.lt
        have d3c := D3.cell
        have d3l := D3.lt
        have d3f := D3.frozen
        have K2 := KK.trans hx2
        clear a0 a1 e4 B1 B2 B3 hx2
        go_wp2_with fail
        refine bodyPost_ret (v := .tuple #[.agg #[.string ⟨#[]⟩, .int .i64 0, .bool false], .int .i64 6]) (by simp [results, Tryz.results25, go_sem, d3c]) rfl ⟨rfl, ?_⟩
        repeat refine Kept.setCell ?_ (by simp only; omega) _
        exact K2
    · obtain ⟨i, rfl⟩ : ∃ i : Nat, n = i := ⟨n.toNat, by omega⟩
      have hil : i < ln := by omega
      have hii : (i : Int) < ln := by omega
      have hi0 : ¬ (i : Int) < 0 := by omega
      have hii2 : ¬ (ln : Int) ≤ i := by omega
      have hg : xs[i]? = some (xs[i]'(by have := HLN.out; omega)) := List.getElem?_eq_getElem _
      have hsi := hsz i _ hg rfl
      have HR := Lib.hid (hnp.trans (nameAt_in hg))
      obtain ⟨b1, o1, rfl, hb1, hc1⟩ := hxd (by omega)
      have x0 := hc1 i _ hg
      generalize xs[i]'(by have := HLN.out; omega) = X at *
      rw [HR.out]
      unfold atomP
      dsimp only
      have q1 : ¬ (9223372036854775807 < (⟨#[]⟩ : ByteArray).size + X.size) := by show ¬ (_ < 0 + X.size); omega
      have q2 : ¬ (9223372036854775807 < (⟨#[]⟩ ++ X : ByteArray).size + (⟨#[]⟩ : ByteArray).size) := by rw [ByteArray.size_append]; show ¬ (_ < 0 + X.size + 0); omega
      clear hsz hnp hc1 hg hin
      go_enter Tryz.func25, Tryz.ntmps25
      go_wp2_with fail
      obtain ⟨B1, B2, B3⟩ := (Kept.refl (((w.alloc (.cells #[.int .i64 8, .int .i64 (i : Nat)] 41)).alloc (.cells #[.slice AE nm.ms.length ce, .slice AT nm.tb.length ct, .slice AI nm.ins.length ci, .slice (some ⟨b1, o1, none⟩) ln cd, .slice AM nm.md.length cm] 26)).alloc (.cells #[.string ⟨#[]⟩, .int .i64 0, .bool false] 50))).blk3
      have KK := K0.out
      generalize ((w.alloc (.cells #[.int .i64 8, .int .i64 (i : Nat)] 41)).alloc (.cells #[.slice AE nm.ms.length ce, .slice AT nm.tb.length ct, .slice AI nm.ins.length ci, .slice (some ⟨b1, o1, none⟩) ln cd, .slice AM nm.md.length cm] 26)).alloc (.cells #[.string ⟨#[]⟩, .int .i64 0, .bool false] 50) = W at *
      have a0 := KW.cell B1.lt (B1.cell 0)
      have a1 := KW.cell B1.lt (B1.cell 1)
      have e4 := KW.cell B2.lt (B2.cell 4)
      refine wp_region_kept (by kernel_rfl) (by kernel_rfl) ?_
      repeat (go_big_quiet_step (fail))
      refine wpQuiet_nil ?_
      rintro W2 ⟨⟨wx, hx2⟩, hh⟩
      obtain rfl : W2 = wx := hh
      have D1 := B1.kept hx2
      have D2 := B2.kept hx2
      have D3 := B3.kept hx2
      have d10 := D1.cell 0
      have d11 := D1.cell 1
      have d1l := D1.lt
      have d23 := D2.cell 3
      have d2l := D2.lt
      have d3c := D3.cell
      have d3l := D3.lt
      have d3f := D3.frozen
      have K2 := KK.trans hx2
      clear a0 a1 e4 B1 B2 B3 hx2
      have X0 := K2.cell (p := ⟨b1, _, none⟩) hb1 x0
      have hb1r := Nat.lt_of_lt_of_le hb1 K2.size
      go_wp2_with (go_at_call 27; refine (atom_any _ _).mono ?_; unfold pcV atomP; rintro e w5 ⟨rfl, k5⟩; have C3 := D3.kept k5; have c3c := C3.cell; have c3l := C3.lt; have c3f := C3.frozen)
      generalize (⟨#[]⟩ ++ X ++ ⟨#[]⟩ : ByteArray) = TT at *
      have BW : Blk (((w5.setCell ⟨w.heap.size + 1 + 1, 0, none⟩ (.string (TT))).setCell ⟨w.heap.size + 1 + 1, 1, none⟩ (.int .i64 7)).setCell ⟨w.heap.size + 1 + 1, 2, none⟩ (.bool false)) (w.heap.size + 1 + 1) 50 #[.string (TT), .int .i64 7, .bool false] := ((C3.set_ 0 (.string (TT))).set_ 1 (.int .i64 7)).set_ 2 (.bool false)
      have KF : Kept w (((w5.setCell ⟨w.heap.size + 1 + 1, 0, none⟩ (.string (TT))).setCell ⟨w.heap.size + 1 + 1, 1, none⟩ (.int .i64 7)).setCell ⟨w.heap.size + 1 + 1, 2, none⟩ (.bool false)) := by
        repeat refine Kept.setCell ?_ (by simp only; omega) _
        exact K2.trans k5
      generalize ((w5.setCell ⟨w.heap.size + 1 + 1, 0, none⟩ (.string (TT))).setCell ⟨w.heap.size + 1 + 1, 1, none⟩ (.int .i64 7)).setCell ⟨w.heap.size + 1 + 1, 2, none⟩ (.bool false) = WW at *
      have bw := BW.cell
      refine bodyPost_ret (v := .tuple #[.agg #[.string (TT), .int .i64 7, .bool false], .int .i64 0]) (by simp [results, Tryz.results25, go_sem, bw]) rfl ⟨rfl, KF⟩
  · rcases (show o = 36 ∨ o = 37 ∨ o = 38 ∨ o = 39 by omega) with rfl | rfl | rfl | rfl
    · -- op 36
      have hnp : namP nm ⟨36, n⟩ = nameAt nm.md n (callW 36 ++ ⟨#[40]⟩) (⟨#[41]⟩) := rfl
      have hsz : ∀ (i : Nat) s, nm.md[i]? = some s → n = i → s.size ≤ 140737488355328 := fun i s hg hn => by
        subst hn
        refine hs s ?_
        show s ∈ [nm.md[(i : Int).toNat]?.getD ⟨#[]⟩]
        rw [Int.toNat_natCast, hg]; simp
      clear hs hxe hxi hxd hel hT hI hD hM
      generalize namP nm ⟨36, n⟩ = R at *
      generalize nm.md = xs at *
      obtain ⟨ln, hln⟩ : ∃ ln, ln = xs.length := ⟨_, rfl⟩
      rw [← hln] at hxm l4 K0 ⊢
      have HLN := Lib.hid hln
      clear hln
      have HCW := Lib.hid (fun w1 => callWord_any 36 w1)
      have hcz := callW_size 36
      generalize callW 36 = C at *
      by_cases hin : n < 0 ∨ (ln : Int) ≤ n
      · have HR := Lib.hid (hnp.trans (nameAt_out (by have := HLN.out; omega)))
        rw [HR.out]
        unfold pc0
        dsimp only
        clear hsz hnp hxm
        rcases (show n < 0 ∨ (¬ n < 0 ∧ (ln : Int) ≤ n) by omega) with hn | ⟨hn, hn2⟩
        all_goals
          go_enter Tryz.func25, Tryz.ntmps25
          go_wp2_with fail
          obtain ⟨B1, B2, B3⟩ := (Kept.refl (((w.alloc (.cells #[.int .i64 36, .int .i64 n] 41)).alloc (.cells #[.slice AE nm.ms.length ce, .slice AT nm.tb.length ct, .slice AI nm.ins.length ci, .slice AD nm.ds.length cd, .slice AM ln cm] 26)).alloc (.cells #[.string ⟨#[]⟩, .int .i64 0, .bool false] 50))).blk3
          have KK := K0.out
          generalize ((w.alloc (.cells #[.int .i64 36, .int .i64 n] 41)).alloc (.cells #[.slice AE nm.ms.length ce, .slice AT nm.tb.length ct, .slice AI nm.ins.length ci, .slice AD nm.ds.length cd, .slice AM ln cm] 26)).alloc (.cells #[.string ⟨#[]⟩, .int .i64 0, .bool false] 50) = W at *
          have a0 := KW.cell B1.lt (B1.cell 0)
          have a1 := KW.cell B1.lt (B1.cell 1)
          have e4 := KW.cell B2.lt (B2.cell 4)
          refine wp_region_kept (by kernel_rfl) (by kernel_rfl) ?_
          repeat (go_big_quiet_step (fail))
          refine wpQuiet_nil ?_
          rintro W2 ⟨⟨wx, hx2⟩, hh⟩
          obtain rfl : W2 = wx := hh
          have D1 := B1.kept hx2
          have D2 := B2.kept hx2
          have D3 := B3.kept hx2
          have d10 := D1.cell 0
          have d11 := D1.cell 1
          have d1l := D1.lt
          have d24 := D2.cell 4
          have d2l := D2.lt
          have d3c := D3.cell
          have d3l := D3.lt
          have d3f := D3.frozen
          have K2 := KK.trans hx2
          clear a0 a1 e4 B1 B2 B3 hx2
          go_wp2_with (go_at_call 28; refine (HCW.out _).mono ?_; rintro e wq ⟨rfl, rfl⟩)
          refine bodyPost_ret (v := .tuple #[.agg #[.string ⟨#[]⟩, .int .i64 0, .bool false], .int .i64 6]) (by simp [results, Tryz.results25, go_sem, d3c]) rfl ⟨rfl, ?_⟩
          repeat refine Kept.setCell ?_ (by simp only; omega) _
          exact K2
      · obtain ⟨i, rfl⟩ : ∃ i : Nat, n = i := ⟨n.toNat, by omega⟩
        have hil : i < ln := by omega
        have hii : (i : Int) < ln := by omega
        have hi0 : ¬ (i : Int) < 0 := by omega
        have hii2 : ¬ (ln : Int) ≤ i := by omega
        have hg : xs[i]? = some (xs[i]'(by have := HLN.out; omega)) := List.getElem?_eq_getElem _
        have hsi := hsz i _ hg rfl
        have HR := Lib.hid (hnp.trans (nameAt_in hg))
        obtain ⟨b1, o1, rfl, hb1, hc1⟩ := hxm (by omega)
        have x0 := hc1 i _ hg
        generalize xs[i]'(by have := HLN.out; omega) = X at *
        rw [HR.out]
        unfold atomP
        dsimp only
        have q0 : ¬ (9223372036854775807 < C.size + (⟨#[40]⟩ : ByteArray).size) := by show ¬ (_ < C.size + 1); omega
        have hz1 : (C ++ ⟨#[40]⟩ : ByteArray).size = C.size + 1 := by rw [ByteArray.size_append]; rfl
        have q1 : ¬ (9223372036854775807 < (C ++ ⟨#[40]⟩ : ByteArray).size + X.size) := by rw [hz1]; omega
        have q2 : ¬ (9223372036854775807 < (C ++ ⟨#[40]⟩ ++ X : ByteArray).size + (⟨#[41]⟩ : ByteArray).size) := by rw [ByteArray.size_append, hz1]; show ¬ (_ < C.size + 1 + X.size + 1); omega
        clear hz1
        clear hsz hnp hc1 hg hin
        go_enter Tryz.func25, Tryz.ntmps25
        go_wp2_with fail
        obtain ⟨B1, B2, B3⟩ := (Kept.refl (((w.alloc (.cells #[.int .i64 36, .int .i64 (i : Nat)] 41)).alloc (.cells #[.slice AE nm.ms.length ce, .slice AT nm.tb.length ct, .slice AI nm.ins.length ci, .slice AD nm.ds.length cd, .slice (some ⟨b1, o1, none⟩) ln cm] 26)).alloc (.cells #[.string ⟨#[]⟩, .int .i64 0, .bool false] 50))).blk3
        have KK := K0.out
        generalize ((w.alloc (.cells #[.int .i64 36, .int .i64 (i : Nat)] 41)).alloc (.cells #[.slice AE nm.ms.length ce, .slice AT nm.tb.length ct, .slice AI nm.ins.length ci, .slice AD nm.ds.length cd, .slice (some ⟨b1, o1, none⟩) ln cm] 26)).alloc (.cells #[.string ⟨#[]⟩, .int .i64 0, .bool false] 50) = W at *
        have a0 := KW.cell B1.lt (B1.cell 0)
        have a1 := KW.cell B1.lt (B1.cell 1)
        have e4 := KW.cell B2.lt (B2.cell 4)
        refine wp_region_kept (by kernel_rfl) (by kernel_rfl) ?_
        repeat (go_big_quiet_step (fail))
        refine wpQuiet_nil ?_
        rintro W2 ⟨⟨wx, hx2⟩, hh⟩
        obtain rfl : W2 = wx := hh
        have D1 := B1.kept hx2
        have D2 := B2.kept hx2
        have D3 := B3.kept hx2
        have d10 := D1.cell 0
        have d11 := D1.cell 1
        have d1l := D1.lt
        have d24 := D2.cell 4
        have d2l := D2.lt
        have d3c := D3.cell
        have d3l := D3.lt
        have d3f := D3.frozen
        have K2 := KK.trans hx2
        clear a0 a1 e4 B1 B2 B3 hx2
        have X0 := K2.cell (p := ⟨b1, _, none⟩) hb1 x0
        have hb1r := Nat.lt_of_lt_of_le hb1 K2.size
        go_wp2_with (first | (go_at_call 28; refine (HCW.out _).mono ?_; rintro e wq ⟨rfl, rfl⟩) | (go_at_call 27; refine (atom_any _ _).mono ?_; unfold pcV atomP; rintro e w5 ⟨rfl, k5⟩; have C3 := D3.kept k5; have c3c := C3.cell; have c3l := C3.lt; have c3f := C3.frozen))
        generalize (C ++ ⟨#[40]⟩ ++ X ++ ⟨#[41]⟩ : ByteArray) = TT at *
        have BW : Blk (((w5.setCell ⟨w.heap.size + 1 + 1, 0, none⟩ (.string (TT))).setCell ⟨w.heap.size + 1 + 1, 1, none⟩ (.int .i64 7)).setCell ⟨w.heap.size + 1 + 1, 2, none⟩ (.bool false)) (w.heap.size + 1 + 1) 50 #[.string (TT), .int .i64 7, .bool false] := ((C3.set_ 0 (.string (TT))).set_ 1 (.int .i64 7)).set_ 2 (.bool false)
        have KF : Kept w (((w5.setCell ⟨w.heap.size + 1 + 1, 0, none⟩ (.string (TT))).setCell ⟨w.heap.size + 1 + 1, 1, none⟩ (.int .i64 7)).setCell ⟨w.heap.size + 1 + 1, 2, none⟩ (.bool false)) := by
          repeat refine Kept.setCell ?_ (by simp only; omega) _
          exact K2.trans k5
        generalize ((w5.setCell ⟨w.heap.size + 1 + 1, 0, none⟩ (.string (TT))).setCell ⟨w.heap.size + 1 + 1, 1, none⟩ (.int .i64 7)).setCell ⟨w.heap.size + 1 + 1, 2, none⟩ (.bool false) = WW at *
        have bw := BW.cell
        refine bodyPost_ret (v := .tuple #[.agg #[.string (TT), .int .i64 7, .bool false], .int .i64 0]) (by simp [results, Tryz.results25, go_sem, bw]) rfl ⟨rfl, KF⟩
    · -- op 37
      have hnp : namP nm ⟨37, n⟩ = nameAt nm.md n (callW 37 ++ ⟨#[40]⟩) (⟨#[41]⟩) := rfl
      have hsz : ∀ (i : Nat) s, nm.md[i]? = some s → n = i → s.size ≤ 140737488355328 := fun i s hg hn => by
        subst hn
        refine hs s ?_
        show s ∈ [nm.md[(i : Int).toNat]?.getD ⟨#[]⟩]
        rw [Int.toNat_natCast, hg]; simp
      clear hs hxe hxi hxd hel hT hI hD hM
      generalize namP nm ⟨37, n⟩ = R at *
      generalize nm.md = xs at *
      obtain ⟨ln, hln⟩ : ∃ ln, ln = xs.length := ⟨_, rfl⟩
      rw [← hln] at hxm l4 K0 ⊢
      have HLN := Lib.hid hln
      clear hln
      have HCW := Lib.hid (fun w1 => callWord_any 37 w1)
      have hcz := callW_size 37
      generalize callW 37 = C at *
      by_cases hin : n < 0 ∨ (ln : Int) ≤ n
      · have HR := Lib.hid (hnp.trans (nameAt_out (by have := HLN.out; omega)))
        rw [HR.out]
        unfold pc0
        dsimp only
        clear hsz hnp hxm
        rcases (show n < 0 ∨ (¬ n < 0 ∧ (ln : Int) ≤ n) by omega) with hn | ⟨hn, hn2⟩
        all_goals
          go_enter Tryz.func25, Tryz.ntmps25
          go_wp2_with fail
          obtain ⟨B1, B2, B3⟩ := (Kept.refl (((w.alloc (.cells #[.int .i64 37, .int .i64 n] 41)).alloc (.cells #[.slice AE nm.ms.length ce, .slice AT nm.tb.length ct, .slice AI nm.ins.length ci, .slice AD nm.ds.length cd, .slice AM ln cm] 26)).alloc (.cells #[.string ⟨#[]⟩, .int .i64 0, .bool false] 50))).blk3
          have KK := K0.out
          generalize ((w.alloc (.cells #[.int .i64 37, .int .i64 n] 41)).alloc (.cells #[.slice AE nm.ms.length ce, .slice AT nm.tb.length ct, .slice AI nm.ins.length ci, .slice AD nm.ds.length cd, .slice AM ln cm] 26)).alloc (.cells #[.string ⟨#[]⟩, .int .i64 0, .bool false] 50) = W at *
          have a0 := KW.cell B1.lt (B1.cell 0)
          have a1 := KW.cell B1.lt (B1.cell 1)
          have e4 := KW.cell B2.lt (B2.cell 4)
          refine wp_region_kept (by kernel_rfl) (by kernel_rfl) ?_
          repeat (go_big_quiet_step (fail))
          refine wpQuiet_nil ?_
          rintro W2 ⟨⟨wx, hx2⟩, hh⟩
          obtain rfl : W2 = wx := hh
          have D1 := B1.kept hx2
          have D2 := B2.kept hx2
          have D3 := B3.kept hx2
          have d10 := D1.cell 0
          have d11 := D1.cell 1
          have d1l := D1.lt
          have d24 := D2.cell 4
          have d2l := D2.lt
          have d3c := D3.cell
          have d3l := D3.lt
          have d3f := D3.frozen
          have K2 := KK.trans hx2
          clear a0 a1 e4 B1 B2 B3 hx2
          go_wp2_with (go_at_call 28; refine (HCW.out _).mono ?_; rintro e wq ⟨rfl, rfl⟩)
          refine bodyPost_ret (v := .tuple #[.agg #[.string ⟨#[]⟩, .int .i64 0, .bool false], .int .i64 6]) (by simp [results, Tryz.results25, go_sem, d3c]) rfl ⟨rfl, ?_⟩
          repeat refine Kept.setCell ?_ (by simp only; omega) _
          exact K2
      · obtain ⟨i, rfl⟩ : ∃ i : Nat, n = i := ⟨n.toNat, by omega⟩
        have hil : i < ln := by omega
        have hii : (i : Int) < ln := by omega
        have hi0 : ¬ (i : Int) < 0 := by omega
        have hii2 : ¬ (ln : Int) ≤ i := by omega
        have hg : xs[i]? = some (xs[i]'(by have := HLN.out; omega)) := List.getElem?_eq_getElem _
        have hsi := hsz i _ hg rfl
        have HR := Lib.hid (hnp.trans (nameAt_in hg))
        obtain ⟨b1, o1, rfl, hb1, hc1⟩ := hxm (by omega)
        have x0 := hc1 i _ hg
        generalize xs[i]'(by have := HLN.out; omega) = X at *
        rw [HR.out]
        unfold atomP
        dsimp only
        have q0 : ¬ (9223372036854775807 < C.size + (⟨#[40]⟩ : ByteArray).size) := by show ¬ (_ < C.size + 1); omega
        have hz1 : (C ++ ⟨#[40]⟩ : ByteArray).size = C.size + 1 := by rw [ByteArray.size_append]; rfl
        have q1 : ¬ (9223372036854775807 < (C ++ ⟨#[40]⟩ : ByteArray).size + X.size) := by rw [hz1]; omega
        have q2 : ¬ (9223372036854775807 < (C ++ ⟨#[40]⟩ ++ X : ByteArray).size + (⟨#[41]⟩ : ByteArray).size) := by rw [ByteArray.size_append, hz1]; show ¬ (_ < C.size + 1 + X.size + 1); omega
        clear hz1
        clear hsz hnp hc1 hg hin
        go_enter Tryz.func25, Tryz.ntmps25
        go_wp2_with fail
        obtain ⟨B1, B2, B3⟩ := (Kept.refl (((w.alloc (.cells #[.int .i64 37, .int .i64 (i : Nat)] 41)).alloc (.cells #[.slice AE nm.ms.length ce, .slice AT nm.tb.length ct, .slice AI nm.ins.length ci, .slice AD nm.ds.length cd, .slice (some ⟨b1, o1, none⟩) ln cm] 26)).alloc (.cells #[.string ⟨#[]⟩, .int .i64 0, .bool false] 50))).blk3
        have KK := K0.out
        generalize ((w.alloc (.cells #[.int .i64 37, .int .i64 (i : Nat)] 41)).alloc (.cells #[.slice AE nm.ms.length ce, .slice AT nm.tb.length ct, .slice AI nm.ins.length ci, .slice AD nm.ds.length cd, .slice (some ⟨b1, o1, none⟩) ln cm] 26)).alloc (.cells #[.string ⟨#[]⟩, .int .i64 0, .bool false] 50) = W at *
        have a0 := KW.cell B1.lt (B1.cell 0)
        have a1 := KW.cell B1.lt (B1.cell 1)
        have e4 := KW.cell B2.lt (B2.cell 4)
        refine wp_region_kept (by kernel_rfl) (by kernel_rfl) ?_
        repeat (go_big_quiet_step (fail))
        refine wpQuiet_nil ?_
        rintro W2 ⟨⟨wx, hx2⟩, hh⟩
        obtain rfl : W2 = wx := hh
        have D1 := B1.kept hx2
        have D2 := B2.kept hx2
        have D3 := B3.kept hx2
        have d10 := D1.cell 0
        have d11 := D1.cell 1
        have d1l := D1.lt
        have d24 := D2.cell 4
        have d2l := D2.lt
        have d3c := D3.cell
        have d3l := D3.lt
        have d3f := D3.frozen
        have K2 := KK.trans hx2
        clear a0 a1 e4 B1 B2 B3 hx2
        have X0 := K2.cell (p := ⟨b1, _, none⟩) hb1 x0
        have hb1r := Nat.lt_of_lt_of_le hb1 K2.size
        go_wp2_with (first | (go_at_call 28; refine (HCW.out _).mono ?_; rintro e wq ⟨rfl, rfl⟩) | (go_at_call 27; refine (atom_any _ _).mono ?_; unfold pcV atomP; rintro e w5 ⟨rfl, k5⟩; have C3 := D3.kept k5; have c3c := C3.cell; have c3l := C3.lt; have c3f := C3.frozen))
        generalize (C ++ ⟨#[40]⟩ ++ X ++ ⟨#[41]⟩ : ByteArray) = TT at *
        have BW : Blk (((w5.setCell ⟨w.heap.size + 1 + 1, 0, none⟩ (.string (TT))).setCell ⟨w.heap.size + 1 + 1, 1, none⟩ (.int .i64 7)).setCell ⟨w.heap.size + 1 + 1, 2, none⟩ (.bool false)) (w.heap.size + 1 + 1) 50 #[.string (TT), .int .i64 7, .bool false] := ((C3.set_ 0 (.string (TT))).set_ 1 (.int .i64 7)).set_ 2 (.bool false)
        have KF : Kept w (((w5.setCell ⟨w.heap.size + 1 + 1, 0, none⟩ (.string (TT))).setCell ⟨w.heap.size + 1 + 1, 1, none⟩ (.int .i64 7)).setCell ⟨w.heap.size + 1 + 1, 2, none⟩ (.bool false)) := by
          repeat refine Kept.setCell ?_ (by simp only; omega) _
          exact K2.trans k5
        generalize ((w5.setCell ⟨w.heap.size + 1 + 1, 0, none⟩ (.string (TT))).setCell ⟨w.heap.size + 1 + 1, 1, none⟩ (.int .i64 7)).setCell ⟨w.heap.size + 1 + 1, 2, none⟩ (.bool false) = WW at *
        have bw := BW.cell
        refine bodyPost_ret (v := .tuple #[.agg #[.string (TT), .int .i64 7, .bool false], .int .i64 0]) (by simp [results, Tryz.results25, go_sem, bw]) rfl ⟨rfl, KF⟩
    · -- op 38
      have hnp : namP nm ⟨38, n⟩ = nameAt nm.md n (callW 38 ++ ⟨#[40]⟩) (⟨#[41]⟩) := rfl
      have hsz : ∀ (i : Nat) s, nm.md[i]? = some s → n = i → s.size ≤ 140737488355328 := fun i s hg hn => by
        subst hn
        refine hs s ?_
        show s ∈ [nm.md[(i : Int).toNat]?.getD ⟨#[]⟩]
        rw [Int.toNat_natCast, hg]; simp
      clear hs hxe hxi hxd hel hT hI hD hM
      generalize namP nm ⟨38, n⟩ = R at *
      generalize nm.md = xs at *
      obtain ⟨ln, hln⟩ : ∃ ln, ln = xs.length := ⟨_, rfl⟩
      rw [← hln] at hxm l4 K0 ⊢
      have HLN := Lib.hid hln
      clear hln
      have HCW := Lib.hid (fun w1 => callWord_any 38 w1)
      have hcz := callW_size 38
      generalize callW 38 = C at *
      by_cases hin : n < 0 ∨ (ln : Int) ≤ n
      · have HR := Lib.hid (hnp.trans (nameAt_out (by have := HLN.out; omega)))
        rw [HR.out]
        unfold pc0
        dsimp only
        clear hsz hnp hxm
        rcases (show n < 0 ∨ (¬ n < 0 ∧ (ln : Int) ≤ n) by omega) with hn | ⟨hn, hn2⟩
        all_goals
          go_enter Tryz.func25, Tryz.ntmps25
          go_wp2_with fail
          obtain ⟨B1, B2, B3⟩ := (Kept.refl (((w.alloc (.cells #[.int .i64 38, .int .i64 n] 41)).alloc (.cells #[.slice AE nm.ms.length ce, .slice AT nm.tb.length ct, .slice AI nm.ins.length ci, .slice AD nm.ds.length cd, .slice AM ln cm] 26)).alloc (.cells #[.string ⟨#[]⟩, .int .i64 0, .bool false] 50))).blk3
          have KK := K0.out
          generalize ((w.alloc (.cells #[.int .i64 38, .int .i64 n] 41)).alloc (.cells #[.slice AE nm.ms.length ce, .slice AT nm.tb.length ct, .slice AI nm.ins.length ci, .slice AD nm.ds.length cd, .slice AM ln cm] 26)).alloc (.cells #[.string ⟨#[]⟩, .int .i64 0, .bool false] 50) = W at *
          have a0 := KW.cell B1.lt (B1.cell 0)
          have a1 := KW.cell B1.lt (B1.cell 1)
          have e4 := KW.cell B2.lt (B2.cell 4)
          refine wp_region_kept (by kernel_rfl) (by kernel_rfl) ?_
          repeat (go_big_quiet_step (fail))
          refine wpQuiet_nil ?_
          rintro W2 ⟨⟨wx, hx2⟩, hh⟩
          obtain rfl : W2 = wx := hh
          have D1 := B1.kept hx2
          have D2 := B2.kept hx2
          have D3 := B3.kept hx2
          have d10 := D1.cell 0
          have d11 := D1.cell 1
          have d1l := D1.lt
          have d24 := D2.cell 4
          have d2l := D2.lt
          have d3c := D3.cell
          have d3l := D3.lt
          have d3f := D3.frozen
          have K2 := KK.trans hx2
          clear a0 a1 e4 B1 B2 B3 hx2
          go_wp2_with (go_at_call 28; refine (HCW.out _).mono ?_; rintro e wq ⟨rfl, rfl⟩)
          refine bodyPost_ret (v := .tuple #[.agg #[.string ⟨#[]⟩, .int .i64 0, .bool false], .int .i64 6]) (by simp [results, Tryz.results25, go_sem, d3c]) rfl ⟨rfl, ?_⟩
          repeat refine Kept.setCell ?_ (by simp only; omega) _
          exact K2
      · obtain ⟨i, rfl⟩ : ∃ i : Nat, n = i := ⟨n.toNat, by omega⟩
        have hil : i < ln := by omega
        have hii : (i : Int) < ln := by omega
        have hi0 : ¬ (i : Int) < 0 := by omega
        have hii2 : ¬ (ln : Int) ≤ i := by omega
        have hg : xs[i]? = some (xs[i]'(by have := HLN.out; omega)) := List.getElem?_eq_getElem _
        have hsi := hsz i _ hg rfl
        have HR := Lib.hid (hnp.trans (nameAt_in hg))
        obtain ⟨b1, o1, rfl, hb1, hc1⟩ := hxm (by omega)
        have x0 := hc1 i _ hg
        generalize xs[i]'(by have := HLN.out; omega) = X at *
        rw [HR.out]
        unfold atomP
        dsimp only
        have q0 : ¬ (9223372036854775807 < C.size + (⟨#[40]⟩ : ByteArray).size) := by show ¬ (_ < C.size + 1); omega
        have hz1 : (C ++ ⟨#[40]⟩ : ByteArray).size = C.size + 1 := by rw [ByteArray.size_append]; rfl
        have q1 : ¬ (9223372036854775807 < (C ++ ⟨#[40]⟩ : ByteArray).size + X.size) := by rw [hz1]; omega
        have q2 : ¬ (9223372036854775807 < (C ++ ⟨#[40]⟩ ++ X : ByteArray).size + (⟨#[41]⟩ : ByteArray).size) := by rw [ByteArray.size_append, hz1]; show ¬ (_ < C.size + 1 + X.size + 1); omega
        clear hz1
        clear hsz hnp hc1 hg hin
        go_enter Tryz.func25, Tryz.ntmps25
        go_wp2_with fail
        obtain ⟨B1, B2, B3⟩ := (Kept.refl (((w.alloc (.cells #[.int .i64 38, .int .i64 (i : Nat)] 41)).alloc (.cells #[.slice AE nm.ms.length ce, .slice AT nm.tb.length ct, .slice AI nm.ins.length ci, .slice AD nm.ds.length cd, .slice (some ⟨b1, o1, none⟩) ln cm] 26)).alloc (.cells #[.string ⟨#[]⟩, .int .i64 0, .bool false] 50))).blk3
        have KK := K0.out
        generalize ((w.alloc (.cells #[.int .i64 38, .int .i64 (i : Nat)] 41)).alloc (.cells #[.slice AE nm.ms.length ce, .slice AT nm.tb.length ct, .slice AI nm.ins.length ci, .slice AD nm.ds.length cd, .slice (some ⟨b1, o1, none⟩) ln cm] 26)).alloc (.cells #[.string ⟨#[]⟩, .int .i64 0, .bool false] 50) = W at *
        have a0 := KW.cell B1.lt (B1.cell 0)
        have a1 := KW.cell B1.lt (B1.cell 1)
        have e4 := KW.cell B2.lt (B2.cell 4)
        refine wp_region_kept (by kernel_rfl) (by kernel_rfl) ?_
        repeat (go_big_quiet_step (fail))
        refine wpQuiet_nil ?_
        rintro W2 ⟨⟨wx, hx2⟩, hh⟩
        obtain rfl : W2 = wx := hh
        have D1 := B1.kept hx2
        have D2 := B2.kept hx2
        have D3 := B3.kept hx2
        have d10 := D1.cell 0
        have d11 := D1.cell 1
        have d1l := D1.lt
        have d24 := D2.cell 4
        have d2l := D2.lt
        have d3c := D3.cell
        have d3l := D3.lt
        have d3f := D3.frozen
        have K2 := KK.trans hx2
        clear a0 a1 e4 B1 B2 B3 hx2
        have X0 := K2.cell (p := ⟨b1, _, none⟩) hb1 x0
        have hb1r := Nat.lt_of_lt_of_le hb1 K2.size
        go_wp2_with (first | (go_at_call 28; refine (HCW.out _).mono ?_; rintro e wq ⟨rfl, rfl⟩) | (go_at_call 27; refine (atom_any _ _).mono ?_; unfold pcV atomP; rintro e w5 ⟨rfl, k5⟩; have C3 := D3.kept k5; have c3c := C3.cell; have c3l := C3.lt; have c3f := C3.frozen))
        generalize (C ++ ⟨#[40]⟩ ++ X ++ ⟨#[41]⟩ : ByteArray) = TT at *
        have BW : Blk (((w5.setCell ⟨w.heap.size + 1 + 1, 0, none⟩ (.string (TT))).setCell ⟨w.heap.size + 1 + 1, 1, none⟩ (.int .i64 7)).setCell ⟨w.heap.size + 1 + 1, 2, none⟩ (.bool false)) (w.heap.size + 1 + 1) 50 #[.string (TT), .int .i64 7, .bool false] := ((C3.set_ 0 (.string (TT))).set_ 1 (.int .i64 7)).set_ 2 (.bool false)
        have KF : Kept w (((w5.setCell ⟨w.heap.size + 1 + 1, 0, none⟩ (.string (TT))).setCell ⟨w.heap.size + 1 + 1, 1, none⟩ (.int .i64 7)).setCell ⟨w.heap.size + 1 + 1, 2, none⟩ (.bool false)) := by
          repeat refine Kept.setCell ?_ (by simp only; omega) _
          exact K2.trans k5
        generalize ((w5.setCell ⟨w.heap.size + 1 + 1, 0, none⟩ (.string (TT))).setCell ⟨w.heap.size + 1 + 1, 1, none⟩ (.int .i64 7)).setCell ⟨w.heap.size + 1 + 1, 2, none⟩ (.bool false) = WW at *
        have bw := BW.cell
        refine bodyPost_ret (v := .tuple #[.agg #[.string (TT), .int .i64 7, .bool false], .int .i64 0]) (by simp [results, Tryz.results25, go_sem, bw]) rfl ⟨rfl, KF⟩
    · -- op 39
      have hnp : namP nm ⟨39, n⟩ = nameAt nm.md n (callW 39 ++ ⟨#[40]⟩) (⟨#[41]⟩) := rfl
      have hsz : ∀ (i : Nat) s, nm.md[i]? = some s → n = i → s.size ≤ 140737488355328 := fun i s hg hn => by
        subst hn
        refine hs s ?_
        show s ∈ [nm.md[(i : Int).toNat]?.getD ⟨#[]⟩]
        rw [Int.toNat_natCast, hg]; simp
      clear hs hxe hxi hxd hel hT hI hD hM
      generalize namP nm ⟨39, n⟩ = R at *
      generalize nm.md = xs at *
      obtain ⟨ln, hln⟩ : ∃ ln, ln = xs.length := ⟨_, rfl⟩
      rw [← hln] at hxm l4 K0 ⊢
      have HLN := Lib.hid hln
      clear hln
      have HCW := Lib.hid (fun w1 => callWord_any 39 w1)
      have hcz := callW_size 39
      generalize callW 39 = C at *
      by_cases hin : n < 0 ∨ (ln : Int) ≤ n
      · have HR := Lib.hid (hnp.trans (nameAt_out (by have := HLN.out; omega)))
        rw [HR.out]
        unfold pc0
        dsimp only
        clear hsz hnp hxm
        rcases (show n < 0 ∨ (¬ n < 0 ∧ (ln : Int) ≤ n) by omega) with hn | ⟨hn, hn2⟩
        all_goals
          go_enter Tryz.func25, Tryz.ntmps25
          go_wp2_with fail
          obtain ⟨B1, B2, B3⟩ := (Kept.refl (((w.alloc (.cells #[.int .i64 39, .int .i64 n] 41)).alloc (.cells #[.slice AE nm.ms.length ce, .slice AT nm.tb.length ct, .slice AI nm.ins.length ci, .slice AD nm.ds.length cd, .slice AM ln cm] 26)).alloc (.cells #[.string ⟨#[]⟩, .int .i64 0, .bool false] 50))).blk3
          have KK := K0.out
          generalize ((w.alloc (.cells #[.int .i64 39, .int .i64 n] 41)).alloc (.cells #[.slice AE nm.ms.length ce, .slice AT nm.tb.length ct, .slice AI nm.ins.length ci, .slice AD nm.ds.length cd, .slice AM ln cm] 26)).alloc (.cells #[.string ⟨#[]⟩, .int .i64 0, .bool false] 50) = W at *
          have a0 := KW.cell B1.lt (B1.cell 0)
          have a1 := KW.cell B1.lt (B1.cell 1)
          have e4 := KW.cell B2.lt (B2.cell 4)
          refine wp_region_kept (by kernel_rfl) (by kernel_rfl) ?_
          repeat (go_big_quiet_step (fail))
          refine wpQuiet_nil ?_
          rintro W2 ⟨⟨wx, hx2⟩, hh⟩
          obtain rfl : W2 = wx := hh
          have D1 := B1.kept hx2
          have D2 := B2.kept hx2
          have D3 := B3.kept hx2
          have d10 := D1.cell 0
          have d11 := D1.cell 1
          have d1l := D1.lt
          have d24 := D2.cell 4
          have d2l := D2.lt
          have d3c := D3.cell
          have d3l := D3.lt
          have d3f := D3.frozen
          have K2 := KK.trans hx2
          clear a0 a1 e4 B1 B2 B3 hx2
          go_wp2_with (go_at_call 28; refine (HCW.out _).mono ?_; rintro e wq ⟨rfl, rfl⟩)
          refine bodyPost_ret (v := .tuple #[.agg #[.string ⟨#[]⟩, .int .i64 0, .bool false], .int .i64 6]) (by simp [results, Tryz.results25, go_sem, d3c]) rfl ⟨rfl, ?_⟩
          repeat refine Kept.setCell ?_ (by simp only; omega) _
          exact K2
      · obtain ⟨i, rfl⟩ : ∃ i : Nat, n = i := ⟨n.toNat, by omega⟩
        have hil : i < ln := by omega
        have hii : (i : Int) < ln := by omega
        have hi0 : ¬ (i : Int) < 0 := by omega
        have hii2 : ¬ (ln : Int) ≤ i := by omega
        have hg : xs[i]? = some (xs[i]'(by have := HLN.out; omega)) := List.getElem?_eq_getElem _
        have hsi := hsz i _ hg rfl
        have HR := Lib.hid (hnp.trans (nameAt_in hg))
        obtain ⟨b1, o1, rfl, hb1, hc1⟩ := hxm (by omega)
        have x0 := hc1 i _ hg
        generalize xs[i]'(by have := HLN.out; omega) = X at *
        rw [HR.out]
        unfold atomP
        dsimp only
        have q0 : ¬ (9223372036854775807 < C.size + (⟨#[40]⟩ : ByteArray).size) := by show ¬ (_ < C.size + 1); omega
        have hz1 : (C ++ ⟨#[40]⟩ : ByteArray).size = C.size + 1 := by rw [ByteArray.size_append]; rfl
        have q1 : ¬ (9223372036854775807 < (C ++ ⟨#[40]⟩ : ByteArray).size + X.size) := by rw [hz1]; omega
        have q2 : ¬ (9223372036854775807 < (C ++ ⟨#[40]⟩ ++ X : ByteArray).size + (⟨#[41]⟩ : ByteArray).size) := by rw [ByteArray.size_append, hz1]; show ¬ (_ < C.size + 1 + X.size + 1); omega
        clear hz1
        clear hsz hnp hc1 hg hin
        go_enter Tryz.func25, Tryz.ntmps25
        go_wp2_with fail
        obtain ⟨B1, B2, B3⟩ := (Kept.refl (((w.alloc (.cells #[.int .i64 39, .int .i64 (i : Nat)] 41)).alloc (.cells #[.slice AE nm.ms.length ce, .slice AT nm.tb.length ct, .slice AI nm.ins.length ci, .slice AD nm.ds.length cd, .slice (some ⟨b1, o1, none⟩) ln cm] 26)).alloc (.cells #[.string ⟨#[]⟩, .int .i64 0, .bool false] 50))).blk3
        have KK := K0.out
        generalize ((w.alloc (.cells #[.int .i64 39, .int .i64 (i : Nat)] 41)).alloc (.cells #[.slice AE nm.ms.length ce, .slice AT nm.tb.length ct, .slice AI nm.ins.length ci, .slice AD nm.ds.length cd, .slice (some ⟨b1, o1, none⟩) ln cm] 26)).alloc (.cells #[.string ⟨#[]⟩, .int .i64 0, .bool false] 50) = W at *
        have a0 := KW.cell B1.lt (B1.cell 0)
        have a1 := KW.cell B1.lt (B1.cell 1)
        have e4 := KW.cell B2.lt (B2.cell 4)
        refine wp_region_kept (by kernel_rfl) (by kernel_rfl) ?_
        repeat (go_big_quiet_step (fail))
        refine wpQuiet_nil ?_
        rintro W2 ⟨⟨wx, hx2⟩, hh⟩
        obtain rfl : W2 = wx := hh
        have D1 := B1.kept hx2
        have D2 := B2.kept hx2
        have D3 := B3.kept hx2
        have d10 := D1.cell 0
        have d11 := D1.cell 1
        have d1l := D1.lt
        have d24 := D2.cell 4
        have d2l := D2.lt
        have d3c := D3.cell
        have d3l := D3.lt
        have d3f := D3.frozen
        have K2 := KK.trans hx2
        clear a0 a1 e4 B1 B2 B3 hx2
        have X0 := K2.cell (p := ⟨b1, _, none⟩) hb1 x0
        have hb1r := Nat.lt_of_lt_of_le hb1 K2.size
        go_wp2_with (first | (go_at_call 28; refine (HCW.out _).mono ?_; rintro e wq ⟨rfl, rfl⟩) | (go_at_call 27; refine (atom_any _ _).mono ?_; unfold pcV atomP; rintro e w5 ⟨rfl, k5⟩; have C3 := D3.kept k5; have c3c := C3.cell; have c3l := C3.lt; have c3f := C3.frozen))
        generalize (C ++ ⟨#[40]⟩ ++ X ++ ⟨#[41]⟩ : ByteArray) = TT at *
        have BW : Blk (((w5.setCell ⟨w.heap.size + 1 + 1, 0, none⟩ (.string (TT))).setCell ⟨w.heap.size + 1 + 1, 1, none⟩ (.int .i64 7)).setCell ⟨w.heap.size + 1 + 1, 2, none⟩ (.bool false)) (w.heap.size + 1 + 1) 50 #[.string (TT), .int .i64 7, .bool false] := ((C3.set_ 0 (.string (TT))).set_ 1 (.int .i64 7)).set_ 2 (.bool false)
        have KF : Kept w (((w5.setCell ⟨w.heap.size + 1 + 1, 0, none⟩ (.string (TT))).setCell ⟨w.heap.size + 1 + 1, 1, none⟩ (.int .i64 7)).setCell ⟨w.heap.size + 1 + 1, 2, none⟩ (.bool false)) := by
          repeat refine Kept.setCell ?_ (by simp only; omega) _
          exact K2.trans k5
        generalize ((w5.setCell ⟨w.heap.size + 1 + 1, 0, none⟩ (.string (TT))).setCell ⟨w.heap.size + 1 + 1, 1, none⟩ (.int .i64 7)).setCell ⟨w.heap.size + 1 + 1, 2, none⟩ (.bool false) = WW at *
        have bw := BW.cell
        refine bodyPost_ret (v := .tuple #[.agg #[.string (TT), .int .i64 7, .bool false], .int .i64 0]) (by simp [results, Tryz.results25, go_sem, bw]) rfl ⟨rfl, KF⟩
end Go.Proofs.YtdnjfpmngnkcfaaGreatDoor
/- What renderTable of package exprtext computes. (Printed by wip/genettab.py.) -/
namespace Go.Proofs.YtdnjfpmngnkcfaaGreatDoor
open Go.RowKit

theorem modeW_size (m : Int) : (modeW m).size ≤ 4 := by
  unfold modeW
  by_cases h0 : m = 0
  · rw [if_pos h0]; decide
  rw [if_neg h0]
  by_cases h1 : m = 1
  · rw [if_pos h1]; decide
  rw [if_neg h1]
  by_cases h2 : m = 2
  · rw [if_pos h2]; decide
  rw [if_neg h2]
  by_cases h3 : m = 3
  · rw [if_pos h3]; decide
  rw [if_neg h3]
  by_cases h4 : m = 4
  · rw [if_pos h4]; decide
  rw [if_neg h4]
  by_cases h5 : m = 5
  · rw [if_pos h5]; decide
  rw [if_neg h5]
  decide
/-- the text of a node that names a table -/
def tabP (nm : Nm) (x : Nd) (P : ByteArray) : Pc × Int :=
  if tabI x < 0 ∨ (nm.tb.length : Int) ≤ tabI x then (pc0, 6)
  else if x.o = 34 then (if modeW (x.n % 8) = ⟨#[]⟩ then (pc0, 3) else (atomP (callW x.o ++ ⟨#[40]⟩ ++ nm.tb[(tabI x).toNat]?.getD ⟨#[]⟩ ++ ⟨#[44, 32]⟩ ++ P ++ (⟨#[44, 32]⟩ ++ modeW (x.n % 8)) ++ ⟨#[41]⟩), 0))
  else (atomP (callW x.o ++ ⟨#[40]⟩ ++ nm.tb[(tabI x).toNat]?.getD ⟨#[]⟩ ++ ⟨#[44, 32]⟩ ++ P ++ ⟨#[41]⟩), 0)
set_option maxRecDepth 100000 in
set_option maxHeartbeats 16000000 in
theorem renderTable_any (x : Nd) (p : Pc) (nv : Value) (nm : Nm) (hx : x.o = 33 ∨ x.o = 34) (h0 : -9223372036854775808 ≤ x.n) (h1 : x.n ≤ 9223372036854775807) (hs : ∀ s ∈ refN nm x, s.size ≤ 140737488355328) (hp : p.t.size ≤ 18014398509481984) (w : World) (hN : Names w nv nm) :
    Calls Tryz.prog 26 #[ndV x, pcV p, nv] w (rnPost (tabP nm x p.t) w) := by
  unfold rnPost
  obtain ⟨ev, tv, iv, dv, mv, rfl, hE, hT, hI, hD, hM, l1, l2, l3, l4⟩ := hN
  obtain ⟨_, AE, ce, rfl, _, _⟩ := hE
  obtain ⟨AT, ct, rfl, hxt⟩ := hT.at3E
  obtain ⟨AI, ci, rfl, _⟩ := hI.at3E
  obtain ⟨AD, cd, rfl, _⟩ := hD.at3E
  obtain ⟨AM, cm, rfl, _⟩ := hM.at3E
  obtain ⟨o, n⟩ := x
  obtain ⟨P, pc, pb⟩ := p
  unfold ndV pcV
  dsimp only at hx h0 h1 hp ⊢
  have htp : tabP nm ⟨o, n⟩ P = if tabI ⟨o, n⟩ < 0 ∨ (nm.tb.length : Int) ≤ tabI ⟨o, n⟩ then (pc0, 6)
    else if o = 34 then (if modeW (n % 8) = ⟨#[]⟩ then (pc0, 3) else (atomP (callW o ++ ⟨#[40]⟩ ++ nm.tb[(tabI ⟨o, n⟩).toNat]?.getD ⟨#[]⟩ ++ ⟨#[44, 32]⟩ ++ P ++ (⟨#[44, 32]⟩ ++ modeW (n % 8)) ++ ⟨#[41]⟩), 0))
    else (atomP (callW o ++ ⟨#[40]⟩ ++ nm.tb[(tabI ⟨o, n⟩).toNat]?.getD ⟨#[]⟩ ++ ⟨#[44, 32]⟩ ++ P ++ ⟨#[41]⟩), 0) := rfl
  have hs1 : ∀ s, s = nm.tb[(tabI ⟨o, n⟩).toNat]?.getD ⟨#[]⟩ → s.size ≤ 140737488355328 := fun s h => hs s (by
    unfold refN
    rw [if_neg (by show ¬ o = 6; omega), if_neg (by show ¬ o = 7; omega), if_neg (by show ¬ o = 8; omega), if_pos (by show o = 33 ∨ o = 34; exact hx), h]; simp)
  generalize tabP nm ⟨o, n⟩ P = R at *
  obtain ⟨ln, hln⟩ : ∃ ln, ln = nm.tb.length := ⟨_, rfl⟩
  rw [← hln] at hxt l1 htp ⊢
  have HLN := Lib.hid hln
  have HCW := Lib.hid (fun w1 => callWord_any o w1)
  have hcz := callW_size o
  have K0 := Lib.hid (((((Kept.refl w).alloc (.cells #[.int .i64 o, .int .i64 n] 41)).alloc (.cells #[.string P, .int .i64 pc, .bool pb] 50)).alloc (.cells #[.slice AE nm.ms.length ce, .slice AT ln ct, .slice AI nm.ins.length ci, .slice AD nm.ds.length cd, .slice AM nm.md.length cm] 26)).alloc (.cells #[.string ⟨#[]⟩, .int .i64 0, .bool false] 50))
  clear hln hT hI hD hM hs l2 l3 l4
  generalize callW o = C at *
  by_cases hneg : n < 0
  · have htl : tabI ⟨o, n⟩ = n := by unfold tabI; rw [if_neg (by show ¬ (o = 34 ∧ 0 < n); omega)]
    rw [htl, if_pos (.inl hneg)] at htp
    rw [htp]
    unfold pc0
    dsimp only
    have hn2 : ¬ (0 < n) := by omega
    clear htl htp hs1 hxt
    rcases hx with rfl | rfl
    · go_enter Tryz.func26, Tryz.ntmps26
      go_wp2_with fail
      obtain ⟨B1, B2, B3, B4⟩ := (Kept.refl ((((w.alloc (.cells #[.int .i64 33, .int .i64 n] 41)).alloc (.cells #[.string P, .int .i64 pc, .bool pb] 50)).alloc (.cells #[.slice AE nm.ms.length ce, .slice AT ln ct, .slice AI nm.ins.length ci, .slice AD nm.ds.length cd, .slice AM nm.md.length cm] 26)).alloc (.cells #[.string ⟨#[]⟩, .int .i64 0, .bool false] 50))).blk4
      have KK := K0.out
      generalize (((w.alloc (.cells #[.int .i64 33, .int .i64 n] 41)).alloc (.cells #[.string P, .int .i64 pc, .bool pb] 50)).alloc (.cells #[.slice AE nm.ms.length ce, .slice AT ln ct, .slice AI nm.ins.length ci, .slice AD nm.ds.length cd, .slice AM nm.md.length cm] 26)).alloc (.cells #[.string ⟨#[]⟩, .int .i64 0, .bool false] 50) = W at *
      have d4c := B4.cell
      refine bodyPost_ret (v := .tuple #[.agg #[.string ⟨#[]⟩, .int .i64 0, .bool false], .int .i64 6]) (by simp [results, Tryz.results26, go_sem, d4c]) rfl ⟨rfl, ?_⟩
      repeat refine Kept.setCell ?_ (by simp only; omega) _
      exact KK
    · go_enter Tryz.func26, Tryz.ntmps26
      go_wp2_with fail
      obtain ⟨B1, B2, B3, B4⟩ := (Kept.refl ((((w.alloc (.cells #[.int .i64 34, .int .i64 n] 41)).alloc (.cells #[.string P, .int .i64 pc, .bool pb] 50)).alloc (.cells #[.slice AE nm.ms.length ce, .slice AT ln ct, .slice AI nm.ins.length ci, .slice AD nm.ds.length cd, .slice AM nm.md.length cm] 26)).alloc (.cells #[.string ⟨#[]⟩, .int .i64 0, .bool false] 50))).blk4
      have KK := K0.out
      generalize (((w.alloc (.cells #[.int .i64 34, .int .i64 n] 41)).alloc (.cells #[.string P, .int .i64 pc, .bool pb] 50)).alloc (.cells #[.slice AE nm.ms.length ce, .slice AT ln ct, .slice AI nm.ins.length ci, .slice AD nm.ds.length cd, .slice AM nm.md.length cm] 26)).alloc (.cells #[.string ⟨#[]⟩, .int .i64 0, .bool false] 50) = W at *
      have d4c := B4.cell
      refine bodyPost_ret (v := .tuple #[.agg #[.string ⟨#[]⟩, .int .i64 0, .bool false], .int .i64 6]) (by simp [results, Tryz.results26, go_sem, d4c]) rfl ⟨rfl, ?_⟩
      repeat refine Kept.setCell ?_ (by simp only; omega) _
      exact KK
  rcases hx with rfl | rfl
  · obtain ⟨N, rfl⟩ : ∃ N : Nat, n = N := ⟨n.toNat, by omega⟩
    have hn0 : ¬ (N : Int) < 0 := hneg
    have htl : tabI ⟨33, (N : Int)⟩ = N := by unfold tabI; rw [if_neg (fun h => absurd (show (33 : Int) = 34 from h.1) (by decide))]
    rw [htl] at htp hs1
    clear htl
    by_cases hin : ln ≤ N
    · rw [if_pos (.inr (by omega))] at htp
      rw [htp]
      unfold pc0
      dsimp only
      have hout : (ln : Int) ≤ (N : Nat) := by omega
      clear htp hs1 hxt hin
      go_enter Tryz.func26, Tryz.ntmps26
      go_wp2_with fail
      obtain ⟨B1, B2, B3, B4⟩ := (Kept.refl ((((w.alloc (.cells #[.int .i64 33, .int .i64 (N : Nat)] 41)).alloc (.cells #[.string P, .int .i64 pc, .bool pb] 50)).alloc (.cells #[.slice AE nm.ms.length ce, .slice AT ln ct, .slice AI nm.ins.length ci, .slice AD nm.ds.length cd, .slice AM nm.md.length cm] 26)).alloc (.cells #[.string ⟨#[]⟩, .int .i64 0, .bool false] 50))).blk4
      have KK := K0.out
      generalize (((w.alloc (.cells #[.int .i64 33, .int .i64 (N : Nat)] 41)).alloc (.cells #[.string P, .int .i64 pc, .bool pb] 50)).alloc (.cells #[.slice AE nm.ms.length ce, .slice AT ln ct, .slice AI nm.ins.length ci, .slice AD nm.ds.length cd, .slice AM nm.md.length cm] 26)).alloc (.cells #[.string ⟨#[]⟩, .int .i64 0, .bool false] 50) = W at *
      have d4c := B4.cell
      refine bodyPost_ret (v := .tuple #[.agg #[.string ⟨#[]⟩, .int .i64 0, .bool false], .int .i64 6]) (by simp [results, Tryz.results26, go_sem, d4c]) rfl ⟨rfl, ?_⟩
      repeat refine Kept.setCell ?_ (by simp only; omega) _
      exact KK
    · have hil : N < ln := by omega
      have hii : ((N : Nat) : Int) < ln := by omega
      have hii2 : ¬ (ln : Int) ≤ (N : Nat) := by omega
      have hii0 : ¬ ((N : Nat) : Int) < 0 := by omega
      have hg : nm.tb[N]? = some (nm.tb[N]'(by have := HLN.out; omega)) := List.getElem?_eq_getElem _
      obtain ⟨b1, o1, rfl, hb1, hc1⟩ := hxt (by omega)
      have x0 := hc1 N _ hg
      rw [if_neg (by omega), Int.toNat_natCast, hg, Option.getD_some] at htp
      rw [Int.toNat_natCast, hg, Option.getD_some] at hs1
      generalize nm.tb[N]'(by have := HLN.out; omega) = T at *
      have hT := hs1 T rfl
      have hz0 : (C ++ ⟨#[40]⟩ : ByteArray).size = C.size + 1 := by rw [ByteArray.size_append]; rfl
      have hz1 : (C ++ ⟨#[40]⟩ ++ T : ByteArray).size = C.size + 1 + T.size := by rw [ByteArray.size_append, hz0]
      have hz2 : (C ++ ⟨#[40]⟩ ++ T ++ ⟨#[44, 32]⟩ : ByteArray).size = C.size + 1 + T.size + 2 := by rw [ByteArray.size_append, hz1]; rfl
      have hz3 : (C ++ ⟨#[40]⟩ ++ T ++ ⟨#[44, 32]⟩ ++ P : ByteArray).size ≤ 18300000000000000 := by rw [ByteArray.size_append, hz2]; omega
      have q0 : ¬ (9223372036854775807 < C.size + (⟨#[40]⟩ : ByteArray).size) := by show ¬ (_ < C.size + 1); omega
      have q1 : ¬ (9223372036854775807 < (C ++ ⟨#[40]⟩ : ByteArray).size + T.size) := by rw [hz0]; omega
      have q2 : ¬ (9223372036854775807 < (C ++ ⟨#[40]⟩ ++ T : ByteArray).size + (⟨#[44, 32]⟩ : ByteArray).size) := by rw [hz1]; show ¬ (_ < C.size + 1 + T.size + 2); omega
      have q3 : ¬ (9223372036854775807 < (C ++ ⟨#[40]⟩ ++ T ++ ⟨#[44, 32]⟩ : ByteArray).size + P.size) := by rw [hz2]; omega
      clear hz0 hz1 hz2 hs1 hc1 hg hin
      rw [if_neg (by decide)] at htp
      rw [htp]
      unfold atomP
      dsimp only
      clear htp
      obtain ⟨S, hS⟩ : ∃ S, (C ++ ⟨#[40]⟩ ++ T ++ ⟨#[44, 32]⟩ ++ P : ByteArray) = S := ⟨_, rfl⟩
      rw [hS] at hz3 ⊢
      go_enter Tryz.func26, Tryz.ntmps26
      go_wp2_with fail
      obtain ⟨B1, B2, B3, B4⟩ := (Kept.refl ((((w.alloc (.cells #[.int .i64 33, .int .i64 (N : Nat)] 41)).alloc (.cells #[.string P, .int .i64 pc, .bool pb] 50)).alloc (.cells #[.slice AE nm.ms.length ce, .slice (some ⟨b1, o1, none⟩) ln ct, .slice AI nm.ins.length ci, .slice AD nm.ds.length cd, .slice AM nm.md.length cm] 26)).alloc (.cells #[.string ⟨#[]⟩, .int .i64 0, .bool false] 50))).blk4
      have KK := K0.out
      generalize (((w.alloc (.cells #[.int .i64 33, .int .i64 (N : Nat)] 41)).alloc (.cells #[.string P, .int .i64 pc, .bool pb] 50)).alloc (.cells #[.slice AE nm.ms.length ce, .slice (some ⟨b1, o1, none⟩) ln ct, .slice AI nm.ins.length ci, .slice AD nm.ds.length cd, .slice AM nm.md.length cm] 26)).alloc (.cells #[.string ⟨#[]⟩, .int .i64 0, .bool false] 50) = W at *
      have a0 := KW.cell B1.lt (B1.cell 0)
      have e0 := KW.cell B2.lt (B2.cell 0)
      have e1 := KW.cell B3.lt (B3.cell 1)
      have X0 := KK.cell (p := ⟨b1, _, none⟩) hb1 x0
      have x0' := KW.cell (Nat.lt_of_lt_of_le hb1 KK.size) X0
      refine wp_region_kept (by kernel_rfl) (by kernel_rfl) ?_
      repeat (go_big_quiet_step (first | (go_at_call 28; exact KW.pure (HCW.out _))))
      refine wpQuiet_nil ?_
      rintro W2 ⟨⟨wx, hx2⟩, hh⟩
      obtain rfl : W2 = wx := hh
      have D1 := B1.kept hx2
      have D4 := B4.kept hx2
      have d10 := D1.cell 0
      have d11 := D1.cell 1
      have d1l := D1.lt
      have d4c := D4.cell
      have d4l := D4.lt
      have d4f := D4.frozen
      have K2 := KK.trans hx2
      clear a0 e0 e1 x0' X0 B1 B2 B3 B4 hx2
      (try simp only [hS])
      have q4 : ¬ (9223372036854775807 < S.size + (⟨#[41]⟩ : ByteArray).size) := by show ¬ (_ < S.size + 1); omega
      go_wp2_with (go_at_call 27; refine (atom_any _ _).mono ?_; unfold pcV atomP; rintro e w5 ⟨rfl, k5⟩; have C4 := D4.kept k5; have c4c := C4.cell; have c4l := C4.lt; have c4f := C4.frozen)
      generalize (S ++ ⟨#[41]⟩ : ByteArray) = TT at *
      have BW : Blk (((w5.setCell ⟨w.heap.size + 1 + 1 + 1, 0, none⟩ (.string TT)).setCell ⟨w.heap.size + 1 + 1 + 1, 1, none⟩ (.int .i64 7)).setCell ⟨w.heap.size + 1 + 1 + 1, 2, none⟩ (.bool false)) (w.heap.size + 1 + 1 + 1) 50 #[.string TT, .int .i64 7, .bool false] := ((C4.set_ 0 (.string TT)).set_ 1 (.int .i64 7)).set_ 2 (.bool false)
      have KF : Kept w (((w5.setCell ⟨w.heap.size + 1 + 1 + 1, 0, none⟩ (.string TT)).setCell ⟨w.heap.size + 1 + 1 + 1, 1, none⟩ (.int .i64 7)).setCell ⟨w.heap.size + 1 + 1 + 1, 2, none⟩ (.bool false)) := by
        repeat refine Kept.setCell ?_ (by simp only; omega) _
        exact K2.trans k5
      generalize ((w5.setCell ⟨w.heap.size + 1 + 1 + 1, 0, none⟩ (.string TT)).setCell ⟨w.heap.size + 1 + 1 + 1, 1, none⟩ (.int .i64 7)).setCell ⟨w.heap.size + 1 + 1 + 1, 2, none⟩ (.bool false) = WW at *
      have bw := BW.cell
      refine bodyPost_ret (v := .tuple #[.agg #[.string TT, .int .i64 7, .bool false], .int .i64 0]) (by simp [results, Tryz.results26, go_sem, bw]) rfl ⟨rfl, KF⟩
  · by_cases hz : n = 0
    · subst hz
      have htl : tabI ⟨34, (0 : Int)⟩ = ((0 : Nat) : Int) := rfl
      rw [htl] at htp hs1
      clear htl hneg
      by_cases hin : ln ≤ 0
      · rw [if_pos (.inr (by omega))] at htp
        rw [htp]
        unfold pc0
        dsimp only
        obtain rfl : ln = 0 := by omega
        clear htp hs1 hxt hin
        go_enter Tryz.func26, Tryz.ntmps26
        go_wp2_with fail
        obtain ⟨B1, B2, B3, B4⟩ := (Kept.refl ((((w.alloc (.cells #[.int .i64 34, .int .i64 0] 41)).alloc (.cells #[.string P, .int .i64 pc, .bool pb] 50)).alloc (.cells #[.slice AE nm.ms.length ce, .slice AT 0 ct, .slice AI nm.ins.length ci, .slice AD nm.ds.length cd, .slice AM nm.md.length cm] 26)).alloc (.cells #[.string ⟨#[]⟩, .int .i64 0, .bool false] 50))).blk4
        have KK := K0.out
        generalize (((w.alloc (.cells #[.int .i64 34, .int .i64 0] 41)).alloc (.cells #[.string P, .int .i64 pc, .bool pb] 50)).alloc (.cells #[.slice AE nm.ms.length ce, .slice AT 0 ct, .slice AI nm.ins.length ci, .slice AD nm.ds.length cd, .slice AM nm.md.length cm] 26)).alloc (.cells #[.string ⟨#[]⟩, .int .i64 0, .bool false] 50) = W at *
        have d4c := B4.cell
        refine bodyPost_ret (v := .tuple #[.agg #[.string ⟨#[]⟩, .int .i64 0, .bool false], .int .i64 6]) (by simp [results, Tryz.results26, go_sem, d4c]) rfl ⟨rfl, ?_⟩
        repeat refine Kept.setCell ?_ (by simp only; omega) _
        exact KK
      · have hil : 0 < ln := by omega
        have hii : (0 : Int) < ln := by omega
        have hii2 : ¬ (ln : Int) ≤ 0 := by omega
        have hg : nm.tb[0]? = some (nm.tb[0]'(by have := HLN.out; omega)) := List.getElem?_eq_getElem _
        obtain ⟨b1, o1, rfl, hb1, hc1⟩ := hxt (by omega)
        have x0 := hc1 0 _ hg
        rw [Nat.add_zero] at x0
        rw [if_neg (by omega), Int.toNat_natCast, hg, Option.getD_some] at htp
        rw [Int.toNat_natCast, hg, Option.getD_some] at hs1
        generalize nm.tb[0]'(by have := HLN.out; omega) = T at *
        have hT := hs1 T rfl
        have hz0 : (C ++ ⟨#[40]⟩ : ByteArray).size = C.size + 1 := by rw [ByteArray.size_append]; rfl
        have hz1 : (C ++ ⟨#[40]⟩ ++ T : ByteArray).size = C.size + 1 + T.size := by rw [ByteArray.size_append, hz0]
        have hz2 : (C ++ ⟨#[40]⟩ ++ T ++ ⟨#[44, 32]⟩ : ByteArray).size = C.size + 1 + T.size + 2 := by rw [ByteArray.size_append, hz1]; rfl
        have hz3 : (C ++ ⟨#[40]⟩ ++ T ++ ⟨#[44, 32]⟩ ++ P : ByteArray).size ≤ 18300000000000000 := by rw [ByteArray.size_append, hz2]; omega
        have q0 : ¬ (9223372036854775807 < C.size + (⟨#[40]⟩ : ByteArray).size) := by show ¬ (_ < C.size + 1); omega
        have q1 : ¬ (9223372036854775807 < (C ++ ⟨#[40]⟩ : ByteArray).size + T.size) := by rw [hz0]; omega
        have q2 : ¬ (9223372036854775807 < (C ++ ⟨#[40]⟩ ++ T : ByteArray).size + (⟨#[44, 32]⟩ : ByteArray).size) := by rw [hz1]; show ¬ (_ < C.size + 1 + T.size + 2); omega
        have q3 : ¬ (9223372036854775807 < (C ++ ⟨#[40]⟩ ++ T ++ ⟨#[44, 32]⟩ : ByteArray).size + P.size) := by rw [hz2]; omega
        clear hz0 hz1 hz2 hs1 hc1 hg hin
        rw [if_pos rfl] at htp
        have hr2 : (0 : Int) % 8 = 0 := rfl
        rw [hr2] at htp
        have HMW := Lib.hid (fun w1 => modeWord_any 0 w1)
        have hmz := modeW_size 0
        generalize modeW 0 = M at *
        have hem := empE M
        by_cases hme : M = ⟨#[]⟩
        · rw [if_pos hme] at htp
          rw [decide_eq_true hme] at hem
          rw [htp]
          unfold pc0
          dsimp only
          clear htp hme
          obtain ⟨S, hS⟩ : ∃ S, (C ++ ⟨#[40]⟩ ++ T ++ ⟨#[44, 32]⟩ ++ P : ByteArray) = S := ⟨_, rfl⟩
          rw [hS] at hz3
          go_enter Tryz.func26, Tryz.ntmps26
          go_wp2_with fail
          obtain ⟨B1, B2, B3, B4⟩ := (Kept.refl ((((w.alloc (.cells #[.int .i64 34, .int .i64 0] 41)).alloc (.cells #[.string P, .int .i64 pc, .bool pb] 50)).alloc (.cells #[.slice AE nm.ms.length ce, .slice (some ⟨b1, o1, none⟩) ln ct, .slice AI nm.ins.length ci, .slice AD nm.ds.length cd, .slice AM nm.md.length cm] 26)).alloc (.cells #[.string ⟨#[]⟩, .int .i64 0, .bool false] 50))).blk4
          have KK := K0.out
          generalize (((w.alloc (.cells #[.int .i64 34, .int .i64 0] 41)).alloc (.cells #[.string P, .int .i64 pc, .bool pb] 50)).alloc (.cells #[.slice AE nm.ms.length ce, .slice (some ⟨b1, o1, none⟩) ln ct, .slice AI nm.ins.length ci, .slice AD nm.ds.length cd, .slice AM nm.md.length cm] 26)).alloc (.cells #[.string ⟨#[]⟩, .int .i64 0, .bool false] 50) = W at *
          have a0 := KW.cell B1.lt (B1.cell 0)
          have e0 := KW.cell B2.lt (B2.cell 0)
          have e1 := KW.cell B3.lt (B3.cell 1)
          have X0 := KK.cell (p := ⟨b1, _, none⟩) hb1 x0
          have x0' := KW.cell (Nat.lt_of_lt_of_le hb1 KK.size) X0
          refine wp_region_kept (by kernel_rfl) (by kernel_rfl) ?_
          repeat (go_big_quiet_step (first | (go_at_call 28; exact KW.pure (HCW.out _))))
          refine wpQuiet_nil ?_
          rintro W2 ⟨⟨wx, hx2⟩, hh⟩
          obtain rfl : W2 = wx := hh
          have D1 := B1.kept hx2
          have D4 := B4.kept hx2
          have d10 := D1.cell 0
          have d11 := D1.cell 1
          have d1l := D1.lt
          have d4c := D4.cell
          have d4l := D4.lt
          have d4f := D4.frozen
          have K2 := KK.trans hx2
          clear a0 e0 e1 x0' X0 B1 B2 B3 B4 hx2
          (try simp only [hS])
          go_wp2_with (go_at_call 29; refine (HMW.out _).mono ?_; rintro e wq ⟨rfl, rfl⟩)
          refine bodyPost_ret (v := .tuple #[.agg #[.string ⟨#[]⟩, .int .i64 0, .bool false], .int .i64 3]) (by simp [results, Tryz.results26, go_sem, d4c]) rfl ⟨rfl, ?_⟩
          repeat refine Kept.setCell ?_ (by simp only; omega) _
          exact K2
        · rw [if_neg hme] at htp
          rw [decide_eq_false hme] at hem
          rw [htp]
          unfold atomP
          dsimp only
          clear htp hme
          obtain ⟨S, hS⟩ : ∃ S, (C ++ ⟨#[40]⟩ ++ T ++ ⟨#[44, 32]⟩ ++ P : ByteArray) = S := ⟨_, rfl⟩
          rw [hS] at hz3 ⊢
          go_enter Tryz.func26, Tryz.ntmps26
          go_wp2_with fail
          obtain ⟨B1, B2, B3, B4⟩ := (Kept.refl ((((w.alloc (.cells #[.int .i64 34, .int .i64 0] 41)).alloc (.cells #[.string P, .int .i64 pc, .bool pb] 50)).alloc (.cells #[.slice AE nm.ms.length ce, .slice (some ⟨b1, o1, none⟩) ln ct, .slice AI nm.ins.length ci, .slice AD nm.ds.length cd, .slice AM nm.md.length cm] 26)).alloc (.cells #[.string ⟨#[]⟩, .int .i64 0, .bool false] 50))).blk4
          have KK := K0.out
          generalize (((w.alloc (.cells #[.int .i64 34, .int .i64 0] 41)).alloc (.cells #[.string P, .int .i64 pc, .bool pb] 50)).alloc (.cells #[.slice AE nm.ms.length ce, .slice (some ⟨b1, o1, none⟩) ln ct, .slice AI nm.ins.length ci, .slice AD nm.ds.length cd, .slice AM nm.md.length cm] 26)).alloc (.cells #[.string ⟨#[]⟩, .int .i64 0, .bool false] 50) = W at *
          have a0 := KW.cell B1.lt (B1.cell 0)
          have e0 := KW.cell B2.lt (B2.cell 0)
          have e1 := KW.cell B3.lt (B3.cell 1)
          have X0 := KK.cell (p := ⟨b1, _, none⟩) hb1 x0
          have x0' := KW.cell (Nat.lt_of_lt_of_le hb1 KK.size) X0
          refine wp_region_kept (by kernel_rfl) (by kernel_rfl) ?_
          repeat (go_big_quiet_step (first | (go_at_call 28; exact KW.pure (HCW.out _))))
          refine wpQuiet_nil ?_
          rintro W2 ⟨⟨wx, hx2⟩, hh⟩
          obtain rfl : W2 = wx := hh
          have D1 := B1.kept hx2
          have D4 := B4.kept hx2
          have d10 := D1.cell 0
          have d11 := D1.cell 1
          have d1l := D1.lt
          have d4c := D4.cell
          have d4l := D4.lt
          have d4f := D4.frozen
          have K2 := KK.trans hx2
          clear a0 e0 e1 x0' X0 B1 B2 B3 B4 hx2
          (try simp only [hS])
          have q4 : ¬ (9223372036854775807 < (⟨#[44, 32]⟩ : ByteArray).size + M.size) := by show ¬ (_ < 2 + M.size); omega
          have hz5 : (⟨#[44, 32]⟩ ++ M : ByteArray).size ≤ 6 := by rw [ByteArray.size_append]; show 2 + M.size ≤ 6; omega
          have q5 : ¬ (9223372036854775807 < S.size + (⟨#[44, 32]⟩ ++ M : ByteArray).size) := by omega
          have q6 : ¬ (9223372036854775807 < (S ++ (⟨#[44, 32]⟩ ++ M) : ByteArray).size + (⟨#[41]⟩ : ByteArray).size) := by rw [ByteArray.size_append]; show ¬ (_ < S.size + (⟨#[44, 32]⟩ ++ M : ByteArray).size + 1); omega
          go_wp2_with (first | (go_at_call 29; refine (HMW.out _).mono ?_; rintro e wq ⟨rfl, rfl⟩) | (go_at_call 27; refine (atom_any _ _).mono ?_; unfold pcV atomP; rintro e w5 ⟨rfl, k5⟩; have C4 := D4.kept k5; have c4c := C4.cell; have c4l := C4.lt; have c4f := C4.frozen))
          generalize (S ++ (⟨#[44, 32]⟩ ++ M) ++ ⟨#[41]⟩ : ByteArray) = TT at *
          have BW : Blk (((w5.setCell ⟨w.heap.size + 1 + 1 + 1, 0, none⟩ (.string TT)).setCell ⟨w.heap.size + 1 + 1 + 1, 1, none⟩ (.int .i64 7)).setCell ⟨w.heap.size + 1 + 1 + 1, 2, none⟩ (.bool false)) (w.heap.size + 1 + 1 + 1) 50 #[.string TT, .int .i64 7, .bool false] := ((C4.set_ 0 (.string TT)).set_ 1 (.int .i64 7)).set_ 2 (.bool false)
          have KF : Kept w (((w5.setCell ⟨w.heap.size + 1 + 1 + 1, 0, none⟩ (.string TT)).setCell ⟨w.heap.size + 1 + 1 + 1, 1, none⟩ (.int .i64 7)).setCell ⟨w.heap.size + 1 + 1 + 1, 2, none⟩ (.bool false)) := by
            repeat refine Kept.setCell ?_ (by simp only; omega) _
            exact K2.trans k5
          generalize ((w5.setCell ⟨w.heap.size + 1 + 1 + 1, 0, none⟩ (.string TT)).setCell ⟨w.heap.size + 1 + 1 + 1, 1, none⟩ (.int .i64 7)).setCell ⟨w.heap.size + 1 + 1 + 1, 2, none⟩ (.bool false) = WW at *
          have bw := BW.cell
          refine bodyPost_ret (v := .tuple #[.agg #[.string TT, .int .i64 7, .bool false], .int .i64 0]) (by simp [results, Tryz.results26, go_sem, bw]) rfl ⟨rfl, KF⟩
    · obtain ⟨N, rfl⟩ : ∃ N : Nat, n = N := ⟨n.toNat, by omega⟩
      have hn0 : ¬ (N : Int) < 0 := hneg
      obtain ⟨j, hj⟩ : ∃ j : Nat, j = N / 8 := ⟨_, rfl⟩
      have hq2 : (N : Int) / 8 = j := by omega
      have hq1 : (N : Int).tdiv 8 = j := by rw [Int.tdiv_eq_ediv_of_nonneg (by omega)]; exact hq2
      have hw1 : IntKind.i64.wrap (j : Int) = j := IntWalk.i64_in _ ⟨by omega, by omega⟩
      have hpos : 0 < (N : Int) := by omega
      have htl : tabI ⟨34, (N : Int)⟩ = j := by unfold tabI; rw [if_pos ⟨rfl, hpos⟩]; exact hq2
      rw [htl] at htp hs1
      have HJ := Lib.hid hj
      clear htl hj
      by_cases hin : ln ≤ j
      · rw [if_pos (.inr (by omega))] at htp
        rw [htp]
        unfold pc0
        dsimp only
        have hout : (ln : Int) ≤ (j : Nat) := by omega
        clear htp hs1 hxt hin
        go_enter Tryz.func26, Tryz.ntmps26
        go_wp2_with fail
        obtain ⟨B1, B2, B3, B4⟩ := (Kept.refl ((((w.alloc (.cells #[.int .i64 34, .int .i64 (N : Nat)] 41)).alloc (.cells #[.string P, .int .i64 pc, .bool pb] 50)).alloc (.cells #[.slice AE nm.ms.length ce, .slice AT ln ct, .slice AI nm.ins.length ci, .slice AD nm.ds.length cd, .slice AM nm.md.length cm] 26)).alloc (.cells #[.string ⟨#[]⟩, .int .i64 0, .bool false] 50))).blk4
        have KK := K0.out
        generalize (((w.alloc (.cells #[.int .i64 34, .int .i64 (N : Nat)] 41)).alloc (.cells #[.string P, .int .i64 pc, .bool pb] 50)).alloc (.cells #[.slice AE nm.ms.length ce, .slice AT ln ct, .slice AI nm.ins.length ci, .slice AD nm.ds.length cd, .slice AM nm.md.length cm] 26)).alloc (.cells #[.string ⟨#[]⟩, .int .i64 0, .bool false] 50) = W at *
        have d4c := B4.cell
        refine bodyPost_ret (v := .tuple #[.agg #[.string ⟨#[]⟩, .int .i64 0, .bool false], .int .i64 6]) (by simp [results, Tryz.results26, go_sem, d4c]) rfl ⟨rfl, ?_⟩
        repeat refine Kept.setCell ?_ (by simp only; omega) _
        exact KK
      · have hil : j < ln := by omega
        have hii : ((j : Nat) : Int) < ln := by omega
        have hii2 : ¬ (ln : Int) ≤ (j : Nat) := by omega
        have hii0 : ¬ ((j : Nat) : Int) < 0 := by omega
        have hg : nm.tb[j]? = some (nm.tb[j]'(by have := HLN.out; omega)) := List.getElem?_eq_getElem _
        obtain ⟨b1, o1, rfl, hb1, hc1⟩ := hxt (by omega)
        have x0 := hc1 j _ hg
        rw [if_neg (by omega), Int.toNat_natCast, hg, Option.getD_some] at htp
        rw [Int.toNat_natCast, hg, Option.getD_some] at hs1
        generalize nm.tb[j]'(by have := HLN.out; omega) = T at *
        have hT := hs1 T rfl
        have hz0 : (C ++ ⟨#[40]⟩ : ByteArray).size = C.size + 1 := by rw [ByteArray.size_append]; rfl
        have hz1 : (C ++ ⟨#[40]⟩ ++ T : ByteArray).size = C.size + 1 + T.size := by rw [ByteArray.size_append, hz0]
        have hz2 : (C ++ ⟨#[40]⟩ ++ T ++ ⟨#[44, 32]⟩ : ByteArray).size = C.size + 1 + T.size + 2 := by rw [ByteArray.size_append, hz1]; rfl
        have hz3 : (C ++ ⟨#[40]⟩ ++ T ++ ⟨#[44, 32]⟩ ++ P : ByteArray).size ≤ 18300000000000000 := by rw [ByteArray.size_append, hz2]; omega
        have q0 : ¬ (9223372036854775807 < C.size + (⟨#[40]⟩ : ByteArray).size) := by show ¬ (_ < C.size + 1); omega
        have q1 : ¬ (9223372036854775807 < (C ++ ⟨#[40]⟩ : ByteArray).size + T.size) := by rw [hz0]; omega
        have q2 : ¬ (9223372036854775807 < (C ++ ⟨#[40]⟩ ++ T : ByteArray).size + (⟨#[44, 32]⟩ : ByteArray).size) := by rw [hz1]; show ¬ (_ < C.size + 1 + T.size + 2); omega
        have q3 : ¬ (9223372036854775807 < (C ++ ⟨#[40]⟩ ++ T ++ ⟨#[44, 32]⟩ : ByteArray).size + P.size) := by rw [hz2]; omega
        clear hz0 hz1 hz2 hs1 hc1 hg hin
        rw [if_pos rfl] at htp
        obtain ⟨m, hm⟩ : ∃ m : Nat, m = N % 8 := ⟨_, rfl⟩
        have hr2 : (N : Int) % 8 = m := by omega
        have hr1 : (N : Int).tmod 8 = m := by rw [Int.tmod_eq_emod_of_nonneg (by omega)]; exact hr2
        have hw2 : IntKind.i64.wrap (m : Int) = m := IntWalk.i64_in _ ⟨by omega, by omega⟩
        rw [hr2] at htp
        have HMW := Lib.hid (fun w1 => modeWord_any m w1)
        have hmz := modeW_size m
        have HM := Lib.hid hm
        clear hm
        generalize modeW m = M at *
        have hem := empE M
        by_cases hme : M = ⟨#[]⟩
        · rw [if_pos hme] at htp
          rw [decide_eq_true hme] at hem
          rw [htp]
          unfold pc0
          dsimp only
          clear htp hme
          obtain ⟨S, hS⟩ : ∃ S, (C ++ ⟨#[40]⟩ ++ T ++ ⟨#[44, 32]⟩ ++ P : ByteArray) = S := ⟨_, rfl⟩
          rw [hS] at hz3
          go_enter Tryz.func26, Tryz.ntmps26
          go_wp2_with fail
          obtain ⟨B1, B2, B3, B4⟩ := (Kept.refl ((((w.alloc (.cells #[.int .i64 34, .int .i64 (N : Nat)] 41)).alloc (.cells #[.string P, .int .i64 pc, .bool pb] 50)).alloc (.cells #[.slice AE nm.ms.length ce, .slice (some ⟨b1, o1, none⟩) ln ct, .slice AI nm.ins.length ci, .slice AD nm.ds.length cd, .slice AM nm.md.length cm] 26)).alloc (.cells #[.string ⟨#[]⟩, .int .i64 0, .bool false] 50))).blk4
          have KK := K0.out
          generalize (((w.alloc (.cells #[.int .i64 34, .int .i64 (N : Nat)] 41)).alloc (.cells #[.string P, .int .i64 pc, .bool pb] 50)).alloc (.cells #[.slice AE nm.ms.length ce, .slice (some ⟨b1, o1, none⟩) ln ct, .slice AI nm.ins.length ci, .slice AD nm.ds.length cd, .slice AM nm.md.length cm] 26)).alloc (.cells #[.string ⟨#[]⟩, .int .i64 0, .bool false] 50) = W at *
          have a0 := KW.cell B1.lt (B1.cell 0)
          have e0 := KW.cell B2.lt (B2.cell 0)
          have e1 := KW.cell B3.lt (B3.cell 1)
          have X0 := KK.cell (p := ⟨b1, _, none⟩) hb1 x0
          have x0' := KW.cell (Nat.lt_of_lt_of_le hb1 KK.size) X0
          refine wp_region_kept (by kernel_rfl) (by kernel_rfl) ?_
          repeat (go_big_quiet_step (first | (go_at_call 28; exact KW.pure (HCW.out _))))
          refine wpQuiet_nil ?_
          rintro W2 ⟨⟨wx, hx2⟩, hh⟩
          obtain rfl : W2 = wx := hh
          have D1 := B1.kept hx2
          have D4 := B4.kept hx2
          have d10 := D1.cell 0
          have d11 := D1.cell 1
          have d1l := D1.lt
          have d4c := D4.cell
          have d4l := D4.lt
          have d4f := D4.frozen
          have K2 := KK.trans hx2
          clear a0 e0 e1 x0' X0 B1 B2 B3 B4 hx2
          (try simp only [hS])
          go_wp2_with (go_at_call 29; refine (HMW.out _).mono ?_; rintro e wq ⟨rfl, rfl⟩)
          refine bodyPost_ret (v := .tuple #[.agg #[.string ⟨#[]⟩, .int .i64 0, .bool false], .int .i64 3]) (by simp [results, Tryz.results26, go_sem, d4c]) rfl ⟨rfl, ?_⟩
          repeat refine Kept.setCell ?_ (by simp only; omega) _
          exact K2
        · rw [if_neg hme] at htp
          rw [decide_eq_false hme] at hem
          rw [htp]
          unfold atomP
          dsimp only
          clear htp hme
          obtain ⟨S, hS⟩ : ∃ S, (C ++ ⟨#[40]⟩ ++ T ++ ⟨#[44, 32]⟩ ++ P : ByteArray) = S := ⟨_, rfl⟩
          rw [hS] at hz3 ⊢
          go_enter Tryz.func26, Tryz.ntmps26
          go_wp2_with fail
          obtain ⟨B1, B2, B3, B4⟩ := (Kept.refl ((((w.alloc (.cells #[.int .i64 34, .int .i64 (N : Nat)] 41)).alloc (.cells #[.string P, .int .i64 pc, .bool pb] 50)).alloc (.cells #[.slice AE nm.ms.length ce, .slice (some ⟨b1, o1, none⟩) ln ct, .slice AI nm.ins.length ci, .slice AD nm.ds.length cd, .slice AM nm.md.length cm] 26)).alloc (.cells #[.string ⟨#[]⟩, .int .i64 0, .bool false] 50))).blk4
          have KK := K0.out
          generalize (((w.alloc (.cells #[.int .i64 34, .int .i64 (N : Nat)] 41)).alloc (.cells #[.string P, .int .i64 pc, .bool pb] 50)).alloc (.cells #[.slice AE nm.ms.length ce, .slice (some ⟨b1, o1, none⟩) ln ct, .slice AI nm.ins.length ci, .slice AD nm.ds.length cd, .slice AM nm.md.length cm] 26)).alloc (.cells #[.string ⟨#[]⟩, .int .i64 0, .bool false] 50) = W at *
          have a0 := KW.cell B1.lt (B1.cell 0)
          have e0 := KW.cell B2.lt (B2.cell 0)
          have e1 := KW.cell B3.lt (B3.cell 1)
          have X0 := KK.cell (p := ⟨b1, _, none⟩) hb1 x0
          have x0' := KW.cell (Nat.lt_of_lt_of_le hb1 KK.size) X0
          refine wp_region_kept (by kernel_rfl) (by kernel_rfl) ?_
          repeat (go_big_quiet_step (first | (go_at_call 28; exact KW.pure (HCW.out _))))
          refine wpQuiet_nil ?_
          rintro W2 ⟨⟨wx, hx2⟩, hh⟩
          obtain rfl : W2 = wx := hh
          have D1 := B1.kept hx2
          have D4 := B4.kept hx2
          have d10 := D1.cell 0
          have d11 := D1.cell 1
          have d1l := D1.lt
          have d4c := D4.cell
          have d4l := D4.lt
          have d4f := D4.frozen
          have K2 := KK.trans hx2
          clear a0 e0 e1 x0' X0 B1 B2 B3 B4 hx2
          (try simp only [hS])
          have q4 : ¬ (9223372036854775807 < (⟨#[44, 32]⟩ : ByteArray).size + M.size) := by show ¬ (_ < 2 + M.size); omega
          have hz5 : (⟨#[44, 32]⟩ ++ M : ByteArray).size ≤ 6 := by rw [ByteArray.size_append]; show 2 + M.size ≤ 6; omega
          have q5 : ¬ (9223372036854775807 < S.size + (⟨#[44, 32]⟩ ++ M : ByteArray).size) := by omega
          have q6 : ¬ (9223372036854775807 < (S ++ (⟨#[44, 32]⟩ ++ M) : ByteArray).size + (⟨#[41]⟩ : ByteArray).size) := by rw [ByteArray.size_append]; show ¬ (_ < S.size + (⟨#[44, 32]⟩ ++ M : ByteArray).size + 1); omega
          go_wp2_with (first | (go_at_call 29; refine (HMW.out _).mono ?_; rintro e wq ⟨rfl, rfl⟩) | (go_at_call 27; refine (atom_any _ _).mono ?_; unfold pcV atomP; rintro e w5 ⟨rfl, k5⟩; have C4 := D4.kept k5; have c4c := C4.cell; have c4l := C4.lt; have c4f := C4.frozen))
          generalize (S ++ (⟨#[44, 32]⟩ ++ M) ++ ⟨#[41]⟩ : ByteArray) = TT at *
          have BW : Blk (((w5.setCell ⟨w.heap.size + 1 + 1 + 1, 0, none⟩ (.string TT)).setCell ⟨w.heap.size + 1 + 1 + 1, 1, none⟩ (.int .i64 7)).setCell ⟨w.heap.size + 1 + 1 + 1, 2, none⟩ (.bool false)) (w.heap.size + 1 + 1 + 1) 50 #[.string TT, .int .i64 7, .bool false] := ((C4.set_ 0 (.string TT)).set_ 1 (.int .i64 7)).set_ 2 (.bool false)
          have KF : Kept w (((w5.setCell ⟨w.heap.size + 1 + 1 + 1, 0, none⟩ (.string TT)).setCell ⟨w.heap.size + 1 + 1 + 1, 1, none⟩ (.int .i64 7)).setCell ⟨w.heap.size + 1 + 1 + 1, 2, none⟩ (.bool false)) := by
            repeat refine Kept.setCell ?_ (by simp only; omega) _
            exact K2.trans k5
          generalize ((w5.setCell ⟨w.heap.size + 1 + 1 + 1, 0, none⟩ (.string TT)).setCell ⟨w.heap.size + 1 + 1 + 1, 1, none⟩ (.int .i64 7)).setCell ⟨w.heap.size + 1 + 1 + 1, 2, none⟩ (.bool false) = WW at *
          have bw := BW.cell
          refine bodyPost_ret (v := .tuple #[.agg #[.string TT, .int .i64 7, .bool false], .int .i64 0]) (by simp [results, Tryz.results26, go_sem, bw]) rfl ⟨rfl, KF⟩
end Go.Proofs.YtdnjfpmngnkcfaaGreatDoor
