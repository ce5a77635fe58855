/- Contracts at known values, and the fixed examples of the appeals' laws. -/
import Derived.Test.YtpickiepkdkigaaAppealC
namespace Go.Proofs.Ytpickiepkdkigaa
open Go.RowKit
section
variable {wk : Int} {A : Option Addr} {n c : Nat} {hs : List Int} {w : World}
theorem file_is {c0 c1 c2 c3 c4 c5 days id fr til d no i f t fi de st ce k : Int} (hr : Ints w A n hs) (hn : n ≤ 100) (h : fileS wk hs days id fr til d no = (⟨i, f, t, fi, de, st, ce⟩, k)) :
    Calls Try.prog 24 #[.int .i64 id, .int .i64 fr, .int .i64 til, .int .i64 d, .int .i64 no, .agg #[.int .i64 c0, .int .i64 c1, .int .i64 c2, .int .i64 c3, .int .i64 c4, .int .i64 c5, .int .i64 days, .int .i64 wk, .slice A n c]] w
      fun e w' => e = .returned (.tuple #[.agg #[.int .i64 i, .int .i64 f, .int .i64 t, .int .i64 fi, .int .i64 de, .int .i64 st, .int .i64 ce], .int .i64 k]) ∧ Kept w w' := by
  have := file_any wk A n c hs w hr hn c0 c1 c2 c3 c4 c5 days id fr til d no; rw [h] at this; exact this
theorem rfile_is {c0 c1 c2 c3 c4 c5 days id fr til d no i f t fi de st ce k : Int} (hr : Ints w A n hs) (hn : n ≤ 100) (h : fileS wk hs days id fr til d no = (⟨i, f, t, fi, de, st, ce⟩, k)) :
    Calls Try.prog 25 #[.int .i64 id, .int .i64 fr, .int .i64 til, .int .i64 d, .int .i64 no, .agg #[.int .i64 c0, .int .i64 c1, .int .i64 c2, .int .i64 c3, .int .i64 c4, .int .i64 c5, .int .i64 days, .int .i64 wk, .slice A n c]] w
      fun e w' => e = .returned (.tuple #[.agg #[.int .i64 i, .int .i64 f, .int .i64 t, .int .i64 fi, .int .i64 de, .int .i64 st, .int .i64 ce], .int .i64 k]) ∧ Kept w w' := by
  have := rfile_any wk A n c hs w hr hn c0 c1 c2 c3 c4 c5 days id fr til d no; rw [h] at this; exact this
end
section
variable {i f t fi de st ce : Int} {w : World}
theorem trans_is {s cc d i' f' t' fi' de' st' ce' k : Int} (h : transS ⟨i, f, t, fi, de, st, ce⟩ s cc d = (⟨i', f', t', fi', de', st', ce'⟩, k)) :
    Calls Try.prog 26 #[.agg #[.int .i64 i, .int .i64 f, .int .i64 t, .int .i64 fi, .int .i64 de, .int .i64 st, .int .i64 ce], .int .i64 s, .int .i64 cc, .int .i64 d] w
      fun e w' => e = .returned (.tuple #[.agg #[.int .i64 i', .int .i64 f', .int .i64 t', .int .i64 fi', .int .i64 de', .int .i64 st', .int .i64 ce'], .int .i64 k]) ∧ Kept w w' := by
  have := trans_any i f t fi de st ce s cc d w; rw [h] at this; exact this
theorem rtrans_is {s cc d i' f' t' fi' de' st' ce' k : Int} (h : transS ⟨i, f, t, fi, de, st, ce⟩ s cc d = (⟨i', f', t', fi', de', st', ce'⟩, k)) :
    Calls Try.prog 27 #[.agg #[.int .i64 i, .int .i64 f, .int .i64 t, .int .i64 fi, .int .i64 de, .int .i64 st, .int .i64 ce], .int .i64 s, .int .i64 cc, .int .i64 d] w
      fun e w' => e = .returned (.tuple #[.agg #[.int .i64 i', .int .i64 f', .int .i64 t', .int .i64 fi', .int .i64 de', .int .i64 st', .int .i64 ce'], .int .i64 k]) ∧ Kept w w' := by
  have := rtrans_any i f t fi de st ce s cc d w; rw [h] at this; exact this
theorem validA_is {v : Bool} (h : validA ⟨i, f, t, fi, de, st, ce⟩ = v) :
    Calls Try.prog 28 #[.agg #[.int .i64 i, .int .i64 f, .int .i64 t, .int .i64 fi, .int .i64 de, .int .i64 st, .int .i64 ce]] w fun e w' => e = .returned (.bool v) ∧ Kept w w' := by
  rw [← h]; exact validA_any i f t fi de st ce w
theorem rvalidA_is {v : Bool} (h : validA ⟨i, f, t, fi, de, st, ce⟩ = v) :
    Calls Try.prog 29 #[.agg #[.int .i64 i, .int .i64 f, .int .i64 t, .int .i64 fi, .int .i64 de, .int .i64 st, .int .i64 ce]] w fun e w' => e = .returned (.bool v) ∧ Kept w w' := by
  rw [← h]; exact rvalidA_any i f t fi de st ce w
theorem finalA_is {v : Bool} (h : finalA st = v) :
    Calls Try.prog 30 #[.agg #[.int .i64 i, .int .i64 f, .int .i64 t, .int .i64 fi, .int .i64 de, .int .i64 st, .int .i64 ce]] w fun e w' => e = .returned (.bool v) ∧ Kept w w' := by
  rw [← h]; exact finalA_any i f t fi de st ce w
theorem rfinalA_is {v : Bool} (h : finalA st = v) :
    Calls Try.prog 31 #[.agg #[.int .i64 i, .int .i64 f, .int .i64 t, .int .i64 fi, .int .i64 de, .int .i64 st, .int .i64 ce]] w fun e w' => e = .returned (.bool v) ∧ Kept w w' := by
  rw [← h]; exact rfinalA_any i f t fi de st ce w
end
theorem free_work (d : Int) : workB 0 [] d = true := by
  simp [workB, dayOff, holiday]
theorem free_nth (k : Nat) : ∀ d : Int, d + k ≤ 109572 → nthS 0 [] d (k + 1) = (d + k, 0) := by
  induction k with
  | zero => intro d h; rw [nthS_hit 0 [] d _ (by omega) (free_work d) (by simp)]; simp
  | succ k ih =>
    intro d h
    rw [nthS_on 0 [] d _ (by omega) (free_work d) (by omega), show ((k + 1 : Nat) : Int) + 1 - 1 = k + 1 from by omega, ih (d + 1) (by omega)]
    congr 1; omega
theorem free_add (d : Int) (k : Nat) (h0 : 0 ≤ d) (h1 : d + 1 + k ≤ 109572) (h2 : k < 365) : addS 0 [] d (k + 1) = (d + 1 + k, 0) := by
  unfold addS
  rw [if_pos (by decide), if_pos (by simp [isDate]; omega), if_neg (by omega), free_nth k (d + 1) (by omega)]
theorem ex_105 : lastDayS 0 [] 100 5 = 105 := by
  have h := free_add 100 4 (by omega) (by omega) (by omega)
  have e : addS 0 [] 100 5 = (105, 0) := h
  simp [lastDayS, e]
theorem ex_162 : lastDayS 0 [] 102 60 = 162 := by
  have h := free_add 102 59 (by omega) (by omega) (by omega)
  have e : addS 0 [] 102 60 = (162, 0) := h
  simp [lastDayS, e]
theorem ex_a : fileS 0 [] 5 7 3 5 102 100 = (⟨7, 3, 5, 102, 162, 1, 0⟩, 0) := by
  unfold fileS
  rw [if_pos (by decide), if_neg (by omega), if_pos (by decide), if_neg (by simp [lateB, ex_105]), ex_162]
theorem ex_d : fileS 0 [] 5 7 3 5 106 100 = (⟨7, 3, 5, 106, 106, 6, 0⟩, 0) := by
  unfold fileS
  rw [if_pos (by decide), if_neg (by omega), if_pos (by decide), if_pos (by simp [lateB, ex_105])]
theorem ex_b : transS ⟨7, 3, 5, 102, 162, 1, 0⟩ 2 0 110 = (⟨7, 3, 5, 102, 162, 2, 0⟩, 0) := by decide
theorem ex_c : transS ⟨7, 3, 5, 102, 162, 2, 0⟩ 3 5000 120 = (⟨7, 3, 5, 102, 162, 3, 5000⟩, 0) := by decide
theorem ex_e : transS ⟨7, 3, 5, 102, 162, 1, 0⟩ 3 5000 120 = (⟨0, 0, 0, 0, 0, 0, 0⟩, 13) := by decide
theorem ex_vc : validA ⟨7, 3, 5, 102, 162, 3, 5000⟩ = true := by decide
theorem ints_nil (w : World) : Ints w none 0 [] := ⟨rfl, fun h => absurd h (by omega)⟩

set_option maxHeartbeats 2000000 in
theorem awake41_any (w : World) : Calls Try.prog 23 #[] w fun e w' => e = .returned (.bool true) ∧ Kept w w' := by
  go_enter Try.func23, Try.ntmps23
  go_wp2_with fail
  refine (file_is (ints_nil _) (by omega) ex_a).mono ?_
  rintro e w1 ⟨rfl, k1⟩
  have F0_1 : Blk w1 w.heap.size 41 #[.int .i64 0, .int .i64 0, .int .i64 0, .int .i64 0, .int .i64 0, .int .i64 0, .int .i64 5, .int .i64 0, .slice none 0 0] := (Blk.new w 41 #[.int .i64 0, .int .i64 0, .int .i64 0, .int .i64 0, .int .i64 0, .int .i64 0, .int .i64 5, .int .i64 0, .slice none 0 0]).kept k1
  have m0 := F0_1.cell
  have l0 := F0_1.lt
  go_wp2_with fail
  refine (trans_is ex_b).mono ?_
  rintro e w2 ⟨rfl, k2⟩
  have F0_2 : Blk w2 w.heap.size 41 #[.int .i64 0, .int .i64 0, .int .i64 0, .int .i64 0, .int .i64 0, .int .i64 0, .int .i64 5, .int .i64 0, .slice none 0 0] := (F0_1.alloc _).kept k2
  have F1_2 : Blk w2 w1.heap.size 43 #[.int .i64 7, .int .i64 3, .int .i64 5, .int .i64 102, .int .i64 162, .int .i64 1, .int .i64 0] := (Blk.new w1 43 #[.int .i64 7, .int .i64 3, .int .i64 5, .int .i64 102, .int .i64 162, .int .i64 1, .int .i64 0]).kept k2
  clear m0 l0
  have m0 := F0_2.cell
  have l0 := F0_2.lt
  have m1 := F1_2.cell
  have l1 := F1_2.lt
  go_wp2_with fail
  refine (trans_is ex_c).mono ?_
  rintro e w3 ⟨rfl, k3⟩
  have F0_3 : Blk w3 w.heap.size 41 #[.int .i64 0, .int .i64 0, .int .i64 0, .int .i64 0, .int .i64 0, .int .i64 0, .int .i64 5, .int .i64 0, .slice none 0 0] := (F0_2.alloc _).kept k3
  have F1_3 : Blk w3 w1.heap.size 43 #[.int .i64 7, .int .i64 3, .int .i64 5, .int .i64 102, .int .i64 162, .int .i64 1, .int .i64 0] := (F1_2.alloc _).kept k3
  have F2_3 : Blk w3 w2.heap.size 43 #[.int .i64 7, .int .i64 3, .int .i64 5, .int .i64 102, .int .i64 162, .int .i64 2, .int .i64 0] := (Blk.new w2 43 #[.int .i64 7, .int .i64 3, .int .i64 5, .int .i64 102, .int .i64 162, .int .i64 2, .int .i64 0]).kept k3
  clear m0 l0 m1 l1
  have m0 := F0_3.cell
  have l0 := F0_3.lt
  have m1 := F1_3.cell
  have l1 := F1_3.lt
  have m2 := F2_3.cell
  have l2 := F2_3.lt
  go_wp2_with fail
  refine (trans_is ex_e).mono ?_
  rintro e w4 ⟨rfl, k4⟩
  have F0_4 : Blk w4 w.heap.size 41 #[.int .i64 0, .int .i64 0, .int .i64 0, .int .i64 0, .int .i64 0, .int .i64 0, .int .i64 5, .int .i64 0, .slice none 0 0] := (F0_3.alloc _).kept k4
  have F1_4 : Blk w4 w1.heap.size 43 #[.int .i64 7, .int .i64 3, .int .i64 5, .int .i64 102, .int .i64 162, .int .i64 1, .int .i64 0] := (F1_3.alloc _).kept k4
  have F2_4 : Blk w4 w2.heap.size 43 #[.int .i64 7, .int .i64 3, .int .i64 5, .int .i64 102, .int .i64 162, .int .i64 2, .int .i64 0] := (F2_3.alloc _).kept k4
  have F3_4 : Blk w4 w3.heap.size 43 #[.int .i64 7, .int .i64 3, .int .i64 5, .int .i64 102, .int .i64 162, .int .i64 3, .int .i64 5000] := (Blk.new w3 43 #[.int .i64 7, .int .i64 3, .int .i64 5, .int .i64 102, .int .i64 162, .int .i64 3, .int .i64 5000]).kept k4
  clear m0 l0 m1 l1 m2 l2
  have m0 := F0_4.cell
  have l0 := F0_4.lt
  have m1 := F1_4.cell
  have l1 := F1_4.lt
  have m2 := F2_4.cell
  have l2 := F2_4.lt
  have m3 := F3_4.cell
  have l3 := F3_4.lt
  go_wp2_with fail
  refine (file_is (ints_nil _) (by omega) ex_d).mono ?_
  rintro e w5 ⟨rfl, k5⟩
  have F0_5 : Blk w5 w.heap.size 41 #[.int .i64 0, .int .i64 0, .int .i64 0, .int .i64 0, .int .i64 0, .int .i64 0, .int .i64 5, .int .i64 0, .slice none 0 0] := (F0_4.alloc _).kept k5
  have F1_5 : Blk w5 w1.heap.size 43 #[.int .i64 7, .int .i64 3, .int .i64 5, .int .i64 102, .int .i64 162, .int .i64 1, .int .i64 0] := (F1_4.alloc _).kept k5
  have F2_5 : Blk w5 w2.heap.size 43 #[.int .i64 7, .int .i64 3, .int .i64 5, .int .i64 102, .int .i64 162, .int .i64 2, .int .i64 0] := (F2_4.alloc _).kept k5
  have F3_5 : Blk w5 w3.heap.size 43 #[.int .i64 7, .int .i64 3, .int .i64 5, .int .i64 102, .int .i64 162, .int .i64 3, .int .i64 5000] := (F3_4.alloc _).kept k5
  have F4_5 : Blk w5 w4.heap.size 43 #[.int .i64 0, .int .i64 0, .int .i64 0, .int .i64 0, .int .i64 0, .int .i64 0, .int .i64 0] := (Blk.new w4 43 #[.int .i64 0, .int .i64 0, .int .i64 0, .int .i64 0, .int .i64 0, .int .i64 0, .int .i64 0]).kept k5
  clear m0 l0 m1 l1 m2 l2 m3 l3
  have m0 := F0_5.cell
  have l0 := F0_5.lt
  have m1 := F1_5.cell
  have l1 := F1_5.lt
  have m2 := F2_5.cell
  have l2 := F2_5.lt
  have m3 := F3_5.cell
  have l3 := F3_5.lt
  have m4 := F4_5.cell
  have l4 := F4_5.lt
  go_wp2_with fail
  refine (finalA_is rfl).mono ?_
  rintro e w6 ⟨rfl, k6⟩
  have F0_6 : Blk w6 w.heap.size 41 #[.int .i64 0, .int .i64 0, .int .i64 0, .int .i64 0, .int .i64 0, .int .i64 0, .int .i64 5, .int .i64 0, .slice none 0 0] := (F0_5.alloc _).kept k6
  have F1_6 : Blk w6 w1.heap.size 43 #[.int .i64 7, .int .i64 3, .int .i64 5, .int .i64 102, .int .i64 162, .int .i64 1, .int .i64 0] := (F1_5.alloc _).kept k6
  have F2_6 : Blk w6 w2.heap.size 43 #[.int .i64 7, .int .i64 3, .int .i64 5, .int .i64 102, .int .i64 162, .int .i64 2, .int .i64 0] := (F2_5.alloc _).kept k6
  have F3_6 : Blk w6 w3.heap.size 43 #[.int .i64 7, .int .i64 3, .int .i64 5, .int .i64 102, .int .i64 162, .int .i64 3, .int .i64 5000] := (F3_5.alloc _).kept k6
  have F4_6 : Blk w6 w4.heap.size 43 #[.int .i64 0, .int .i64 0, .int .i64 0, .int .i64 0, .int .i64 0, .int .i64 0, .int .i64 0] := (F4_5.alloc _).kept k6
  have F5_6 : Blk w6 w5.heap.size 43 #[.int .i64 7, .int .i64 3, .int .i64 5, .int .i64 106, .int .i64 106, .int .i64 6, .int .i64 0] := (Blk.new w5 43 #[.int .i64 7, .int .i64 3, .int .i64 5, .int .i64 106, .int .i64 106, .int .i64 6, .int .i64 0]).kept k6
  clear m0 l0 m1 l1 m2 l2 m3 l3 m4 l4
  have m0 := F0_6.cell
  have l0 := F0_6.lt
  have m1 := F1_6.cell
  have l1 := F1_6.lt
  have m2 := F2_6.cell
  have l2 := F2_6.lt
  have m3 := F3_6.cell
  have l3 := F3_6.lt
  have m4 := F4_6.cell
  have l4 := F4_6.lt
  have m5 := F5_6.cell
  have l5 := F5_6.lt
  go_wp2_with fail
  refine (validA_is ex_vc).mono ?_
  rintro e w7 ⟨rfl, k7⟩
  have F0_7 : Blk w7 w.heap.size 41 #[.int .i64 0, .int .i64 0, .int .i64 0, .int .i64 0, .int .i64 0, .int .i64 0, .int .i64 5, .int .i64 0, .slice none 0 0] := F0_6.kept k7
  have F1_7 : Blk w7 w1.heap.size 43 #[.int .i64 7, .int .i64 3, .int .i64 5, .int .i64 102, .int .i64 162, .int .i64 1, .int .i64 0] := F1_6.kept k7
  have F2_7 : Blk w7 w2.heap.size 43 #[.int .i64 7, .int .i64 3, .int .i64 5, .int .i64 102, .int .i64 162, .int .i64 2, .int .i64 0] := F2_6.kept k7
  have F3_7 : Blk w7 w3.heap.size 43 #[.int .i64 7, .int .i64 3, .int .i64 5, .int .i64 102, .int .i64 162, .int .i64 3, .int .i64 5000] := F3_6.kept k7
  have F4_7 : Blk w7 w4.heap.size 43 #[.int .i64 0, .int .i64 0, .int .i64 0, .int .i64 0, .int .i64 0, .int .i64 0, .int .i64 0] := F4_6.kept k7
  have F5_7 : Blk w7 w5.heap.size 43 #[.int .i64 7, .int .i64 3, .int .i64 5, .int .i64 106, .int .i64 106, .int .i64 6, .int .i64 0] := F5_6.kept k7
  clear m0 l0 m1 l1 m2 l2 m3 l3 m4 l4 m5 l5
  have m0 := F0_7.cell
  have l0 := F0_7.lt
  have m1 := F1_7.cell
  have l1 := F1_7.lt
  have m2 := F2_7.cell
  have l2 := F2_7.lt
  have m3 := F3_7.cell
  have l3 := F3_7.lt
  have m4 := F4_7.cell
  have l4 := F4_7.lt
  have m5 := F5_7.cell
  have l5 := F5_7.lt
  go_wp2_with fail
  refine (finalA_is rfl).mono ?_
  rintro e w8 ⟨rfl, k8⟩
  have F0_8 : Blk w8 w.heap.size 41 #[.int .i64 0, .int .i64 0, .int .i64 0, .int .i64 0, .int .i64 0, .int .i64 0, .int .i64 5, .int .i64 0, .slice none 0 0] := F0_7.kept k8
  have F1_8 : Blk w8 w1.heap.size 43 #[.int .i64 7, .int .i64 3, .int .i64 5, .int .i64 102, .int .i64 162, .int .i64 1, .int .i64 0] := F1_7.kept k8
  have F2_8 : Blk w8 w2.heap.size 43 #[.int .i64 7, .int .i64 3, .int .i64 5, .int .i64 102, .int .i64 162, .int .i64 2, .int .i64 0] := F2_7.kept k8
  have F3_8 : Blk w8 w3.heap.size 43 #[.int .i64 7, .int .i64 3, .int .i64 5, .int .i64 102, .int .i64 162, .int .i64 3, .int .i64 5000] := F3_7.kept k8
  have F4_8 : Blk w8 w4.heap.size 43 #[.int .i64 0, .int .i64 0, .int .i64 0, .int .i64 0, .int .i64 0, .int .i64 0, .int .i64 0] := F4_7.kept k8
  have F5_8 : Blk w8 w5.heap.size 43 #[.int .i64 7, .int .i64 3, .int .i64 5, .int .i64 106, .int .i64 106, .int .i64 6, .int .i64 0] := F5_7.kept k8
  clear m0 l0 m1 l1 m2 l2 m3 l3 m4 l4 m5 l5
  have m0 := F0_8.cell
  have l0 := F0_8.lt
  have m1 := F1_8.cell
  have l1 := F1_8.lt
  have m2 := F2_8.cell
  have l2 := F2_8.lt
  have m3 := F3_8.cell
  have l3 := F3_8.lt
  have m4 := F4_8.cell
  have l4 := F4_8.lt
  have m5 := F5_8.cell
  have l5 := F5_8.lt
  go_wp2_with fail
  go_ret
  exact ⟨rfl, ((((((((((((((Kept.refl _).alloc _).trans k1).alloc _).trans k2).alloc _).trans k3).alloc _).trans k4).alloc _).trans k5).alloc _).trans k6).trans k7).trans k8⟩
end Go.Proofs.Ytpickiepkdkigaa
