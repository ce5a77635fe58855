/- The walks of the laws of the chapter on numbers and lines that compare with the reference. -/
import Derived.Test.YtplconloofpakaaDoorLaw01A
import Derived.Test.YtplconloofpakaaDoorFrameL
import Derived.Stop.LaidErr
namespace Go.Proofs.YtplconloofpakaaDoor
open Go.ChangeShapes Go.WideShapes Go.ChangeAt Go.RowKit Go.Joins

/-- what the rows of the chapter say of the listed tables -/
theorem env3 {W : World} (h : laidMetH Tryd.prog Rows.numtextIntsRow.laid W) : Pow W := by
  have h0 : laidMet Tryd.prog Rows.numtextIntsRow.laid W := h
  have h3 := h0.tail.tail
  exact Lib.tabIs_of_head (g := 1) (t := 91) (e := 56) (n := 20) (by kernel_rfl) (by kernel_rfl) (by kernel_rfl) (by kernel_rfl) (by kernel_rfl) (by kernel_rfl) h3
theorem wf_bd {n : Int} (h : (Lit.int .i64 n).wf = true) : -9223372036854775808 ≤ n ∧ n ≤ 9223372036854775807 := by
  simp [Lit.wf, IntKind.min, IntKind.max, IntKind.signed, IntKind.bits] at h
  omega

set_option maxRecDepth 100000 in
set_option maxHeartbeats 4000000 in
theorem lawInts (n : Int) (s : ByteArray) (h0 : -9223372036854775808 ≤ n) (h1 : n ≤ 9223372036854775807) (w : World) (hP : Pow w) :
    Calls Tryd.prog 8 #[.int .i64 n, .string s] w (LawPost w) := by
  unfold LawPost
  have hK0 := Kept.refl w
  by_cases hb : 2000 < s.size
  · go_enter Tryd.func8, Tryd.ntmps8
    go_wp2_with (go_at_call 33; refine (awake01_any _ hP).mono ?_; rintro e w' ⟨rfl, hk⟩)
    go_ret
    exact ⟨rfl, hk⟩
  · have H1 := Lib.hid (fun w => parseInt_any s (by omega) w)
    have H2 := Lib.hid (fun w => rparseInt_any s (by omega) w)
    have H3 := Lib.hid (fun w hP => fmtInt_any n h0 h1 w hP)
    have H4 := Lib.hid (fun w => rfmtInt_any n h0 h1 w)
    rw [parP_refI] at H1
    generalize refI (L s) = r at *
    obtain ⟨r1, r2⟩ := r
    generalize numS n = N at *
    go_enter Tryd.func8, Tryd.ntmps8
    go_wp2_with (first
      | (go_at_call 34; refine (H1.out _).mono ?_; rintro e w' ⟨rfl, hk⟩; have hK := Kept.trans (by assumption) hk; dsimp only)
      | (go_at_call 35; refine (H2.out _).mono ?_; rintro e w' ⟨rfl, rfl⟩; dsimp only)
      | (go_at_call 36; refine (H3.out _ (hP.kept (by assumption))).mono ?_; rintro e w' ⟨rfl, hk⟩; have hK := Kept.trans (by assumption) hk)
      | (go_at_call 37; refine (H4.out _).mono ?_; rintro e w' ⟨rfl, hk⟩; have hK := Kept.trans (by assumption) hk)
      | (go_at_call 33; refine (awake01_any _ (hP.kept (by assumption))).mono ?_; rintro e w' ⟨rfl, hk⟩; have hK := Kept.trans (by assumption) hk))
    go_ret
    exact ⟨rfl, by assumption⟩

set_option maxRecDepth 100000 in
set_option maxHeartbeats 4000000 in
theorem lawFixed (n p : Int) (s : ByteArray) (h0 : -9223372036854775808 ≤ n) (h1 : n ≤ 9223372036854775807) (w : World) (hP : Pow w) :
    Calls Tryd.prog 9 #[.int .i64 n, .int .i64 p, .string s] w (LawPost w) := by
  unfold LawPost
  have hK0 := Kept.refl w
  by_cases hb : 2000 < s.size
  · go_enter Tryd.func9, Tryd.ntmps9
    go_wp2_with (go_at_call 33; refine (awake01_any _ hP).mono ?_; rintro e w' ⟨rfl, hk⟩)
    go_ret
    exact ⟨rfl, hk⟩
  · have H1 := Lib.hid (fun w => parseFixed_any s p (by omega) w)
    have H2 := Lib.hid (fun w => rparseFixed_any s p (by omega) w)
    have H3 := Lib.hid (fun w hP => formatFixed_any n p h0 h1 w hP)
    have H4 := Lib.hid (fun w => rformatFixed_any n p h0 h1 w)
    generalize refP (L s) p = r at *
    obtain ⟨r1, r2⟩ := r
    generalize fixS n (max 0 (min p 9)) = N at *
    go_enter Tryd.func9, Tryd.ntmps9
    go_wp2_with (first
      | (go_at_call 38; refine (H1.out _).mono ?_; rintro e w' ⟨rfl, hk⟩; have hK := Kept.trans (by assumption) hk; dsimp only)
      | (go_at_call 39; refine (H2.out _).mono ?_; rintro e w' ⟨rfl, hk⟩; have hK := Kept.trans (by assumption) hk; dsimp only)
      | (go_at_call 40; refine (H3.out _ (hP.kept (by assumption))).mono ?_; rintro e w' ⟨rfl, hk⟩; have hK := Kept.trans (by assumption) hk)
      | (go_at_call 41; refine (H4.out _).mono ?_; rintro e w' ⟨rfl, hk⟩; have hK := Kept.trans (by assumption) hk)
      | (go_at_call 33; refine (awake01_any _ (hP.kept (by assumption))).mono ?_; rintro e w' ⟨rfl, hk⟩; have hK := Kept.trans (by assumption) hk))
    go_ret
    exact ⟨rfl, by assumption⟩

/-- no more words or lines than bytes -/
theorem flds_len (s : ByteArray) : ∀ (l : List UInt8) (pos : Nat) (st : Int), (flds s l pos st).length ≤ l.length + 1
  | [], pos, st => by rw [flds]; split <;> simp
  | c :: r, pos, st => by
    rw [flds]
    have h1 := flds_len s r (pos + 1) (-1)
    split
    · split
      · rw [List.length_cons, List.length_cons]; omega
      · rw [List.length_cons]; omega
    · have h2 := flds_len s r (pos + 1) (if st < 0 then (pos : Int) else st)
      rw [List.length_cons]; omega
theorem lns_len (s : ByteArray) : ∀ (l : List UInt8) (pos st : Nat) (x : List ByteArray × Nat), lns s l pos st = some x → x.1.length ≤ l.length
  | [], pos, st, x, h => by rw [lns] at h; cases h; exact Nat.le_refl _
  | c :: r, pos, st, x, h => by
    rw [lns] at h
    split at h
    · obtain ⟨y, hy, rfl⟩ := Option.map_eq_some_iff.1 h
      have := lns_len s r _ _ y hy
      simp; omega
    · split at h
      · have := lns_len s r _ _ x h
        simp; omega
      · cases h
theorem linR_len (s : ByteArray) : (linR s).1.length ≤ s.size := by
  unfold linR
  split
  · simp
  · cases h : lns s (L s) 0 0 with
    | none => simp
    | some x =>
      obtain ⟨l, e⟩ := x
      have := lns_len s (L s) 0 0 _ h
      rw [L_length] at this
      dsimp only at this ⊢
      split
      · exact this
      · simp

set_option maxRecDepth 100000 in
set_option maxHeartbeats 4000000 in
theorem lawFieldsN (s : ByteArray) (w : World) (hP : Pow w) :
    Calls Tryd.prog 10 #[.string s] w (LawPost w) := by
  unfold LawPost
  have hK0 := Kept.refl w
  by_cases hb : 5000 < s.size
  · go_enter Tryd.func10, Tryd.ntmps10
    go_wp2_with (go_at_call 33; refine (awake01_any _ hP).mono ?_; rintro e w' ⟨rfl, hk⟩)
    go_ret
    exact ⟨rfl, hk⟩
  · have H1 := Lib.hid (fun w => fields_any s (by omega) w)
    have H2 := Lib.hid (fun w => rfields_any s (by omega) w)
    have hlen : (fldS s).length ≤ 1000000 := by
      have := flds_len s (L s) 0 (-1)
      rw [L_length] at this
      unfold fldS; omega
    generalize fldS s = X at *
    go_enter Tryd.func10, Tryd.ntmps10
    go_wp2_with (first
      | (go_at_call 43; refine (H1.out _).mono ?_; rintro e w' ⟨v, rfl, hS, hk⟩; have hK := Kept.trans (by assumption) hk)
      | (go_at_call 44; refine (H2.out _).mono ?_; rintro e w' ⟨v2, rfl, hS2, hk2⟩; have hK := Kept.trans (by assumption) hk2; have hS' := Strs.kept hS hk2)
      | (go_at_call 42; refine (same_any _ _ X X _ hS' hS2 hlen).mono ?_; rintro e w' ⟨rfl, hk⟩; rw [decide_eq_true rfl]; have hK := Kept.trans (by assumption) hk)
      | (go_at_call 33; refine (awake01_any _ (hP.kept (by assumption))).mono ?_; rintro e w' ⟨rfl, hk⟩; have hK := Kept.trans (by assumption) hk))
    go_ret
    exact ⟨rfl, by assumption⟩

set_option maxRecDepth 100000 in
set_option maxHeartbeats 4000000 in
theorem lawLines (s : ByteArray) (w : World) (hP : Pow w) :
    Calls Tryd.prog 11 #[.string s] w (LawPost w) := by
  unfold LawPost
  have hK0 := Kept.refl w
  by_cases hb : 70000 < s.size
  · go_enter Tryd.func11, Tryd.ntmps11
    go_wp2_with (go_at_call 33; refine (awake01_any _ hP).mono ?_; rintro e w' ⟨rfl, hk⟩)
    go_ret
    exact ⟨rfl, hk⟩
  · have H1 := Lib.hid (fun w => lines_any s (by omega) w)
    have H2 := Lib.hid (fun w => rlines_any s (by omega) w)
    have hlen : (linR s).1.length ≤ 1000000 := by have := linR_len s; omega
    generalize linR s = R at *
    obtain ⟨X, c⟩ := R
    dsimp only at hlen
    go_enter Tryd.func11, Tryd.ntmps11
    go_wp2_with (first
      | (go_at_call 45; refine (H1.out _).mono ?_; rintro e w' ⟨v, rfl, hS, hk⟩; dsimp only at hS ⊢; have hK := Kept.trans (by assumption) hk)
      | (go_at_call 46; refine (H2.out _).mono ?_; rintro e w' ⟨v2, rfl, hS2, hk2⟩; dsimp only at hS2 ⊢; have hK := Kept.trans (by assumption) hk2; have hS' := Strs.kept hS hk2)
      | (go_at_call 42; refine (same_any _ _ X X _ hS' hS2 hlen).mono ?_; rintro e w' ⟨rfl, hk⟩; rw [decide_eq_true rfl]; have hK := Kept.trans (by assumption) hk)
      | (go_at_call 33; refine (awake01_any _ (hP.kept (by assumption))).mono ?_; rintro e w' ⟨rfl, hk⟩; have hK := Kept.trans (by assumption) hk))
    go_ret
    exact ⟨rfl, by assumption⟩
end Go.Proofs.YtplconloofpakaaDoor
