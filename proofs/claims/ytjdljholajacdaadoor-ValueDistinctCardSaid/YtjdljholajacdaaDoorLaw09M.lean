/- The fixed examples of the chapter on values, and what the laws ask of enumerations. -/
import Derived.Test.YtjdljholajacdaaDoorValH
import Derived.Test.YtjdljholajacdaaDoorFrame
import Derived.Test.YtjdljholajacdaaDoorOpenVal
import Derived.Test.YtjdljholajacdaaDoorFrameL
import Derived.Stop.LaidErr
namespace Go.Proofs.YtjdljholajacdaaDoor
open Go.RowKit

theorem enums_lit (w : World) (nm x y : ByteArray) : Enums ((w.alloc (.cells #[.string x, .string y] 9)).alloc (.cells #[.string nm, .slice (some ⟨w.heap.size, 0, none⟩) 2 2] 39)) (.slice (some ⟨w.heap.size + 1, 0, none⟩) 1 1) [[x, y]] := by
  refine ⟨_, _, rfl, by simp, fun _ => ⟨w.heap.size + 1, 0, rfl, by simp, fun j l hj => ?_⟩⟩
  match j, hj with
  | 0, hj =>
    obtain rfl : [x, y] = l := Option.some.inj hj
    refine ⟨by simp, _, ?_, some ⟨w.heap.size, 0, none⟩, 2, rfl, fun _ => ⟨w.heap.size, 0, rfl, by simp; omega, fun i hi => ?_⟩⟩
    · rw [World.cell?_alloc_at _ _ _ _ (by simp)]; rfl
    · match i, hi with
      | 0, _ => simp
      | 1, _ => simp
def SomeB (w : World) (r : Ending) (w' : World) : Prop := ∃ b : Bool, r = .returned (.bool b) ∧ Kept w w'
set_option maxRecDepth 100000 in
set_option maxHeartbeats 8000000 in
theorem few_any (v : Value) (ms : List (List ByteArray)) (w : World) (hE : Enums w v ms) : Calls Tryd.prog 14 #[v] w (SomeB w) := by
  obtain ⟨A, cap, rfl, hm, hx⟩ := hE
  obtain ⟨n, hn⟩ : ∃ n, n = ms.length := ⟨_, rfl⟩
  rw [← hn] at hx hm ⊢
  have HN := Lib.hid hn
  clear hn
  go_enter Tryd.func14, Tryd.ntmps14
  go_wp2_with fail
  go_loop [3] (fun z => ∃ pos : Nat, pos ≤ n ∧ z = .int .i64 pos) (fun z => (n - intOf z).toNat)
  case atStart => exact ⟨0, Nat.zero_le _, rfl⟩
  case round =>
    obtain ⟨pos, hps, rfl⟩ := hrel
    by_cases hp : pos < n
    · have hpi : (pos : Int) < n := by omega
      by_cases h20 : pos < 20
      · have h20i : (pos : Int) < 20 := by omega
        obtain ⟨b, off, rfl, hb, hc⟩ := hx (by omega)
        obtain ⟨hl, mv, hcl, B, c, rfl, _⟩ := hc pos _ (List.getElem?_eq_getElem (by have := HN.out; omega))
        clear hc hx
        generalize (ms[pos]'(by have := HN.out; omega)).length = q at *
        by_cases h40 : 40 < (q : Int)
        · go_wp2_with fail
          go_ret
          exact ⟨_, rfl, Kept.refl _⟩
        · go_wp2_with fail
          go_round
          case rel => exact ⟨pos + 1, hp, by go_num⟩
          case measure => simp only [intOf]; omega
      · have h20i : ¬ ((pos : Int) < 20) := by omega
        go_wp2_with fail
        go_ret
        exact ⟨_, rfl, Kept.refl _⟩
    · have hpi : ¬ ((pos : Int) < n) := by omega
      go_wp2_with fail
      go_ret
      exact ⟨_, rfl, Kept.refl _⟩
theorem ex9_fix : fixS 125000 4 = ⟨#[49, 50, 46, 53, 48, 48, 48]⟩ := refP_canon (p := 4) (s := ⟨#[49, 50, 46, 53, 48, 48, 48]⟩) (by decide)
theorem ex9_a : vfmtS 4 0 125000 [] = (⟨#[49, 50, 46, 53, 48, 48, 48, 37]⟩, 0) := by
  have h1 : vfmtS 4 0 125000 [] = (fixS 125000 4 ++ ⟨#[37]⟩, 0) := by rw [vfmtS, if_pos (by decide), if_pos (by decide)]; rfl
  rw [h1, ex9_fix]; rfl
theorem ex9_b : vparS ⟨#[49, 50, 46, 53, 48]⟩ 3 0 [] = (3, 0, 1250, 0) := by
  have h1 : vnumS ⟨#[49, 50, 46, 53, 48]⟩ 3 0 [] = (1250, 0) := show refP (L ⟨#[49, 50, 46, 53, 48]⟩) 2 = _ by decide
  rw [vparS, h1]; rfl
theorem ex9_c : vparS ⟨#[103, 114, 101, 101, 110]⟩ 6 0 [[⟨#[114, 101, 100]⟩, ⟨#[103, 114, 101, 101, 110]⟩]] = (6, 0, 1, 0) := by
  have h1 : vnumS ⟨#[103, 114, 101, 101, 110]⟩ 6 0 [[⟨#[114, 101, 100]⟩, ⟨#[103, 114, 101, 101, 110]⟩]] = (1, 0) := by
    rw [show (0 : Int) = ((0 : Nat) : Int) from rfl, vnum_six (l := [⟨#[114, 101, 100]⟩, ⟨#[103, 114, 101, 101, 110]⟩]) rfl]
    exact vsix_at (p := 1) rfl (fun m hm => by
      obtain rfl : m = 0 := by omega
      intro h; exact absurd (congrArg ByteArray.size (Option.some.inj h)) (by decide))
  rw [vparS, h1]; rfl
theorem ex9_d : vfmtS 5 0 45349 [] = (⟨#[50, 48, 50, 52, 45, 48, 50, 45, 50, 57]⟩, 0) := by
  have h1 : vfmtS 5 0 45349 [] = (dateS 45349, 0) := by rw [vfmtS, if_pos (by decide), if_pos (by decide)]; rfl
  have h2 : dparS ⟨#[50, 48, 50, 52, 45, 48, 50, 45, 50, 57]⟩ = (45349, 0) := by
    have e : dparB ⟨#[50, 48, 50, 52, 45, 48, 50, 45, 50, 57]⟩ = true := by
      unfold dparB
      rw [L_extract, L_extract, L_extract]
      decide
    rw [dparS_yes e, L_extract, L_extract, L_extract]
    decide
  rw [h1, (dparS_canon h2).2]

set_option maxRecDepth 100000 in
set_option maxHeartbeats 8000000 in
theorem awake09_any (w : World) (hM : Mon w) (hP : Pow w) :
    Calls Tryd.prog 15 #[] w fun e w' => e = .returned (.bool true) ∧ Kept w w' := by
  have hE := enums_lit w ⟨#[99, 111, 108, 111, 114]⟩ ⟨#[114, 101, 100]⟩ ⟨#[103, 114, 101, 101, 110]⟩
  have hK0 := ((Kept.refl w).alloc (.cells #[.string ⟨#[114, 101, 100]⟩, .string ⟨#[103, 114, 101, 101, 110]⟩] 9)).alloc (.cells #[.string ⟨#[99, 111, 108, 111, 114]⟩, .slice (some ⟨w.heap.size, 0, none⟩) 2 2] 39)
  go_enter Tryd.func15, Tryd.ntmps15
  go_wp2_with fail
  refine (vformat_any 4 0 125000 _ [] _ (Enums.nil _) (by decide) (by decide) (hM.kept hK0) (hP.kept hK0)).mono ?_
  rintro r w1 ⟨rfl, k1⟩
  rw [ex9_a]
  dsimp only
  have hE1 := hE.kept k1
  have hK1 := hK0.trans k1
  clear hE hK0 k1
  go_wp2_with fail
  refine (vparse_any _ 3 0 _ [] (fun _ => by decide) _ (Enums.nil _) (hM.kept hK1)).mono ?_
  rintro r w2 ⟨rfl, k2⟩
  rw [ex9_b, vpV]
  dsimp only
  have hE2 := (hE1.kept k2).kept ((Kept.refl _).alloc (.cells #[.int .i64 3, .int .i64 0, .int .i64 1250] 23))
  have hK2 := (hK1.trans k2).alloc (.cells #[.int .i64 3, .int .i64 0, .int .i64 1250] 23)
  clear hE1 hK1 k2
  go_wp2_with fail
  refine (vparse_any _ 6 0 _ _ (fun h => absurd rfl h) _ hE2 (hM.kept hK2)).mono ?_
  rintro r w3 ⟨rfl, k3⟩
  rw [ex9_c, vpV]
  dsimp only
  have B1 := k3.blk1
  have hK3 := (hK2.trans k3).alloc (.cells #[.int .i64 6, .int .i64 0, .int .i64 1] 23)
  clear hE2 hK2 k3
  go_wp2_with fail
  refine (vformat_any 5 0 45349 _ [] _ (Enums.nil _) (by decide) (by decide) (hM.kept hK3) (hP.kept hK3)).mono ?_
  rintro r w4 ⟨rfl, k4⟩
  rw [ex9_d]
  dsimp only
  have B2 := k4.blk1
  have B1 := (B1.alloc _).kept k4
  have b10 := B1.cell 0
  have b11 := B1.cell 1
  have b12 := B1.cell 2
  have b20 := B2.cell 0
  have b21 := B2.cell 1
  have b22 := B2.cell 2
  have hK := hK3.trans k4
  clear hK3 k4
  go_wp2_with fail
  go_ret
  exact ⟨rfl, hK⟩
end Go.Proofs.YtjdljholajacdaaDoor
/- The walks of the laws ValueTypes, ValueFormat, ValueParse. -/
namespace Go.Proofs.YtjdljholajacdaaDoor
open Go.RowKit

set_option maxRecDepth 100000 in
set_option maxHeartbeats 8000000 in
theorem lawFormat9 (k e n : Int) (v : Value) (ms : List (List ByteArray)) (h0 : -9223372036854775808 ≤ n) (h1 : n ≤ 9223372036854775807) (w : World) (hE : Enums w v ms) (hM : Mon w) (hP : Pow w) :
    Calls Tryd.prog 3 #[.agg #[.int .i64 k, .int .i64 e, .int .i64 n], v] w (LawPost w) := by
  unfold LawPost
  have hE1 := fun w' (h : Kept w w') => hE.kept h
  have HA := Lib.hid (fun w h h2 => vformat_any k e n v ms w h h0 h1 h2)
  have HB := Lib.hid (fun w h => rvformat_any k e n v ms w h h0 h1)
  generalize vfmtS k e n ms = R at *
  obtain ⟨S, c⟩ := R
  dsimp only at HA HB
  have hself : (S.toList == S.toList) = true := by simp
  go_enter Tryd.func3, Tryd.ntmps3
  go_wp2_with fail
  refine (few_any v ms _ (hE1 _ ((Kept.refl _).alloc _))).mono ?_
  unfold SomeB
  rintro r w1 ⟨b, rfl, hk⟩
  have hK := ((Kept.refl w).alloc _).trans hk
  have B := hk.blk1
  have c0 := B.cell 0
  have c1 := B.cell 1
  have c2 := B.cell 2
  clear hk
  cases b
  · go_wp2_with (go_at_call 15; refine (awake09_any _ (hM.kept hK) (hP.kept hK)).mono ?_; rintro r w' ⟨rfl, hk⟩)
    go_ret
    exact ⟨rfl, hK.trans hk⟩
  · go_wp2_with (first
      | (go_at_call 16; refine (HA.out _ (hE1 _ hK) (hM.kept hK) (hP.kept hK)).mono ?_; rintro r w2 ⟨rfl, hk⟩; have hK := hK.trans hk; have B := B.kept hk; have c0 := B.cell 0; have c1 := B.cell 1; have c2 := B.cell 2; clear hk)
      | (go_at_call 17; refine (HB.out _ (hE1 _ hK)).mono ?_; rintro r w3 ⟨rfl, hk⟩; have hK := hK.trans hk)
      | (go_at_call 15; refine (awake09_any _ (hM.kept hK) (hP.kept hK)).mono ?_; rintro r w' ⟨rfl, hk⟩; have hK := hK.trans hk))
    go_ret
    exact ⟨rfl, hK⟩

set_option maxRecDepth 100000 in
set_option maxHeartbeats 8000000 in
theorem lawParse9 (s : ByteArray) (k e : Int) (v : Value) (ms : List (List ByteArray)) (hs : s.size ≤ maxLen) (w : World) (hE : Enums w v ms) (hM : Mon w) (hP : Pow w) :
    Calls Tryd.prog 4 #[.string s, .agg #[.int .i64 k, .int .i64 e], v] w (LawPost w) := by
  unfold LawPost
  unfold maxLen at hs
  have hE1 := fun w' (h : Kept w w') => hE.kept h
  by_cases h100 : 100 < s.size
  · have h100i : 100 < (s.size : Int) := by omega
    go_enter Tryd.func4, Tryd.ntmps4
    go_wp2_with fail
    refine (few_any v ms _ (hE1 _ ((Kept.refl _).alloc _))).mono ?_
    unfold SomeB
    rintro r w1 ⟨b, rfl, hk⟩
    have hK := ((Kept.refl w).alloc _).trans hk
    clear hk
    cases b
    all_goals
      go_wp2_with (go_at_call 15; refine (awake09_any _ (hM.kept hK) (hP.kept hK)).mono ?_; rintro r w' ⟨rfl, hk⟩)
      go_ret
      exact ⟨rfl, hK.trans hk⟩
  · have h100i : ¬ (100 < (s.size : Int)) := by omega
    have HA := Lib.hid (fun w h hM => vparse_any s k e v ms (fun _ => by omega) w h hM)
    have HB := Lib.hid (fun w h => rvparse_any s k e v ms (fun _ => by omega) w h)
    unfold vpV at HA HB
    generalize vparS s k e ms = R at *
    obtain ⟨a, b, c, d⟩ := R
    dsimp only at HA HB
    go_enter Tryd.func4, Tryd.ntmps4
    go_wp2_with fail
    refine (few_any v ms _ (hE1 _ ((Kept.refl _).alloc _))).mono ?_
    unfold SomeB
    rintro r w1 ⟨b, rfl, hk⟩
    have hK := ((Kept.refl w).alloc _).trans hk
    have B := hk.blk1
    have c0 := B.cell 0
    have c1 := B.cell 1
    clear hk
    cases b
    · go_wp2_with (go_at_call 15; refine (awake09_any _ (hM.kept hK) (hP.kept hK)).mono ?_; rintro r w' ⟨rfl, hk⟩)
      go_ret
      exact ⟨rfl, hK.trans hk⟩
    · go_wp2_with fail
      refine (HA.out _ (hE1 _ hK) (hM.kept hK)).mono ?_
      rintro r w2 ⟨rfl, hk⟩
      have hK := (hK.trans hk).alloc (.cells #[.int .i64 a, .int .i64 b, .int .i64 c] 23)
      have B := (B.kept hk).alloc (.cells #[.int .i64 a, .int .i64 b, .int .i64 c] 23)
      have c0 := B.cell 0
      have c1 := B.cell 1
      clear hk
      go_wp2_with fail
      refine (HB.out _ (hE1 _ hK)).mono ?_
      rintro r w3 ⟨rfl, hk⟩
      have hK := hK.trans hk
      have X := hk.blk1
      have x0 := X.cell 0
      have x1 := X.cell 1
      have x2 := X.cell 2
      have xl := X.lt
      clear hk
      have hK4 := hK.alloc (.cells #[.int .i64 a, .int .i64 b, .int .i64 c] 23)
      go_wp2_with (go_at_call 15; refine (awake09_any _ (hM.kept hK4) (hP.kept hK4)).mono ?_; rintro r w' ⟨rfl, hk⟩)
      go_ret
      exact ⟨rfl, hK4.trans hk⟩
end Go.Proofs.YtjdljholajacdaaDoor
/- The walks of the laws ValueTypes, ValueCanonical. -/
namespace Go.Proofs.YtjdljholajacdaaDoor
open Go.RowKit

set_option maxRecDepth 100000 in
set_option maxHeartbeats 8000000 in
theorem lawTypes9 (k e n : Int) (v : Value) (ms : List (List ByteArray)) (w : World) (hE : Enums w v ms) (hM : Mon w) (hP : Pow w) :
    Calls Tryd.prog 8 #[.agg #[.int .i64 k, .int .i64 e], .int .i64 n, v] w (LawPost w) := by
  unfold LawPost
  have hE1 := fun w' (h : Kept w w') => hE.kept h
  have HT := Lib.hid (fun w h => vtype_any k e v ms w h)
  have HT2 := Lib.hid (fun w h => rvtype_any k e v ms w h)
  have HV := Lib.hid (fun w h => valid_any k e n v ms w h)
  have HV2 := Lib.hid (fun w h => rvalid_any k e n v ms w h)
  have HB := Lib.hid (fun w h => bounds_any k e v ms w h)
  have HB2 := Lib.hid (fun w h => rbounds_any k e v ms w h)
  generalize vtB k e ms = vt at *
  generalize validB k e n ms = va at *
  generalize bndS k e ms = R at *
  obtain ⟨lo, hi⟩ := R
  dsimp only at HB HB2
  go_enter Tryd.func8, Tryd.ntmps8
  go_wp2_with fail
  refine (few_any v ms _ (hE1 _ ((Kept.refl _).alloc _))).mono ?_
  unfold SomeB
  rintro r w1 ⟨b, rfl, hk⟩
  have hK := ((Kept.refl w).alloc _).trans hk
  have B := hk.blk1
  have c0 := B.cell 0
  have c1 := B.cell 1
  clear hk
  cases b
  · go_wp2_with (go_at_call 15; refine (awake09_any _ (hM.kept hK) (hP.kept hK)).mono ?_; rintro r w' ⟨rfl, hk⟩)
    go_ret
    exact ⟨rfl, hK.trans hk⟩
  · go_wp2_with fail
    refine (HB.out _ (hE1 _ hK)).mono ?_
    rintro r w2 ⟨rfl, hk⟩
    have hK := hK.trans hk
    have B := B.kept hk
    have c0 := B.cell 0
    have c1 := B.cell 1
    clear hk
    go_wp2_with fail
    refine (HB2.out _ (hE1 _ hK)).mono ?_
    rintro r w3 ⟨rfl, hk⟩
    have hK := (hK.trans hk).alloc (.cells #[.int .i64 k, .int .i64 e, .int .i64 n] 23)
    have B := B.kept hk
    have c0 := B.cell 0
    have c1 := B.cell 1
    clear hk
    go_wp2_with fail
    have X := Blk.new w3 23 #[.int .i64 k, .int .i64 e, .int .i64 n]
    have B := B.alloc (.cells #[.int .i64 k, .int .i64 e, .int .i64 n] 23)
    generalize hW : w3.alloc (.cells #[.int .i64 k, .int .i64 e, .int .i64 n] 23) = W at *
    generalize w3.heap.size = q at *
    clear hW
    have x0 := KW.cell X.lt (X.cell 0)
    have x1 := KW.cell X.lt (X.cell 1)
    have x2 := KW.cell X.lt (X.cell 2)
    have b0 := KW.cell B.lt (B.cell 0)
    have b1 := KW.cell B.lt (B.cell 1)
    have hEx := fun x : KW W => hE1 _ (hK.trans x.h)
    have hMx := fun x : KW W => hM.kept (hK.trans x.h)
    have hPx := fun x : KW W => hP.kept (hK.trans x.h)
    clear c0 c1 X B
    cases vt <;> cases va
    all_goals
      refine wp_region_kept (by kernel_rfl) (by kernel_rfl) ?_
      repeat (go_big_quiet_step (first
        | (go_at_call 25; exact KW.call (HT.out _ (hEx _)))
        | (go_at_call 26; exact KW.call (HT2.out _ (hEx _)))
        | (go_at_call 22; exact KW.call (HV.out _ (hEx _)))
        | (go_at_call 20; exact KW.call (HV2.out _ (hEx _)))
        | (go_at_call 27; exact KW.call (zero_any k e _))
        | (go_at_call 28; exact KW.call (rzero_any k e _))
        | (go_at_call 15; exact KW.call (awake09_any _ (hMx _) (hPx _)))))
      refine wpQuiet_nil ?_
      rintro _ ⟨⟨wx, hx2⟩, rfl⟩
      go_wp2_with fail
      go_ret
      exact ⟨rfl, hK.trans hx2⟩
end Go.Proofs.YtjdljholajacdaaDoor
/- The walks of the laws ValueCanonical, ValueRoundTrip, ValueDistinct. -/
namespace Go.Proofs.YtjdljholajacdaaDoor
open Go.RowKit

theorem vpar_cases (s : ByteArray) (k e : Int) (ms : List (List ByteArray)) : (∃ d, d ≠ 0 ∧ vparS s k e ms = (0, 0, 0, d)) ∨ (∃ n, vparS s k e ms = (k, e, n, 0) ∧ vtB k e ms = true ∧ vnumS s k e ms = (n, 0) ∧ inB n k e ms = true) := by
  unfold vparS
  cases hv : vtB k e ms
  · exact .inl ⟨8, by decide, rfl⟩
  · rw [if_pos rfl]
    by_cases hc : (vnumS s k e ms).2 = 0
    · rw [if_pos hc]
      cases hi : inB (vnumS s k e ms).1 k e ms
      · exact .inl ⟨3, by decide, rfl⟩
      · exact .inr ⟨_, rfl, rfl, Prod.ext rfl hc, hi⟩
    · rw [if_neg hc]
      exact .inl ⟨_, hc, rfl⟩
theorem Enums.small {w : World} {v : Value} {ms : List (List ByteArray)} (h : Enums w v ms) (e : Int) : (memS e ms).length ≤ 9223372036854775807 := by
  unfold memS
  rcases Nat.lt_or_ge e.toNat ms.length with hl | hl
  · obtain ⟨_, _, _, n, _, _, l, h1, h2, h3, _⟩ := h.at_ hl
    rw [h1, Option.getD_some]; omega
  · rw [List.getElem?_eq_none hl]; simp
theorem inB_bd {n k e : Int} {ms : List (List ByteArray)} (hv : vtB k e ms = true) (hi : inB n k e ms = true) (hs : (memS e ms).length ≤ 9223372036854775807) : -9223372036854775808 ≤ n ∧ n ≤ 9223372036854775807 := by
  have h := (inB_iff hv).1 hi
  unfold bndV at h
  rcases vt_true hv with ⟨hk, _⟩ | ⟨rfl, _⟩
  · rcases hk with rfl | rfl | rfl | rfl | rfl
    all_goals
      simp at h
      omega
  · simp at h
    omega
theorem vfmt_of {k e n : Int} {ms : List (List ByteArray)} (hv : vtB k e ms = true) (hi : inB n k e ms = true) : vfmtS k e n ms = (vtext k e n ms, 0) := by rw [vfmtS, hv, hi]; rfl

set_option maxRecDepth 100000 in
set_option maxHeartbeats 8000000 in
theorem lawCanon9 (s : ByteArray) (k e : Int) (v : Value) (ms : List (List ByteArray)) (hs : s.size ≤ maxLen) (w : World) (hE : Enums w v ms) (hM : Mon w) (hP : Pow w) :
    Calls Tryd.prog 7 #[.string s, .agg #[.int .i64 k, .int .i64 e], v] w (LawPost w) := by
  unfold LawPost
  unfold maxLen at hs
  have hE1 := fun w' (h : Kept w w') => hE.kept h
  by_cases h100 : 100 < s.size
  · have h100i : 100 < (s.size : Int) := by omega
    go_enter Tryd.func7, Tryd.ntmps7
    go_wp2_with fail
    refine (few_any v ms _ (hE1 _ ((Kept.refl _).alloc _))).mono ?_
    unfold SomeB
    rintro r w1 ⟨b, rfl, hk⟩
    have hK := ((Kept.refl w).alloc _).trans hk
    clear hk
    cases b
    all_goals
      go_wp2_with (go_at_call 15; refine (awake09_any _ (hM.kept hK) (hP.kept hK)).mono ?_; rintro r w' ⟨rfl, hk⟩)
      go_ret
      exact ⟨rfl, hK.trans hk⟩
  · have h100i : ¬ (100 < (s.size : Int)) := by omega
    have HA := Lib.hid (fun w h hM => vparse_any s k e v ms (fun _ => by omega) w h hM)
    unfold vpV at HA
    rcases vpar_cases s k e ms with ⟨d, hd, hR⟩ | ⟨n, hR, hv, hn, hi⟩
    · rw [hR] at HA
      dsimp only at HA
      clear hR
      have hd2 := beq_no hd
      go_enter Tryd.func7, Tryd.ntmps7
      go_wp2_with fail
      refine (few_any v ms _ (hE1 _ ((Kept.refl _).alloc _))).mono ?_
      unfold SomeB
      rintro r w1 ⟨b, rfl, hk⟩
      have hK := ((Kept.refl w).alloc _).trans hk
      have B := hk.blk1
      have c0 := B.cell 0
      have c1 := B.cell 1
      clear hk
      cases b
      · go_wp2_with (go_at_call 15; refine (awake09_any _ (hM.kept hK) (hP.kept hK)).mono ?_; rintro r w' ⟨rfl, hk⟩)
        go_ret
        exact ⟨rfl, hK.trans hk⟩
      · go_wp2_with fail
        refine (HA.out _ (hE1 _ hK) (hM.kept hK)).mono ?_
        rintro r w2 ⟨rfl, hk⟩
        have hK := (hK.trans hk).alloc (.cells #[.int .i64 0, .int .i64 0, .int .i64 0] 23)
        clear hk
        go_wp2_with (go_at_call 15; refine (awake09_any _ (hM.kept hK) (hP.kept hK)).mono ?_; rintro r w' ⟨rfl, hk⟩)
        go_ret
        exact ⟨rfl, hK.trans hk⟩
    · rw [hR] at HA
      dsimp only at HA
      clear hR
      obtain ⟨b0, b1⟩ := inB_bd hv hi (hE.small e)
      have HF := Lib.hid (fun w h hM hP => vformat_any k e n v ms w h b0 b1 hM hP)
      rw [vfmt_of hv hi, vtext_num hv hn] at HF
      have HV := Lib.hid (fun w h => valid_any k e n v ms w h)
      rw [show validB k e n ms = true by rw [validB, hv, hi]; rfl] at HV
      clear hv hn hi
      have hself : (s.toList == s.toList) = true := by simp
      go_enter Tryd.func7, Tryd.ntmps7
      go_wp2_with fail
      refine (few_any v ms _ (hE1 _ ((Kept.refl _).alloc _))).mono ?_
      unfold SomeB
      rintro r w1 ⟨b, rfl, hk⟩
      have hK := ((Kept.refl w).alloc _).trans hk
      have B := hk.blk1
      have c0 := B.cell 0
      have c1 := B.cell 1
      clear hk
      cases b
      · go_wp2_with (go_at_call 15; refine (awake09_any _ (hM.kept hK) (hP.kept hK)).mono ?_; rintro r w' ⟨rfl, hk⟩)
        go_ret
        exact ⟨rfl, hK.trans hk⟩
      · go_wp2_with fail
        refine (HA.out _ (hE1 _ hK) (hM.kept hK)).mono ?_
        rintro r w2 ⟨rfl, hk⟩
        have hK := (hK.trans hk).alloc (.cells #[.int .i64 k, .int .i64 e, .int .i64 n] 23)
        have B := (B.kept hk).alloc (.cells #[.int .i64 k, .int .i64 e, .int .i64 n] 23)
        clear hk
        go_wp2_with fail
        refine (HF.out _ (hE1 _ hK) (hM.kept hK) (hP.kept hK)).mono ?_
        rintro r w3 ⟨rfl, hk⟩
        have hK := hK.trans hk
        have X := hk.blk1
        have B := B.kept hk
        have c0 := B.cell 0
        have c1 := B.cell 1
        have x0 := X.cell 0
        have x1 := X.cell 1
        have x2 := X.cell 2
        clear hk
        go_wp2_with (first
          | (go_at_call 22; refine (HV.out _ (hE1 _ hK)).mono ?_; rintro r w4 ⟨rfl, hk⟩; have hK := hK.trans hk; have B := B.kept hk; have X := X.kept hk; have c0 := B.cell 0; have c1 := B.cell 1; have x0 := X.cell 0; have x1 := X.cell 1; clear hk)
          | (go_at_call 15; refine (awake09_any _ (hM.kept hK) (hP.kept hK)).mono ?_; rintro r w' ⟨rfl, hk⟩; have hK := hK.trans hk))
        go_ret
        exact ⟨rfl, hK⟩

theorem dateS_size {n : Int} (h : isDate n = true) : (dateS n).size = 10 := by
  have h1 := dparS_dateS h
  cases hB : dparB (dateS n)
  · rw [dparS_no hB] at h1
    exact absurd (show (2 : Int) = 0 from congrArg Prod.snd h1) (by decide)
  · unfold dparB at hB
    simp only [Bool.and_eq_true, decide_eq_true_eq] at hB
    exact hB.1
theorem vtext_size {k e n : Int} {ms : List (List ByteArray)} (hv : vtB k e ms = true) (hi : inB n k e ms = true) (h6 : k ≠ 6) : (vtext k e n ms).size ≤ 1000000 := by
  have hb := (inB_iff hv).1 hi
  rcases vt_true hv with ⟨hk, rfl⟩ | ⟨rfl, _⟩
  · rcases hk with rfl | rfl | rfl | rfl | rfl
    · show (if n = 0 then (⟨#[102, 97, 108, 115, 101]⟩ : ByteArray) else ⟨#[116, 114, 117, 101]⟩).size ≤ _
      split <;> decide
    · obtain ⟨b0, b1⟩ : -1000000000000 ≤ n ∧ n ≤ 1000000000000 := hb
      have := numS_size n (by omega) (by omega)
      show (numS n).size ≤ _
      omega
    · obtain ⟨b0, b1⟩ : -1000000000000000 ≤ n ∧ n ≤ 1000000000000000 := hb
      exact fixS_small n 2 (by omega) (by omega) (by decide)
    · obtain ⟨b0, b1⟩ : -1000000000 ≤ n ∧ n ≤ 1000000000 := hb
      have hl := absD_len n (by omega) (by omega)
      show (fixS n 4 ++ ⟨#[37]⟩).size ≤ _
      rw [ByteArray.size_append]
      unfold fixS
      rw [if_neg (by decide), bs_size, fixT, List.length_append, List.length_append, List.length_append, List.length_take, List.length_drop, padD, List.length_append, List.length_replicate, sgn]
      show _ + 1 ≤ _
      split <;> simp <;> omega
    · obtain ⟨b0, b1⟩ : 0 ≤ n ∧ n ≤ 109572 := hb
      show (dateS n).size ≤ _
      rw [dateS_size (isDate_iff.2 ⟨b0, b1⟩)]; decide
  · exact absurd rfl h6

theorem valid_iff {k e n : Int} {ms : List (List ByteArray)} (h : validB k e n ms = true) : vtB k e ms = true ∧ inB n k e ms = true := by
  unfold validB at h
  simpa using h
/-- what parsing the text of a valid value gives -/
theorem vpar_text {k e n : Int} {ms : List (List ByteArray)} (hv : vtB k e ms = true) (hi : inB n k e ms = true) :
    vparS (vtext k e n ms) k e ms = (k, e, n, 0) ∨ (k = 6 ∧ ∃ j i N : Nat, ∃ l, e = j ∧ n = N ∧ i < N ∧ ms[j]? = some l ∧ N < l.length ∧ vparS (vtext k e n ms) k e ms = (k, e, (i : Int), 0) ∧ l[i]? = some (vtext k e n ms)) := by
  obtain ⟨h1, h2⟩ := vnum_text hv hi
  by_cases hk : k = 6
  · subst hk
    obtain ⟨i, hle, hn, hg⟩ := h2 rfl
    have hb := (inB_iff hv).1 hi
    rcases vt_true hv with ⟨hk, _⟩ | ⟨_, j, rfl, hj⟩
    · omega
    · have hg2 : ms[j]? = some (ms[j]'hj) := List.getElem?_eq_getElem hj
      have hb2 : 0 ≤ n ∧ n ≤ ((memS (j : Int) ms).length : Int) - 1 := hb
      rw [memS, Int.toNat_natCast, hg2, Option.getD_some] at hb2 hg
      have hil := (List.getElem?_eq_some_iff.1 hg).1
      have hii : inB (i : Int) 6 j ms = true := by
        rw [inB_six hg2 hv, decide_eq_true (by omega), decide_eq_true (by omega)]; rfl
      by_cases he : (i : Int) = n
      · left
        rw [vparS, hv, hn, if_pos rfl, if_pos rfl]
        dsimp only
        rw [hii, he]; rfl
      · right
        refine ⟨rfl, j, i, n.toNat, _, rfl, by omega, by omega, hg2, by omega, ?_, hg⟩
        rw [vparS, hv, hn, if_pos rfl, if_pos rfl]
        dsimp only
        rw [hii]; rfl
  · left
    rw [vparS, hv, h1 hk, if_pos rfl, if_pos rfl]
    dsimp only
    rw [hi]; rfl
end Go.Proofs.YtjdljholajacdaaDoor
/- The walks of the laws ValueRoundTrip, ValueDistinct. -/
namespace Go.Proofs.YtjdljholajacdaaDoor
open Go.RowKit

set_option maxRecDepth 100000 in
set_option maxHeartbeats 8000000 in
theorem lawRound9 (k e n : Int) (v : Value) (ms : List (List ByteArray)) (w : World) (hE : Enums w v ms) (hM : Mon w) (hP : Pow w) :
    Calls Tryd.prog 5 #[.agg #[.int .i64 k, .int .i64 e, .int .i64 n], v] w (LawPost w) := by
  unfold LawPost
  have hE1 := fun w' (h : Kept w w') => hE.kept h
  have HV := Lib.hid (fun w h => rvalid_any k e n v ms w h)
  cases hva : validB k e n ms
  · rw [hva] at HV
    go_enter Tryd.func5, Tryd.ntmps5
    go_wp2_with fail
    refine (few_any v ms _ (hE1 _ ((Kept.refl _).alloc _))).mono ?_
    unfold SomeB
    rintro r w1 ⟨b, rfl, hk⟩
    have hK := ((Kept.refl w).alloc _).trans hk
    have B := hk.blk1
    have c0 := B.cell 0
    have c1 := B.cell 1
    have c2 := B.cell 2
    clear hk
    cases b
    all_goals
      go_wp2_with (first
        | (go_at_call 20; refine (HV.out _ (hE1 _ hK)).mono ?_; rintro r w2 ⟨rfl, hk⟩; have hK := hK.trans hk; clear hk)
        | (go_at_call 15; refine (awake09_any _ (hM.kept hK) (hP.kept hK)).mono ?_; rintro r w' ⟨rfl, hk⟩; have hK := hK.trans hk))
      go_ret
      exact ⟨rfl, hK⟩
  · obtain ⟨hv, hi⟩ := valid_iff hva
    rw [hva] at HV
    obtain ⟨b0, b1⟩ := inB_bd hv hi (hE.small e)
    have HF := Lib.hid (fun w h hM hP => vformat_any k e n v ms w h b0 b1 hM hP)
    rw [vfmt_of hv hi] at HF
    have HA := Lib.hid (fun w h hM => vparse_any (vtext k e n ms) k e v ms (fun h6 => vtext_size hv hi h6) w h hM)
    have hc := vpar_text hv hi
    clear hva
    rcases hc with hR | ⟨rfl, j, i, N, l, rfl, rfl, hiN, hml, hNl, hR, hg⟩
    · rw [hR, vpV] at HA
      dsimp only at HA HF
      clear hR hv hi
      generalize vtext k e n ms = T at *
      go_enter Tryd.func5, Tryd.ntmps5
      go_wp2_with fail
      refine (few_any v ms _ (hE1 _ ((Kept.refl _).alloc _))).mono ?_
      unfold SomeB
      rintro r w1 ⟨b, rfl, hk⟩
      have hK := ((Kept.refl w).alloc _).trans hk
      have B := hk.blk1
      have c0 := B.cell 0
      have c1 := B.cell 1
      have c2 := B.cell 2
      clear hk
      cases b
      · go_wp2_with (first
          | (go_at_call 15; refine (awake09_any _ (hM.kept hK) (hP.kept hK)).mono ?_; rintro r w' ⟨rfl, hk⟩; have hK := hK.trans hk))
        go_ret
        exact ⟨rfl, hK⟩
      · go_wp2_with (first
          | (go_at_call 20; refine (HV.out _ (hE1 _ hK)).mono ?_; rintro r w2 ⟨rfl, hk⟩; have hK := hK.trans hk; have B := B.kept hk; have c0 := B.cell 0; have c1 := B.cell 1; have c2 := B.cell 2; clear hk)
          | (go_at_call 16; refine (HF.out _ (hE1 _ hK) (hM.kept hK) (hP.kept hK)).mono ?_; rintro r w3 ⟨rfl, hk⟩; have hK := hK.trans hk; have B := B.kept hk; have c0 := B.cell 0; have c1 := B.cell 1; have c2 := B.cell 2; clear hk)
          | (go_at_call 21; refine (rtype_any k e n _).mono ?_; rintro r w4 ⟨rfl, hk⟩; have hK := hK.trans hk; have B := B.kept hk; have c0 := B.cell 0; have c1 := B.cell 1; have c2 := B.cell 2; clear hk)
          | (go_at_call 18; refine (HA.out _ (hE1 _ hK) (hM.kept hK)).mono ?_; rintro r w5 ⟨rfl, hk⟩; have hK := (hK.trans hk).alloc (.cells #[.int .i64 k, .int .i64 e, .int .i64 n] 23); have B := B.kept hk; have c0 := B.cell 0; have c1 := B.cell 1; have c2 := B.cell 2; have hlt := B.lt; clear hk)
          | (go_at_call 15; refine (awake09_any _ (hM.kept hK) (hP.kept hK)).mono ?_; rintro r w' ⟨rfl, hk⟩; have hK := hK.trans hk))
        go_ret
        exact ⟨rfl, hK⟩
    · rw [hR, vpV] at HA
      dsimp only at HA HF
      obtain ⟨b3, off, cap, M, B2, cc, l', hl, hM2, hn9, rfl, hb, hcl, hcm⟩ := hE.at_ (List.getElem?_eq_some_iff.1 hml).1
      obtain rfl : l = l' := Option.some.inj (hml.symm.trans hl)
      have hm := hE
      obtain ⟨_, _, _, hm, _⟩ := hm
      have hjl := (List.getElem?_eq_some_iff.1 hml).1
      have hil := (List.getElem?_eq_some_iff.1 hg).1
      obtain ⟨b4, off4, rfl, hb4, hc4⟩ := hcm (by omega)
      have hc5 := hc4 i (by omega)
      rw [hg, Option.getD_some] at hc5
      have hiM : (i : Int) < M := by omega
      clear hR hv hi hl hm hml hg hM2 hNl hc4 hcm hil
      generalize vtext 6 (j : Int) (N : Int) ms = T at *
      have hjI : (j : Int) < ms.length := by omega
      have hne : ((i : Int) == (N : Int)) = false := beq_no (by omega)
      have hiNI : (i : Int) < N := by omega
      have hi0 : (0 : Int) ≤ i := by omega
      have hself : (T.toList == T.toList) = true := by simp
      go_enter Tryd.func5, Tryd.ntmps5
      go_wp2_with fail
      refine (few_any _ ms _ (hE1 _ ((Kept.refl _).alloc _))).mono ?_
      unfold SomeB
      rintro r w1 ⟨b, rfl, hk⟩
      have hK := ((Kept.refl w).alloc _).trans hk
      have B := hk.blk1
      have c0 := B.cell 0
      have c1 := B.cell 1
      have c2 := B.cell 2
      clear hk
      cases b
      · go_wp2_with (first
          | (go_at_call 15; refine (awake09_any _ (hM.kept hK) (hP.kept hK)).mono ?_; rintro r w' ⟨rfl, hk⟩; have hK := hK.trans hk))
        go_ret
        exact ⟨rfl, hK⟩
      · go_wp2_with (first
          | (go_at_call 20; refine (HV.out _ (hE1 _ hK)).mono ?_; rintro r w2 ⟨rfl, hk⟩; have hK := hK.trans hk; have B := B.kept hk; have c0 := B.cell 0; have c1 := B.cell 1; have c2 := B.cell 2; clear hk)
          | (go_at_call 16; refine (HF.out _ (hE1 _ hK) (hM.kept hK) (hP.kept hK)).mono ?_; rintro r w3 ⟨rfl, hk⟩; have hK := hK.trans hk; have B := B.kept hk; have c0 := B.cell 0; have c1 := B.cell 1; have c2 := B.cell 2; clear hk)
          | (go_at_call 21; refine (rtype_any 6 j N _).mono ?_; rintro r w4 ⟨rfl, hk⟩; have hK := hK.trans hk; have B := B.kept hk; have c0 := B.cell 0; have c1 := B.cell 1; have c2 := B.cell 2; clear hk))
        refine (HA.out _ (hE1 _ hK) (hM.kept hK)).mono ?_
        rintro r w5 ⟨rfl, hk⟩
        have hK := (hK.trans hk).alloc (.cells #[.int .i64 6, .int .i64 j, .int .i64 i] 23)
        have B := (B.kept hk).alloc (.cells #[.int .i64 6, .int .i64 j, .int .i64 i] 23)
        have X := Blk.new w5 23 #[.int .i64 6, .int .i64 j, .int .i64 i]
        clear hk
        have c0 := B.cell 0
        have c1 := B.cell 1
        have c2 := B.cell 2
        have x0 := X.cell 0
        have x1 := X.cell 1
        have x2 := X.cell 2
        go_wp2_with fail
        generalize hW : w5.alloc (.cells #[.int .i64 6, .int .i64 j, .int .i64 i] 23) = W at *
        generalize w5.heap.size = q at *
        clear hW c0 c1 c2 x0 x1 x2
        have x0 := KW.cell X.lt (X.cell 0)
        have x1 := KW.cell X.lt (X.cell 1)
        have x2 := KW.cell X.lt (X.cell 2)
        have c0 := KW.cell B.lt (B.cell 0)
        have c1 := KW.cell B.lt (B.cell 1)
        have c2 := KW.cell B.lt (B.cell 2)
        have k1 := KW.cell (Nat.lt_of_lt_of_le hb hK.size) (hK.cell (p := ⟨b3, off + j * 2 + 1, none⟩) hb hcl)
        have k2 := KW.cell (Nat.lt_of_lt_of_le hb4 hK.size) (hK.cell (p := ⟨b4, off4 + i, none⟩) hb4 hc5)
        have hMx := fun x : KW W => hM.kept (hK.trans x.h)
        have hPx := fun x : KW W => hP.kept (hK.trans x.h)
        clear hE hE1 X B
        refine wp_region_kept (by kernel_rfl) (by kernel_rfl) ?_
        repeat (go_big_quiet_step (first
          | (go_at_call 15; exact KW.call (awake09_any _ (hMx _) (hPx _)))))
        refine wpQuiet_nil ?_
        rintro _ ⟨⟨wx, hx2⟩, rfl⟩
        go_wp2_with fail
        go_ret
        exact ⟨rfl, hK.trans hx2⟩
end Go.Proofs.YtjdljholajacdaaDoor
/- The walk of the law ValueDistinct. -/
namespace Go.Proofs.YtjdljholajacdaaDoor
open Go.RowKit

theorem vfmt_cases (k e n : Int) (ms : List (List ByteArray)) : (validB k e n ms = true ∧ vfmtS k e n ms = (vtext k e n ms, 0)) ∨ (validB k e n ms = false ∧ ∃ c, (c == 0) = false ∧ vfmtS k e n ms = (⟨#[]⟩, c)) := by
  unfold validB vfmtS
  cases vtB k e ms
  · exact .inr ⟨rfl, 8, rfl, rfl⟩
  · cases inB n k e ms
    · exact .inr ⟨rfl, 3, rfl, rfl⟩
    · exact .inl ⟨rfl, rfl⟩
theorem vtext_ne {k e n m : Int} {ms : List (List ByteArray)} (hn : validB k e n ms = true) (hm : validB k e m ms = true) (h6 : k ≠ 6) (hnm : n ≠ m) : vtext k e n ms ≠ vtext k e m ms := by
  obtain ⟨v1, i1⟩ := valid_iff hn
  obtain ⟨v2, i2⟩ := valid_iff hm
  intro h
  have a := (vnum_text v1 i1).1 h6
  have b := (vnum_text v2 i2).1 h6
  rw [h, b] at a
  exact hnm (congrArg Prod.fst a).symm
set_option maxRecDepth 100000 in
set_option maxHeartbeats 8000000 in
theorem lawDistinct9 (k e p0 p1 : Int) (v : Value) (ms : List (List ByteArray)) (a0 : -9223372036854775808 ≤ p0) (a1 : p0 ≤ 9223372036854775807) (b0 : -9223372036854775808 ≤ p1) (b1 : p1 ≤ 9223372036854775807) (w : World) (hE : Enums w v ms) (hM : Mon w) (hP : Pow w) :
    Calls Tryd.prog 6 #[.agg #[.int .i64 k, .int .i64 e], .agg #[.int .i64 p0, .int .i64 p1], v] w (LawPost w) := by
  unfold LawPost
  have hE1 := fun w' (h : Kept w w') => hE.kept h
  have HF0 := Lib.hid (fun w h hM hP => vformat_any k e p0 v ms w h a0 a1 hM hP)
  have HF1 := Lib.hid (fun w h hM hP => vformat_any k e p1 v ms w h b0 b1 hM hP)
  have HV0 := Lib.hid (fun w h => rvalid_any k e p0 v ms w h)
  have HV1 := Lib.hid (fun w h => rvalid_any k e p1 v ms w h)
  have HNE := Lib.hid (fun a b c d => @vtext_ne k e p0 p1 ms a b c d)
  rcases vfmt_cases k e p0 ms with ⟨q0, r0⟩ | ⟨q0, c0, hc0, r0⟩
  · rcases vfmt_cases k e p1 ms with ⟨q1, r1⟩ | ⟨q1, c1, hc1, r1⟩
    · have HNE := Lib.hid (HNE.out q0 q1)
      rw [r0] at HF0
      rw [r1] at HF1
      dsimp only at HF0 HF1
      clear r0 r1 q0 q1 HV0 HV1
      by_cases hp : p0 = p1
      · subst hp
        generalize vtext k e p0 ms = S at *
        have hself : (S.toList == S.toList) = true := by simp
        clear HNE

        go_enter Tryd.func6, Tryd.ntmps6
        go_wp2_with fail
        refine (few_any v ms _ (hE1 _ (((Kept.refl _).alloc _).alloc _))).mono ?_
        unfold SomeB
        rintro r w1 ⟨b, rfl, hk⟩
        have hK := (((Kept.refl w).alloc _).alloc _).trans hk
        have T := hk.blk2.1
        have A := hk.blk2.2
        have t0 := T.cell 0
        have t1 := T.cell 1
        have a0 := A.cell 0
        have a1 := A.cell 1
        have al := A.lt
        clear hk
        cases b
        · go_wp2_with (go_at_call 15; refine (awake09_any _ (hM.kept hK) (hP.kept hK)).mono ?_; rintro r w' ⟨rfl, hk⟩; have hK := hK.trans hk)
          go_ret
          exact ⟨rfl, hK⟩
        have T1 := T.alloc (.cells #[.int .i64 k, .int .i64 e, .int .i64 p0] 23)
        have A1 := A.alloc (.cells #[.int .i64 k, .int .i64 e, .int .i64 p0] 23)
        have t10 := T1.cell 0
        have t11 := T1.cell 1
        have a11 := A1.cell 1
        clear T1 A1
        have hK := (hK.alloc (.cells #[.int .i64 k, .int .i64 e, .int .i64 p0] 23)).alloc (.cells #[.int .i64 k, .int .i64 e, .int .i64 p0] 23)
        have T := (T.alloc (.cells #[.int .i64 k, .int .i64 e, .int .i64 p0] 23)).alloc (.cells #[.int .i64 k, .int .i64 e, .int .i64 p0] 23)
        have X := (Blk.new w1 23 #[.int .i64 k, .int .i64 e, .int .i64 p0]).alloc (.cells #[.int .i64 k, .int .i64 e, .int .i64 p0] 23)
        have Y := Blk.new (w1.alloc (.cells #[.int .i64 k, .int .i64 e, .int .i64 p0] 23)) 23 #[.int .i64 k, .int .i64 e, .int .i64 p0]
        rw [World.size_alloc] at Y
        go_wp2_with fail
        refine (HF0.out _ (hE1 _ hK) (hM.kept hK) (hP.kept hK)).mono ?_
        rintro r w2 ⟨rfl, hk⟩
        have hK := hK.trans hk
        have T := T.kept hk
        have X := X.kept hk
        have Y := Y.kept hk
        have t0 := T.cell 0
        have x0 := X.cell 0
        have x1 := X.cell 1
        have x2 := X.cell 2
        have y0 := Y.cell 0
        have y1 := Y.cell 1
        have y2 := Y.cell 2
        clear hk
        go_wp2_with fail
        refine (HF1.out _ (hE1 _ hK) (hM.kept hK) (hP.kept hK)).mono ?_
        rintro r w3 ⟨rfl, hk⟩
        have hK := hK.trans hk
        have T := T.kept hk
        have X := X.kept hk
        have Y := Y.kept hk
        have t0 := T.cell 0
        have x0 := X.cell 0
        have x1 := X.cell 1
        have x2 := X.cell 2
        have y0 := Y.cell 0
        have y1 := Y.cell 1
        have y2 := Y.cell 2
        clear hk
        go_wp2_with (go_at_call 15; refine (awake09_any _ (hM.kept hK) (hP.kept hK)).mono ?_; rintro r w' ⟨rfl, hk⟩; have hK := hK.trans hk)
        go_ret
        exact ⟨rfl, hK⟩
      · have hpb : (p0 == p1) = false := beq_no hp
        have HNE := Lib.hid (fun h => HNE.out h hp)
        generalize vtext k e p0 ms = S at *
        generalize vtext k e p1 ms = S2 at *
        clear hp
        by_cases h6 : k = 6
        · subst h6
          clear HNE
          cases hd : (S.toList == S2.toList)
          all_goals

            go_enter Tryd.func6, Tryd.ntmps6
            go_wp2_with fail
            refine (few_any v ms _ (hE1 _ (((Kept.refl _).alloc _).alloc _))).mono ?_
            unfold SomeB
            rintro r w1 ⟨b, rfl, hk⟩
            have hK := (((Kept.refl w).alloc _).alloc _).trans hk
            have T := hk.blk2.1
            have A := hk.blk2.2
            have t0 := T.cell 0
            have t1 := T.cell 1
            have a0 := A.cell 0
            have a1 := A.cell 1
            have al := A.lt
            clear hk
            cases b
            · go_wp2_with (go_at_call 15; refine (awake09_any _ (hM.kept hK) (hP.kept hK)).mono ?_; rintro r w' ⟨rfl, hk⟩; have hK := hK.trans hk)
              go_ret
              exact ⟨rfl, hK⟩
            have T1 := T.alloc (.cells #[.int .i64 6, .int .i64 e, .int .i64 p0] 23)
            have A1 := A.alloc (.cells #[.int .i64 6, .int .i64 e, .int .i64 p0] 23)
            have t10 := T1.cell 0
            have t11 := T1.cell 1
            have a11 := A1.cell 1
            clear T1 A1
            have hK := (hK.alloc (.cells #[.int .i64 6, .int .i64 e, .int .i64 p0] 23)).alloc (.cells #[.int .i64 6, .int .i64 e, .int .i64 p1] 23)
            have T := (T.alloc (.cells #[.int .i64 6, .int .i64 e, .int .i64 p0] 23)).alloc (.cells #[.int .i64 6, .int .i64 e, .int .i64 p1] 23)
            have X := (Blk.new w1 23 #[.int .i64 6, .int .i64 e, .int .i64 p0]).alloc (.cells #[.int .i64 6, .int .i64 e, .int .i64 p1] 23)
            have Y := Blk.new (w1.alloc (.cells #[.int .i64 6, .int .i64 e, .int .i64 p0] 23)) 23 #[.int .i64 6, .int .i64 e, .int .i64 p1]
            rw [World.size_alloc] at Y
            go_wp2_with fail
            refine (HF0.out _ (hE1 _ hK) (hM.kept hK) (hP.kept hK)).mono ?_
            rintro r w2 ⟨rfl, hk⟩
            have hK := hK.trans hk
            have T := T.kept hk
            have X := X.kept hk
            have Y := Y.kept hk
            have t0 := T.cell 0
            have x0 := X.cell 0
            have x1 := X.cell 1
            have x2 := X.cell 2
            have y0 := Y.cell 0
            have y1 := Y.cell 1
            have y2 := Y.cell 2
            clear hk
            go_wp2_with fail
            refine (HF1.out _ (hE1 _ hK) (hM.kept hK) (hP.kept hK)).mono ?_
            rintro r w3 ⟨rfl, hk⟩
            have hK := hK.trans hk
            have T := T.kept hk
            have X := X.kept hk
            have Y := Y.kept hk
            have t0 := T.cell 0
            have x0 := X.cell 0
            have x1 := X.cell 1
            have x2 := X.cell 2
            have y0 := Y.cell 0
            have y1 := Y.cell 1
            have y2 := Y.cell 2
            clear hk
            go_wp2_with (go_at_call 15; refine (awake09_any _ (hM.kept hK) (hP.kept hK)).mono ?_; rintro r w' ⟨rfl, hk⟩; have hK := hK.trans hk)
            go_ret
            exact ⟨rfl, hK⟩
        · have hd : (S.toList == S2.toList) = false := by rw [neqV]; exact decide_eq_false (HNE.out h6)
          have h6b := beq_no h6
          clear HNE h6

          go_enter Tryd.func6, Tryd.ntmps6
          go_wp2_with fail
          refine (few_any v ms _ (hE1 _ (((Kept.refl _).alloc _).alloc _))).mono ?_
          unfold SomeB
          rintro r w1 ⟨b, rfl, hk⟩
          have hK := (((Kept.refl w).alloc _).alloc _).trans hk
          have T := hk.blk2.1
          have A := hk.blk2.2
          have t0 := T.cell 0
          have t1 := T.cell 1
          have a0 := A.cell 0
          have a1 := A.cell 1
          have al := A.lt
          clear hk
          cases b
          · go_wp2_with (go_at_call 15; refine (awake09_any _ (hM.kept hK) (hP.kept hK)).mono ?_; rintro r w' ⟨rfl, hk⟩; have hK := hK.trans hk)
            go_ret
            exact ⟨rfl, hK⟩
          have T1 := T.alloc (.cells #[.int .i64 k, .int .i64 e, .int .i64 p0] 23)
          have A1 := A.alloc (.cells #[.int .i64 k, .int .i64 e, .int .i64 p0] 23)
          have t10 := T1.cell 0
          have t11 := T1.cell 1
          have a11 := A1.cell 1
          clear T1 A1
          have hK := (hK.alloc (.cells #[.int .i64 k, .int .i64 e, .int .i64 p0] 23)).alloc (.cells #[.int .i64 k, .int .i64 e, .int .i64 p1] 23)
          have T := (T.alloc (.cells #[.int .i64 k, .int .i64 e, .int .i64 p0] 23)).alloc (.cells #[.int .i64 k, .int .i64 e, .int .i64 p1] 23)
          have X := (Blk.new w1 23 #[.int .i64 k, .int .i64 e, .int .i64 p0]).alloc (.cells #[.int .i64 k, .int .i64 e, .int .i64 p1] 23)
          have Y := Blk.new (w1.alloc (.cells #[.int .i64 k, .int .i64 e, .int .i64 p0] 23)) 23 #[.int .i64 k, .int .i64 e, .int .i64 p1]
          rw [World.size_alloc] at Y
          go_wp2_with fail
          refine (HF0.out _ (hE1 _ hK) (hM.kept hK) (hP.kept hK)).mono ?_
          rintro r w2 ⟨rfl, hk⟩
          have hK := hK.trans hk
          have T := T.kept hk
          have X := X.kept hk
          have Y := Y.kept hk
          have t0 := T.cell 0
          have x0 := X.cell 0
          have x1 := X.cell 1
          have x2 := X.cell 2
          have y0 := Y.cell 0
          have y1 := Y.cell 1
          have y2 := Y.cell 2
          clear hk
          go_wp2_with fail
          refine (HF1.out _ (hE1 _ hK) (hM.kept hK) (hP.kept hK)).mono ?_
          rintro r w3 ⟨rfl, hk⟩
          have hK := hK.trans hk
          have T := T.kept hk
          have X := X.kept hk
          have Y := Y.kept hk
          have t0 := T.cell 0
          have x0 := X.cell 0
          have x1 := X.cell 1
          have x2 := X.cell 2
          have y0 := Y.cell 0
          have y1 := Y.cell 1
          have y2 := Y.cell 2
          clear hk
          go_wp2_with (go_at_call 15; refine (awake09_any _ (hM.kept hK) (hP.kept hK)).mono ?_; rintro r w' ⟨rfl, hk⟩; have hK := hK.trans hk)
          go_ret
          exact ⟨rfl, hK⟩
    · rw [r0] at HF0
      rw [r1] at HF1
      rw [q0] at HV0
      rw [q1] at HV1
      dsimp only at HF0 HF1
      clear r0 r1 q0 q1 HNE
      generalize vtext k e p0 ms = S at *

      go_enter Tryd.func6, Tryd.ntmps6
      go_wp2_with fail
      refine (few_any v ms _ (hE1 _ (((Kept.refl _).alloc _).alloc _))).mono ?_
      unfold SomeB
      rintro r w1 ⟨b, rfl, hk⟩
      have hK := (((Kept.refl w).alloc _).alloc _).trans hk
      have T := hk.blk2.1
      have A := hk.blk2.2
      have t0 := T.cell 0
      have t1 := T.cell 1
      have a0 := A.cell 0
      have a1 := A.cell 1
      have al := A.lt
      clear hk
      cases b
      · go_wp2_with (go_at_call 15; refine (awake09_any _ (hM.kept hK) (hP.kept hK)).mono ?_; rintro r w' ⟨rfl, hk⟩; have hK := hK.trans hk)
        go_ret
        exact ⟨rfl, hK⟩
      have T1 := T.alloc (.cells #[.int .i64 k, .int .i64 e, .int .i64 p0] 23)
      have A1 := A.alloc (.cells #[.int .i64 k, .int .i64 e, .int .i64 p0] 23)
      have t10 := T1.cell 0
      have t11 := T1.cell 1
      have a11 := A1.cell 1
      clear T1 A1
      have hK := (hK.alloc (.cells #[.int .i64 k, .int .i64 e, .int .i64 p0] 23)).alloc (.cells #[.int .i64 k, .int .i64 e, .int .i64 p1] 23)
      have T := (T.alloc (.cells #[.int .i64 k, .int .i64 e, .int .i64 p0] 23)).alloc (.cells #[.int .i64 k, .int .i64 e, .int .i64 p1] 23)
      have X := (Blk.new w1 23 #[.int .i64 k, .int .i64 e, .int .i64 p0]).alloc (.cells #[.int .i64 k, .int .i64 e, .int .i64 p1] 23)
      have Y := Blk.new (w1.alloc (.cells #[.int .i64 k, .int .i64 e, .int .i64 p0] 23)) 23 #[.int .i64 k, .int .i64 e, .int .i64 p1]
      rw [World.size_alloc] at Y
      go_wp2_with fail
      refine (HF0.out _ (hE1 _ hK) (hM.kept hK) (hP.kept hK)).mono ?_
      rintro r w2 ⟨rfl, hk⟩
      have hK := hK.trans hk
      have T := T.kept hk
      have X := X.kept hk
      have Y := Y.kept hk
      have t0 := T.cell 0
      have x0 := X.cell 0
      have x1 := X.cell 1
      have x2 := X.cell 2
      have y0 := Y.cell 0
      have y1 := Y.cell 1
      have y2 := Y.cell 2
      clear hk
      go_wp2_with fail
      refine (HF1.out _ (hE1 _ hK) (hM.kept hK) (hP.kept hK)).mono ?_
      rintro r w3 ⟨rfl, hk⟩
      have hK := hK.trans hk
      have T := T.kept hk
      have X := X.kept hk
      have Y := Y.kept hk
      have t0 := T.cell 0
      have x0 := X.cell 0
      have x1 := X.cell 1
      have x2 := X.cell 2
      have y0 := Y.cell 0
      have y1 := Y.cell 1
      have y2 := Y.cell 2
      clear hk
      go_wp2_with fail
      refine (HV0.out _ (hE1 _ hK)).mono ?_
      rintro r w4 ⟨rfl, hk⟩
      have hK := hK.trans hk
      have Y := Y.kept hk
      have y0 := Y.cell 0
      have y1 := Y.cell 1
      have y2 := Y.cell 2
      clear hk
      go_wp2_with fail
      refine (HV1.out _ (hE1 _ hK)).mono ?_
      rintro r w5 ⟨rfl, hk⟩
      have hK := hK.trans hk
      clear hk
      go_wp2_with (go_at_call 15; refine (awake09_any _ (hM.kept hK) (hP.kept hK)).mono ?_; rintro r w' ⟨rfl, hk⟩; have hK := hK.trans hk)
      go_ret
      exact ⟨rfl, hK⟩
  · rcases vfmt_cases k e p1 ms with ⟨q1, r1⟩ | ⟨q1, c1, hc1, r1⟩
    all_goals
      have hc0n : (c0 != 0) = true := by rw [bne, hc0]; rfl
      rw [r0] at HF0
      rw [r1] at HF1
      rw [q0] at HV0
      rw [q1] at HV1
      dsimp only at HF0 HF1
      clear r0 r1 q0 q1 HNE

      go_enter Tryd.func6, Tryd.ntmps6
      go_wp2_with fail
      refine (few_any v ms _ (hE1 _ (((Kept.refl _).alloc _).alloc _))).mono ?_
      unfold SomeB
      rintro r w1 ⟨b, rfl, hk⟩
      have hK := (((Kept.refl w).alloc _).alloc _).trans hk
      have T := hk.blk2.1
      have A := hk.blk2.2
      have t0 := T.cell 0
      have t1 := T.cell 1
      have a0 := A.cell 0
      have a1 := A.cell 1
      have al := A.lt
      clear hk
      cases b
      · go_wp2_with (go_at_call 15; refine (awake09_any _ (hM.kept hK) (hP.kept hK)).mono ?_; rintro r w' ⟨rfl, hk⟩; have hK := hK.trans hk)
        go_ret
        exact ⟨rfl, hK⟩
      have T1 := T.alloc (.cells #[.int .i64 k, .int .i64 e, .int .i64 p0] 23)
      have A1 := A.alloc (.cells #[.int .i64 k, .int .i64 e, .int .i64 p0] 23)
      have t10 := T1.cell 0
      have t11 := T1.cell 1
      have a11 := A1.cell 1
      clear T1 A1
      have hK := (hK.alloc (.cells #[.int .i64 k, .int .i64 e, .int .i64 p0] 23)).alloc (.cells #[.int .i64 k, .int .i64 e, .int .i64 p1] 23)
      have T := (T.alloc (.cells #[.int .i64 k, .int .i64 e, .int .i64 p0] 23)).alloc (.cells #[.int .i64 k, .int .i64 e, .int .i64 p1] 23)
      have X := (Blk.new w1 23 #[.int .i64 k, .int .i64 e, .int .i64 p0]).alloc (.cells #[.int .i64 k, .int .i64 e, .int .i64 p1] 23)
      have Y := Blk.new (w1.alloc (.cells #[.int .i64 k, .int .i64 e, .int .i64 p0] 23)) 23 #[.int .i64 k, .int .i64 e, .int .i64 p1]
      rw [World.size_alloc] at Y
      go_wp2_with fail
      refine (HF0.out _ (hE1 _ hK) (hM.kept hK) (hP.kept hK)).mono ?_
      rintro r w2 ⟨rfl, hk⟩
      have hK := hK.trans hk
      have T := T.kept hk
      have X := X.kept hk
      have Y := Y.kept hk
      have t0 := T.cell 0
      have x0 := X.cell 0
      have x1 := X.cell 1
      have x2 := X.cell 2
      have y0 := Y.cell 0
      have y1 := Y.cell 1
      have y2 := Y.cell 2
      clear hk
      go_wp2_with fail
      refine (HF1.out _ (hE1 _ hK) (hM.kept hK) (hP.kept hK)).mono ?_
      rintro r w3 ⟨rfl, hk⟩
      have hK := hK.trans hk
      have T := T.kept hk
      have X := X.kept hk
      have Y := Y.kept hk
      have t0 := T.cell 0
      have x0 := X.cell 0
      have x1 := X.cell 1
      have x2 := X.cell 2
      have y0 := Y.cell 0
      have y1 := Y.cell 1
      have y2 := Y.cell 2
      clear hk
      go_wp2_with fail
      refine (HV0.out _ (hE1 _ hK)).mono ?_
      rintro r w4 ⟨rfl, hk⟩
      have hK := hK.trans hk
      have Y := Y.kept hk
      have y0 := Y.cell 0
      have y1 := Y.cell 1
      have y2 := Y.cell 2
      clear hk
      go_wp2_with fail
      refine (HV1.out _ (hE1 _ hK)).mono ?_
      rintro r w5 ⟨rfl, hk⟩
      have hK := hK.trans hk
      clear hk
      go_wp2_with (go_at_call 15; refine (awake09_any _ (hM.kept hK) (hP.kept hK)).mono ?_; rintro r w' ⟨rfl, hk⟩; have hK := hK.trans hk)
      go_ret
      exact ⟨rfl, hK⟩
end Go.Proofs.YtjdljholajacdaaDoor
/- What the rows of the chapter on values say of the listed tables. -/
namespace Go.Proofs.YtjdljholajacdaaDoor
open Go.ChangeShapes Go.WideShapes Go.ChangeAt Go.RowKit Go.Joins

theorem env9 {W : World} (h : laidMetH Tryd.prog Rows.valueFormatRow.laid W) : Mon W ∧ Pow W := by
  have h0 : laidMet Tryd.prog Rows.valueFormatRow.laid W := h
  have h3 := h0.tail.tail
  have h4 := h3.tail
  have t3 : Lib.TabIs Tryd.prog W "internal/strconv.uint64pow10" .u64 Lib.pow10Tab :=
    Lib.tabIs_of_head (g := 2) (t := 128) (e := 79) (n := 20) (by kernel_rfl) (by kernel_rfl) (by kernel_rfl) (by kernel_rfl) (by kernel_rfl) (by kernel_rfl) h3
  have t4 : Lib.TabIs Tryd.prog W "guerdon/date.monthLengths" .i64 mlens :=
    Lib.tabIs_of_head (g := 0) (t := 115) (e := 3) (n := 12) (by kernel_rfl) (by kernel_rfl) (by kernel_rfl) (by kernel_rfl) (by kernel_rfl) (by kernel_rfl) h4
  refine ⟨fun i hi => ?_, t3⟩
  exact t4.cell (g := 0) (by kernel_rfl) i hi
theorem wf_bd9 {n : Int} (h : (Lit.int .i64 n).wf = true) : -9223372036854775808 ≤ n ∧ n ≤ 9223372036854775807 := by
  simp [Lit.wf, IntKind.min, IntKind.max, IntKind.signed, IntKind.bits] at h
  omega
end Go.Proofs.YtjdljholajacdaaDoor
