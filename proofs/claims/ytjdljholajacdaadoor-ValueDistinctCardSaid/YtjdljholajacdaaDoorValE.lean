/- What parseNumber of package value, and number of its reference, compute. -/
import Derived.Test.YtjdljholajacdaaDoorValD
namespace Go.Proofs.YtjdljholajacdaaDoor
open Go.RowKit

theorem neqV (X Y : ByteArray) : (X.toList == Y.toList) = decide (X = Y) := by
  rw [toList_L, toList_L]
  by_cases h : X = Y
  · subst h; simp
  · rw [decide_eq_false h]
    simpa using fun e => h (L_inj.1 e)
theorem neqC (X : ByteArray) (l : List UInt8) : (X.toList == l) = decide (X = bs l) := by
  rw [toList_L]
  by_cases h : X = bs l
  · subst h; simp
  · rw [decide_eq_false h]
    have : L X ≠ l := fun e => h (by rw [← e, bs_L])
    simpa using this
theorem hasSuf (l : List UInt8) : Lib.hasSuffix l [37] = (l.getLast? == some 37) := by
  unfold Lib.hasSuffix List.isSuffixOf
  rcases List.eq_nil_or_concat l with rfl | ⟨i, c, rfl⟩
  · rfl
  · simp [List.isPrefixOf, Bool.beq_comm]
theorem cutSuf_yes (s : ByteArray) (hs : s.size ≤ 9223372036854775807) (h : (L s).getLast? = some 37) (w : World) :
    Calls Tryd.prog 77 #[.string s, .string ⟨#[37]⟩] w fun e w' => e = .returned (.tuple #[.string (bs (L s).dropLast), .bool true]) ∧ w = w' := by
  refine (Tryd.strings_CutSuffix s ⟨#[37]⟩ w hs).mono ?_
  rintro e w' ⟨rfl, rfl⟩
  refine ⟨?_, rfl⟩
  have h1 : Lib.hasSuffix (L s) [37] = true := by rw [hasSuf, h]; rfl
  show Ending.returned (.tuple #[.string (bs (Lib.trimSuffix (L s) [37])), .bool (Lib.hasSuffix (L s) [37])]) = _
  rw [h1, Lib.trimSuffix, if_pos h1, List.dropLast_eq_take]
  rfl
theorem cutSuf_no (s : ByteArray) (hs : s.size ≤ 9223372036854775807) (h : (L s).getLast? ≠ some 37) (w : World) :
    Calls Tryd.prog 77 #[.string s, .string ⟨#[37]⟩] w fun e w' => e = .returned (.tuple #[.string s, .bool false]) ∧ w = w' := by
  refine (Tryd.strings_CutSuffix s ⟨#[37]⟩ w hs).mono ?_
  rintro e w' ⟨rfl, rfl⟩
  refine ⟨?_, rfl⟩
  have h1 : Lib.hasSuffix (L s) [37] = false := by rw [hasSuf]; simpa using h
  show Ending.returned (.tuple #[.string (bs (Lib.trimSuffix (L s) [37])), .bool (Lib.hasSuffix (L s) [37])]) = _
  rw [h1, Lib.trimSuffix, h1]
  show Ending.returned (.tuple #[.string (bs (L s)), .bool false]) = _
  rw [bs_L]
theorem vnum_bool (s : ByteArray) (e : Int) (ms : List (List ByteArray)) : (s = ⟨#[102, 97, 108, 115, 101]⟩ ∧ vnumS s 1 e ms = (0, 0)) ∨ (s = ⟨#[116, 114, 117, 101]⟩ ∧ vnumS s 1 e ms = (1, 0)) ∨
    ((s.toList == [102, 97, 108, 115, 101]) = false ∧ (s.toList == [116, 114, 117, 101]) = false ∧ vnumS s 1 e ms = (0, 2)) := by
  by_cases h1 : s = ⟨#[102, 97, 108, 115, 101]⟩
  · subst h1; exact .inl ⟨rfl, rfl⟩
  · by_cases h2 : s = ⟨#[116, 114, 117, 101]⟩
    · subst h2; exact .inr (.inl ⟨rfl, rfl⟩)
    · refine .inr (.inr ⟨by rw [neqC]; exact decide_eq_false h1, by rw [neqC]; exact decide_eq_false h2, ?_⟩)
      show (if s = ⟨#[102, 97, 108, 115, 101]⟩ then ((0 : Int), (0 : Int)) else if s = ⟨#[116, 114, 117, 101]⟩ then (1, 0) else (0, 2)) = _
      rw [if_neg h1, if_neg h2]
theorem vnum_rate_yes {s : ByteArray} {e : Int} {ms : List (List ByteArray)} (h : (L s).getLast? = some 37) : vnumS s 4 e ms = refP (L s).dropLast 4 := by
  show (if (L s).getLast? = some 37 then refP (L s).dropLast 4 else (0, 2)) = _
  rw [if_pos h]
theorem vnum_rate_no {s : ByteArray} {e : Int} {ms : List (List ByteArray)} (h : (L s).getLast? ≠ some 37) : vnumS s 4 e ms = (0, 2) := by
  show (if (L s).getLast? = some 37 then refP (L s).dropLast 4 else (0, 2)) = _
  rw [if_neg h]
theorem ret_two {r : Int × Int} {a b : Int} (h : r = (a, b)) : Ending.returned (.tuple #[.int .i64 a, .int .i64 b]) = .returned (.tuple #[.int .i64 r.1, .int .i64 r.2]) := by rw [h]

set_option maxRecDepth 100000 in
set_option maxHeartbeats 8000000 in
theorem vparseN_low (s : ByteArray) (k : Int) (hk : k = 1 ∨ k = 2 ∨ k = 3 ∨ k = 4 ∨ k = 5) (v : Value) (ms : List (List ByteArray)) (w : World) (hs : s.size ≤ 1000000) (hM : Mon w) :
    Calls Tryd.prog 45 #[.string s, .agg #[.int .i64 k, .int .i64 0], v] w fun r w' => r = .returned (.tuple #[.int .i64 (vnumS s k 0 ms).1, .int .i64 (vnumS s k 0 ms).2]) ∧ Kept w w' := by
  rcases hk with rfl | rfl | rfl | rfl | rfl
  · rcases vnum_bool s 0 ms with ⟨rfl, h⟩ | ⟨rfl, h⟩ | ⟨h1, h2, h⟩
    all_goals
      have HR := Lib.hid h
      clear h
      go_enter Tryd.func45, Tryd.ntmps45
      go_wp2_with fail
      go_ret2
      rw [HR.out]
      exact ⟨rfl, (Kept.refl _).alloc _⟩
  · have HR := Lib.hid (show parP (L s) 0 = vnumS s 2 0 ms from parP_refI (L s))
    have hF := Lib.hid (fun w => parseInt_any s hs w)
    generalize parP (L s) 0 = q at *
    obtain ⟨q1, q2⟩ := q
    dsimp only at hF
    go_enter Tryd.func45, Tryd.ntmps45
    go_wp2_with (go_at_call 58; refine (hF.out _).mono ?_; rintro r w1 ⟨rfl, hk⟩)
    go_ret2
    exact ⟨ret_two HR.out.symm, ((Kept.refl _).alloc _).trans hk⟩
  · have hF := Lib.hid (fun w => parseFixed_any s 2 hs w)
    have HR := Lib.hid (show vnumS s 3 0 ms = refP (L s) 2 from rfl)
    generalize refP (L s) 2 = q at *
    obtain ⟨q1, q2⟩ := q
    dsimp only at hF
    go_enter Tryd.func45, Tryd.ntmps45
    go_wp2_with (go_at_call 60; refine (hF.out _).mono ?_; rintro r w1 ⟨rfl, hk⟩)
    go_ret2
    exact ⟨ret_two HR.out, ((Kept.refl _).alloc _).trans hk⟩
  · by_cases hl : (L s).getLast? = some 37
    · have HR := Lib.hid (vnum_rate_yes (e := 0) (ms := ms) hl)
      have hC := Lib.hid (fun w => cutSuf_yes s (by omega) hl w)
      have hF := Lib.hid (fun w => parseFixed_any (bs (L s).dropLast) 4 (by rw [bs_size, List.length_dropLast, L_length]; omega) w)
      rw [L_bs] at hF
      generalize refP (L s).dropLast 4 = q at *
      generalize bs (L s).dropLast = X at *
      obtain ⟨q1, q2⟩ := q
      dsimp only at hF
      clear hl
      go_enter Tryd.func45, Tryd.ntmps45
      go_wp2_with (first
        | (go_at_call 77; refine (hC.out _).mono ?_; rintro r w1 ⟨rfl, rfl⟩)
        | (go_at_call 60; refine (hF.out _).mono ?_; rintro r w1 ⟨rfl, hk⟩))
      go_ret2
      exact ⟨ret_two HR.out, ((Kept.refl _).alloc _).trans hk⟩
    · have HR := Lib.hid (vnum_rate_no (e := 0) (ms := ms) hl)
      have hC := Lib.hid (fun w => cutSuf_no s (by omega) hl w)
      clear hl
      go_enter Tryd.func45, Tryd.ntmps45
      go_wp2_with (go_at_call 77; refine (hC.out _).mono ?_; rintro r w1 ⟨rfl, rfl⟩)
      go_ret2
      rw [HR.out]
      exact ⟨rfl, (Kept.refl _).alloc _⟩
  · have hF := Lib.hid (fun w hM => parse_any s w hM)
    have HR := Lib.hid (show vnumS s 5 0 ms = dparS s from rfl)
    generalize dparS s = q at *
    obtain ⟨q1, q2⟩ := q
    dsimp only at hF
    go_enter Tryd.func45, Tryd.ntmps45
    go_wp2_with (go_at_call 78; refine (hF.out _ (hM.kept ((Kept.refl _).alloc _))).mono ?_; rintro r w1 ⟨rfl, hk⟩)
    go_ret2
    exact ⟨ret_two HR.out, ((Kept.refl _).alloc _).trans hk⟩
end Go.Proofs.YtjdljholajacdaaDoor
