/- What pad and Format of package date, and of the reference, compute: the text of a date. -/
import Derived.Test.YtemejaomfbhldaaGreatDoorNum
import Derived.Test.YtemejaomfbhldaaGreatDoorDateC
import Derived.Test.YtemejaomfbhldaaGreatDoorRefDateB
namespace Go.Proofs.YtemejaomfbhldaaGreatDoor
open Go.RowKit

theorem repeatL_one (c : UInt8) : ∀ k, Lib.repeatL [c] k = List.replicate k c
  | 0 => rfl
  | k + 1 => by rw [Lib.repeatL, repeatL_one c k]; rfl
theorem repeat_any (s : ByteArray) (c : Int) (h0 : 0 ≤ c) (hc : s.size * c.toNat ≤ 140737488355328) (hm : c ≤ 9223372036854775807) (w : World) :
    Calls Tryz.prog 60 #[.string s, .int .i64 c] w fun e w' => e = .returned (.string (bs (Lib.repeatL (L s) c.toNat))) ∧ Kept w w' := by
  have := Tryz.strings_Repeat s c.toNat w (by omega) hc
  rwa [Int.toNat_of_nonneg h0] at this
theorem zeros_any (c : Int) (h0 : 0 ≤ c) (hc : c ≤ 100) (w : World) :
    Calls Tryz.prog 60 #[.string ⟨#[48]⟩, .int .i64 c] w fun e w' => e = .returned (.string (bs (List.replicate c.toNat 48))) ∧ Kept w w' := by
  have := repeat_any ⟨#[48]⟩ c h0 (by show 1 * c.toNat ≤ _; omega) (by omega) w
  rwa [show Lib.repeatL (L ⟨#[48]⟩) c.toNat = List.replicate c.toNat 48 from repeatL_one 48 _] at this
theorem numS_size (n : Int) (h0 : -9223372036854775808 ≤ n) (h1 : n ≤ 9223372036854775807) : (numS n).size ≤ 21 := by
  rw [numS, bs_size, Lib.itoa]
  split
  · have := decDigits_len n.natAbs (by omega); simp; omega
  · have := decDigits_len n.toNat (by omega); omega

def padS (n k : Int) : ByteArray := bs (List.replicate (k.toNat - (numS n).size) 48 ++ Lib.itoa n)
theorem padS_no {n k : Int} (h : k ≤ (numS n).size) : padS n k = numS n := by
  rw [padS, show k.toNat - (numS n).size = 0 by omega]; rfl
theorem padS_yes {n k : Int} : bs (List.replicate (k.toNat - (numS n).size) 48) ++ numS n = padS n k := by
  rw [numS, bs_append]; rfl
theorem padS_size (n k : Int) (h0 : -9223372036854775808 ≤ n) (h1 : n ≤ 9223372036854775807) (h2 : k ≤ 9) : (padS n k).size ≤ 30 := by
  have := numS_size n h0 h1
  rw [padS, bs_size, List.length_append, List.length_replicate]
  have e : (Lib.itoa n).length = (numS n).size := by rw [numS, bs_size]
  omega

set_option maxRecDepth 100000 in
set_option maxHeartbeats 1000000 in
theorem pad_any (n k : Int) (h0 : -9223372036854775808 ≤ n) (h1 : n ≤ 9223372036854775807) (k0 : 0 ≤ k) (k1 : k ≤ 9) (w : World) (hP : Pow w) :
    Calls Tryz.prog 38 #[.int .i64 n, .int .i64 k] w fun e w' => e = .returned (.string (padS n k)) ∧ Kept w w' := by
  have hs := numS_size n h0 h1
  have HR := Lib.hid (padS_yes (n := n) (k := k))
  have e1 : (max 0 (k - (numS n).size)).toNat = k.toNat - (numS n).size := by omega
  go_enter Tryz.func38, Tryz.ntmps38
  go_wp2_with (first
    | (go_at_call 59; refine (fmtInt_any n h0 h1 _ hP).mono ?_; rintro e w' ⟨rfl, hk⟩)
    | (go_at_call 60; refine (zeros_any (max 0 (k - (numS n).size)) (by omega) (by omega) _).mono ?_; rintro e w2 ⟨rfl, hk2⟩; rw [e1]))
  go_ret
  exact ⟨congrArg (fun x => Ending.returned (Value.string x)) HR.out, hk.trans hk2⟩

set_option maxRecDepth 100000 in
set_option maxHeartbeats 1000000 in
theorem rpad_any (n k : Int) (h0 : -9223372036854775808 ≤ n) (h1 : n ≤ 9223372036854775807) (k0 : 0 ≤ k) (k1 : k ≤ 9) (w : World) :
    Calls Tryz.prog 43 #[.int .i64 n, .int .i64 k] w fun e w' => e = .returned (.string (padS n k)) ∧ Kept w w' := by
  have hs := numS_size n h0 h1
  have hl : (Lib.itoa n).length = (numS n).size := by rw [numS, bs_size]
  go_enter Tryz.func43, Tryz.ntmps43
  go_wp2_with (go_at_call 68; refine (rfmtInt_any n h0 h1 _).mono ?_; rintro e w' ⟨rfl, hk⟩)
  go_loop [5] (fun x => ∃ (j : Nat) (S : ByteArray), x = .string S ∧ S = bs (List.replicate j 48 ++ Lib.itoa n) ∧ S.size = j + (numS n).size ∧ j ≤ k.toNat - (numS n).size) (fun x => match x with | .string S => k.toNat - S.size | _ => 0)
  case atStart => exact ⟨0, numS n, rfl, rfl, by omega, by omega⟩
  case round =>
    obtain ⟨j, S, rfl, hS, hz, hj⟩ := hrel
    by_cases hlt : (S.size : Int) < k
    · have HS := Lib.hid hS
      clear hS
      go_wp2_with fail
      go_round
      case rel =>
        refine ⟨j + 1, _, rfl, ?_, ?_, by omega⟩
        · rw [HS.out]; exact bs_append [48] _
        · rw [ByteArray.size_append, hz]; show 1 + _ = _; omega
      case measure => simp only [ByteArray.size_append]; show k.toNat - (1 + _) < _; omega
    · have HR := Lib.hid (show S = padS n k by rw [hS, padS, show j = k.toNat - (numS n).size by omega])
      clear hS
      go_wp2_with fail
      go_ret
      exact ⟨congrArg (fun x => Ending.returned (Value.string x)) HR.out, hk⟩

/-- the text of a date -/
noncomputable def dateS (n : Int) : ByteArray :=
  if isDate n then padS (toS n).1 4 ++ ⟨#[45]⟩ ++ padS (toS n).2.1 2 ++ ⟨#[45]⟩ ++ padS (toS n).2.2 2 else ⟨#[]⟩
theorem dateS_no {n : Int} (h : isDate n = false) : dateS n = ⟨#[]⟩ := by rw [dateS, h]; rfl
theorem dateS_yes {n : Int} (h : isDate n = true) : dateS n = padS (toS n).1 4 ++ ⟨#[45]⟩ ++ padS (toS n).2.1 2 ++ ⟨#[45]⟩ ++ padS (toS n).2.2 2 := by rw [dateS, if_pos h]
theorem ret_str {a b : ByteArray} (h : a = b) : Ending.returned (.string a) = .returned (.string b) := by rw [h]

set_option maxRecDepth 100000 in
set_option maxHeartbeats 1000000 in
theorem format_any (n : Int) (w : World) (hM : Mon w) (hP : Pow w) :
    Calls Tryz.prog 17 #[.int .i64 n] w fun e w' => e = .returned (.string (dateS n)) ∧ Kept w w' := by
  cases hd : isDate n
  · have HR := Lib.hid (dateS_no hd)
    go_enter Tryz.func17, Tryz.ntmps17
    go_wp2_with (go_at_call 36; refine (dvalid_any _ _).mono ?_; rintro e w' ⟨rfl, rfl⟩)
    go_ret
    exact ⟨ret_str HR.out.symm, Kept.refl _⟩
  · have HR := Lib.hid (dateS_yes hd)
    have hb := toS_bd hd
    have hdl := dimS_le (toS n).1 (toS n).2.1
    generalize ht : toS n = t at *
    obtain ⟨y, m, d⟩ := t
    dsimp only at *
    obtain ⟨b1, b2, b3, b4, b5, b6⟩ := hb
    obtain ⟨_, b7⟩ := hdl
    have s1 := padS_size y 4 (by omega) (by omega) (by omega)
    have s2 := padS_size m 2 (by omega) (by omega) (by omega)
    have s3 := padS_size d 2 (by omega) (by omega) (by omega)
    go_enter Tryz.func17, Tryz.ntmps17
    go_wp2_with (first
      | (go_at_call 36; refine (dvalid_any _ _).mono ?_; rintro e w' ⟨rfl, rfl⟩)
      | (go_at_call 37; refine (toYMD_any _ _ hM).mono ?_; rintro e w' ⟨rfl, rfl⟩; rw [ht]; dsimp only; have hK := Kept.refl w)
      | (first
          | (go_at_call_of 38 (Value.int IntKind.i64 y); refine (pad_any y 4 (by omega) (by omega) (by omega) (by omega) _ (hP.kept (by assumption))).mono ?_; rintro e w' ⟨rfl, hk⟩; have hK := Kept.trans (by assumption) hk)
          | (go_at_call_of 38 (Value.int IntKind.i64 m); refine (pad_any m 2 (by omega) (by omega) (by omega) (by omega) _ (hP.kept (by assumption))).mono ?_; rintro e w' ⟨rfl, hk⟩; have hK := Kept.trans (by assumption) hk)
          | (go_at_call_of 38 (Value.int IntKind.i64 d); refine (pad_any d 2 (by omega) (by omega) (by omega) (by omega) _ (hP.kept (by assumption))).mono ?_; rintro e w' ⟨rfl, hk⟩; have hK := Kept.trans (by assumption) hk)))
    go_ret
    exact ⟨ret_str HR.out.symm, by assumption⟩

set_option maxRecDepth 100000 in
set_option maxHeartbeats 1000000 in
theorem rformat_any (n : Int) (w : World) :
    Calls Tryz.prog 21 #[.int .i64 n] w fun e w' => e = .returned (.string (dateS n)) ∧ Kept w w' := by
  cases hd : isDate n
  · have HR := Lib.hid (dateS_no hd)
    go_enter Tryz.func21, Tryz.ntmps21
    go_wp2_with (go_at_call 41; refine (rdvalid_any _ _).mono ?_; rintro e w' ⟨rfl, rfl⟩)
    go_ret
    exact ⟨ret_str HR.out.symm, Kept.refl _⟩
  · have HR := Lib.hid (dateS_yes hd)
    have hb := toS_bd hd
    have hdl := dimS_le (toS n).1 (toS n).2.1
    generalize ht : toS n = t at *
    obtain ⟨y, m, d⟩ := t
    dsimp only at *
    obtain ⟨b1, b2, b3, b4, b5, b6⟩ := hb
    obtain ⟨_, b7⟩ := hdl
    have s1 := padS_size y 4 (by omega) (by omega) (by omega)
    have s2 := padS_size m 2 (by omega) (by omega) (by omega)
    have s3 := padS_size d 2 (by omega) (by omega) (by omega)
    go_enter Tryz.func21, Tryz.ntmps21
    go_wp2_with (first
      | (go_at_call 41; refine (rdvalid_any _ _).mono ?_; rintro e w' ⟨rfl, rfl⟩)
      | (go_at_call 42; refine (rtoYMD_any _ _).mono ?_; rintro e w' ⟨rfl, rfl⟩; rw [ht]; dsimp only; have hK := Kept.refl w)
      | (first
          | (go_at_call_of 43 (Value.int IntKind.i64 y); refine (rpad_any y 4 (by omega) (by omega) (by omega) (by omega) _).mono ?_; rintro e w' ⟨rfl, hk⟩; have hK := Kept.trans (by assumption) hk)
          | (go_at_call_of 43 (Value.int IntKind.i64 m); refine (rpad_any m 2 (by omega) (by omega) (by omega) (by omega) _).mono ?_; rintro e w' ⟨rfl, hk⟩; have hK := Kept.trans (by assumption) hk)
          | (go_at_call_of 43 (Value.int IntKind.i64 d); refine (rpad_any d 2 (by omega) (by omega) (by omega) (by omega) _).mono ?_; rintro e w' ⟨rfl, hk⟩; have hK := Kept.trans (by assumption) hk)))
    go_ret
    exact ⟨ret_str HR.out.symm, by assumption⟩
end Go.Proofs.YtemejaomfbhldaaGreatDoor
