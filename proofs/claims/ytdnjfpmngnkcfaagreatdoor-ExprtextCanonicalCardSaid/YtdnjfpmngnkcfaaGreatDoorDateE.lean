/- What pad and Format of package date, and of the reference, compute: the text of a date. -/
import Derived.Test.YtdnjfpmngnkcfaaGreatDoorNum
import Derived.Test.YtdnjfpmngnkcfaaGreatDoorDateC
import Derived.Test.YtdnjfpmngnkcfaaGreatDoorRefDateB
namespace Go.Proofs.YtdnjfpmngnkcfaaGreatDoor
open Go.RowKit

theorem repeatL_one (c : UInt8) : ∀ k, Lib.repeatL [c] k = List.replicate k c
  | 0 => rfl
  | k + 1 => by rw [Lib.repeatL, repeatL_one c k]; rfl
theorem repeat_any (s : ByteArray) (c : Int) (h0 : 0 ≤ c) (hc : s.size * c.toNat ≤ 140737488355328) (hm : c ≤ 9223372036854775807) (w : World) :
    Calls Tryz.prog 71 #[.string s, .int .i64 c] w fun e w' => e = .returned (.string (bs (Lib.repeatL (L s) c.toNat))) ∧ Kept w w' := by
  have := Tryz.strings_Repeat s c.toNat w (by omega) hc
  rwa [Int.toNat_of_nonneg h0] at this
theorem zeros_any (c : Int) (h0 : 0 ≤ c) (hc : c ≤ 100) (w : World) :
    Calls Tryz.prog 71 #[.string ⟨#[48]⟩, .int .i64 c] w fun e w' => e = .returned (.string (bs (List.replicate c.toNat 48))) ∧ Kept w w' := by
  have := repeat_any ⟨#[48]⟩ c h0 (by show 1 * c.toNat ≤ _; omega) (by omega) w
  rwa [show Lib.repeatL (L ⟨#[48]⟩) c.toNat = List.replicate c.toNat 48 from repeatL_one 48 _] at this
theorem numS_size (n : Int) (h0 : -9223372036854775808 ≤ n) (h1 : n ≤ 9223372036854775807) : (numS n).size ≤ 21 := by
  rw [numS, bs_size, Lib.itoa]
  split
  · have := decDigits_len n.natAbs (by omega); simp; omega
  · have := decDigits_len n.toNat (by omega); omega

def padS (n k : Int) : ByteArray := bs (List.replicate (k.toNat - (numS n).size) 48 ++ Lib.itoa n)
theorem padS_no {n k : Int} (h : k ≤ (numS n).size) : padS n k = numS n := by
  rw [padS, show k.toNat - (numS n).size = 0 by omega]; rfl
theorem padS_yes {n k : Int} : bs (List.replicate (k.toNat - (numS n).size) 48) ++ numS n = padS n k := by
  rw [numS, bs_append]; rfl
theorem padS_size (n k : Int) (h0 : -9223372036854775808 ≤ n) (h1 : n ≤ 9223372036854775807) (h2 : k ≤ 9) : (padS n k).size ≤ 30 := by
  have := numS_size n h0 h1
  rw [padS, bs_size, List.length_append, List.length_replicate]
  have e : (Lib.itoa n).length = (numS n).size := by rw [numS, bs_size]
  omega

set_option maxRecDepth 100000 in
set_option maxHeartbeats 1000000 in
theorem pad_any (n k : Int) (h0 : -9223372036854775808 ≤ n) (h1 : n ≤ 9223372036854775807) (k0 : 0 ≤ k) (k1 : k ≤ 9) (w : World) (hP : Pow w) :
    Calls Tryz.prog 74 #[.int .i64 n, .int .i64 k] w fun e w' => e = .returned (.string (padS n k)) ∧ Kept w w' := by
  have hs := numS_size n h0 h1
  have HR := Lib.hid (padS_yes (n := n) (k := k))
  have e1 : (max 0 (k - (numS n).size)).toNat = k.toNat - (numS n).size := by omega
  go_enter Tryz.func74, Tryz.ntmps74
  go_wp2_with (first
    | (go_at_call 55; refine (fmtInt_any n h0 h1 _ hP).mono ?_; rintro e w' ⟨rfl, hk⟩)
    | (go_at_call 71; refine (zeros_any (max 0 (k - (numS n).size)) (by omega) (by omega) _).mono ?_; rintro e w2 ⟨rfl, hk2⟩; rw [e1]))
  go_ret
  exact ⟨congrArg (fun x => Ending.returned (Value.string x)) HR.out, hk.trans hk2⟩

/-- the text of a date -/
noncomputable def dateS (n : Int) : ByteArray :=
  if isDate n then padS (toS n).1 4 ++ ⟨#[45]⟩ ++ padS (toS n).2.1 2 ++ ⟨#[45]⟩ ++ padS (toS n).2.2 2 else ⟨#[]⟩
theorem dateS_no {n : Int} (h : isDate n = false) : dateS n = ⟨#[]⟩ := by rw [dateS, h]; rfl
theorem dateS_yes {n : Int} (h : isDate n = true) : dateS n = padS (toS n).1 4 ++ ⟨#[45]⟩ ++ padS (toS n).2.1 2 ++ ⟨#[45]⟩ ++ padS (toS n).2.2 2 := by rw [dateS, if_pos h]
theorem ret_str {a b : ByteArray} (h : a = b) : Ending.returned (.string a) = .returned (.string b) := by rw [h]

set_option maxRecDepth 100000 in
set_option maxHeartbeats 1000000 in
theorem format_any (n : Int) (w : World) (hM : Mon w) (hP : Pow w) :
    Calls Tryz.prog 57 #[.int .i64 n] w fun e w' => e = .returned (.string (dateS n)) ∧ Kept w w' := by
  cases hd : isDate n
  · have HR := Lib.hid (dateS_no hd)
    go_enter Tryz.func57, Tryz.ntmps57
    go_wp2_with (go_at_call 72; refine (dvalid_any _ _).mono ?_; rintro e w' ⟨rfl, rfl⟩)
    go_ret
    exact ⟨ret_str HR.out.symm, Kept.refl _⟩
  · have HR := Lib.hid (dateS_yes hd)
    have hb := toS_bd hd
    have hdl := dimS_le (toS n).1 (toS n).2.1
    generalize ht : toS n = t at *
    obtain ⟨y, m, d⟩ := t
    dsimp only at *
    obtain ⟨b1, b2, b3, b4, b5, b6⟩ := hb
    obtain ⟨_, b7⟩ := hdl
    have s1 := padS_size y 4 (by omega) (by omega) (by omega)
    have s2 := padS_size m 2 (by omega) (by omega) (by omega)
    have s3 := padS_size d 2 (by omega) (by omega) (by omega)
    go_enter Tryz.func57, Tryz.ntmps57
    go_wp2_with (first
      | (go_at_call 72; refine (dvalid_any _ _).mono ?_; rintro e w' ⟨rfl, rfl⟩)
      | (go_at_call 73; refine (toYMD_any _ _ hM).mono ?_; rintro e w' ⟨rfl, rfl⟩; rw [ht]; dsimp only; have hK := Kept.refl w)
      | (first
          | (go_at_call_of 74 (Value.int IntKind.i64 y); refine (pad_any y 4 (by omega) (by omega) (by omega) (by omega) _ (hP.kept (by assumption))).mono ?_; rintro e w' ⟨rfl, hk⟩; have hK := Kept.trans (by assumption) hk)
          | (go_at_call_of 74 (Value.int IntKind.i64 m); refine (pad_any m 2 (by omega) (by omega) (by omega) (by omega) _ (hP.kept (by assumption))).mono ?_; rintro e w' ⟨rfl, hk⟩; have hK := Kept.trans (by assumption) hk)
          | (go_at_call_of 74 (Value.int IntKind.i64 d); refine (pad_any d 2 (by omega) (by omega) (by omega) (by omega) _ (hP.kept (by assumption))).mono ?_; rintro e w' ⟨rfl, hk⟩; have hK := Kept.trans (by assumption) hk)))
    go_ret
    exact ⟨ret_str HR.out.symm, by assumption⟩

end Go.Proofs.YtdnjfpmngnkcfaaGreatDoor
