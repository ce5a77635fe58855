/- The fixed examples of the chapter on dates: awake returns true. -/
import Derived.Test.YtplconloofpakaaDoorDateF
namespace Go.Proofs.YtplconloofpakaaDoor
open Go.RowKit

theorem toS_a : toS 45349 = (2024, 2, 29) := toS_eq (by decide) (by decide)
theorem toS_b : toS 45714 = (2025, 2, 28) := toS_eq (by decide) (by decide)
theorem toS_c : toS 36583 = (2000, 2, 29) := toS_eq (by decide) (by decide)
theorem toS_d : toS 36948 = (2001, 2, 28) := toS_eq (by decide) (by decide)
theorem toS_e : toS 36947 = (2001, 2, 27) := toS_eq (by decide) (by decide)
theorem from_a : fromS 2024 2 29 = (45349, 0) := by decide
theorem from_c : fromS 2000 2 29 = (36583, 0) := by decide
theorem from_d : fromS 2001 2 28 = (36948, 0) := by decide
theorem addM_at {a n y m d : Int} (h : toS a = (y, m, d)) (k : isDate a = true) (h1 : -3600 ≤ n) (h2 : n ≤ 3600) (h3 : 0 ≤ (y - 1900) * 12 + m - 1 + n) (h4 : (y - 1900) * 12 + m - 1 + n ≤ 3599) :
    addM a n = fromS (1900 + ((y - 1900) * 12 + m - 1 + n) / 12) (((y - 1900) * 12 + m - 1 + n) % 12 + 1) (min d (dimS (1900 + ((y - 1900) * 12 + m - 1 + n) / 12) (((y - 1900) * 12 + m - 1 + n) % 12 + 1))) := by
  have e : monS a n = (y - 1900) * 12 + m - 1 + n := by unfold monS; rw [h]
  rw [addM_ok (addOk_iff.2 ⟨k, h1, h2, by rw [e]; exact h3, by rw [e]; exact h4⟩), addIn, e, h]
theorem addM_a : addM 45349 12 = (45714, 0) := by
  rw [addM_at toS_a (by decide) (by decide) (by decide) (by decide) (by decide)]; decide
theorem ybS_cd : ybS 36583 36948 = 1 := by
  rw [ybS, if_pos (by decide), toS_c, toS_d, show (12 * ((2001, 2, 28).1 - (2000, 2, 29).1) : Int) = 12 from rfl, addM_at toS_c (by decide) (by decide) (by decide) (by decide) (by decide)]
  decide
theorem ybS_ce : ybS 36583 36947 = 0 := by
  rw [ybS, if_pos (by decide), toS_c, toS_e, show (12 * ((2001, 2, 27).1 - (2000, 2, 29).1) : Int) = 12 from rfl, addM_at toS_c (by decide) (by decide) (by decide) (by decide) (by decide)]
  decide
theorem numS_of {l : List UInt8} {n : Int} (h : (val l 0 : Int) = n) (hd : l.all isDig = true) (hl : lead l = true) (hn : l ≠ []) : numS n = bs l := by
  rw [numS, Lib.itoa, if_neg (by omega), show n.toNat = val l 0 by omega, decDigits_val l hd hl hn]
theorem itoa_of {l : List UInt8} {n : Int} (h : (val l 0 : Int) = n) (hd : l.all isDig = true) (hl : lead l = true) (hn : l ≠ []) : Lib.itoa n = l := by
  rw [Lib.itoa, if_neg (by omega), show n.toNat = val l 0 by omega, decDigits_val l hd hl hn]
theorem padS_of {l : List UInt8} {n k : Int} (h : (val l 0 : Int) = n) (hd : l.all isDig = true) (hl : lead l = true) (hn : l ≠ []) : padS n k = bs (List.replicate (k.toNat - l.length) 48 ++ l) := by
  rw [padS, numS_of h hd hl hn, itoa_of h hd hl hn, bs_size]
theorem dateS_b : dateS 45714 = ⟨#[50, 48, 50, 53, 45, 48, 50, 45, 50, 56]⟩ := by
  rw [dateS_yes (by decide), toS_b]
  dsimp only
  rw [padS_of (l := [50, 48, 50, 53]) (by decide) (by decide) (by decide) (by decide), padS_of (l := [50]) (by decide) (by decide) (by decide) (by decide), padS_of (l := [50, 56]) (by decide) (by decide) (by decide) (by decide)]
  rfl
theorem wdS_0 : wdS 0 = 0 := by decide
theorem leap_2000 : leapB 2000 = true := by decide
theorem leap_1900 : leapB 1900 = false := by decide
theorem dim_1900 : dimS 1900 2 = 28 := by decide

set_option maxRecDepth 100000 in
set_option maxHeartbeats 4000000 in
theorem awake04_any (w : World) (hM : Mon w) (hP : Pow w) :
    Calls Tryd.prog 22 #[] w fun e w' => e = .returned (.bool true) ∧ Kept w w' := by
  have hK0 := Kept.refl w
  go_enter Tryd.func22, Tryd.ntmps22
  go_wp2_with (first
    | (go_at_call 14; refine (fromYMD_any _ _ _ _ (hM.kept (by assumption))).mono ?_; rintro e w' ⟨rfl, rfl⟩; simp only [from_a, from_c, from_d])
    | (go_at_call 23; refine (addMonths_any _ _ _ (hM.kept (by assumption))).mono ?_; rintro e w' ⟨rfl, rfl⟩; simp only [addM_a])
    | (go_at_call 31; refine (format_any _ _ (hM.kept (by assumption)) (hP.kept (by assumption))).mono ?_; rintro e w' ⟨rfl, hk⟩; have hK := Kept.trans (by assumption) hk; rw [dateS_b])
    | (go_at_call 27; refine (years_any _ _ _ (hM.kept (by assumption))).mono ?_; rintro e w' ⟨rfl, rfl⟩; simp only [ybS_cd, ybS_ce])
    | (go_at_call 25; refine (weekday_any _ _).mono ?_; rintro e w' ⟨rfl, rfl⟩; simp only [wdS_0])
    | (go_at_call 18; refine (leap_any _ _).mono ?_; rintro e w' ⟨rfl, rfl⟩; simp only [leap_2000, leap_1900])
    | (go_at_call 20; refine (dim_any _ _ _ (hM.kept (by assumption))).mono ?_; rintro e w' ⟨rfl, rfl⟩; simp only [dim_1900]))
  go_ret
  exact ⟨rfl, by assumption⟩
end Go.Proofs.YtplconloofpakaaDoor
