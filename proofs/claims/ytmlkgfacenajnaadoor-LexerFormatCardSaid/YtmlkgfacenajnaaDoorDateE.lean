/- What pad and Format of package date, and of the reference, compute: the text of a date. -/
import Derived.Test.YtmlkgfacenajnaaDoorNum
import Derived.Test.YtmlkgfacenajnaaDoorDateC
import Derived.Test.YtmlkgfacenajnaaDoorRefDateB
namespace Go.Proofs.YtmlkgfacenajnaaDoor
open Go.RowKit

theorem repeatL_one (c : UInt8) : ∀ k, Lib.repeatL [c] k = List.replicate k c
  | 0 => rfl
  | k + 1 => by rw [Lib.repeatL, repeatL_one c k]; rfl
theorem repeat_any (s : ByteArray) (c : Int) (h0 : 0 ≤ c) (hc : s.size * c.toNat ≤ 140737488355328) (hm : c ≤ 9223372036854775807) (w : World) :
    Calls Tryd.prog 93 #[.string s, .int .i64 c] w fun e w' => e = .returned (.string (bs (Lib.repeatL (L s) c.toNat))) ∧ Kept w w' := by
  have := Tryd.strings_Repeat s c.toNat w (by omega) hc
  rwa [Int.toNat_of_nonneg h0] at this
theorem zeros_any (c : Int) (h0 : 0 ≤ c) (hc : c ≤ 100) (w : World) :
    Calls Tryd.prog 93 #[.string ⟨#[48]⟩, .int .i64 c] w fun e w' => e = .returned (.string (bs (List.replicate c.toNat 48))) ∧ Kept w w' := by
  have := repeat_any ⟨#[48]⟩ c h0 (by show 1 * c.toNat ≤ _; omega) (by omega) w
  rwa [show Lib.repeatL (L ⟨#[48]⟩) c.toNat = List.replicate c.toNat 48 from repeatL_one 48 _] at this
theorem numS_size (n : Int) (h0 : -9223372036854775808 ≤ n) (h1 : n ≤ 9223372036854775807) : (numS n).size ≤ 21 := by
  rw [numS, bs_size, Lib.itoa]
  split
  · have := decDigits_len n.natAbs (by omega); simp; omega
  · have := decDigits_len n.toNat (by omega); omega

def padS (n k : Int) : ByteArray := bs (List.replicate (k.toNat - (numS n).size) 48 ++ Lib.itoa n)
theorem padS_no {n k : Int} (h : k ≤ (numS n).size) : padS n k = numS n := by
  rw [padS, show k.toNat - (numS n).size = 0 by omega]; rfl
theorem padS_yes {n k : Int} : bs (List.replicate (k.toNat - (numS n).size) 48) ++ numS n = padS n k := by
  rw [numS, bs_append]; rfl
theorem padS_size (n k : Int) (h0 : -9223372036854775808 ≤ n) (h1 : n ≤ 9223372036854775807) (h2 : k ≤ 9) : (padS n k).size ≤ 30 := by
  have := numS_size n h0 h1
  rw [padS, bs_size, List.length_append, List.length_replicate]
  have e : (Lib.itoa n).length = (numS n).size := by rw [numS, bs_size]
  omega

/-- the text of a date -/
noncomputable def dateS (n : Int) : ByteArray :=
  if isDate n then padS (toS n).1 4 ++ ⟨#[45]⟩ ++ padS (toS n).2.1 2 ++ ⟨#[45]⟩ ++ padS (toS n).2.2 2 else ⟨#[]⟩
theorem dateS_no {n : Int} (h : isDate n = false) : dateS n = ⟨#[]⟩ := by rw [dateS, h]; rfl
theorem dateS_yes {n : Int} (h : isDate n = true) : dateS n = padS (toS n).1 4 ++ ⟨#[45]⟩ ++ padS (toS n).2.1 2 ++ ⟨#[45]⟩ ++ padS (toS n).2.2 2 := by rw [dateS, if_pos h]
theorem ret_str {a b : ByteArray} (h : a = b) : Ending.returned (.string a) = .returned (.string b) := by rw [h]

end Go.Proofs.YtmlkgfacenajnaaDoor
