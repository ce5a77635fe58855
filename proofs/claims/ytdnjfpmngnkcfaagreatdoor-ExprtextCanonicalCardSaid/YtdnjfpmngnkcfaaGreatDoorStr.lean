/- Strings as lists of bytes: what indexing, slicing, comparing and ranging give. No program stands here. -/
import Derived.Test.YtdnjfpmngnkcfaaGreatDoorBase
import Derived.Test.YtdnjfpmngnkcfaaGreatDoorNumMath
import Derived.Laws.Strings
import Derived.Laws.Strings2
import Derived.Laws.Strings3
import Derived.Laws.RangeString
import Derived.Laws.RangeAny
import Derived.Laws.Concat
namespace Go.Proofs.YtdnjfpmngnkcfaaGreatDoor

/-- the bytes of a string -/
def L (s : ByteArray) : List UInt8 := s.data.toList
/-- the string of a list of bytes -/
def bs (l : List UInt8) : ByteArray := ⟨l.toArray⟩
@[simp] theorem L_bs (l : List UInt8) : L (bs l) = l := rfl
@[simp] theorem bs_L (s : ByteArray) : bs (L s) = s := by cases s; rfl
@[simp] theorem L_mk (l : List UInt8) : L ⟨l.toArray⟩ = l := rfl
@[simp] theorem L_length (s : ByteArray) : (L s).length = s.size := rfl
@[simp] theorem bs_size (l : List UInt8) : (bs l).size = l.length := by rw [← L_length, L_bs]
theorem bs_inj {a b : List UInt8} : bs a = bs b ↔ a = b := ⟨fun h => congrArg L h, fun h => by rw [h]⟩
theorem L_inj {a b : ByteArray} : L a = L b ↔ a = b := ⟨fun h => by rw [← bs_L a, ← bs_L b, h], fun h => by rw [h]⟩
theorem bs_mk (l : List UInt8) : (ByteArray.mk l.toArray) = bs l := rfl
theorem bs_append (a b : List UInt8) : bs a ++ bs b = bs (a ++ b) := ByteArray.mk_append_mk a b
theorem L_append (a b : ByteArray) : L (a ++ b) = L a ++ L b := by
  have h := congrArg L (bs_append (L a) (L b))
  rw [bs_L, bs_L] at h
  exact h
theorem L_extract (s : ByteArray) (a b : Nat) : L (s.extract a b) = ((L s).drop a).take (b - a) := by
  have h := ByteArray.extract_mk (L s) a b
  rw [bs_mk, bs_L] at h
  rw [h]; rfl
theorem toList_L (s : ByteArray) : s.toList = L s := ByteArray.toList_eq s
theorem L_get (s : ByteArray) (i : Nat) (h : i < s.size) : (L s)[i]? = some s[i] := by
  show s.data.toList[i]? = _
  rw [Array.getElem?_toList, Array.getElem?_eq_getElem h]; rfl
theorem L_take (s : ByteArray) (i : Nat) (h : i < s.size) : (L s).take (i + 1) = (L s).take i ++ [s[i]] := by
  rw [List.take_add_one, L_get s i h]; rfl
theorem L_drop (s : ByteArray) (i : Nat) (h : i < s.size) : (L s).drop i = s[i] :: (L s).drop (i + 1) := by
  have hl : i < (L s).length := by simpa using h
  rw [List.drop_eq_getElem_cons hl]
  have := L_get s i h
  rw [List.getElem?_eq_getElem hl] at this
  rw [Option.some.inj this]
theorem L_take_all (s : ByteArray) (i : Nat) (h : ¬ i < s.size) : (L s).take i = L s := List.take_of_length_le (by simp; omega)

theorem val_lt {l : List UInt8} (h : l.all isDig = true) : val l 0 < 10 ^ l.length := by
  induction l with
  | nil => simp [val]
  | cons c r ih =>
    simp only [List.all_cons, Bool.and_eq_true] at h
    have h1 := dval_lt h.1
    have h2 := ih h.2
    rw [val, val_acc, List.length_cons, Nat.pow_succ]
    have := Nat.mul_le_mul_right (10 ^ r.length) (show 10 * 0 + dval c ≤ 9 by omega)
    omega
theorem val_lt9 {l : List UInt8} (h : l.all isDig = true) (hl : l.length ≤ 9) : val l 0 < 1000000000 :=
  Nat.lt_of_lt_of_le (val_lt h) (Nat.pow_le_pow_right (by decide) hl)
theorem take_dig {s : ByteArray} {i : Nat} (h : i < s.size) : ((L s).take (i + 1)).all isDig = (((L s).take i).all isDig && isDig s[i]) := by
  rw [L_take s i h, List.all_append]; simp
theorem not_dig {s : ByteArray} {i : Nat} (h : i < s.size) (hd : isDig s[i] = false) : (L s).all isDig = false := by
  rw [← List.take_append_drop i (L s), List.all_append, L_drop s i h, List.all_cons, hd]; simp

/-- the number that a string of digits denotes, and whether it is one -/
def digB (l : List UInt8) : Bool := l.all isDig
def digV (l : List UInt8) : Int := if digB l then (val l 0 : Nat) else 0
def digR (l : List UInt8) : Int := if digB l then (val l 0 : Nat) else -1
theorem digV_yes {l : List UInt8} (h : digB l = true) : digV l = (val l 0 : Nat) := by rw [digV, if_pos h]
theorem digV_no {l : List UInt8} (h : digB l = false) : digV l = 0 := by rw [digV, h]; rfl
theorem digR_yes {l : List UInt8} (h : digB l = true) : digR l = (val l 0 : Nat) := by rw [digR, if_pos h]
theorem digR_no {l : List UInt8} (h : digB l = false) : digR l = -1 := by rw [digR, h]; rfl
end Go.Proofs.YtdnjfpmngnkcfaaGreatDoor
