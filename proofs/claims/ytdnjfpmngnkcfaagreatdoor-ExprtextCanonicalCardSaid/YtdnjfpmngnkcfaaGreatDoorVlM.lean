/- Typed values: types, bounds, members, in plain Lean. k kind, e enumeration, n number, ms the members of the enumerations. -/
import Derived.Test.YtdnjfpmngnkcfaaGreatDoorStr
import Derived.Test.YtdnjfpmngnkcfaaGreatDoorCanonMath
import Derived.Test.YtdnjfpmngnkcfaaGreatDoorDateTextMath
import Derived.Test.YtdnjfpmngnkcfaaGreatDoorLines
import Derived.Test.YtdnjfpmngnkcfaaGreatDoorStrs
import Derived.Test.YtdnjfpmngnkcfaaGreatDoorParseEq
import Derived.Test.YtdnjfpmngnkcfaaGreatDoorRefFixed
import Derived.Test.YtdnjfpmngnkcfaaGreatDoorBlks
namespace Go.Proofs.YtdnjfpmngnkcfaaGreatDoor

/-- members of the enumeration e -/
def memS (e : Int) (ms : List (List ByteArray)) : List ByteArray := ms[e.toNat]?.getD []
/-- the type is valid -/
def vtB (k e : Int) (ms : List (List ByteArray)) : Bool :=
  if k = 6 then decide (0 ≤ e) && decide (e < ms.length) else decide (1 ≤ k) && (decide (k ≤ 5) && decide (e = 0))
/-- the bounds of a valid type -/
def bndV (k e : Int) (ms : List (List ByteArray)) : Int × Int :=
  if k = 1 then (0, 1) else if k = 2 then (-1000000000000, 1000000000000) else if k = 3 then (-1000000000000000, 1000000000000000)
  else if k = 4 then (-1000000000, 1000000000) else if k = 5 then (0, 109572) else (0, (memS e ms).length - 1)
def bndS (k e : Int) (ms : List (List ByteArray)) : Int × Int := if vtB k e ms then bndV k e ms else (0, -1)
def inB (n k e : Int) (ms : List (List ByteArray)) : Bool := decide ((bndS k e ms).1 ≤ n) && decide (n ≤ (bndS k e ms).2)
def validB (k e n : Int) (ms : List (List ByteArray)) : Bool := vtB k e ms && inB n k e ms
/-- where a text stands first in a list, from i on -/
def findS (s : ByteArray) : List ByteArray → Nat → Option Nat
  | [], _ => none
  | x :: r, i => if x = s then some i else findS s r (i + 1)
theorem vtB_six {e : Int} {ms : List (List ByteArray)} : vtB 6 e ms = (decide (0 ≤ e) && decide (e < ms.length)) := by rw [vtB, if_pos rfl]
theorem vtB_low {k e : Int} {ms : List (List ByteArray)} (h : k ≠ 6) : vtB k e ms = (decide (1 ≤ k) && (decide (k ≤ 5) && decide (e = 0))) := by rw [vtB, if_neg h]
/-- the kinds of a valid type -/
theorem vtB_cases {k e : Int} {ms : List (List ByteArray)} (h : vtB k e ms = true) :
    (e = 0 ∧ (k = 1 ∨ k = 2 ∨ k = 3 ∨ k = 4 ∨ k = 5)) ∨ (k = 6 ∧ 0 ≤ e ∧ e < ms.length) := by
  by_cases h6 : k = 6
  · subst h6
    rw [vtB_six] at h
    simp only [Bool.and_eq_true, decide_eq_true_eq] at h
    exact .inr ⟨rfl, h.1, h.2⟩
  · rw [vtB_low h6] at h
    simp only [Bool.and_eq_true, decide_eq_true_eq] at h
    exact .inl ⟨h.2.2, by omega⟩
theorem findS_some {s : ByteArray} : ∀ {l : List ByteArray} {i j : Nat}, findS s l i = some j → i ≤ j ∧ l[j - i]? = some s ∧ ∀ m, m < j - i → l[m]? ≠ some s
  | [], i, j, h => by simp [findS] at h
  | x :: r, i, j, h => by
    rw [findS] at h
    by_cases hx : x = s
    · rw [if_pos hx] at h
      obtain rfl := Option.some.inj h
      subst hx
      refine ⟨Nat.le_refl _, by simp, fun m hm => absurd hm (by omega)⟩
    · rw [if_neg hx] at h
      obtain ⟨h1, h2, h3⟩ := findS_some h
      have e : j - i = (j - (i + 1)) + 1 := by omega
      refine ⟨by omega, by rw [e, List.getElem?_cons_succ]; exact h2, fun m hm => ?_⟩
      cases m with
      | zero => rw [List.getElem?_cons_zero]; intro hc; exact hx (Option.some.inj hc)
      | succ m => rw [List.getElem?_cons_succ]; exact h3 m (by omega)
theorem findS_none {s : ByteArray} : ∀ {l : List ByteArray} {i : Nat}, findS s l i = none → ∀ m : Nat, l[m]? ≠ some s
  | [], i, _, m => by simp
  | x :: r, i, h, m => by
    rw [findS] at h
    by_cases hx : x = s
    · rw [if_pos hx] at h; exact absurd h (by simp)
    · rw [if_neg hx] at h
      cases m with
      | zero => rw [List.getElem?_cons_zero]; intro hc; exact hx (Option.some.inj hc)
      | succ m => rw [List.getElem?_cons_succ]; exact findS_none h m
end Go.Proofs.YtdnjfpmngnkcfaaGreatDoor
/- Typed values: the definitions that both packages compute, in plain Lean. k kind, e enumeration, n number, ms the members of the enumerations. -/
namespace Go.Proofs.YtdnjfpmngnkcfaaGreatDoor

/-- the text of a valid value -/
noncomputable def vtext (k e n : Int) (ms : List (List ByteArray)) : ByteArray :=
  if k = 1 then (if n = 0 then ⟨#[102, 97, 108, 115, 101]⟩ else ⟨#[116, 114, 117, 101]⟩) else if k = 2 then numS n else if k = 3 then fixS n 2
  else if k = 4 then fixS n 4 ++ ⟨#[37]⟩ else if k = 5 then dateS n else (memS e ms)[n.toNat]?.getD ⟨#[]⟩
noncomputable def vfmtS (k e n : Int) (ms : List (List ByteArray)) : ByteArray × Int :=
  if vtB k e ms then (if inB n k e ms then (vtext k e n ms, 0) else (⟨#[]⟩, 3)) else (⟨#[]⟩, 8)
/-- the number of a text of a valid type, and an error -/
noncomputable def vnumS (s : ByteArray) (k e : Int) (ms : List (List ByteArray)) : Int × Int :=
  if k = 1 then (if s = ⟨#[102, 97, 108, 115, 101]⟩ then (0, 0) else if s = ⟨#[116, 114, 117, 101]⟩ then (1, 0) else (0, 2))
  else if k = 2 then refI (L s) else if k = 3 then refP (L s) 2
  else if k = 4 then (if (L s).getLast? = some 37 then refP (L s).dropLast 4 else (0, 2))
  else if k = 5 then dparS s else match findS s (memS e ms) 0 with | some i => ((i : Int), 0) | none => (0, 6)
/-- kind, enumeration, number, error -/
noncomputable def vparS (s : ByteArray) (k e : Int) (ms : List (List ByteArray)) : Int × Int × Int × Int :=
  if vtB k e ms then (if (vnumS s k e ms).2 = 0 then (if inB (vnumS s k e ms).1 k e ms then (k, e, (vnumS s k e ms).1, 0) else (0, 0, 0, 3)) else (0, 0, 0, (vnumS s k e ms).2)) else (0, 0, 0, 8)

end Go.Proofs.YtdnjfpmngnkcfaaGreatDoor
/- What the reference's SplitLines computes. -/
namespace Go.Proofs.YtdnjfpmngnkcfaaGreatDoor
open Go.RowKit

end Go.Proofs.YtdnjfpmngnkcfaaGreatDoor
/- The words of a string, and the width of a rune. No program stands here. -/
namespace Go.Proofs.YtdnjfpmngnkcfaaGreatDoor

theorem get_in (s : ByteArray) (i : Nat) (h : i < s.size) : s.get! i = s[i]'h := by
  simp [ByteArray.get!, getElem!_pos, h]
  rfl
/-- a rune that is not ASCII is made of bytes that are not ASCII -/
theorem decode_bytes (s : ByteArray) (pos : Nat) (h : pos < s.size) (ha : 128 ≤ (s[pos]'h).toNat) :
    1 ≤ (Utf8.decode s pos).2 ∧ ∀ j, j < (Utf8.decode s pos).2 → ∃ hj : pos + j < s.size, 128 ≤ (s[pos + j]'hj).toNat := by
  have h0 : ∃ hj : pos + 0 < s.size, 128 ≤ (s[pos + 0]'hj).toNat := ⟨h, ha⟩
  have hcont : ∀ k, (decide (pos + k < s.size) && (s.get! (pos + k)).toNat / 64 == 2) = true → ∃ hj : pos + k < s.size, 128 ≤ (s[pos + k]'hj).toNat := by
    intro k hk
    rw [Bool.and_eq_true, decide_eq_true_eq, beq_iff_eq] at hk
    refine ⟨hk.1, ?_⟩
    have := hk.2
    rw [get_in s (pos + k) hk.1] at this
    omega
  have key : ∀ n, (∀ j, j < n → ∃ hj : pos + j < s.size, 128 ≤ (s[pos + j]'hj).toNat) → True := fun _ _ => trivial
  unfold Utf8.decode
  dsimp only
  have one : ∀ x : Nat, 1 ≤ (x, 1).2 ∧ ∀ j, j < (x, 1).2 → ∃ hj : pos + j < s.size, 128 ≤ (s[pos + j]'hj).toNat := by
    intro x
    refine ⟨Nat.le_refl _, fun j hj => ?_⟩
    have : j = 0 := by simp only at hj; omega
    subst this; exact h0
  split
  · rename_i hlt
    rw [show pos + 0 = pos from rfl, get_in s pos h] at hlt
    omega
  · split
    · rename_i hc
      rw [Bool.and_eq_true] at hc
      have c1 := hcont 1 hc.2
      split
      · refine ⟨by simp only; omega, fun j hj => ?_⟩
        simp only at hj
        match j, hj with
        | 0, _ => exact h0
        | 1, _ => exact c1
      · exact one _
    · split
      · rename_i hc
        rw [Bool.and_eq_true, Bool.and_eq_true] at hc
        have c1 := hcont 1 hc.1.2
        have c2 := hcont 2 hc.2
        split
        · refine ⟨by simp only; omega, fun j hj => ?_⟩
          simp only at hj
          match j, hj with
          | 0, _ => exact h0
          | 1, _ => exact c1
          | 2, _ => exact c2
        · exact one _
      · split
        · rename_i hc
          rw [Bool.and_eq_true, Bool.and_eq_true, Bool.and_eq_true] at hc
          have c1 := hcont 1 hc.1.1.2
          have c2 := hcont 2 hc.1.2
          have c3 := hcont 3 hc.2
          split
          · refine ⟨by simp only; omega, fun j hj => ?_⟩
            simp only at hj
            match j, hj with
            | 0, _ => exact h0
            | 1, _ => exact c1
            | 2, _ => exact c2
            | 3, _ => exact c3
          · exact one _
        · exact one _

def blank (c : UInt8) : Bool := c == 32 || c == 9
theorem blank_iff {c : UInt8} : blank c = true ↔ c.toNat = 32 ∨ c.toNat = 9 := by
  unfold blank
  rw [Bool.or_eq_true, beq_iff_eq, beq_iff_eq]
  constructor
  · rintro (h | h) <;> subst h
    · exact .inl rfl
    · exact .inr rfl
  · rintro (h | h)
    · exact .inl (UInt8.toNat_inj.1 (show c.toNat = (32 : UInt8).toNat from h))
    · exact .inr (UInt8.toNat_inj.1 (show c.toNat = (9 : UInt8).toNat from h))
/-- the words from position pos on, one begun at st if st is no negative number -/
def flds (s : ByteArray) : List UInt8 → Nat → Int → List ByteArray
  | [], _, st => if 0 ≤ st then [s.extract st.toNat s.size] else []
  | c :: r, pos, st =>
    if blank c then (if 0 ≤ st then s.extract st.toNat pos :: flds s r (pos + 1) (-1) else flds s r (pos + 1) (-1))
    else flds s r (pos + 1) (if st < 0 then pos else st)
def fldS (s : ByteArray) : List ByteArray := flds s (L s) 0 (-1)
theorem flds_word {s : ByteArray} {c : UInt8} {r : List UInt8} {pos : Nat} {st : Int} (h : blank c = true) (h0 : 0 ≤ st) : flds s (c :: r) pos st = s.extract st.toNat pos :: flds s r (pos + 1) (-1) := by
  rw [flds, if_pos h, if_pos h0]
theorem flds_gap {s : ByteArray} {c : UInt8} {r : List UInt8} {pos : Nat} {st : Int} (h : blank c = true) (h0 : st < 0) : flds s (c :: r) pos st = flds s r (pos + 1) (-1) := by
  rw [flds, if_pos h, if_neg (by omega)]
theorem flds_on {s : ByteArray} {c : UInt8} {r : List UInt8} {pos : Nat} {st : Int} (h : blank c = false) : flds s (c :: r) pos st = flds s r (pos + 1) (if st < 0 then pos else st) := by
  rw [flds, h]; rfl
/-- over a run of bytes that are no blanks -/
theorem flds_skip (s : ByteArray) (k : Nat) : ∀ (pos : Nat) (st : Int), 1 ≤ k → (∀ j, j < k → ∃ hj : pos + j < s.size, blank (s[pos + j]'hj) = false) →
    flds s ((L s).drop pos) pos st = flds s ((L s).drop (pos + k)) (pos + k) (if st < 0 then pos else st) := by
  induction k with
  | zero => intro pos st h; omega
  | succ k ih =>
    intro pos st _ hb
    obtain ⟨h0, b0⟩ := hb 0 (by omega)
    rw [L_drop s pos h0, flds_on (c := s[pos]'h0) b0]
    by_cases hk : k = 0
    · subst hk; rfl
    · rw [ih (pos + 1) _ (by omega) (fun j hj => by
        obtain ⟨hj', b⟩ := hb (j + 1) (by omega)
        exact ⟨by omega, by have e : pos + 1 + j = pos + (j + 1) := by omega
                            simp only [e]; exact b⟩)]
      rw [show pos + 1 + k = pos + (k + 1) by omega]
      congr 1
      by_cases hs : st < 0
      · rw [if_pos hs, if_neg (by omega)]
      · rw [if_neg hs, if_neg hs]
end Go.Proofs.YtdnjfpmngnkcfaaGreatDoor
/- What Fields of package numtext, and of the reference, computes: the words of a string. -/
namespace Go.Proofs.YtdnjfpmngnkcfaaGreatDoor
open Go.RowKit

theorem ret_strs {e : Ending} {v : Value} {w w' : World} {xs : List ByteArray} (h1 : e = .returned v) (h2 : Strs w' v xs) (h3 : Kept w w') : ∃ v, e = .returned v ∧ Strs w' v xs ∧ Kept w w' := ⟨v, h1, h2, h3⟩

end Go.Proofs.YtdnjfpmngnkcfaaGreatDoor
/- What the reference's Fields computes. -/
namespace Go.Proofs.YtdnjfpmngnkcfaaGreatDoor
open Go.RowKit

end Go.Proofs.YtdnjfpmngnkcfaaGreatDoor
/- What guerdonsame.Strings computes: whether two slices of strings read alike. -/
namespace Go.Proofs.YtdnjfpmngnkcfaaGreatDoor
open Go.RowKit

theorem neq_str (X Y : ByteArray) : (X.toList == Y.toList) = decide (X = Y) := by
  rw [toList_L, toList_L]
  by_cases h : X = Y
  · rw [h]; simp
  · have : L X ≠ L Y := fun e => h (L_inj.1 e)
    simp [h, this]
end Go.Proofs.YtdnjfpmngnkcfaaGreatDoor
/- The exported functions of numtext and of its reference, and the fixed examples of the chapter: awake returns true. -/
namespace Go.Proofs.YtdnjfpmngnkcfaaGreatDoor
open Go.RowKit

theorem parseInt_any (s : ByteArray) (hs : s.size ≤ 1000000) (w : World) :
    Calls Tryz.prog 77 #[.string s] w fun e w' => e = .returned (.tuple #[.int .i64 (parP (L s) 0).1, .int .i64 (parP (L s) 0).2]) ∧ Kept w w' := by
  have HP := Lib.hid (fun w => parse_num s 0 hs (by omega) (by omega) w)
  generalize parP (L s) 0 = r at *
  go_enter Tryz.func77, Tryz.ntmps77
  go_wp2_with (go_at_call 97; refine (HP.out _).mono ?_; rintro e w' ⟨rfl, hk⟩)
  go_ret2
  exact ⟨rfl, hk⟩
theorem parseFixed_any (s : ByteArray) (p : Int) (hs : s.size ≤ 1000000) (w : World) :
    Calls Tryz.prog 76 #[.string s, .int .i64 p] w fun e w' => e = .returned (.tuple #[.int .i64 (refP (L s) p).1, .int .i64 (refP (L s) p).2]) ∧ Kept w w' := by
  rw [← parP_refP]
  obtain ⟨q, hq⟩ : ∃ q, max 0 (min p 9) = q := ⟨_, rfl⟩
  have HQ := Lib.hid (fun w => (hq ▸ clamp_any p w : Calls Tryz.prog 70 #[.int .i64 p] w fun e w' => e = .returned (.int .i64 q) ∧ w = w'))
  have HP := Lib.hid (fun w => parse_num s q hs (by omega) (by omega) w)
  rw [hq]
  clear hq
  generalize parP (L s) q = r at *
  go_enter Tryz.func76, Tryz.ntmps76
  go_wp2_with (first
    | (go_at_call 70; refine (HQ.out _).mono ?_; rintro e w' ⟨rfl, rfl⟩)
    | (go_at_call 97; refine (HP.out _).mono ?_; rintro e w' ⟨rfl, hk⟩))
  go_ret2
  exact ⟨rfl, hk⟩
theorem strs_lit2 (w : World) (a b : ByteArray) : Strs (w.alloc (.cells #[.string a, .string b] 9)) (.slice (some ⟨w.heap.size, 0, none⟩) 2 2) [a, b] := by
  refine ⟨_, _, rfl, fun _ => ⟨w.heap.size, 0, rfl, by simp, fun j hj => ?_⟩⟩
  match j, hj with
  | 0, _ => simp
  | 1, _ => simp
theorem ex_lines : linR ⟨#[97, 10, 98, 10]⟩ = ([⟨#[97]⟩, ⟨#[98]⟩], 0) := by rfl
theorem ex_fields : fldS ⟨#[32, 97, 9, 98, 99, 32]⟩ = [⟨#[97]⟩, ⟨#[98, 99]⟩] := by rfl
theorem ex_int : parP (L ⟨#[48, 48, 55]⟩) 0 = (0, 2) := by decide
theorem ex_fix : refP (L ⟨#[45, 48, 46, 48, 53]⟩) 2 = (-5, 0) := by decide
theorem ex_dig : absD (-5) = [53] := by
  rw [absD, Lib.decDigits, dif_pos (by decide)]; rfl
theorem ex_numS : numS (-5) = ⟨#[45, 53]⟩ := by rw [numS_neg (by decide), ex_dig]; rfl
theorem ex_fixS : fixS (-5) (max 0 (min 2 9)) = ⟨#[45, 48, 46, 48, 53]⟩ := by
  rw [fixS, if_neg (by decide), fixT, padD, ex_dig]; rfl

end Go.Proofs.YtdnjfpmngnkcfaaGreatDoor
/- A list of enumerations that came in: the members of each. -/
namespace Go.Proofs.YtdnjfpmngnkcfaaGreatDoor
open Go.RowKit

/-- the slice value v reads as enumerations with the members ms -/
def Enums (w : World) (v : Value) (ms : List (List ByteArray)) : Prop :=
  ∃ A cap, v = .slice A ms.length cap ∧ ms.length ≤ 9223372036854775807 ∧ (0 < ms.length → ∃ b off, A = some ⟨b, off, none⟩ ∧ b < w.heap.size ∧
    ∀ j l, ms[j]? = some l → l.length ≤ 9223372036854775807 ∧ ∃ mv, w.cell? ⟨b, off + j * 2 + 1, none⟩ = some mv ∧ Strs w mv l)
theorem Enums.kept {w w' : World} {v : Value} {ms : List (List ByteArray)} (h : Enums w v ms) (hk : Kept w w') : Enums w' v ms := by
  obtain ⟨A, cap, hv, hm, hx⟩ := h
  refine ⟨A, cap, hv, hm, fun hp => ?_⟩
  obtain ⟨b, off, hA, hb, hc⟩ := hx hp
  refine ⟨b, off, hA, Nat.lt_of_lt_of_le hb hk.size, fun j l hj => ?_⟩
  obtain ⟨hl, mv, h1, h2⟩ := hc j l hj
  exact ⟨hl, mv, hk.cell (p := ⟨b, off + j * 2 + 1, none⟩) hb h1, h2.kept hk⟩
theorem Enums.nil (w : World) : Enums w (.slice none 0 0) [] := ⟨none, 0, rfl, by decide, fun h => absurd h (by decide)⟩
/-- the members of the enumeration j -/
theorem Enums.at_ {w : World} {v : Value} {ms : List (List ByteArray)} (h : Enums w v ms) {j : Nat} (hj : j < ms.length) :
    ∃ (b off cap n : Nat) (B : Option Addr) (c : Nat) (l : List ByteArray), ms[j]? = some l ∧ l.length = n ∧ n ≤ 9223372036854775807 ∧ v = .slice (some ⟨b, off, none⟩) ms.length cap ∧ b < w.heap.size ∧ w.cell? ⟨b, off + j * 2 + 1, none⟩ = some (.slice B n c) ∧
      (0 < n → ∃ b2 off2, B = some ⟨b2, off2, none⟩ ∧ b2 < w.heap.size ∧ ∀ i, i < n → w.cell? ⟨b2, off2 + i, none⟩ = some (.string (l[i]?.getD ⟨#[]⟩))) := by
  obtain ⟨A, cap, rfl, hm, hx⟩ := h
  obtain ⟨b, off, rfl, hb, hc⟩ := hx (by omega)
  have hg : ms[j]? = some ms[j] := List.getElem?_eq_getElem hj
  obtain ⟨hl, mv, h1, B, c, rfl, h2⟩ := hc j _ hg
  exact ⟨b, off, cap, _, B, c, _, hg, rfl, hl, rfl, hb, h1, h2⟩
end Go.Proofs.YtdnjfpmngnkcfaaGreatDoor
/- What package value, and its reference, compute: types and bounds. -/
namespace Go.Proofs.YtdnjfpmngnkcfaaGreatDoor
open Go.RowKit

theorem beq_no {a b : Int} (h : a ≠ b) : (a == b) = false := by simpa using h
/-- the ways through a type -/
theorem vt_cases (k e : Int) (ms : List (List ByteArray)) : ((k = 1 ∨ k = 2 ∨ k = 3 ∨ k = 4 ∨ k = 5) ∧ (e = 0 ∧ vtB k e ms = true ∨ (e == 0) = false ∧ vtB k e ms = false)) ∨ (k = 6 ∧ (e < 0 ∧ vtB k e ms = false ∨ ∃ j : Nat, e = j ∧ (decide (j < ms.length) = true ∧ vtB k e ms = true ∨ decide (j < ms.length) = false ∧ vtB k e ms = false))) ∨
    ((k < 1 ∨ 6 < k) ∧ vtB k e ms = false) := by
  by_cases h6 : k = 6
  · subst h6
    refine .inr (.inl ⟨rfl, ?_⟩)
    rw [vtB_six]
    by_cases he : e < 0
    · exact .inl ⟨he, by rw [decide_eq_false (by omega)]; rfl⟩
    · refine .inr ⟨e.toNat, by omega, ?_⟩
      rw [decide_eq_true (show 0 ≤ e by omega), Bool.true_and]
      by_cases hj : e.toNat < ms.length
      · exact .inl ⟨decide_eq_true hj, decide_eq_true (by omega)⟩
      · exact .inr ⟨decide_eq_false hj, decide_eq_false (by omega)⟩
  · rw [vtB_low h6]
    by_cases hk : 1 ≤ k ∧ k ≤ 5
    · refine .inl ⟨by omega, ?_⟩
      rw [decide_eq_true hk.1, decide_eq_true hk.2]
      by_cases he : e = 0
      · exact .inl ⟨he, by simp [he]⟩
      · exact .inr ⟨beq_no he, by simp [he]⟩
    · refine .inr (.inr ⟨by omega, ?_⟩)
      by_cases h1 : 1 ≤ k
      · rw [decide_eq_true h1, decide_eq_false (show ¬ k ≤ 5 by omega)]; rfl
      · rw [decide_eq_false h1]; rfl
set_option maxRecDepth 100000 in
set_option maxHeartbeats 4000000 in
theorem vtype_any (k e : Int) (v : Value) (ms : List (List ByteArray)) (w : World) (hE : Enums w v ms) :
    Calls Tryz.prog 53 #[.agg #[.int .i64 k, .int .i64 e], v] w fun r w' => r = .returned (.bool (vtB k e ms)) ∧ Kept w w' := by
  obtain ⟨A, cap, rfl, hm, _⟩ := hE
  rcases vt_cases k e ms with ⟨hk, ⟨rfl, hv⟩ | ⟨he, hv⟩⟩ | ⟨rfl, ⟨he, hv⟩ | ⟨j, rfl, ⟨hj, hv⟩ | ⟨hj, hv⟩⟩⟩ | ⟨hk, hv⟩
  iterate 2
    · have HV := Lib.hid hv; clear hv
      rcases hk with rfl | rfl | rfl | rfl | rfl
      all_goals
        go_enter Tryz.func53, Tryz.ntmps53
        go_wp2_with fail
        go_ret
        rw [HV.out]
        exact ⟨rfl, (Kept.refl _).alloc _⟩
  iterate 3
    · have HV := Lib.hid hv; clear hv
      go_enter Tryz.func53, Tryz.ntmps53
      go_wp2_with fail
      go_ret
      rw [HV.out]
      first | exact ⟨rfl, (Kept.refl _).alloc _⟩ | exact ⟨ret_bool hj, (Kept.refl _).alloc _⟩
  · have HV := Lib.hid hv; clear hv
    have k1 := beq_no (show k ≠ 1 by omega)
    have k2 := beq_no (show k ≠ 2 by omega)
    have k3 := beq_no (show k ≠ 3 by omega)
    have k4 := beq_no (show k ≠ 4 by omega)
    have k5 := beq_no (show k ≠ 5 by omega)
    have k6 := beq_no (show k ≠ 6 by omega)
    go_enter Tryz.func53, Tryz.ntmps53
    go_wp2_with fail
    go_ret
    rw [HV.out]
    exact ⟨rfl, (Kept.refl _).alloc _⟩
/-- a valid type -/
theorem vt_true {k e : Int} {ms : List (List ByteArray)} (h : vtB k e ms = true) : ((k = 1 ∨ k = 2 ∨ k = 3 ∨ k = 4 ∨ k = 5) ∧ e = 0) ∨ (k = 6 ∧ ∃ j : Nat, e = j ∧ j < ms.length) := by
  rcases vtB_cases h with ⟨he, hk⟩ | ⟨hk, h0, h1⟩
  · exact .inl ⟨hk, he⟩
  · exact .inr ⟨hk, e.toNat, by omega, by omega⟩
end Go.Proofs.YtdnjfpmngnkcfaaGreatDoor
/- What package value, and its reference, compute: bounds, valid values. -/
namespace Go.Proofs.YtdnjfpmngnkcfaaGreatDoor
open Go.RowKit

set_option maxRecDepth 100000 in
set_option maxHeartbeats 4000000 in
theorem bounds_any (k e : Int) (v : Value) (ms : List (List ByteArray)) (w : World) (hE : Enums w v ms) :
    Calls Tryz.prog 68 #[.agg #[.int .i64 k, .int .i64 e], v] w fun r w' => r = .returned (.tuple #[.int .i64 (bndS k e ms).1, .int .i64 (bndS k e ms).2]) ∧ Kept w w' := by
  have hE1 := fun o => hE.kept ((Kept.refl w).alloc o)
  have hT := Lib.hid (fun w h => vtype_any k e v ms w h)
  cases hv : vtB k e ms
  · have HR := Lib.hid (show bndS k e ms = (0, -1) by rw [bndS, hv]; rfl)
    rw [hv] at hT
    clear hv
    go_enter Tryz.func68, Tryz.ntmps68
    go_wp2_with (go_at_call 53; refine (hT.out _ (hE1 _)).mono ?_; rintro r w1 ⟨rfl, hk⟩)
    go_ret2
    rw [HR.out]
    exact ⟨rfl, ((Kept.refl _).alloc _).trans hk⟩
  · have HR := Lib.hid (show bndS k e ms = bndV k e ms by rw [bndS, hv]; rfl)
    rw [hv] at hT
    have hc := vt_true hv
    clear hv
    rcases hc with ⟨hk, rfl⟩ | ⟨rfl, j, rfl, hj⟩
    · rcases hk with rfl | rfl | rfl | rfl | rfl
      all_goals
        go_enter Tryz.func68, Tryz.ntmps68
        go_wp2_with (go_at_call 53; refine (hT.out _ (hE1 _)).mono ?_; rintro r w1 ⟨rfl, hk⟩; have B := hk.blk1; have c0 := B.cell 0)
        go_ret2
        rw [HR.out]
        exact ⟨rfl, ((Kept.refl _).alloc _).trans hk⟩
    · obtain ⟨b, off, cap, n, B2, c2, l, hl, hn, hn9, rfl, hb, hcl, _⟩ := hE.at_ hj
      have hm := hE
      obtain ⟨_, _, _, hm, _⟩ := hm
      have HV := Lib.hid (show bndV 6 (j : Int) ms = (0, (n : Int) - 1) by
        show (0, ((memS (j : Int) ms).length : Int) - 1) = _
        rw [memS, Int.toNat_natCast, hl, ← hn]; rfl)
      clear hl hn
      go_enter Tryz.func68, Tryz.ntmps68
      go_wp2_with (go_at_call 53; refine (hT.out _ (hE1 _)).mono ?_; rintro r w1 ⟨rfl, hk⟩; have B := hk.blk1; have c0 := B.cell 0)
      have c1 := KW.cell B.lt (B.cell 1)
      have hkl := KW.cell (Nat.lt_of_lt_of_le hb (((Kept.refl w).alloc _).trans hk).size) ((((Kept.refl w).alloc _).trans hk).cell (p := ⟨b, off + j * 2 + 1, none⟩) hb hcl)
      have hji : (j : Int) < ms.length := by omega
      refine wp_region_kept (by kernel_rfl) (by kernel_rfl) ?_
      repeat (go_big_quiet_step (fail))
      refine wpQuiet_nil ?_
      rintro _ ⟨⟨wx, hx2⟩, rfl⟩
      go_wp2_with fail
      go_ret2
      rw [HR.out, HV.out]
      exact ⟨rfl, (((Kept.refl _).alloc _).trans hk).trans hx2⟩

set_option maxRecDepth 100000 in
set_option maxHeartbeats 4000000 in
theorem within_any (n k e : Int) (v : Value) (ms : List (List ByteArray)) (w : World) (hE : Enums w v ms) :
    Calls Tryz.prog 54 #[.int .i64 n, .agg #[.int .i64 k, .int .i64 e], v] w fun r w' => r = .returned (.bool (inB n k e ms)) ∧ Kept w w' := by
  have hE1 := fun o => hE.kept ((Kept.refl w).alloc o)
  have hT := Lib.hid (fun w h => bounds_any k e v ms w h)
  unfold inB
  generalize bndS k e ms = r at *
  obtain ⟨lo, hi⟩ := r
  dsimp only at hT ⊢
  by_cases h1 : lo ≤ n
  · by_cases h2 : n ≤ hi
    · have HR := Lib.hid (show (decide (lo ≤ n) && decide (n ≤ hi)) = true by rw [decide_eq_true h1, decide_eq_true h2]; rfl)
      go_enter Tryz.func54, Tryz.ntmps54
      go_wp2_with (go_at_call 68; refine (hT.out _ (hE1 _)).mono ?_; rintro r w1 ⟨rfl, hk⟩)
      go_ret
      rw [HR.out]
      exact ⟨rfl, ((Kept.refl _).alloc _).trans hk⟩
    · have HR := Lib.hid (show (decide (lo ≤ n) && decide (n ≤ hi)) = false by rw [decide_eq_true h1, decide_eq_false h2]; rfl)
      have h3 := decide_eq_false h2
      go_enter Tryz.func54, Tryz.ntmps54
      go_wp2_with (go_at_call 68; refine (hT.out _ (hE1 _)).mono ?_; rintro r w1 ⟨rfl, hk⟩)
      go_ret
      rw [HR.out]
      exact ⟨rfl, ((Kept.refl _).alloc _).trans hk⟩
  · have HR := Lib.hid (show (decide (lo ≤ n) && decide (n ≤ hi)) = false by rw [decide_eq_false h1]; rfl)
    go_enter Tryz.func54, Tryz.ntmps54
    go_wp2_with (go_at_call 68; refine (hT.out _ (hE1 _)).mono ?_; rintro r w1 ⟨rfl, hk⟩)
    go_ret
    rw [HR.out]
    exact ⟨rfl, ((Kept.refl _).alloc _).trans hk⟩

end Go.Proofs.YtdnjfpmngnkcfaaGreatDoor
/- What package value, and its reference, compute: valid values. -/
namespace Go.Proofs.YtdnjfpmngnkcfaaGreatDoor
open Go.RowKit

end Go.Proofs.YtdnjfpmngnkcfaaGreatDoor
/- Plain laws of typed values: texts are read back, parsed texts are canonical. -/
namespace Go.Proofs.YtdnjfpmngnkcfaaGreatDoor

theorem mul_split {x y u v P : Nat} (hu : u < P) (hv : v < P) (h : x * P + u = y * P + v) : x = y ∧ u = v := by
  have hxy : x = y := by
    rcases Nat.lt_trichotomy x y with hl | hl | hl
    · have := Nat.mul_le_mul_right P (show x + 1 ≤ y from hl)
      rw [Nat.succ_mul] at this
      omega
    · exact hl
    · have := Nat.mul_le_mul_right P (show y + 1 ≤ x from hl)
      rw [Nat.succ_mul] at this
      omega
  subst hxy
  exact ⟨rfl, by omega⟩
theorem val_inj : ∀ {a b : List UInt8}, a.all isDig = true → b.all isDig = true → a.length = b.length → val a 0 = val b 0 → a = b
  | [], [], _, _, _, _ => rfl
  | [], _ :: _, _, _, h, _ => by simp at h
  | _ :: _, [], _, _, h, _ => by simp at h
  | c :: r, d :: t, ha, hb, hl, hv => by
    simp only [List.all_cons, Bool.and_eq_true] at ha hb
    simp only [List.length_cons, Nat.add_right_cancel_iff] at hl
    have e1 : val (c :: r) 0 = dval c * 10 ^ r.length + val r 0 := by rw [show val (c :: r) 0 = val r (10 * 0 + dval c) from rfl, val_acc]; simp
    have e2 : val (d :: t) 0 = dval d * 10 ^ r.length + val t 0 := by rw [show val (d :: t) 0 = val t (10 * 0 + dval d) from rfl, val_acc, hl]; simp
    rw [e1, e2] at hv
    obtain ⟨h1, h2⟩ := mul_split (val_lt ha.2) (by rw [hl]; exact val_lt hb.2) hv
    have hcd : c = d := by rw [← of_dval ha.1, ← of_dval hb.1, h1]
    rw [hcd, val_inj ha.2 hb.2 hl h2]
theorem digV_inj {a b : List UInt8} (ha : digB a = true) (hb : digB b = true) (hl : a.length = b.length) (h : digV a = digV b) : a = b := by
  rw [digV_yes ha, digV_yes hb] at h
  exact val_inj ha hb hl (by omega)
theorem dparS_canon {s : ByteArray} {n : Int} (h : dparS s = (n, 0)) : isDate n = true ∧ dateS n = s := by
  cases hB : dparB s
  · rw [dparS_no hB] at h
    simp at h
  · rw [dparS_yes hB] at h
    have hB' := hB
    unfold dparB at hB
    simp only [Bool.and_eq_true, decide_eq_true_eq, beq_iff_eq] at hB
    obtain ⟨hz, h4, h7, d1, d2, d3⟩ := hB
    cases hy : ymdB (digV (L (s.extract 0 4))) (digV (L (s.extract 5 7))) (digV (L (s.extract 8 10)))
    · rw [fromS_no hy] at h
      simp at h
    · rw [fromS_of hy] at h
      obtain ⟨hn, _⟩ := Prod.mk.inj h
      have hb := dayNo_bd hy
      have hd : isDate n = true := isDate_iff.2 (by omega)
      have ht := toS_eq hy hn
      refine ⟨hd, ?_⟩
      have hb2 := toS_bd hd
      have hdl := dimS_le (toS n).1 (toS n).2.1
      obtain ⟨a, ea, la, da, va⟩ := padS_dig (n := (toS n).1) (k := 4) (by omega) (by omega) (by show (toS n).1.toNat < 10000; omega)
      obtain ⟨b, eb, lb, db, vb⟩ := padS_dig (n := (toS n).2.1) (k := 2) (by omega) (by omega) (by show (toS n).2.1.toNat < 100; omega)
      obtain ⟨c, ec, lc, dc, vc⟩ := padS_dig (n := (toS n).2.2) (k := 2) (by omega) (by omega) (by show (toS n).2.2.toNat < 100; omega)
      have e : dateS n = bs (a ++ [45] ++ b ++ [45] ++ c) := by
        rw [dateS_yes hd, ea, eb, ec]
        show bs a ++ bs [45] ++ bs b ++ bs [45] ++ bs c = _
        rw [bs_append, bs_append, bs_append, bs_append]
      rw [ht] at va vb vc
      dsimp only at va vb vc
      have s1 : (L (s.extract 0 4)).length = 4 := by rw [L_length, ext_size _ _ _ (by omega)]
      have s2 : (L (s.extract 5 7)).length = 2 := by rw [L_length, ext_size _ _ _ (by omega)]
      have s3 : (L (s.extract 8 10)).length = 2 := by rw [L_length, ext_size _ _ _ (by omega)]
      have q1 := digV_inj da d1 (by rw [la, s1]; rfl) va
      have q2 := digV_inj db d2 (by rw [lb, s2]; rfl) vb
      have q3 := digV_inj dc d3 (by rw [lc, s3]; rfl) vc
      rw [e, q1, q2, q3, L_extract, L_extract, L_extract, ← L_inj, L_bs]
      have hl : (L s).length = 10 := by rw [L_length]; exact hz
      generalize L s = l at hl h4 h7 ⊢
      match l, hl with
      | [x0, x1, x2, x3, x4, x5, x6, x7, x8, x9], _ =>
        simp only [List.getElem?_cons_zero, List.getElem?_cons_succ, Option.some.injEq] at h4 h7
        subst h4 h7
        rfl

theorem rt_in {n : Int} (h0 : -1000000000000000 ≤ n) (h1 : n ≤ 1000000000000000) : rt n = (n, 0) := by rw [rt, if_neg (by omega)]
theorem inB_iff {n k e : Int} {ms : List (List ByteArray)} (hv : vtB k e ms = true) : inB n k e ms = true ↔ (bndV k e ms).1 ≤ n ∧ n ≤ (bndV k e ms).2 := by
  rw [inB, bndS, if_pos hv]
  simp
theorem last_snoc (l : List UInt8) (c : UInt8) : (l ++ [c]).getLast? = some c ∧ (l ++ [c]).dropLast = l := ⟨by simp, by simp⟩

/-- the text of a valid value is read back: for an enumeration as the first member of the name -/
theorem vnum_text {k e n : Int} {ms : List (List ByteArray)} (hv : vtB k e ms = true) (hi : inB n k e ms = true) :
    (k ≠ 6 → vnumS (vtext k e n ms) k e ms = (n, 0)) ∧ (k = 6 → ∃ i : Nat, (i : Int) ≤ n ∧ vnumS (vtext k e n ms) k e ms = ((i : Int), 0) ∧ (memS e ms)[i]? = some (vtext k e n ms)) := by
  have hb := (inB_iff hv).1 hi
  rcases vtB_cases hv with ⟨he, h⟩ | ⟨rfl, he0, he1⟩
  · rcases h with rfl | rfl | rfl | rfl | rfl
    · refine ⟨fun _ => ?_, fun h => absurd h (by decide)⟩
      obtain ⟨h0, h1⟩ : 0 ≤ n ∧ n ≤ 1 := hb
      obtain rfl | rfl : n = 0 ∨ n = 1 := by omega
      · rfl
      · rfl
    · refine ⟨fun _ => ?_, fun h => absurd h (by decide)⟩
      obtain ⟨h0, h1⟩ : -1000000000000 ≤ n ∧ n ≤ 1000000000000 := hb
      show refI (L (numS n)) = _
      rw [refI_num, rt_in (by omega) (by omega)]
    · refine ⟨fun _ => ?_, fun h => absurd h (by decide)⟩
      obtain ⟨h0, h1⟩ : -1000000000000000 ≤ n ∧ n ≤ 1000000000000000 := hb
      show refP (L (fixS n (max 0 (min 2 9)))) 2 = _
      rw [refP_num, rt_in (by omega) (by omega)]
    · refine ⟨fun _ => ?_, fun h => absurd h (by decide)⟩
      obtain ⟨h0, h1⟩ : -1000000000 ≤ n ∧ n ≤ 1000000000 := hb
      show (if (L (fixS n 4 ++ ⟨#[37]⟩)).getLast? = some 37 then refP (L (fixS n 4 ++ ⟨#[37]⟩)).dropLast 4 else (0, 2)) = _
      rw [L_append, show L ⟨#[37]⟩ = [37] from rfl, (last_snoc _ _).1, (last_snoc _ _).2, if_pos rfl]
      show refP (L (fixS n (max 0 (min 4 9)))) 4 = _
      rw [refP_num, rt_in (by omega) (by omega)]
    · refine ⟨fun _ => ?_, fun h => absurd h (by decide)⟩
      obtain ⟨h0, h1⟩ : 0 ≤ n ∧ n ≤ 109572 := hb
      exact dparS_dateS (isDate_iff.2 ⟨h0, h1⟩)
  · refine ⟨fun h => absurd rfl h, fun _ => ?_⟩
    have h2 : 0 ≤ n ∧ n ≤ ((memS e ms).length : Int) - 1 := hb
    have hg : (memS e ms)[n.toNat]? = some (vtext 6 e n ms) := by
      show _ = some ((memS e ms)[n.toNat]?.getD ⟨#[]⟩)
      rw [List.getElem?_eq_getElem (by omega)]
      rfl
    show ∃ i : Nat, (i : Int) ≤ n ∧ (match findS (vtext 6 e n ms) (memS e ms) 0 with | some i => ((i : Int), (0 : Int)) | none => (0, 6)) = _ ∧ _
    cases hf : findS (vtext 6 e n ms) (memS e ms) 0 with
    | none => exact absurd hg (findS_none hf n.toNat)
    | some j =>
      obtain ⟨_, h4, h5⟩ := findS_some hf
      refine ⟨j, ?_, rfl, by simpa using h4⟩
      rcases Nat.lt_or_ge n.toNat j with hl | hl
      · exact absurd hg (h5 n.toNat (by omega))
      · omega
/-- a text that can be parsed is the text of its value -/
theorem vtext_num {s : ByteArray} {k e n : Int} {ms : List (List ByteArray)} (hv : vtB k e ms = true) (h : vnumS s k e ms = (n, 0)) : vtext k e n ms = s := by
  rcases vtB_cases hv with ⟨he, hk⟩ | ⟨rfl, he0, he1⟩
  · rcases hk with rfl | rfl | rfl | rfl | rfl
    · change (if s = ⟨#[102, 97, 108, 115, 101]⟩ then ((0 : Int), (0 : Int)) else if s = ⟨#[116, 114, 117, 101]⟩ then (1, 0) else (0, 2)) = _ at h
      split at h
      · obtain rfl : 0 = n := congrArg Prod.fst h
        subst s; rfl
      · split at h
        · obtain rfl : 1 = n := congrArg Prod.fst h
          subst s; rfl
        · exact absurd (show (2 : Int) = 0 from congrArg Prod.snd h) (by decide)
    · exact L_inj.1 (refI_canon h)
    · exact refP_canon (p := 2) h
    · change (if (L s).getLast? = some 37 then refP (L s).dropLast 4 else (0, 2)) = _ at h
      split at h
      · rename_i hl
        rw [← L_bs (L s).dropLast] at h
        have h2 : fixS n 4 = bs (L s).dropLast := refP_canon (p := 4) h
        show fixS n 4 ++ ⟨#[37]⟩ = s
        rw [h2, ← L_inj, L_append, L_bs]
        show (L s).dropLast ++ [37] = L s
        have hne : L s ≠ [] := by intro hc; rw [hc] at hl; simp at hl
        have := List.dropLast_concat_getLast hne
        rw [List.getLast?_eq_some_getLast hne] at hl
        rw [Option.some.inj hl] at this
        exact this
      · exact absurd (show (2 : Int) = 0 from congrArg Prod.snd h) (by decide)
    · exact (dparS_canon h).2
  · change (match findS s (memS e ms) 0 with | some i => ((i : Int), (0 : Int)) | none => (0, 6)) = _ at h
    cases hf : findS s (memS e ms) 0 with
    | none => rw [hf] at h; exact absurd (show (6 : Int) = 0 from congrArg Prod.snd h) (by decide)
    | some j =>
      rw [hf] at h
      obtain rfl : (j : Int) = n := congrArg Prod.fst h
      obtain ⟨_, h4, _⟩ := findS_some hf
      show (memS e ms)[(j : Int).toNat]?.getD ⟨#[]⟩ = s
      rw [Int.toNat_natCast, show (memS e ms)[j]? = some s by simpa using h4]
      rfl
end Go.Proofs.YtdnjfpmngnkcfaaGreatDoor
/- What Format of package value, and of its reference, computes. -/
namespace Go.Proofs.YtdnjfpmngnkcfaaGreatDoor
open Go.RowKit

theorem fixS_small (n : Int) (p : Int) (h0 : -9223372036854775808 ≤ n) (h1 : n ≤ 9223372036854775807) (hp : p ≤ 9) : (fixS n p).size ≤ 1000000 := by
  have hl := absD_len n h0 h1
  unfold fixS
  split
  · have := numS_size n h0 h1; omega
  · rw [bs_size, fixT, List.length_append, List.length_append, List.length_append, List.length_take, List.length_drop, padD, List.length_append, List.length_replicate, sgn]
    split <;> simp <;> omega
theorem inB_six {n : Int} {j : Nat} {ms : List (List ByteArray)} {l : List ByteArray} (hl : ms[j]? = some l) (hv : vtB 6 j ms = true) : inB n 6 j ms = (decide (0 ≤ n) && decide (n ≤ (l.length : Int) - 1)) := by
  rw [inB, bndS, if_pos hv]
  show (decide (0 ≤ n) && decide (n ≤ ((memS (j : Int) ms).length : Int) - 1)) = _
  rw [memS, Int.toNat_natCast, hl]; rfl
theorem str_ret {a b : ByteArray} {c d : Int} (h : (a, c) = (b, d)) : Ending.returned (.tuple #[.string a, .int .i64 c]) = Ending.returned (.tuple #[.string b, .int .i64 d]) := by
  obtain ⟨rfl, rfl⟩ := Prod.mk.inj h; rfl

set_option maxRecDepth 100000 in
set_option maxHeartbeats 8000000 in
theorem vformat_any (k e n : Int) (v : Value) (ms : List (List ByteArray)) (w : World) (hE : Enums w v ms) (h0 : -9223372036854775808 ≤ n) (h1 : n ≤ 9223372036854775807) (hM : Mon w) (hP : Pow w) :
    Calls Tryz.prog 41 #[.agg #[.int .i64 k, .int .i64 e, .int .i64 n], v] w fun r w' => r = .returned (.tuple #[.string (vfmtS k e n ms).1, .int .i64 (vfmtS k e n ms).2]) ∧ Kept w w' := by
  have hE1 := fun w' (h : Kept w w') => hE.kept h
  have hT := Lib.hid (fun w h => vtype_any k e v ms w h)
  have hI := Lib.hid (fun w h => within_any n k e v ms w h)
  have hF2 := Lib.hid (fun w hP => fmtInt_any n h0 h1 w hP)
  have hF5 := Lib.hid (fun w hM hP => format_any n w hM hP)
  cases hv : vtB k e ms
  · have HR := Lib.hid (show vfmtS k e n ms = (⟨#[]⟩, 8) by rw [vfmtS, hv]; rfl)
    rw [hv] at hT
    clear hv
    go_enter Tryz.func41, Tryz.ntmps41
    go_wp2_with (first
      | (go_at_call 53; refine (hT.out _ (hE1 _ (((Kept.refl _).alloc _).alloc _))).mono ?_; rintro r w1 ⟨rfl, hk⟩; have hK := (((Kept.refl _).alloc _).alloc _).trans hk; have B := hk.blk2.1; have B2 := hk.blk2.2; have c1 := B.cell 2; have c2 := B2.cell 0; have c3 := B2.cell 1; have B2lt := B2.lt; clear hk)
      | (go_at_call 54; refine (hI.out _ (hE1 _ hK)).mono ?_; rintro r w2 ⟨rfl, hk2⟩; have hK := hK.trans hk2; have B := B.kept hk2; have c0 := B.cell 0; have c1 := B.cell 2; clear hk2)
      | (go_at_call 55; refine (hF2.out _ (hP.kept hK)).mono ?_; rintro r w3 ⟨rfl, hk3⟩; have hK := hK.trans hk3)
      | (go_at_call 56; refine (hF3.out _ (hP.kept hK)).mono ?_; rintro r w3 ⟨rfl, hk3⟩; have hK := hK.trans hk3)
      | (go_at_call 57; refine (hF5.out _ (hM.kept hK) (hP.kept hK)).mono ?_; rintro r w3 ⟨rfl, hk3⟩; have hK := hK.trans hk3))
    go_ret2
    rw [HR.out]
    exact ⟨rfl, hK⟩
  cases hi : inB n k e ms
  · have HR := Lib.hid (show vfmtS k e n ms = (⟨#[]⟩, 3) by rw [vfmtS, hv, hi]; rfl)
    rw [hv] at hT
    rw [hi] at hI
    clear hv hi
    go_enter Tryz.func41, Tryz.ntmps41
    go_wp2_with (first
      | (go_at_call 53; refine (hT.out _ (hE1 _ (((Kept.refl _).alloc _).alloc _))).mono ?_; rintro r w1 ⟨rfl, hk⟩; have hK := (((Kept.refl _).alloc _).alloc _).trans hk; have B := hk.blk2.1; have B2 := hk.blk2.2; have c1 := B.cell 2; have c2 := B2.cell 0; have c3 := B2.cell 1; have B2lt := B2.lt; clear hk)
      | (go_at_call 54; refine (hI.out _ (hE1 _ hK)).mono ?_; rintro r w2 ⟨rfl, hk2⟩; have hK := hK.trans hk2; have B := B.kept hk2; have c0 := B.cell 0; have c1 := B.cell 2; clear hk2)
      | (go_at_call 55; refine (hF2.out _ (hP.kept hK)).mono ?_; rintro r w3 ⟨rfl, hk3⟩; have hK := hK.trans hk3)
      | (go_at_call 56; refine (hF3.out _ (hP.kept hK)).mono ?_; rintro r w3 ⟨rfl, hk3⟩; have hK := hK.trans hk3)
      | (go_at_call 57; refine (hF5.out _ (hM.kept hK) (hP.kept hK)).mono ?_; rintro r w3 ⟨rfl, hk3⟩; have hK := hK.trans hk3))
    go_ret2
    rw [HR.out]
    exact ⟨rfl, hK⟩
  have HR := Lib.hid (show vfmtS k e n ms = (vtext k e n ms, 0) by rw [vfmtS, hv, hi]; rfl)
  rw [hv] at hT
  rw [hi] at hI
  rcases vt_true hv with ⟨hk, rfl⟩ | ⟨rfl, j, rfl, hj⟩
  · have hb := (inB_iff hv).1 hi
    clear hv hi
    rcases hk with rfl | rfl | rfl | rfl | rfl
    · obtain ⟨b0, b1⟩ : 0 ≤ n ∧ n ≤ 1 := hb
      obtain rfl | rfl : n = 0 ∨ n = 1 := by omega
      all_goals
        go_enter Tryz.func41, Tryz.ntmps41
        go_wp2_with (first
      | (go_at_call 53; refine (hT.out _ (hE1 _ (((Kept.refl _).alloc _).alloc _))).mono ?_; rintro r w1 ⟨rfl, hk⟩; have hK := (((Kept.refl _).alloc _).alloc _).trans hk; have B := hk.blk2.1; have B2 := hk.blk2.2; have c1 := B.cell 2; have c2 := B2.cell 0; have c3 := B2.cell 1; have B2lt := B2.lt; clear hk)
      | (go_at_call 54; refine (hI.out _ (hE1 _ hK)).mono ?_; rintro r w2 ⟨rfl, hk2⟩; have hK := hK.trans hk2; have B := B.kept hk2; have c0 := B.cell 0; have c1 := B.cell 2; clear hk2)
      | (go_at_call 55; refine (hF2.out _ (hP.kept hK)).mono ?_; rintro r w3 ⟨rfl, hk3⟩; have hK := hK.trans hk3)
      | (go_at_call 56; refine (hF3.out _ (hP.kept hK)).mono ?_; rintro r w3 ⟨rfl, hk3⟩; have hK := hK.trans hk3)
      | (go_at_call 57; refine (hF5.out _ (hM.kept hK) (hP.kept hK)).mono ?_; rintro r w3 ⟨rfl, hk3⟩; have hK := hK.trans hk3))
        go_ret2
        rw [HR.out]
        exact ⟨rfl, hK⟩
    · go_enter Tryz.func41, Tryz.ntmps41
      go_wp2_with (first
      | (go_at_call 53; refine (hT.out _ (hE1 _ (((Kept.refl _).alloc _).alloc _))).mono ?_; rintro r w1 ⟨rfl, hk⟩; have hK := (((Kept.refl _).alloc _).alloc _).trans hk; have B := hk.blk2.1; have B2 := hk.blk2.2; have c1 := B.cell 2; have c2 := B2.cell 0; have c3 := B2.cell 1; have B2lt := B2.lt; clear hk)
      | (go_at_call 54; refine (hI.out _ (hE1 _ hK)).mono ?_; rintro r w2 ⟨rfl, hk2⟩; have hK := hK.trans hk2; have B := B.kept hk2; have c0 := B.cell 0; have c1 := B.cell 2; clear hk2)
      | (go_at_call 55; refine (hF2.out _ (hP.kept hK)).mono ?_; rintro r w3 ⟨rfl, hk3⟩; have hK := hK.trans hk3)
      | (go_at_call 56; refine (hF3.out _ (hP.kept hK)).mono ?_; rintro r w3 ⟨rfl, hk3⟩; have hK := hK.trans hk3)
      | (go_at_call 57; refine (hF5.out _ (hM.kept hK) (hP.kept hK)).mono ?_; rintro r w3 ⟨rfl, hk3⟩; have hK := hK.trans hk3))
      go_ret2
      rw [HR.out]
      exact ⟨rfl, hK⟩
    · have hF3 : Hid (∀ w, Pow w → Calls Tryz.prog 56 #[.int .i64 n, .int .i64 2] w fun e w' => e = .returned (.string (fixS n 2)) ∧ Kept w w') := Lib.hid (fun w hP => formatFixed_any n 2 h0 h1 w hP)
      go_enter Tryz.func41, Tryz.ntmps41
      go_wp2_with (first
      | (go_at_call 53; refine (hT.out _ (hE1 _ (((Kept.refl _).alloc _).alloc _))).mono ?_; rintro r w1 ⟨rfl, hk⟩; have hK := (((Kept.refl _).alloc _).alloc _).trans hk; have B := hk.blk2.1; have B2 := hk.blk2.2; have c1 := B.cell 2; have c2 := B2.cell 0; have c3 := B2.cell 1; have B2lt := B2.lt; clear hk)
      | (go_at_call 54; refine (hI.out _ (hE1 _ hK)).mono ?_; rintro r w2 ⟨rfl, hk2⟩; have hK := hK.trans hk2; have B := B.kept hk2; have c0 := B.cell 0; have c1 := B.cell 2; clear hk2)
      | (go_at_call 55; refine (hF2.out _ (hP.kept hK)).mono ?_; rintro r w3 ⟨rfl, hk3⟩; have hK := hK.trans hk3)
      | (go_at_call 56; refine (hF3.out _ (hP.kept hK)).mono ?_; rintro r w3 ⟨rfl, hk3⟩; have hK := hK.trans hk3)
      | (go_at_call 57; refine (hF5.out _ (hM.kept hK) (hP.kept hK)).mono ?_; rintro r w3 ⟨rfl, hk3⟩; have hK := hK.trans hk3))
      go_ret2
      rw [HR.out]
      exact ⟨rfl, hK⟩
    · have hF3 : Hid (∀ w, Pow w → Calls Tryz.prog 56 #[.int .i64 n, .int .i64 4] w fun e w' => e = .returned (.string (fixS n 4)) ∧ Kept w w') := Lib.hid (fun w hP => formatFixed_any n 4 h0 h1 w hP)
      have hz := fixS_small n 4 h0 h1 (by decide)
      have HT := Lib.hid (show vtext 4 0 n ms = fixS n 4 ++ ⟨#[37]⟩ from rfl)
      generalize fixS n 4 = X at *
      have hz2 : ¬ (9223372036854775807 < X.size + (⟨#[37]⟩ : ByteArray).size) := by show ¬ (_ < X.size + 1); omega
      go_enter Tryz.func41, Tryz.ntmps41
      go_wp2_with (first
      | (go_at_call 53; refine (hT.out _ (hE1 _ (((Kept.refl _).alloc _).alloc _))).mono ?_; rintro r w1 ⟨rfl, hk⟩; have hK := (((Kept.refl _).alloc _).alloc _).trans hk; have B := hk.blk2.1; have B2 := hk.blk2.2; have c1 := B.cell 2; have c2 := B2.cell 0; have c3 := B2.cell 1; have B2lt := B2.lt; clear hk)
      | (go_at_call 54; refine (hI.out _ (hE1 _ hK)).mono ?_; rintro r w2 ⟨rfl, hk2⟩; have hK := hK.trans hk2; have B := B.kept hk2; have c0 := B.cell 0; have c1 := B.cell 2; clear hk2)
      | (go_at_call 55; refine (hF2.out _ (hP.kept hK)).mono ?_; rintro r w3 ⟨rfl, hk3⟩; have hK := hK.trans hk3)
      | (go_at_call 56; refine (hF3.out _ (hP.kept hK)).mono ?_; rintro r w3 ⟨rfl, hk3⟩; have hK := hK.trans hk3)
      | (go_at_call 57; refine (hF5.out _ (hM.kept hK) (hP.kept hK)).mono ?_; rintro r w3 ⟨rfl, hk3⟩; have hK := hK.trans hk3))
      go_ret2
      rw [HR.out, HT.out]
      exact ⟨rfl, hK⟩
    · go_enter Tryz.func41, Tryz.ntmps41
      go_wp2_with (first
      | (go_at_call 53; refine (hT.out _ (hE1 _ (((Kept.refl _).alloc _).alloc _))).mono ?_; rintro r w1 ⟨rfl, hk⟩; have hK := (((Kept.refl _).alloc _).alloc _).trans hk; have B := hk.blk2.1; have B2 := hk.blk2.2; have c1 := B.cell 2; have c2 := B2.cell 0; have c3 := B2.cell 1; have B2lt := B2.lt; clear hk)
      | (go_at_call 54; refine (hI.out _ (hE1 _ hK)).mono ?_; rintro r w2 ⟨rfl, hk2⟩; have hK := hK.trans hk2; have B := B.kept hk2; have c0 := B.cell 0; have c1 := B.cell 2; clear hk2)
      | (go_at_call 55; refine (hF2.out _ (hP.kept hK)).mono ?_; rintro r w3 ⟨rfl, hk3⟩; have hK := hK.trans hk3)
      | (go_at_call 56; refine (hF3.out _ (hP.kept hK)).mono ?_; rintro r w3 ⟨rfl, hk3⟩; have hK := hK.trans hk3)
      | (go_at_call 57; refine (hF5.out _ (hM.kept hK) (hP.kept hK)).mono ?_; rintro r w3 ⟨rfl, hk3⟩; have hK := hK.trans hk3))
      go_ret2
      rw [HR.out]
      exact ⟨rfl, hK⟩
  · obtain ⟨b, off, cap, N, B2, cc, l, hl, hN, hn9, rfl, hb, hcl, hcm⟩ := hE.at_ hj
    have hm := hE
    obtain ⟨_, _, _, hm, _⟩ := hm
    have hb2 := (inB_iff hv).1 hi
    have HT := Lib.hid (show vtext 6 (j : Int) n ms = l[n.toNat]?.getD ⟨#[]⟩ by
      show (memS (j : Int) ms)[n.toNat]?.getD ⟨#[]⟩ = _
      rw [memS, Int.toNat_natCast, hl]; rfl)
    obtain ⟨i, rfl⟩ : ∃ i : Nat, n = i := ⟨n.toNat, by have : 0 ≤ n := hb2.1; omega⟩
    rw [Int.toNat_natCast] at HT
    have hiN : i < N := by
      have h2 : (i : Int) ≤ ((memS (j : Int) ms).length : Int) - 1 := hb2.2
      rw [memS, Int.toNat_natCast, hl, Option.getD_some, hN] at h2
      omega
    obtain ⟨b3, off3, rfl, hb3, hc3⟩ := hcm (by omega)
    have hc4 := hc3 i hiN
    clear hc3 hcm hb2 hv hi hl hN
    generalize l[i]?.getD ⟨#[]⟩ = Z at *
    have hji : (j : Int) < ms.length := by omega
    have hiI : (i : Int) < N := by omega
    go_enter Tryz.func41, Tryz.ntmps41
    go_wp2_with (first
      | (go_at_call 53; refine (hT.out _ (hE1 _ (((Kept.refl _).alloc _).alloc _))).mono ?_; rintro r w1 ⟨rfl, hk⟩; have hK := (((Kept.refl _).alloc _).alloc _).trans hk; have B := hk.blk2.1; have B2 := hk.blk2.2; have c1 := B.cell 2; have c2 := B2.cell 0; have c3 := B2.cell 1; have B2lt := B2.lt; clear hk)
      | (go_at_call 54; refine (hI.out _ (hE1 _ hK)).mono ?_; rintro r w2 ⟨rfl, hk2⟩; have hK := hK.trans hk2; have B := B.kept hk2; have c0 := B.cell 0; have c1 := B.cell 2; clear hk2)
      | (go_at_call 55; refine (hF2.out _ (hP.kept hK)).mono ?_; rintro r w3 ⟨rfl, hk3⟩; have hK := hK.trans hk3)
      | (go_at_call 56; refine (hF3.out _ (hP.kept hK)).mono ?_; rintro r w3 ⟨rfl, hk3⟩; have hK := hK.trans hk3)
      | (go_at_call 57; refine (hF5.out _ (hM.kept hK) (hP.kept hK)).mono ?_; rintro r w3 ⟨rfl, hk3⟩; have hK := hK.trans hk3))
    have d1 := KW.cell B.lt (B.cell 1)
    have d2 := KW.cell B.lt (B.cell 2)
    have hkl := KW.cell (Nat.lt_of_lt_of_le hb hK.size) (hK.cell (p := ⟨b, off + j * 2 + 1, none⟩) hb hcl)
    have hkm := KW.cell (Nat.lt_of_lt_of_le hb3 hK.size) (hK.cell (p := ⟨b3, off3 + i, none⟩) hb3 hc4)
    refine wp_region_kept (by kernel_rfl) (by kernel_rfl) ?_
    repeat (go_big_quiet_step (fail))
    refine wpQuiet_nil ?_
    rintro _ ⟨⟨wx, hx2⟩, rfl⟩
    go_wp2_with fail
    go_ret2
    rw [HR.out, HT.out]
    exact ⟨rfl, hK.trans hx2⟩

end Go.Proofs.YtdnjfpmngnkcfaaGreatDoor
