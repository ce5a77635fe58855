/- Typed values: types, bounds, members, in plain Lean. k kind, e enumeration, n number, ms the members of the enumerations. -/
import Derived.Test.YtemejaomfbhldaaGreatDoorStr
namespace Go.Proofs.YtemejaomfbhldaaGreatDoor

/-- members of the enumeration e -/
def memS (e : Int) (ms : List (List ByteArray)) : List ByteArray := ms[e.toNat]?.getD []
/-- the type is valid -/
def vtB (k e : Int) (ms : List (List ByteArray)) : Bool :=
  if k = 6 then decide (0 ≤ e) && decide (e < ms.length) else decide (1 ≤ k) && (decide (k ≤ 5) && decide (e = 0))
/-- the bounds of a valid type -/
def bndV (k e : Int) (ms : List (List ByteArray)) : Int × Int :=
  if k = 1 then (0, 1) else if k = 2 then (-1000000000000, 1000000000000) else if k = 3 then (-1000000000000000, 1000000000000000)
  else if k = 4 then (-1000000000, 1000000000) else if k = 5 then (0, 109572) else (0, (memS e ms).length - 1)
def bndS (k e : Int) (ms : List (List ByteArray)) : Int × Int := if vtB k e ms then bndV k e ms else (0, -1)
def inB (n k e : Int) (ms : List (List ByteArray)) : Bool := decide ((bndS k e ms).1 ≤ n) && decide (n ≤ (bndS k e ms).2)
def validB (k e n : Int) (ms : List (List ByteArray)) : Bool := vtB k e ms && inB n k e ms
/-- where a text stands first in a list, from i on -/
def findS (s : ByteArray) : List ByteArray → Nat → Option Nat
  | [], _ => none
  | x :: r, i => if x = s then some i else findS s r (i + 1)
theorem vtB_six {e : Int} {ms : List (List ByteArray)} : vtB 6 e ms = (decide (0 ≤ e) && decide (e < ms.length)) := by rw [vtB, if_pos rfl]
theorem vtB_low {k e : Int} {ms : List (List ByteArray)} (h : k ≠ 6) : vtB k e ms = (decide (1 ≤ k) && (decide (k ≤ 5) && decide (e = 0))) := by rw [vtB, if_neg h]
/-- the kinds of a valid type -/
theorem vtB_cases {k e : Int} {ms : List (List ByteArray)} (h : vtB k e ms = true) :
    (e = 0 ∧ (k = 1 ∨ k = 2 ∨ k = 3 ∨ k = 4 ∨ k = 5)) ∨ (k = 6 ∧ 0 ≤ e ∧ e < ms.length) := by
  by_cases h6 : k = 6
  · subst h6
    rw [vtB_six] at h
    simp only [Bool.and_eq_true, decide_eq_true_eq] at h
    exact .inr ⟨rfl, h.1, h.2⟩
  · rw [vtB_low h6] at h
    simp only [Bool.and_eq_true, decide_eq_true_eq] at h
    exact .inl ⟨h.2.2, by omega⟩
theorem findS_some {s : ByteArray} : ∀ {l : List ByteArray} {i j : Nat}, findS s l i = some j → i ≤ j ∧ l[j - i]? = some s ∧ ∀ m, m < j - i → l[m]? ≠ some s
  | [], i, j, h => by simp [findS] at h
  | x :: r, i, j, h => by
    rw [findS] at h
    by_cases hx : x = s
    · rw [if_pos hx] at h
      obtain rfl := Option.some.inj h
      subst hx
      refine ⟨Nat.le_refl _, by simp, fun m hm => absurd hm (by omega)⟩
    · rw [if_neg hx] at h
      obtain ⟨h1, h2, h3⟩ := findS_some h
      have e : j - i = (j - (i + 1)) + 1 := by omega
      refine ⟨by omega, by rw [e, List.getElem?_cons_succ]; exact h2, fun m hm => ?_⟩
      cases m with
      | zero => rw [List.getElem?_cons_zero]; intro hc; exact hx (Option.some.inj hc)
      | succ m => rw [List.getElem?_cons_succ]; exact h3 m (by omega)
theorem findS_none {s : ByteArray} : ∀ {l : List ByteArray} {i : Nat}, findS s l i = none → ∀ m : Nat, l[m]? ≠ some s
  | [], i, _, m => by simp
  | x :: r, i, h, m => by
    rw [findS] at h
    by_cases hx : x = s
    · rw [if_pos hx] at h; exact absurd h (by simp)
    · rw [if_neg hx] at h
      cases m with
      | zero => rw [List.getElem?_cons_zero]; intro hc; exact hx (Option.some.inj hc)
      | succ m => rw [List.getElem?_cons_succ]; exact findS_none h m
end Go.Proofs.YtemejaomfbhldaaGreatDoor
