/- A list of enumerations that came in: the members of each. -/
import Derived.Test.YtemejaomfbhldaaGreatDoorStrs
import Derived.Test.YtemejaomfbhldaaGreatDoorBlks
namespace Go.Proofs.YtemejaomfbhldaaGreatDoor
open Go.RowKit

/-- the slice value v reads as enumerations with the members ms -/
def Enums (w : World) (v : Value) (ms : List (List ByteArray)) : Prop :=
  ∃ A cap, v = .slice A ms.length cap ∧ ms.length ≤ 9223372036854775807 ∧ (0 < ms.length → ∃ b off, A = some ⟨b, off, none⟩ ∧ b < w.heap.size ∧
    ∀ j l, ms[j]? = some l → l.length ≤ 9223372036854775807 ∧ ∃ mv, w.cell? ⟨b, off + j * 2 + 1, none⟩ = some mv ∧ Strs w mv l)
theorem Enums.kept {w w' : World} {v : Value} {ms : List (List ByteArray)} (h : Enums w v ms) (hk : Kept w w') : Enums w' v ms := by
  obtain ⟨A, cap, hv, hm, hx⟩ := h
  refine ⟨A, cap, hv, hm, fun hp => ?_⟩
  obtain ⟨b, off, hA, hb, hc⟩ := hx hp
  refine ⟨b, off, hA, Nat.lt_of_lt_of_le hb hk.size, fun j l hj => ?_⟩
  obtain ⟨hl, mv, h1, h2⟩ := hc j l hj
  exact ⟨hl, mv, hk.cell (p := ⟨b, off + j * 2 + 1, none⟩) hb h1, h2.kept hk⟩
theorem Enums.nil (w : World) : Enums w (.slice none 0 0) [] := ⟨none, 0, rfl, by decide, fun h => absurd h (by decide)⟩
/-- the members of the enumeration j -/
theorem Enums.at_ {w : World} {v : Value} {ms : List (List ByteArray)} (h : Enums w v ms) {j : Nat} (hj : j < ms.length) :
    ∃ (b off cap n : Nat) (B : Option Addr) (c : Nat) (l : List ByteArray), ms[j]? = some l ∧ l.length = n ∧ n ≤ 9223372036854775807 ∧ v = .slice (some ⟨b, off, none⟩) ms.length cap ∧ b < w.heap.size ∧ w.cell? ⟨b, off + j * 2 + 1, none⟩ = some (.slice B n c) ∧
      (0 < n → ∃ b2 off2, B = some ⟨b2, off2, none⟩ ∧ b2 < w.heap.size ∧ ∀ i, i < n → w.cell? ⟨b2, off2 + i, none⟩ = some (.string (l[i]?.getD ⟨#[]⟩))) := by
  obtain ⟨A, cap, rfl, hm, hx⟩ := h
  obtain ⟨b, off, rfl, hb, hc⟩ := hx (by omega)
  have hg : ms[j]? = some ms[j] := List.getElem?_eq_getElem hj
  obtain ⟨hl, mv, h1, B, c, rfl, h2⟩ := hc j _ hg
  exact ⟨b, off, cap, _, B, c, _, hg, rfl, hl, rfl, hb, h1, h2⟩
end Go.Proofs.YtemejaomfbhldaaGreatDoor
