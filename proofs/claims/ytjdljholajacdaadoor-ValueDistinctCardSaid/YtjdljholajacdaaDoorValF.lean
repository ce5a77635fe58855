/- What Parse of package value, and of its reference, computes. -/
import Derived.Test.YtjdljholajacdaaDoorValE
namespace Go.Proofs.YtjdljholajacdaaDoor
open Go.RowKit

theorem findS_at {s : ByteArray} : ∀ {l : List ByteArray} {p : Nat} (i : Nat), l[p]? = some s → (∀ m, m < p → l[m]? ≠ some s) → findS s l i = some (i + p)
  | [], p, i, h, _ => by simp at h
  | x :: r, p, i, h, hn => by
    rw [findS]
    cases p with
    | zero =>
      obtain rfl : x = s := Option.some.inj h
      rw [if_pos rfl]; rfl
    | succ p =>
      have h0 : x ≠ s := fun e => hn 0 (by omega) (by rw [e]; rfl)
      rw [if_neg h0, findS_at (p := p) (i + 1) (by simpa using h) (fun m hm => by have := hn (m + 1) (by omega); simpa using this)]
      congr 1; omega
theorem findS_end {s : ByteArray} : ∀ {l : List ByteArray} (i : Nat), (∀ m, m < l.length → l[m]? ≠ some s) → findS s l i = none
  | [], i, _ => rfl
  | x :: r, i, hn => by
    have h0 : x ≠ s := fun e => hn 0 (by simp) (by rw [e]; rfl)
    rw [findS, if_neg h0]
    exact findS_end (i + 1) (fun m hm => by have := hn (m + 1) (by simpa using hm); simpa using this)
/-- no member before p bears the name -/
def NoneS (s : ByteArray) (l : List ByteArray) (p : Nat) : Prop := ∀ m, m < p → l[m]? ≠ some s
theorem NoneS.zero (s : ByteArray) (l : List ByteArray) : NoneS s l 0 := fun m hm => absurd hm (by omega)
theorem NoneS.succ {s : ByteArray} {l : List ByteArray} {p : Nat} (h : NoneS s l p) (hp : l[p]? ≠ some s) : NoneS s l (p + 1) := by
  intro m hm
  rcases Nat.lt_or_ge m p with hl | hl
  · exact h m hl
  · obtain rfl : m = p := by omega
    exact hp
def vsix (s : ByteArray) (l : List ByteArray) : Int × Int := match findS s l 0 with | some i => ((i : Int), 0) | none => (0, 6)
theorem vsix_at {s : ByteArray} {l : List ByteArray} {p : Nat} (h : l[p]? = some s) (hn : NoneS s l p) : vsix s l = ((p : Int), 0) := by
  rw [vsix, findS_at 0 h hn, Nat.zero_add]
theorem vsix_end {s : ByteArray} {l : List ByteArray} (hn : NoneS s l l.length) : vsix s l = (0, 6) := by rw [vsix, findS_end 0 hn]
theorem vnum_six {s : ByteArray} {j : Nat} {ms : List (List ByteArray)} {l : List ByteArray} (h : ms[j]? = some l) : vnumS s 6 j ms = vsix s l := by
  show (match findS s (memS (j : Int) ms) 0 with | some i => ((i : Int), (0 : Int)) | none => (0, 6)) = _
  rw [memS, Int.toNat_natCast, h]; rfl

set_option maxRecDepth 100000 in
set_option maxHeartbeats 8000000 in
theorem vparseN_six (s : ByteArray) (j : Nat) (v : Value) (ms : List (List ByteArray)) (hj : j < ms.length) (w : World) (hE : Enums w v ms) :
    Calls Tryd.prog 45 #[.string s, .agg #[.int .i64 6, .int .i64 j], v] w fun r w' => r = .returned (.tuple #[.int .i64 (vnumS s 6 j ms).1, .int .i64 (vnumS s 6 j ms).2]) ∧ Kept w w' := by
  obtain ⟨b, off, cap, N, B2, cc, l, hl, hN, hn9, rfl, hb, hcl, hcm⟩ := hE.at_ hj
  have hm := hE
  obtain ⟨_, _, _, hm, _⟩ := hm
  rw [vnum_six hl]
  clear hl
  have HN := Lib.hid hN
  clear hN
  have hji : (j : Int) < ms.length := by omega
  go_enter Tryd.func45, Tryd.ntmps45
  go_wp2_with fail
  go_loop [59] (fun z => ∃ pos : Nat, pos ≤ N ∧ z = .int .i64 pos ∧ NoneS s l pos) (fun z => (N - intOf z).toNat)
  case atStart => exact ⟨0, Nat.zero_le _, rfl, NoneS.zero _ _⟩
  case round =>
    obtain ⟨pos, hps, rfl, hno⟩ := hrel
    by_cases hp : pos < N
    · obtain ⟨b3, off3, rfl, hb3, hc3⟩ := hcm (by omega)
      have hx : l[pos]? = some (l[pos]'(by have := HN.out; omega)) := List.getElem?_eq_getElem _
      have hc4 := hc3 pos hp
      rw [hx] at hc4
      have HF := Lib.hid (fun (h : l[pos]'(by have := HN.out; omega) = s) => vsix_at (s := s) (by rw [hx, h]) hno)
      have HS := Lib.hid (fun (h : l[pos]'(by have := HN.out; omega) ≠ s) => hno.succ (by rw [hx]; exact fun e => h (Option.some.inj e)))
      clear hx hc3 hcm hno
      generalize l[pos]'(by have := HN.out; omega) = X at *
      have hpi : (pos : Int) < N := by omega
      change w.cell? _ = some (.string X) at hc4
      cases hd : decide (X = s)
      · have HS := Lib.hid (HS.out (by simpa using hd))
        rw [← neqV] at hd
        clear HF
        go_wp2_with fail
        go_round
        case rel => exact ⟨pos + 1, hp, by go_num, HS.out⟩
        case measure => simp only [intOf]; omega
      · have HF := Lib.hid (HF.out (by simpa using hd))
        rw [← neqV] at hd
        clear HS
        go_wp2_with fail
        go_ret2
        rw [HF.out]
        exact ⟨rfl, (Kept.refl _).alloc _⟩
    · have HE := Lib.hid (vsix_end (s := s) (l := l) (by rw [HN.out, show N = pos by omega]; exact hno))
      clear hno
      have hpi : ¬ ((pos : Int) < N) := by omega
      go_wp2_with fail
      go_ret2
      rw [HE.out]
      exact ⟨rfl, (Kept.refl _).alloc _⟩
end Go.Proofs.YtjdljholajacdaaDoor
