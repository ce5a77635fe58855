/- Texts of lines: lines that are joined are split again, and lines that were split are the text. -/
import Derived.Test.YtemejaomfbhldaaGreatDoorCanonMath
namespace Go.Proofs.YtemejaomfbhldaaGreatDoor

/-- the text of lines -/
def textL (ls : List (List UInt8)) : List UInt8 := ls.flatMap fun l => l ++ [10]
/-- a line: printable bytes -/
def Line (l : List UInt8) : Prop := ∀ c ∈ l, c.toNat ≠ 10 ∧ (c.toNat = 9 ∨ (32 ≤ c.toNat ∧ c.toNat ≤ 126))
theorem textL_cons (l : List UInt8) (ls : List (List UInt8)) : textL (l :: ls) = l ++ 10 :: textL ls := by
  unfold textL; rw [List.flatMap_cons]; simp
theorem lns_over (s : ByteArray) : ∀ (l r : List UInt8) (pos st : Nat), Line l → lns s (l ++ 10 :: r) pos st = (lns s r (pos + l.length + 1) (pos + l.length + 1)).map (fun p => (s.extract st (pos + l.length) :: p.1, p.2))
  | [], r, pos, st, _ => by
    rw [List.nil_append, lns_line 10 rfl]; rfl
  | c :: l, r, pos, st, h => by
    have hc := h c (by simp)
    rw [List.cons_append, lns_ok c hc.1 hc.2, lns_over s l r (pos + 1) st (fun x hx => h x (by simp [hx])), List.length_cons, show pos + 1 + l.length = pos + (l.length + 1) by omega]
theorem lns_text (s : ByteArray) : ∀ (ls : List (List UInt8)) (pos : Nat), (∀ l ∈ ls, Line l) → pos ≤ s.size → (L s).drop pos = textL ls → lns s ((L s).drop pos) pos pos = some (ls.map bs, s.size)
  | [], pos, _, hp, hd => by
    rw [hd]
    have : (L s).length - pos = 0 := by rw [← List.length_drop, hd]; rfl
    rw [L_length] at this
    show lns s [] pos pos = _
    rw [lns_end, show pos = s.size by omega]; rfl
  | l :: ls, pos, hl, hp, hd => by
    have hd' := hd
    rw [textL_cons] at hd'
    have hlen := congrArg List.length hd'
    rw [List.length_drop, L_length, List.length_append, List.length_cons] at hlen
    have hd2 : (L s).drop (pos + l.length + 1) = textL ls := by
      rw [show pos + l.length + 1 = pos + (l.length + 1) by omega, ← List.drop_drop, hd', ← List.drop_drop, List.drop_left]; rfl
    have ih := lns_text s ls (pos + l.length + 1) (fun x hx => hl x (by simp [hx])) (by omega) hd2
    rw [hd2] at ih
    rw [hd', lns_over s l (textL ls) pos pos (hl l (by simp)), ih]
    show some (s.extract pos (pos + l.length) :: ls.map bs, s.size) = some (bs l :: ls.map bs, s.size)
    congr 2
    congr 1
    rw [← L_inj, L_extract, hd', L_bs, Nat.add_sub_cancel_left, List.take_left]
/-- lines that are joined are split again -/
theorem linR_text {ls : List (List UInt8)} (hl : ∀ l ∈ ls, Line l) (hz : (textL ls).length ≤ 65536) : linR (bs (textL ls)) = (ls.map bs, 0) := by
  have h := lns_text (bs (textL ls)) ls 0 hl (Nat.zero_le _) (by rw [L_bs]; rfl)
  rw [List.drop_zero] at h
  unfold linR
  rw [if_neg (by rw [bs_size]; omega), h]
  dsimp only
  rw [if_pos rfl]
theorem chain_text (s : ByteArray) : ∀ (xs : List ByteArray) (st : Nat), Chain s st xs s.size → (L s).drop st = textL (xs.map L)
  | [], st, h => by
    have e : s.size = st := h
    rw [← e, List.drop_of_length_le (by rw [L_length]; exact Nat.le_refl _)]; rfl
  | x :: xs, st, h => by
    obtain ⟨m, hm, hst, rfl, h10, hc⟩ := h
    have ih := chain_text s xs (m + 1) hc
    rw [List.map_cons, textL_cons, L_extract, ← ih]
    have e10 : s[m] = 10 := UInt8.toNat_inj.1 (show (s[m]'hm).toNat = (10 : UInt8).toNat from h10)
    have h1 := L_drop s m hm
    rw [e10] at h1
    rw [← h1]
    have : (L s).drop m = ((L s).drop st).drop (m - st) := by rw [List.drop_drop, show st + (m - st) = m by omega]
    rw [this, List.take_append_drop]
/-- lines that were split are the text -/
theorem linR_canon {s : ByteArray} {xs : List ByteArray} (h : linR s = (xs, 0)) : bs (textL (xs.map L)) = s := by
  rcases linR_chain s with ⟨h1, _⟩ | ⟨_, h2⟩
  · rw [h] at h1; exact absurd rfl h1
  · rw [h] at h2
    have := chain_text s xs 0 h2
    rw [List.drop_zero] at this
    rw [← this, bs_L]
end Go.Proofs.YtemejaomfbhldaaGreatDoor
