/- Plain facts about decimal numerals as lists of bytes: what numtext's formatter and parser, and the reference's, compute. No program stands here. -/
import Derived.Lib.ItoaNum
import Derived.Test.YtjeifmjcgemlgaaGreatDoorBase
import Derived.Laws.Strings
import Derived.Laws.Strings2
import Derived.Laws.Strings3
import Derived.Laws.RangeString
import Derived.Laws.RangeAny
import Derived.Laws.Concat
import Derived.Lib.OthersKept
import Derived.Laws.AppendOwn
import Derived.OwnWalk
import Derived.StillTail
import Derived.Deep.MidRow
namespace Go.Proofs.YtjeifmjcgemlgaaGreatDoor
open Go.Lib (decDigits itoa)

def isDig (c : UInt8) : Bool := decide (48 ≤ c.toNat) && decide (c.toNat ≤ 57)
def dval (c : UInt8) : Nat := c.toNat - 48
/-- the number that a list of digits denotes -/
def val : List UInt8 → Nat → Nat
  | [], acc => acc
  | c :: r, acc => val r (10 * acc + dval c)
theorem val_append (a b : List UInt8) (acc : Nat) : val (a ++ b) acc = val b (val a acc) := by
  induction a generalizing acc with
  | nil => rfl
  | cons c r ih => exact ih _
theorem val_snoc (a : List UInt8) (c : UInt8) (acc : Nat) : val (a ++ [c]) acc = 10 * val a acc + dval c := by
  rw [val_append]; rfl
theorem val_ge (l : List UInt8) (acc : Nat) : acc ≤ val l acc := by
  induction l generalizing acc with
  | nil => exact Nat.le_refl _
  | cons c r ih => exact Nat.le_trans (by omega) (ih _)
theorem val_acc (l : List UInt8) (acc : Nat) : val l acc = acc * 10 ^ l.length + val l 0 := by
  induction l generalizing acc with
  | nil => simp [val]
  | cons c r ih =>
    rw [val, val, ih (10 * acc + dval c), ih (10 * 0 + dval c)]
    simp only [List.length_cons, Nat.pow_succ]
    have e : (10 * acc + dval c) * 10 ^ r.length = acc * (10 ^ r.length * 10) + dval c * 10 ^ r.length := by
      rw [Nat.add_mul, Nat.mul_comm 10 acc, Nat.mul_assoc, Nat.mul_comm 10 (10 ^ r.length)]
    rw [e]
    have e2 : (10 * 0 + dval c) * 10 ^ r.length = dval c * 10 ^ r.length := by simp
    omega

theorem ofNat_toNat_dig {d : Nat} (h : d < 10) : (UInt8.ofNat (48 + d)).toNat = 48 + d := by
  rw [UInt8.toNat_ofNat']; omega
theorem isDig_of {d : Nat} (h : d < 10) : isDig (UInt8.ofNat (48 + d)) = true := by
  unfold isDig; rw [ofNat_toNat_dig h]; simp; omega
theorem dval_of {d : Nat} (h : d < 10) : dval (UInt8.ofNat (48 + d)) = d := by
  unfold dval; rw [ofNat_toNat_dig h]; omega
theorem isDig_iff {c : UInt8} : isDig c = true ↔ 48 ≤ c.toNat ∧ c.toNat ≤ 57 := by simp [isDig]
theorem dval_lt {c : UInt8} (h : isDig c = true) : dval c < 10 := by
  have := isDig_iff.1 h; unfold dval; omega
theorem of_dval {c : UInt8} (h : isDig c = true) : UInt8.ofNat (48 + dval c) = c := by
  have h' := isDig_iff.1 h
  apply UInt8.toNat_inj.1
  rw [ofNat_toNat_dig (dval_lt h)]
  unfold dval; omega

theorem decDigits_all (u : Nat) : (decDigits u).all isDig = true := by
  induction u using Nat.strongRecOn with
  | _ u ih =>
    rw [decDigits]
    split
    · rename_i h; simpa using isDig_of h
    · rename_i h
      rw [List.all_append, ih (u / 10) (by omega)]
      simpa using isDig_of (Nat.mod_lt u (by decide))
theorem val_decDigits (u : Nat) : val (decDigits u) 0 = u := by
  induction u using Nat.strongRecOn with
  | _ u ih =>
    rw [decDigits]
    split
    · rename_i h; rw [val, val, dval_of h]; omega
    · rename_i h
      rw [val_snoc, ih (u / 10) (by omega), dval_of (Nat.mod_lt u (by decide))]
      omega
theorem decDigits_ne (u : Nat) : decDigits u ≠ [] := by
  rw [decDigits]; split <;> simp
/-- no superfluous zero ahead -/
def lead (l : List UInt8) : Bool := l.length == 1 || l.head? != some 48
theorem lead_iff {l : List UInt8} : lead l = true ↔ l.length = 1 ∨ l.head? ≠ some 48 := by simp [lead]
theorem decDigits_head (u : Nat) (h : 10 ≤ u) : (decDigits u).head? ≠ some 48 := by
  induction u using Nat.strongRecOn with
  | _ u ih =>
    rw [decDigits, dif_neg (by omega)]
    rw [List.head?_append]
    by_cases h2 : u / 10 < 10
    · rw [decDigits, dif_pos h2]
      simp only [List.head?_cons, Option.some_or]
      intro e
      have e1 : UInt8.ofNat (48 + u / 10) = 48 := Option.some.inj e
      have := ofNat_toNat_dig h2
      rw [e1] at this
      have e3 : (48 : UInt8).toNat = 48 := rfl
      omega
    · have := ih (u / 10) (by omega) (by omega)
      cases hd : (decDigits (u / 10)).head? with
      | none => rw [List.head?_eq_none_iff] at hd; exact absurd hd (decDigits_ne _)
      | some x => rw [hd] at this; simpa using this
theorem decDigits_lead (u : Nat) : lead (decDigits u) = true := by
  rw [lead_iff]
  by_cases h : u < 10
  · left; rw [decDigits, dif_pos h]; rfl
  · right; exact decDigits_head u (by omega)
theorem val_pos {l : List UInt8} (hd : l.all isDig = true) (hh : l.head? ≠ some 48) (hn : l ≠ []) : 10 ^ (l.length - 1) ≤ val l 0 := by
  cases l with
  | nil => exact absurd rfl hn
  | cons c r =>
    rw [val, val_acc]
    simp only [List.all_cons, Bool.and_eq_true] at hd
    have h1 := isDig_iff.1 hd.1
    have h2 : c ≠ 48 := fun e => hh (by rw [e]; rfl)
    have h3 : 1 ≤ dval c := by
      unfold dval
      have : c.toNat ≠ 48 := fun e => h2 (UInt8.toNat_inj.1 e)
      omega
    simp only [List.length_cons, Nat.add_sub_cancel]
    have := Nat.mul_le_mul_right (10 ^ r.length) (show 1 ≤ 10 * 0 + dval c by omega)
    omega
/-- digits without a superfluous zero are the numeral of their number -/
theorem decDigits_val (l : List UInt8) (hd : l.all isDig = true) (hl : lead l = true) (hn : l ≠ []) : decDigits (val l 0) = l := by
  obtain ⟨n, hlen⟩ : ∃ n, l.length = n + 1 := ⟨l.length - 1, by have := List.length_pos_iff.2 hn; omega⟩
  induction n generalizing l with
  | zero =>
    match l, hlen with
    | [c], _ =>
      simp only [List.all_cons, List.all_nil, Bool.and_true] at hd
      simp only [val, Nat.mul_zero, Nat.zero_add]
      rw [decDigits, dif_pos (dval_lt hd), of_dval hd]
  | succ n ih =>
    have hs : l = l.dropLast ++ [l.getLast hn] := (List.dropLast_concat_getLast hn).symm
    have hll : l.dropLast.length = n + 1 := by simp; omega
    have hdn : l.dropLast ≠ [] := fun e => by rw [e] at hll; simp at hll
    have hall : l.dropLast.all isDig = true ∧ isDig (l.getLast hn) = true := by
      rw [hs, List.all_append] at hd
      simpa using hd
    have hh : l.head? ≠ some 48 := by
      rcases lead_iff.1 hl with h | h
      · omega
      · exact h
    have hh2 : l.dropLast.head? ≠ some 48 := by
      rw [hs, List.head?_append] at hh
      cases hq : l.dropLast.head? with
      | none => rw [List.head?_eq_none_iff] at hq; exact absurd hq hdn
      | some x => rw [hq] at hh; simpa using hh
    have hv := val_pos hall.1 hh2 hdn
    have hpos : 1 ≤ 10 ^ (l.dropLast.length - 1) := Nat.one_le_pow _ _ (by decide)
    have e := ih l.dropLast hall.1 (lead_iff.2 (.inr hh2)) hdn hll
    rw [hs, val_snoc]
    have hlt := dval_lt hall.2
    rw [decDigits, dif_neg (by omega), show (10 * val l.dropLast 0 + dval (l.getLast hn)) / 10 = val l.dropLast 0 by omega, e,
      show (10 * val l.dropLast 0 + dval (l.getLast hn)) % 10 = dval (l.getLast hn) by omega, of_dval hall.2]
end Go.Proofs.YtjeifmjcgemlgaaGreatDoor
/- Strings as lists of bytes: what indexing, slicing, comparing and ranging give. No program stands here. -/
namespace Go.Proofs.YtjeifmjcgemlgaaGreatDoor

/-- the bytes of a string -/
def L (s : ByteArray) : List UInt8 := s.data.toList
/-- the string of a list of bytes -/
def bs (l : List UInt8) : ByteArray := ⟨l.toArray⟩
@[simp] theorem L_bs (l : List UInt8) : L (bs l) = l := rfl
@[simp] theorem bs_L (s : ByteArray) : bs (L s) = s := by cases s; rfl
@[simp] theorem L_mk (l : List UInt8) : L ⟨l.toArray⟩ = l := rfl
@[simp] theorem L_length (s : ByteArray) : (L s).length = s.size := rfl
@[simp] theorem bs_size (l : List UInt8) : (bs l).size = l.length := by rw [← L_length, L_bs]
theorem bs_inj {a b : List UInt8} : bs a = bs b ↔ a = b := ⟨fun h => congrArg L h, fun h => by rw [h]⟩
theorem L_inj {a b : ByteArray} : L a = L b ↔ a = b := ⟨fun h => by rw [← bs_L a, ← bs_L b, h], fun h => by rw [h]⟩
theorem bs_mk (l : List UInt8) : (ByteArray.mk l.toArray) = bs l := rfl
theorem bs_append (a b : List UInt8) : bs a ++ bs b = bs (a ++ b) := ByteArray.mk_append_mk a b
theorem L_append (a b : ByteArray) : L (a ++ b) = L a ++ L b := by
  have h := congrArg L (bs_append (L a) (L b))
  rw [bs_L, bs_L] at h
  exact h
theorem L_extract (s : ByteArray) (a b : Nat) : L (s.extract a b) = ((L s).drop a).take (b - a) := by
  have h := ByteArray.extract_mk (L s) a b
  rw [bs_mk, bs_L] at h
  rw [h]; rfl
theorem toList_L (s : ByteArray) : s.toList = L s := ByteArray.toList_eq s
theorem L_get (s : ByteArray) (i : Nat) (h : i < s.size) : (L s)[i]? = some s[i] := by
  show s.data.toList[i]? = _
  rw [Array.getElem?_toList, Array.getElem?_eq_getElem h]; rfl
theorem L_take (s : ByteArray) (i : Nat) (h : i < s.size) : (L s).take (i + 1) = (L s).take i ++ [s[i]] := by
  rw [List.take_add_one, L_get s i h]; rfl
theorem L_drop (s : ByteArray) (i : Nat) (h : i < s.size) : (L s).drop i = s[i] :: (L s).drop (i + 1) := by
  have hl : i < (L s).length := by simpa using h
  rw [List.drop_eq_getElem_cons hl]
  have := L_get s i h
  rw [List.getElem?_eq_getElem hl] at this
  rw [Option.some.inj this]
theorem L_take_all (s : ByteArray) (i : Nat) (h : ¬ i < s.size) : (L s).take i = L s := List.take_of_length_le (by simp; omega)

theorem val_lt {l : List UInt8} (h : l.all isDig = true) : val l 0 < 10 ^ l.length := by
  induction l with
  | nil => simp [val]
  | cons c r ih =>
    simp only [List.all_cons, Bool.and_eq_true] at h
    have h1 := dval_lt h.1
    have h2 := ih h.2
    rw [val, val_acc, List.length_cons, Nat.pow_succ]
    have := Nat.mul_le_mul_right (10 ^ r.length) (show 10 * 0 + dval c ≤ 9 by omega)
    omega
theorem val_lt9 {l : List UInt8} (h : l.all isDig = true) (hl : l.length ≤ 9) : val l 0 < 1000000000 :=
  Nat.lt_of_lt_of_le (val_lt h) (Nat.pow_le_pow_right (by decide) hl)
theorem take_dig {s : ByteArray} {i : Nat} (h : i < s.size) : ((L s).take (i + 1)).all isDig = (((L s).take i).all isDig && isDig s[i]) := by
  rw [L_take s i h, List.all_append]; simp
theorem not_dig {s : ByteArray} {i : Nat} (h : i < s.size) (hd : isDig s[i] = false) : (L s).all isDig = false := by
  rw [← List.take_append_drop i (L s), List.all_append, L_drop s i h, List.all_cons, hd]; simp

/-- the number that a string of digits denotes, and whether it is one -/
def digB (l : List UInt8) : Bool := l.all isDig
def digV (l : List UInt8) : Int := if digB l then (val l 0 : Nat) else 0
def digR (l : List UInt8) : Int := if digB l then (val l 0 : Nat) else -1
theorem digV_yes {l : List UInt8} (h : digB l = true) : digV l = (val l 0 : Nat) := by rw [digV, if_pos h]
theorem digV_no {l : List UInt8} (h : digB l = false) : digV l = 0 := by rw [digV, h]; rfl
theorem digR_yes {l : List UInt8} (h : digB l = true) : digR l = (val l 0 : Nat) := by rw [digR, if_pos h]
theorem digR_no {l : List UInt8} (h : digB l = false) : digR l = -1 := by rw [digR, h]; rfl
end Go.Proofs.YtjeifmjcgemlgaaGreatDoor
/- Blocks of a call's own behind its head: what lies in them. -/
namespace Go.Proofs.YtjeifmjcgemlgaaGreatDoor
open Go.RowKit

theorem Kept.blk1 {w W : World} {c1 : Array Value} {t1 : TypeId} (h : Kept (w.alloc (.cells c1 t1)) W) : Blk W w.heap.size t1 c1 :=
  (Blk.new w t1 c1).kept h
theorem Kept.blk2 {w W : World} {c1 c2 : Array Value} {t1 t2 : TypeId} (h : Kept ((w.alloc (.cells c1 t1)).alloc (.cells c2 t2)) W) :
    Blk W w.heap.size t1 c1 ∧ Blk W (w.heap.size + 1) t2 c2 :=
  ⟨((Blk.new w t1 c1).alloc _).kept h, by have := (Blk.new (w.alloc (.cells c1 t1)) t2 c2).kept h; rwa [World.size_alloc] at this⟩
theorem Kept.blk3 {w W : World} {c1 c2 c3 : Array Value} {t1 t2 t3 : TypeId} (h : Kept (((w.alloc (.cells c1 t1)).alloc (.cells c2 t2)).alloc (.cells c3 t3)) W) :
    Blk W w.heap.size t1 c1 ∧ Blk W (w.heap.size + 1) t2 c2 ∧ Blk W (w.heap.size + 2) t3 c3 :=
  ⟨(((Blk.new w t1 c1).alloc _).alloc _).kept h, by have := ((Blk.new (w.alloc (.cells c1 t1)) t2 c2).alloc (.cells c3 t3)).kept h; rwa [World.size_alloc] at this,
    by have := (Blk.new ((w.alloc (.cells c1 t1)).alloc (.cells c2 t2)) t3 c3).kept h; rwa [World.size_alloc, World.size_alloc] at this⟩
theorem Kept.blk4 {w W : World} {c1 c2 c3 c4 : Array Value} {t1 t2 t3 t4 : TypeId} (h : Kept ((((w.alloc (.cells c1 t1)).alloc (.cells c2 t2)).alloc (.cells c3 t3)).alloc (.cells c4 t4)) W) :
    Blk W w.heap.size t1 c1 ∧ Blk W (w.heap.size + 1) t2 c2 ∧ Blk W (w.heap.size + 2) t3 c3 ∧ Blk W (w.heap.size + 3) t4 c4 :=
  ⟨((((Blk.new w t1 c1).alloc _).alloc _).alloc _).kept h, by have := (((Blk.new (w.alloc (.cells c1 t1)) t2 c2).alloc (.cells c3 t3)).alloc (.cells c4 t4)).kept h; rwa [World.size_alloc] at this,
    by have := ((Blk.new ((w.alloc (.cells c1 t1)).alloc (.cells c2 t2)) t3 c3).alloc (.cells c4 t4)).kept h; rwa [World.size_alloc, World.size_alloc] at this,
    by have := (Blk.new (((w.alloc (.cells c1 t1)).alloc (.cells c2 t2)).alloc (.cells c3 t3)) t4 c4).kept h; rwa [World.size_alloc, World.size_alloc, World.size_alloc] at this⟩
theorem Kept.size_le {w W : World} (h : Kept w W) : w.heap.size ≤ W.heap.size := h.size
end Go.Proofs.YtjeifmjcgemlgaaGreatDoor
/- Slices of strings that a call has gathered, and how they stay. -/
namespace Go.Proofs.YtjeifmjcgemlgaaGreatDoor
open Go.RowKit

/-- the slice value v reads as the strings xs -/
def Strs (w : World) (v : Value) (xs : List ByteArray) : Prop :=
  ∃ A cap, v = .slice A xs.length cap ∧ (0 < xs.length → ∃ b off, A = some ⟨b, off, none⟩ ∧ b < w.heap.size ∧ ∀ j, j < xs.length → w.cell? ⟨b, off + j, none⟩ = some (.string (xs[j]?.getD ⟨#[]⟩)))
theorem Strs.kept {w w' : World} {v : Value} {xs : List ByteArray} (h : Strs w v xs) (hk : Kept w w') : Strs w' v xs := by
  obtain ⟨A, cap, hv, hx⟩ := h
  refine ⟨A, cap, hv, fun hp => ?_⟩
  obtain ⟨b, off, hA, hb, hc⟩ := hx hp
  exact ⟨b, off, hA, Nat.lt_of_lt_of_le hb hk.size, fun j hj => hk.cell (p := ⟨b, off + j, none⟩) hb (hc j hj)⟩
theorem Strs.nil (w : World) : Strs w (.slice none 0 0) [] := ⟨none, 0, rfl, fun h => absurd h (by decide)⟩
/-- what a call has gathered in a row of its own, of blocks from B on -/
def Gath (w : World) (B : Nat) (v : Value) (xs : List ByteArray) : Prop := w.ownsRow B 9 1 v xs.length (xs.map Value.string)
theorem Gath.nil (w : World) (B : Nat) : Gath w B (.slice none 0 0) [] := World.ownsRow_nil _ _ _ _
theorem Gath.strs {w : World} {B : Nat} {v : Value} {xs : List ByteArray} (h : Gath w B v xs) : Strs w v xs := by
  have h' := h
  rcases h.2 with ⟨rfl, hn⟩ | ⟨g, cap, cur, rfl, _, hg, _⟩
  · have : xs = [] := List.length_eq_zero_iff.1 hn
    subst this
    exact Strs.nil w
  · refine ⟨_, _, rfl, fun _ => ⟨g, 0, rfl, (Array.getElem?_eq_some_iff.1 hg).1, fun j hj => ?_⟩⟩
    have hc := World.ownsRow.cells h' (g := g) rfl j (.string (xs[j]?.getD ⟨#[]⟩)) (by
      rw [List.getElem?_map, List.getElem?_eq_getElem hj]; rfl)
    have e : (⟨g, 0, none⟩ : Addr).add j = ⟨g, 0 + j, none⟩ := by
      unfold Addr.add
      by_cases hj0 : j = 0
      · subst hj0; rfl
      · simp [hj0]
    rw [e] at hc
    exact hc
theorem Gath.iterAt {w : World} {k : Nat} {v : Value} {xs : List ByteArray} (h : Gath w (k + 1) v xs) (s : ByteArray) (p : Nat) : Gath (w.iterAt k s p) (k + 1) v xs := by
  refine ⟨h.1, ?_⟩
  rcases h.2 with hn | ⟨g, cap, cur, hv, hb, hg, r⟩
  · exact .inl hn
  · exact .inr ⟨g, cap, cur, hv, hb, (Lib.iterAt_other w k g s p (by omega)).trans hg, r⟩
theorem grown_kept {w0 wr w1 : World} {B : Nat} {v : Value} {xs : List ByteArray} {o : Obj} (hK : Kept w0 wr) (hown : Gath wr B v xs) (hB : w0.heap.size ≤ B) (hg : (wr.alloc o).grownBy w1 v.ownBlock) : Kept w0 w1 := by
  refine ⟨hg.os.trans hK.os, hg.tape.trans hK.tape, hg.output.trans hK.output, ?_, fun b hb => ?_⟩
  · have := hK.size; have h2 := hg.size; simp at h2; omega
  · have hs := hK.size
    rw [hg.block b (by simp; omega) (fun e => by have := (World.ownsRow.lt hown b e.symm).1; omega)]
    rw [Below.heap_alloc wr o b (by omega)]
    exact hK.block b hb
theorem grown_block {wr w1 : World} {B : Nat} {v : Value} {xs : List ByteArray} {o : Obj} (hown : Gath wr B v xs) (hg : (wr.alloc o).grownBy w1 v.ownBlock) {k : Nat} (hk : k < wr.heap.size) (hB : k < B) : w1.heap[k]? = wr.heap[k]? := by
  rw [hg.block k (by simp; omega) (fun e => by have := (World.ownsRow.lt hown k e.symm).1; omega)]
  exact Below.heap_alloc wr o k hk
theorem grown_size {wr w1 : World} {v : Value} {o : Obj} (hg : (wr.alloc o).grownBy w1 v.ownBlock) : wr.heap.size + 1 ≤ w1.heap.size := by
  have h2 := hg.size; simp at h2; omega
theorem iterPos_of {w : World} {k : Nat} {s : ByteArray} {p : Nat} (h : w.heap[k]? = some (.stringIter s p)) : w.iterPos k = p := by
  unfold World.iterPos; rw [h]
theorem Gath.fresh (w : World) (B : Nat) (hB : B ≤ w.heap.size) : Gath (w.alloc (.cells #[] 9)) B (.slice (some ⟨w.heap.size, 0, none⟩) 0 0) [] :=
  ⟨rfl, .inr ⟨w.heap.size, 0, #[], rfl, hB, heap_alloc_new w _, Nat.le_refl _, by decide, rfl, rfl⟩⟩
theorem Gath.snoc {w : World} {B : Nat} {v : Value} {xs : List ByteArray} {x : ByteArray} (h : w.ownsRow B 9 1 v (xs.length + 1) (xs.map Value.string ++ [.string x])) : Gath w B v (xs ++ [x]) := by
  unfold Gath
  rw [List.length_append, List.map_append]
  exact h
theorem Tryz.infoStr : (Tryz.prog.info? 9).map (fun i => (i.zero, i.size, i.bytes)) = some (some (.string ⟨#[]⟩), 1, 16) := by kernel_rfl
theorem one_cell {w : World} {s : ByteArray} {t : TypeId} : ∀ j u, [Value.string s][j]? = some u → (w.alloc (.cells #[.string s] t)).cell? ((⟨w.heap.size, 0, none⟩ : Addr).add j) = some u := by
  intro j u hj
  match j, hj with
  | 0, hj => simp at hj; subst hj; simp [Addr.add]
theorem one_cell' {s : ByteArray} : ∀ u ∈ [Value.string s], u.oneCell' = true := by
  intro u hu; simp at hu; subst hu; rfl
end Go.Proofs.YtjeifmjcgemlgaaGreatDoor
/- Slices of records: what a call has gathered, and how they stay. -/
namespace Go.Proofs.YtjeifmjcgemlgaaGreatDoor
open Go.RowKit

/-- the slice value v reads as the records xs, each of k cells -/
def Recs {α : Type} (w : World) (f : α → List Value) (k : Nat) (v : Value) (xs : List α) : Prop :=
  ∃ A cap, v = .slice A xs.length cap ∧ (0 < xs.length → ∃ b off, A = some ⟨b, off, none⟩ ∧ b < w.heap.size ∧ ∀ j x, xs[j]? = some x → ∀ i u, (f x)[i]? = some u → w.cell? ⟨b, off + j * k + i, none⟩ = some u)
section
variable {α : Type} {f : α → List Value} {k : Nat}
theorem Recs.kept {w w' : World} {v : Value} {xs : List α} (h : Recs w f k v xs) (hk : Kept w w') : Recs w' f k v xs := by
  obtain ⟨A, cap, hv, hx⟩ := h
  refine ⟨A, cap, hv, fun hp => ?_⟩
  obtain ⟨b, off, hA, hb, hc⟩ := hx hp
  exact ⟨b, off, hA, Nat.lt_of_lt_of_le hb hk.size, fun j x hj i u hu => hk.cell (p := ⟨b, off + j * k + i, none⟩) hb (hc j x hj i u hu)⟩
theorem Recs.nil (w : World) (f : α → List Value) (k : Nat) : Recs w f k (.slice none 0 0) [] := ⟨none, 0, rfl, fun h => absurd h (by simp)⟩
theorem Recs.drew {w : World} {v : Value} {xs : List α} (h : Recs w f k v xs) : Recs w.drew f k v xs := h
/-- what a call has gathered in a row of its own, of blocks from B on -/
def GathR (w : World) (B : Nat) (e : TypeId) (f : α → List Value) (k : Nat) (v : Value) (xs : List α) : Prop := w.ownsRow B e k v xs.length (xs.flatMap f)
theorem GathR.nil (w : World) (B : Nat) (e : TypeId) : GathR w B e f k (.slice none 0 0) [] := World.ownsRow_nil _ _ _ _
theorem flat_get (hf : ∀ x, (f x).length = k) : ∀ (xs : List α) (j : Nat) (x : α), xs[j]? = some x → ∀ i u, (f x)[i]? = some u → (xs.flatMap f)[j * k + i]? = some u := by
  intro xs
  induction xs with
  | nil => intro j x h; simp at h
  | cons y ys ih =>
    intro j x h i u hu
    rw [List.flatMap_cons]
    have hi : i < (f x).length := (List.getElem?_eq_some_iff.1 hu).1
    rw [hf] at hi
    cases j with
    | zero =>
      have e : y = x := Option.some.inj h
      subst e
      rw [Nat.zero_mul, Nat.zero_add, List.getElem?_append_left (by rw [hf]; exact hi)]
      exact hu
    | succ j =>
      rw [List.getElem?_append_right (by rw [hf, Nat.succ_mul]; omega), hf, show (j + 1) * k + i - k = j * k + i by rw [Nat.succ_mul]; omega]
      exact ih j x (by simpa using h) i u hu
theorem GathR.recs {w : World} {B : Nat} {e : TypeId} {v : Value} {xs : List α} (hf : ∀ x, (f x).length = k) (h : GathR w B e f k v xs) : Recs w f k v xs := by
  have h' := h
  rcases h.2 with ⟨rfl, hn⟩ | ⟨g, cap, cur, rfl, _, hg, _⟩
  · have : xs = [] := List.length_eq_zero_iff.1 hn
    subst this
    exact Recs.nil w f k
  · refine ⟨_, _, rfl, fun _ => ⟨g, 0, rfl, (Array.getElem?_eq_some_iff.1 hg).1, fun j x hj i u hu => ?_⟩⟩
    have hc := World.ownsRow.cells h' (g := g) rfl (j * k + i) u (flat_get hf xs j x hj i u hu)
    have e : (⟨g, 0, none⟩ : Addr).add (j * k + i) = ⟨g, 0 + j * k + i, none⟩ := by
      unfold Addr.add
      by_cases h0 : j * k + i = 0
      · simp only [h0, if_true]
        congr 1; omega
      · rw [if_neg h0]; simp
    rw [e] at hc
    exact hc
theorem ownGrown_kept {w0 wr w1 : World} {B : Nat} {v : Value} {e : TypeId} {size n : Nat} {xs : List Value} {o : Obj} (hK : Kept w0 wr) (hown : wr.ownsRow B e size v n xs) (hB : w0.heap.size ≤ B) (hg : (wr.alloc o).grownBy w1 v.ownBlock) : Kept w0 w1 := by
  refine ⟨hg.os.trans hK.os, hg.tape.trans hK.tape, hg.output.trans hK.output, ?_, fun b hb => ?_⟩
  · have := hK.size; have h2 := hg.size; simp at h2; omega
  · have hs := hK.size
    rw [hg.block b (by simp; omega) (fun e => by have := (World.ownsRow.lt hown b e.symm).1; omega)]
    rw [Below.heap_alloc wr o b (by omega)]
    exact hK.block b hb
theorem ownGrown_block {wr w1 : World} {B : Nat} {v : Value} {e : TypeId} {size n : Nat} {xs : List Value} {o : Obj} (hown : wr.ownsRow B e size v n xs) (hg : (wr.alloc o).grownBy w1 v.ownBlock) {j : Nat} (hj : j < wr.heap.size) (hB : j < B) : w1.heap[j]? = wr.heap[j]? := by
  rw [hg.block j (by simp; omega) (fun e => by have := (World.ownsRow.lt hown j e.symm).1; omega)]
  exact Below.heap_alloc wr o j hj
theorem ownGrown_size {wr w1 : World} {v : Value} {o : Obj} (hg : (wr.alloc o).grownBy w1 v.ownBlock) : wr.heap.size + 1 ≤ w1.heap.size := by
  have h2 := hg.size; simp at h2; omega
theorem GathR.snoc {w : World} {B : Nat} {e : TypeId} {v : Value} {xs : List α} {x : α} (h : w.ownsRow B e k v (xs.length + 1) (xs.flatMap f ++ f x)) : GathR w B e f k v (xs ++ [x]) := by
  unfold GathR
  rw [List.length_append, List.flatMap_append]
  simpa using h
theorem GathR.keptOwn {w w' : World} {B : Nat} {e : TypeId} {v : Value} {xs : List α} (h : GathR w B e f k v xs) (hk : Kept w w') : GathR w' B e f k v xs := by
  refine ⟨h.1, ?_⟩
  rcases h.2 with hn | ⟨g, cap, cur, hv, hb, hg, r⟩
  · exact .inl hn
  · exact .inr ⟨g, cap, cur, hv, hb, (hk.block g (Array.getElem?_eq_some_iff.1 hg).1).trans hg, r⟩
/-- the cells of a fresh block of one record -/
theorem blk_cells {w : World} {t : TypeId} {l : List Value} : ∀ j u, l[j]? = some u → (w.alloc (.cells l.toArray t)).cell? ((⟨w.heap.size, 0, none⟩ : Addr).add j) = some u := by
  intro j u hj
  have e : (⟨w.heap.size, 0, none⟩ : Addr).add j = ⟨w.heap.size, j, none⟩ := by
    unfold Addr.add
    by_cases h0 : j = 0
    · subst h0; rfl
    · rw [if_neg h0]; simp
  rw [e, World.cell?_alloc_at _ _ _ _ rfl]
  simpa using hj
end
end Go.Proofs.YtjeifmjcgemlgaaGreatDoor
/- A row of a call's own, handed on through calls that append to it and set its cells: what else stays. -/
namespace Go.Proofs.YtjeifmjcgemlgaaGreatDoor
open Go.RowKit

/-- only the row of v has changed, and the row of v' is that row or a new one -/
structure Grew (w w' : World) (v v' : Value) : Prop where
  by_ : w.grownBy w' v.ownBlock
  own : ∀ b, v'.ownBlock = some b → v.ownBlock = some b ∨ w.heap.size ≤ b
theorem Grew.refl (w : World) (v : Value) : Grew w w v v := ⟨⟨rfl, rfl, rfl, Nat.le_refl _, fun _ _ _ => rfl⟩, fun _ h => .inl h⟩
theorem Grew.trans {a b c : World} {u v x : Value} (h : Grew a b u v) (k : Grew b c v x) : Grew a c u x := by
  refine ⟨⟨k.by_.os.trans h.by_.os, k.by_.tape.trans h.by_.tape, k.by_.output.trans h.by_.output, Nat.le_trans h.by_.size k.by_.size, fun q hq hn => ?_⟩, fun q hq => ?_⟩
  · rw [k.by_.block q (Nat.lt_of_lt_of_le hq h.by_.size) (fun e => ?_), h.by_.block q hq hn]
    rcases h.own q e.symm with h1 | h1
    · exact hn h1.symm
    · omega
  · rcases k.own q hq with h1 | h1
    · exact h.own q h1
    · exact .inr (Nat.le_trans h.by_.size h1)
theorem Grew.size {w w' : World} {v v' : Value} (h : Grew w w' v v') : w.heap.size ≤ w'.heap.size := h.by_.size
/-- a world that kept everything -/
theorem Grew.kept {w w' : World} {v : Value} (h : Kept w w') : Grew w w' v v :=
  ⟨⟨h.os, h.tape, h.output, h.size, fun b hb _ => h.block b hb⟩, fun _ e => .inl e⟩
/-- a block that is not the row -/
theorem Grew.blk {w w' : World} {v v' : Value} {g : Nat} {t : TypeId} {cs : Array Value} (h : Grew w w' v v') (hb : Blk w g t cs) (hn : some g ≠ v.ownBlock) : Blk w' g t cs :=
  (h.by_.block g hb.lt hn).trans hb
theorem Grew.cell {w w' : World} {v v' : Value} {b o : Nat} {u : Value} (h : Grew w w' v v') (hb : b < w.heap.size) (hn : some b ≠ v.ownBlock) (hc : w.cell? ⟨b, o, none⟩ = some u) : w'.cell? ⟨b, o, none⟩ = some u := by
  rw [World.cell?_of_block (a := ⟨b, o, none⟩) (h.by_.block b hb hn)]; exact hc
/-- below a base that the row lies above everything is kept -/
theorem Grew.below {w0 w w' : World} {v v' : Value} (h : Grew w w' v v') (hk : Kept w0 w) (hv : ∀ b, v.ownBlock = some b → w0.heap.size ≤ b) : Kept w0 w' := by
  refine ⟨h.by_.os.trans hk.os, h.by_.tape.trans hk.tape, h.by_.output.trans hk.output, Nat.le_trans hk.size h.by_.size, fun b hb => ?_⟩
  rw [h.by_.block b (Nat.lt_of_lt_of_le hb hk.size) (fun e => by have := hv b e.symm; omega)]
  exact hk.block b hb
section
variable {α : Type} {f : α → List Value} {k : Nat} {w : World} {B : Nat} {e : TypeId}
theorem GathR.owned {v : Value} {xs : List α} (h : GathR w B e f k v xs) {b : Nat} (hb : v.ownBlock = some b) : B ≤ b ∧ b < w.heap.size := by
  rcases h.2 with ⟨rfl, _⟩ | ⟨g, cap, cur, rfl, hB, hg, _⟩
  · cases hb
  · obtain rfl : g = b := Option.some.inj hb
    exact ⟨hB, (Array.getElem?_eq_some_iff.1 hg).1⟩
theorem GathR.form {v : Value} {xs : List α} (h : GathR w B e f k v xs) : ∃ A cap, v = .slice A xs.length cap ∧ xs.length ≤ cap ∧ cap ≤ maxLen := by
  rcases h.2 with ⟨rfl, hn⟩ | ⟨g, cap, cur, rfl, _, _, h1, h2, _⟩
  · exact ⟨none, 0, by rw [hn], by omega, by unfold maxLen; omega⟩
  · exact ⟨_, cap, rfl, h1, h2⟩
/-- a shorter slice of the same row -/
theorem GathR.take {A : Option Addr} {n cap : Nat} {xs : List α} (hf : ∀ x, (f x).length = k) (h : GathR w B e f k (.slice A n cap) xs) {m : Nat} (hm : m ≤ n) : GathR w B e f k (.slice A m cap) (xs.take m) := by
  have hlen : xs.length = n := by
    obtain ⟨_, _, hv, _⟩ := h.form
    simp only [Value.slice.injEq] at hv
    exact hv.2.1.symm
  have hfl : ∀ l : List α, (l.flatMap f).length = l.length * k := by
    intro l
    induction l with
    | nil => simp
    | cons a t ih => rw [List.flatMap_cons, List.length_append, hf, ih, List.length_cons, Nat.succ_mul]; omega
  have hlt : (xs.take m).length = m := by rw [List.length_take]; omega
  refine ⟨by rw [hfl, hlt], ?_⟩
  rw [hlt]
  rcases h.2 with ⟨hv, hn⟩ | ⟨g, cap', cur, hv, hB, hg, h1, h2, h3, h4⟩
  · simp only [Value.slice.injEq] at hv
    obtain ⟨rfl, rfl, rfl⟩ := hv
    exact .inl ⟨by rw [show m = 0 by omega], by omega⟩
  · simp only [Value.slice.injEq] at hv
    obtain ⟨rfl, hn, rfl⟩ := hv
    refine .inr ⟨g, cap, cur, rfl, hB, hg, by omega, h2, h3, ?_⟩
    have hle : m * k ≤ xs.length * k := Nat.mul_le_mul_right k (by omega)
    have e1 : cur.toList.take (m * k) = (xs.flatMap f).take (m * k) := by
      rw [← h4, List.take_take, Nat.min_eq_left hle]
    rw [e1]
    conv => lhs; rw [← List.take_append_drop m xs, List.flatMap_append]
    rw [List.take_append_of_le_length (by rw [hfl, hlt]; exact Nat.le_refl _), List.take_of_length_le (by rw [hfl, hlt]; exact Nat.le_refl _)]
/-- a cell of the row is set -/
theorem GathR.setc {v : Value} {xs ys : List α} {g o : Nat} {u : Value} (h : GathR w B e f k v xs) (hv : v.ownBlock = some g) (hl : ys.length = xs.length) (hys : ys.flatMap f = (xs.flatMap f).set o u) : GathR (w.setCell ⟨g, o, none⟩ u) B e f k v ys := by
  refine ⟨by rw [hys, List.length_set, hl]; exact h.1, ?_⟩
  rw [hl]
  rcases h.2 with ⟨rfl, _⟩ | ⟨g', cap, cur, rfl, hB, hg, h1, h2, h3, h4⟩
  · cases hv
  · obtain rfl : g' = g := Option.some.inj hv
    refine .inr ⟨g', cap, cur.setIfInBounds o u, rfl, hB, ?_, h1, h2, by rw [Array.size_setIfInBounds]; exact h3, ?_⟩
    · simp [World.setCell, Array.getElem?_modify, hg]
    · rw [Array.toList_setIfInBounds, List.take_set, h4, hys]
theorem Grew.setCell {w w' : World} {v v' : Value} {g o : Nat} {u : Value} (h : Grew w w' v v') (hg : v'.ownBlock = some g) : Grew w (w'.setCell ⟨g, o, none⟩ u) v v' := by
  refine ⟨⟨h.by_.os, h.by_.tape, h.by_.output, by simpa using h.by_.size, fun b hb hn => ?_⟩, h.own⟩
  rw [← h.by_.block b hb hn]
  refine Below.heap_setCell w' _ u b (fun e => ?_)
  simp only at e
  subst e
  rcases h.own b hg with h1 | h1
  · exact hn h1.symm
  · omega
end
end Go.Proofs.YtjeifmjcgemlgaaGreatDoor
/- A region that draws its order: a head of operations that read or call functions which leave old memory alone, in whatever order, and a tail in one forced order that may make memory. -/
namespace Go.Proofs.YtjeifmjcgemlgaaGreatDoor
open Go.RowKit

section
variable {P : Program} {ops : Array Oper} {md : Region.Mode} {C : World → Prop}
def wpAnyLQ (P : Program) (md : Region.Mode) (ops : Array Oper) (C : World → Prop) (n : Nat) (T : Array Bool → Act → Prop) : Nat → Array Bool → Act → Prop
  | 0, listed, a => T listed a
  | f + 1, listed, a => Region.ready md ops listed ≠ [] ∧ ∀ i ∈ Region.ready md ops listed, i < n ∧ qOp P ops C i (wpAnyLQ P md ops C n T f (listed.setIfInBounds i true)) a
theorem wpAny_of_headQ {n g : Nat} {T : Array Bool → Act → Prop} {Q' : Exit → Act → World → Prop} (hT : ∀ listed a w, C w → T listed a → wpAny P md ops Q' g listed a w) :
    ∀ (f : Nat) (listed : Array Bool) (a : Act) (w : World), C w → wpAnyLQ P md ops C n T f listed a → wpAny P md ops Q' (f + g) listed a w
  | 0, listed, a, w, hw, h => by rw [Nat.zero_add]; exact hT _ _ _ hw h
  | f + 1, listed, a, w, hw, h => by
    rw [show f + 1 + g = (f + g) + 1 by omega]
    exact ⟨fun h0 => absurd h0 h.1, fun i hi => wpOp_of_qOp hw (fun a' w' hw' h' => wpAny_of_headQ hT f _ a' w' hw' h') (h.2 i hi).2⟩
theorem wpAnyLQ_first {n i : Nat} {oi : Oper} {v : Value} {T : Array Bool → Act → Prop} (hi : ops[i]? = some oi) (hsel : ∀ (j : Nat) (o : Oper) cs b, ops[j]? = some o → o.op ≠ .select cs b)
    (hs : Region.sinkB md ops n = true) (hc : Region.chainB md ops n = true) (hn : n < ops.size) (hin : i < n) (hdone : ∀ listed a, T listed a → ∀ j ∈ Region.ready md ops listed, n ≤ j) :
    ∀ (f : Nat) (listed : Array Bool) (a : Act), HeadInv md ops n listed →
      (∀ j oj, ops[j]? = some oj → j ≠ i → listed.getD j true = false → (∀ e ∈ oj.after, Region.binds md e = true → e.on ≠ i) → oi.apart ops oj = true) →
      i ∈ Region.ready md ops listed → YieldsIn P ops C oi v a →
      wpAnyLQ P md ops C n T f (listed.setIfInBounds i true) (a.put oi.dst v) → wpAnyLQ P md ops C n T (f + 1) listed a := by
  intro f
  induction f with
  | zero =>
    intro listed a inv _ hr hy H
    have hun := (mem_ready.1 hr).1
    refine ⟨fun h => (by rw [h] at hr; cases hr), fun j hj => ?_⟩
    have hjn : j < n := by
      rcases Nat.lt_or_ge j n with h | h
      · exact h
      · exact absurd hj (tail_waits hs hc hn inv _ i rfl hin hun j h)
    refine ⟨hjn, ?_⟩
    by_cases hji : j = i
    · subst hji; exact hy.qOp hi H
    · have := hdone _ _ H j (ready_mono hj hji)
      omega
  | succ f ih =>
    intro listed a inv hfree hr hy H
    have hun := (mem_ready.1 hr).1
    refine ⟨fun h => (by rw [h] at hr; cases hr), fun j hj => ?_⟩
    have hjn : j < n := by
      rcases Nat.lt_or_ge j n with h | h
      · exact h
      · exact absurd hj (tail_waits hs hc hn inv _ i rfl hin hun j h)
    refine ⟨hjn, ?_⟩
    by_cases hji : j = i
    · subst hji; exact hy.qOp hi H
    · have h1 := (H.2 j (ready_mono hj hji)).2
      obtain ⟨hjun, oj, hoj, hall⟩ := mem_ready.1 hj
      have hnot : ∀ e ∈ oj.after, Region.binds md e = true → e.on ≠ i := fun e he hb heq => by
        have h1 := hall e he hb
        rw [heq, getD_both hun] at h1
        cases h1
      have h2 := qOp_put hoj (hfree j oj hoj hji hjun hnot) (fun cs b => hsel i oi cs b hi) (fun cs b => hsel j oj cs b hoj) hy h1
      have hfree' : ∀ k ok, ops[k]? = some ok → k ≠ i → (listed.setIfInBounds j true).getD k true = false →
          (∀ e ∈ ok.after, Region.binds md e = true → e.on ≠ i) → oi.apart ops ok = true := fun k ok hk hki hun hno => by
        refine hfree k ok hk hki ?_ hno
        by_cases hjk : j = k
        · subst hjk; exact hjun
        · rw [getD_set_ne true hjk] at hun; exact hun
      refine qOp_mono (fun a' h3 => ih (listed.setIfInBounds j true) a' (inv.set hj hjn) hfree' (ready_mono hr (Ne.symm hji)) h3.1 ?_) h2
      rw [Array.setIfInBounds_comm _ _ hji]
      exact h3.2
theorem wpAnyLQ_lex {n g : Nat} {Tq : Act → Prop} (hsel : Region.noSelect ops = true) (hs : Region.sinkB md ops n = true) (hc : Region.chainB md ops n = true) (hn : n < ops.size) :
    ∀ (l : List Oper) (k : Nat) (listed : Array Bool) (a : Act), (∀ j, j < l.length → l[j]? = ops[k + j]?) → k + l.length = n → HeadInv md ops n listed →
    Region.lexHead md ops g l.length k listed = true → wpQuiet P ops C Tq l a →
    wpAnyLQ P md ops C n (fun listed' a' => Region.seqB md ops g n listed' = true ∧ Tq a') l.length listed a
  | [], k, listed, a, _, hk, _, hB, h => by
    have : k = n := by simpa using hk
    subst this
    exact ⟨by simpa [Region.lexHead] using hB, h⟩
  | o :: l, k, listed, a, hl, hk, inv, hB, h => by
    have h0 : ops[k]? = some o := by simpa using (hl 0 (by simp)).symm
    simp only [List.length_cons, Region.lexHead, Bool.and_eq_true] at hB
    obtain ⟨⟨hr, hf⟩, hB'⟩ := hB
    have hkn : k < n := by simp only [List.length_cons] at hk; omega
    have hr' : k ∈ Region.ready md ops listed := by simpa using hr
    have hst : qOp P ops C k (wpQuiet P ops C Tq l) a := by unfold qOp; simp only [h0]; exact h
    obtain ⟨v, hy, hK⟩ := yieldsIn_of_qOp h0 hst
    exact wpAnyLQ_first h0 (Region.noSelect_spec hsel) hs hc hn hkn (fun listed' a' hL => seqB_ready hL.1) l.length listed a inv (Region.free_spec h0 hf) hr' hy
      (wpAnyLQ_lex hsel hs hc hn l (k + 1) _ _ (fun j hj => by have := hl (j + 1) (by simp; omega); simpa [Nat.add_assoc, Nat.add_comm 1 j] using this) (by simp only [List.length_cons] at hk; omega) (inv.set hr' hkn) hB' hK)
theorem wp_region_quiet_tail {id : Nat} {Q : Exit → Act → World → Prop} {a : Act} {w : World} {l : List Oper} (n : Nat) (hm : P.follows .mixedOrders = true) (hB : Region.lexTailB .any l.toArray n = true) (hC : C { w with drawn := w.drawn + 1 })
    (h : wpQuiet P l.toArray C (fun a' => ∀ w', C w' → wpList P l.toArray Q (l.drop n) a' w') (l.take n) a) : (Code.region id l.toArray true).wp P Q a w := by
  simp only [Region.lexTailB, Bool.and_eq_true, decide_eq_true_eq] at hB
  obtain ⟨⟨⟨⟨hsel, hn⟩, hs⟩, hc⟩, hlex⟩ := hB
  have hn' : n < l.length := by simpa using hn
  have htl : (l.take n).length = n := by simp; omega
  have hdl : (l.drop n).length = l.toArray.size - n := by simp
  have inv0 : HeadInv .any l.toArray n (Array.replicate l.toArray.size false) :=
    ⟨by simp, fun j oj _ hl => (by rw [getD_replicate_false] at hl; cases hl), fun t _ ht => getD_in (by simpa using ht) (getD_replicate_false _ _)⟩
  have H := wpAnyLQ_lex (md := .any) (g := l.toArray.size - n) hsel hs hc hn (l.take n) 0 _ a (fun j hj => by
    have hj' : j < n := by rw [htl] at hj; exact hj
    simp [hj']) (by simpa using htl) inv0 (by rw [htl]; exact hlex) h
  refine wp_region_any hm ?_
  have := wpAny_of_headQ (Q' := Q) (g := l.toArray.size - n) (fun listed a' w' hw' hL => by
    have := wpAny_of_seq (md := .any) (Q' := Q) (l.drop n) n listed a' w' (fun j => by simp [List.getElem?_drop]) (by rw [hdl]; exact hL.1) (hL.2 w' hw')
    rwa [hdl] at this) _ _ _ _ hC H
  rw [htl, show n + (l.toArray.size - n) = l.toArray.size by omega] at this
  exact this
end
theorem wp_region_kept_tail {P : Program} {id : Nat} {Q : Exit → Act → World → Prop} {a : Act} {w : World} {l : List Oper} (n : Nat) (hm : P.follows .mixedOrders = true) (hB : Region.lexTailB .any l.toArray n = true)
    (h : wpQuiet P l.toArray (fun w' => ∃ x : KW w, w' = x.W) (fun a' => ∀ w', (∃ x : KW w, w' = x.W) → wpList P l.toArray Q (l.drop n) a' w') (l.take n) a) : (Code.region id l.toArray true).wp P Q a w :=
  wp_region_quiet_tail (C := fun w' => ∃ x : KW w, w' = x.W) n hm hB ⟨⟨w.drew, (Kept.refl w).drew⟩, rfl⟩ h
end Go.Proofs.YtjeifmjcgemlgaaGreatDoor
/- A region that draws its order and stores into one block of the call's own, the rest of it only reading or calling functions that leave old memory alone: one walk in the order of the text. -/
namespace Go.Proofs.YtjeifmjcgemlgaaGreatDoor
open Go.RowKit

section
variable {P : Program} {ops : Array Oper} {md : Region.Mode} {C : World → Prop}
/-- what an operation hands back: the value v in a world of the class -/
def sUpon (P : Program) (C : World → Prop) (w : World) (v : Value) : Result Next → Prop
  | .ok (.value u) w' => C w' ∧ u = v
  | .ok .skip w' => C w' ∧ v = undef
  | .ok (.enter f args) w' => w' = w ∧ Calls P f args w (fun e w'' => e = .returned v ∧ C w'')
  | _ => False
def sAt (P : Program) (o : Oper) (a : Act) (C : World → Prop) (w : World) (v : Value) : Prop := sUpon P C w v ((execOp a.eval o).run P w)
def sOne (P : Program) (o : Oper) (a : Act) (C : World → Prop) (K : Act → Prop) : Prop := ∃ v, (∀ w, C w → sAt P o a C w v) ∧ K (a.put o.dst v)
theorem sAt_of_quiet {o : Oper} {a : Act} {w : World} {v : Value} (hw : C w) (h : o.quietAt P a C w v) : sAt P o a C w v := by
  unfold Oper.quietAt at h
  unfold sAt
  generalize (execOp a.eval o).run P w = r at *
  cases r with
  | ok n w' =>
    cases n <;> simp only [Oper.quietUpon] at h <;> simp only [sUpon]
    · exact ⟨h.1 ▸ hw, h.2⟩
    · exact ⟨h.1 ▸ hw, h.2⟩
    · exact h
  | halt x w' => simp only [Oper.quietUpon] at h
def sOp (P : Program) (ops : Array Oper) (C : World → Prop) (i : Nat) (K : Act → Prop) (a : Act) : Prop :=
  match ops[i]? with
  | none => K a
  | some o => if Region.wanted o (yielded ops a.tmps) then sOne P o a C K else K (a.put o.dst undef)
theorem sOp_mono {i : Nat} {a : Act} {K K' : Act → Prop} (h : ∀ a, K a → K' a) (hh : sOp P ops C i K a) : sOp P ops C i K' a := by
  unfold sOp at *
  split
  · exact h _ (by simpa [*] using hh)
  · rename_i o ho
    simp only [ho] at hh
    split
    · rename_i hw
      simp only [hw, if_true] at hh
      obtain ⟨v, h1, h2⟩ := hh
      exact ⟨v, h1, h _ h2⟩
    · rename_i hw
      simp only [hw] at hh
      exact h _ hh
/-- the walk in the order of the text -/
def sWalk (P : Program) (ops : Array Oper) (C : World → Prop) (Q : Act → Prop) : List Oper → Act → Prop
  | [], a => Q a
  | o :: rest, a => if Region.wanted o (yielded ops a.tmps) then sOne P o a C (sWalk P ops C Q rest) else sWalk P ops C Q rest (a.put o.dst undef)
def sAny (P : Program) (md : Region.Mode) (ops : Array Oper) (C : World → Prop) (Q : Act → Prop) : Nat → Array Bool → Act → Prop
  | 0, listed, a => Region.ready md ops listed = [] ∧ Q a
  | f + 1, listed, a => (Region.ready md ops listed = [] → Q a) ∧ ∀ i ∈ Region.ready md ops listed, sOp P ops C i (sAny P md ops C Q f (listed.setIfInBounds i true)) a
theorem wp_of_sOne {o : Oper} {a : Act} {K : Act → Prop} {K' : Act → World → Prop} {Q' : Exit → Act → World → Prop} {w : World} (hw : C w) (h : ∀ a w', C w' → K a → K' a w') (hh : sOne P o a C K) : o.wp P a w K' Q' := by
  obtain ⟨v, h1, h2⟩ := hh
  have h3 := h1 w hw
  unfold sAt at h3
  unfold Oper.wp
  generalize (execOp a.eval o).run P w = r at *
  cases r with
  | ok n w' =>
    cases n <;> simp only [sUpon] at h3 <;> simp only [Oper.upon]
    case value u =>
      rw [h3.2]
      exact h _ _ h3.1 h2
    case skip =>
      rw [← h3.2]
      exact h _ _ h3.1 h2
    case enter f args =>
      obtain ⟨e1, hc⟩ := h3
      rw [e1]
      exact hc.mono fun e w'' ⟨he, hw''⟩ => by subst he; exact h _ _ hw'' h2
  | halt x w' => simp only [sUpon] at h3
theorem wpAny_of_sAny {Q : Act → Prop} {Q' : Exit → Act → World → Prop} (hQ : ∀ a w, C w → Q a → Q' .normal a w) : ∀ (f : Nat) (listed : Array Bool) (a : Act) (w : World), C w → sAny P md ops C Q f listed a → wpAny P md ops Q' f listed a w
  | 0, _, _, _, hw, h => ⟨h.1, hQ _ _ hw h.2⟩
  | f + 1, listed, a, w, hw, h => ⟨fun h0 => hQ _ _ hw (h.1 h0), fun i hi => by
    have hh := h.2 i hi
    unfold sOp at hh
    unfold wpOp
    split
    · rename_i ho; simp only [ho] at hh; exact wpAny_of_sAny hQ f _ _ _ hw hh
    · rename_i o ho
      simp only [ho] at hh
      split
      · rename_i hx; simp only [hx, if_true] at hh; exact .inl (wp_of_sOne hw (fun a' w' hw' => wpAny_of_sAny hQ f _ a' w' hw') hh)
      · rename_i hx; simp only [hx] at hh; exact wpAny_of_sAny hQ f _ _ _ hw hh⟩
/-- an operation's value, or that it is not wanted -/
def sYld (P : Program) (ops : Array Oper) (C : World → Prop) (o : Oper) (v : Value) (a : Act) : Prop :=
  (Region.wanted o (yielded ops a.tmps) = true ∧ ∀ w, C w → sAt P o a C w v) ∨ (Region.wanted o (yielded ops a.tmps) = false ∧ v = undef)
theorem sYld.op {i : Nat} {o : Oper} {v : Value} {a : Act} (hi : ops[i]? = some o) (hy : sYld P ops C o v a) {K : Act → Prop} (h : K (a.put o.dst v)) : sOp P ops C i K a := by
  unfold sOp
  simp only [hi]
  rcases hy with ⟨hw, hv⟩ | ⟨hw, rfl⟩
  · simp only [hw, if_true]; exact ⟨v, hv, h⟩
  · simp only [hw, Bool.false_eq_true, if_false]; exact h
theorem sYld_of_op {i : Nat} {o : Oper} {a : Act} {K : Act → Prop} (hi : ops[i]? = some o) (h : sOp P ops C i K a) : ∃ v, sYld P ops C o v a ∧ K (a.put o.dst v) := by
  unfold sOp at h
  simp only [hi] at h
  by_cases hw : Region.wanted o (yielded ops a.tmps) = true
  · simp only [hw, if_true] at h
    obtain ⟨v, h1, h2⟩ := h
    exact ⟨v, .inl ⟨hw, h1⟩, h2⟩
  · simp only [hw] at h
    exact ⟨undef, .inr ⟨by simpa using hw, rfl⟩, h⟩
theorem sOp_put {j : Nat} {oi oj : Oper} {v : Value} (hj : ops[j]? = some oj) (hap : oi.apart ops oj = true) (hsi : ∀ cs b, oi.op ≠ .select cs b) (hsj : ∀ cs b, oj.op ≠ .select cs b) {K : Act → Prop} {a : Act}
    (hy : sYld P ops C oi v a) (h : sOp P ops C j K (a.put oi.dst v)) : sOp P ops C j (fun a' => sYld P ops C oi v a' ∧ K (a'.put oi.dst v)) a := by
  obtain ⟨h1, h2, h3⟩ := Oper.apart_spec hap
  have keep : ∀ u, sYld P ops C oi v (a.put oj.dst u) := fun u => by
    have e1 := execOp_put oi hsi a oj.dst u h3
    have e2 := wanted_put oi a oj.dst u h3
    unfold sYld sAt at *
    rw [e1, e2]
    exact hy
  unfold sOp at *
  simp only [hj] at *
  rw [wanted_put oj a oi.dst v h1] at h
  split
  · rename_i hw
    simp only [hw, if_true] at h
    obtain ⟨u, hu, hn⟩ := h
    refine ⟨u, fun w hw' => ?_, keep u, by rw [← Act.put_comm a v u h2]; exact hn⟩
    have := hu w hw'
    unfold sAt at *
    rwa [execOp_put oj hsj a oi.dst v h1] at this
  · rename_i hw
    simp only [hw] at h
    exact ⟨keep _, by rw [← Act.put_comm a v undef h2]; exact h⟩
theorem sAny_first {Q : Act → Prop} {i : Nat} {oi : Oper} {v : Value} (hi : ops[i]? = some oi) (hsel : ∀ (j : Nat) (o : Oper) cs b, ops[j]? = some o → o.op ≠ .select cs b) :
    ∀ (f : Nat) (listed : Array Bool) (a : Act),
      (∀ j oj, ops[j]? = some oj → j ≠ i → listed.getD j true = false → (∀ e ∈ oj.after, Region.binds md e = true → e.on ≠ i) → oi.apart ops oj = true) →
      i ∈ Region.ready md ops listed → sYld P ops C oi v a →
      sAny P md ops C Q f (listed.setIfInBounds i true) (a.put oi.dst v) → sAny P md ops C Q (f + 1) listed a := by
  intro f
  induction f with
  | zero =>
    intro listed a _ hr hy H
    refine ⟨fun h => (by rw [h] at hr; cases hr), fun j hj => ?_⟩
    by_cases hji : j = i
    · subst hji; exact hy.op hi H
    · have := ready_mono hj hji
      rw [H.1] at this
      cases this
  | succ f ih =>
    intro listed a hfree hr hy H
    refine ⟨fun h => (by rw [h] at hr; cases hr), fun j hj => ?_⟩
    by_cases hji : j = i
    · subst hji; exact hy.op hi H
    · have h1 := H.2 j (ready_mono hj hji)
      obtain ⟨hjun, oj, hoj, hall⟩ := mem_ready.1 hj
      have hnot : ∀ e ∈ oj.after, Region.binds md e = true → e.on ≠ i := fun e he hb heq => by
        have h1 := hall e he hb
        rw [heq, getD_both (mem_ready.1 hr).1] at h1
        cases h1
      have h2 := sOp_put hoj (hfree j oj hoj hji hjun hnot) (fun cs b => hsel i oi cs b hi) (fun cs b => hsel j oj cs b hoj) hy h1
      have hfree' : ∀ k ok, ops[k]? = some ok → k ≠ i → (listed.setIfInBounds j true).getD k true = false →
          (∀ e ∈ ok.after, Region.binds md e = true → e.on ≠ i) → oi.apart ops ok = true := fun k ok hk hki hun hno => by
        refine hfree k ok hk hki ?_ hno
        by_cases hjk : j = k
        · subst hjk; exact hjun
        · rw [getD_set_ne true hjk] at hun; exact hun
      refine sOp_mono (fun a' h3 => ih (listed.setIfInBounds j true) a' hfree' (ready_mono hr (Ne.symm hji)) h3.1 ?_) h2
      rw [Array.setIfInBounds_comm _ _ hji]
      exact h3.2
theorem sAny_lex {Q : Act → Prop} (hs : Region.noSelect ops = true) : ∀ (l : List Oper) (k : Nat) (listed : Array Bool) (a : Act), (∀ j, l[j]? = ops[k + j]?) →
    Region.lexFrom md ops l.length k listed = true → sWalk P ops C Q l a → sAny P md ops C Q l.length listed a
  | [], _, _, _, _, hB, h => ⟨by simpa [Region.lexFrom] using hB, h⟩
  | o :: l, k, listed, a, hl, hB, h => by
    have h0 : ops[k]? = some o := by simpa using (hl 0).symm
    simp only [List.length_cons, Region.lexFrom, Bool.and_eq_true] at hB
    obtain ⟨⟨hr, hf⟩, hB'⟩ := hB
    have hst : sOp P ops C k (sWalk P ops C Q l) a := by unfold sOp; simp only [h0]; exact h
    obtain ⟨v, hy, hK⟩ := sYld_of_op h0 hst
    exact sAny_first h0 (Region.noSelect_spec hs) l.length listed a (Region.free_spec h0 hf) (by simpa using hr) hy
      (sAny_lex hs l (k + 1) _ _ (fun j => by have := hl (j + 1); simpa [Nat.add_assoc, Nat.add_comm 1 j] using this) hB' hK)
/-- a quiet walk is one, whatever follows it -/
theorem sWalk_of_quiet {Q Q' : Act → Prop} {r : List Oper} (hQ : ∀ a, Q a → sWalk P ops C Q' r a) : ∀ (l : List Oper) (a : Act), wpQuiet P ops C Q l a → sWalk P ops C Q' (l ++ r) a
  | [], a, h => hQ a h
  | o :: l, a, h => by
    rw [List.cons_append]
    unfold wpQuiet at h
    unfold sWalk
    split
    · rename_i hw
      rw [if_pos hw] at h
      obtain ⟨v, h1, h2⟩ := h
      exact ⟨v, fun w hw => sAt_of_quiet hw (h1 w hw), sWalk_of_quiet hQ l _ h2⟩
    · rename_i hw
      rw [if_neg hw] at h
      exact sWalk_of_quiet hQ l _ h
/-- **one store, at place n of the region** -/
theorem wp_region_store {id : Nat} {Q : Exit → Act → World → Prop} {a : Act} {w : World} {l : List Oper} (n : Nat) (o : Oper) (hm : P.follows .mixedOrders = true) (hB : Region.lexB .any l.toArray = true) (hn : l = l.take n ++ o :: l.drop (n + 1)) (hd : o.dst = none) (hC : C w.drew)
    (h : wpQuiet P l.toArray C (fun a' => Region.wanted o (yielded l.toArray a'.tmps) = true ∧ (∀ w, C w → sAt P o a' C w undef) ∧ wpQuiet P l.toArray C (fun a'' => ∀ w', C w' → Q .normal a'' w') (l.drop (n + 1)) a') (l.take n) a) :
    (Code.region id l.toArray true).wp P Q a w := by
  simp only [Region.lexB, Bool.and_eq_true] at hB
  refine wp_region_any hm (wpAny_of_sAny (Q := fun a' => ∀ w', C w' → Q .normal a' w') (fun _ w' hw' h => h w' hw') _ _ _ _ hC ?_)
  have hwalk : sWalk P l.toArray C (fun a'' => ∀ w', C w' → Q .normal a'' w') l a := by
    conv => arg 5; rw [hn]
    refine sWalk_of_quiet (fun a' ⟨h1, h2, h3⟩ => ?_) _ _ h
    unfold sWalk
    rw [if_pos h1]
    have he : a'.put o.dst undef = a' := by rw [hd]; rfl
    refine ⟨undef, h2, ?_⟩
    rw [he]
    have := sWalk_of_quiet (r := []) (Q' := fun a'' => ∀ w', C w' → Q .normal a'' w') (fun a ha => ha) _ _ h3
    rwa [List.append_nil] at this
  have := sAny_lex (C := C) (md := .any) hB.1 l 0 (Array.replicate l.toArray.size false) a (by simp) (by simpa using hB.2) hwalk
  simpa using this
end
/-- the worlds behind W0 in which nothing old has changed but the block g, which holds a type -/
structure KG (W0 : World) (g : Nat) (T : TypeId) where
  W : World
  os : W.os = W0.os
  tape : W.tape = W0.tape
  output : W.output = W0.output
  size : W0.heap.size ≤ W.heap.size
  block : ∀ b, b < W0.heap.size → b ≠ g → W.heap[b]? = W0.heap[b]?
  own : ∃ k e : Int, Blk W g T #[.int .i64 k, .int .i64 e]
section
variable {P : Program} {W0 : World} {g : Nat} {T : TypeId}
theorem KG.start {k e : Int} (hB : Blk W0 g T #[.int .i64 k, .int .i64 e]) : ∃ x : KG W0 g T, W0.drew = x.W := ⟨⟨W0.drew, rfl, rfl, rfl, Nat.le_refl _, fun _ _ _ => rfl, ⟨k, e, hB⟩⟩, rfl⟩
theorem KG.ne {k e : Int} (hB : Blk W0 g T #[.int .i64 k, .int .i64 e]) : Nonempty (KG W0 g T) := (KG.start hB).elim fun x _ => ⟨x⟩
theorem KG.cell {b o : Nat} {v : Value} (hne : b ≠ g) (hb : b < W0.heap.size) (hc : W0.cell? ⟨b, o, none⟩ = some v) (x : KG W0 g T) : x.W.cell? ⟨b, o, none⟩ = some v := by
  rw [World.cell?_of_block (a := ⟨b, o, none⟩) (x.block b hb hne)]; exact hc
theorem KG.kept {w : World} (hk : Kept w W0) (hg : w.heap.size ≤ g) (x : KG W0 g T) : Kept w x.W :=
  ⟨x.os.trans hk.os, x.tape.trans hk.tape, x.output.trans hk.output, Nat.le_trans hk.size x.size, fun b hb => (x.block b (Nat.lt_of_lt_of_le hb hk.size) (by omega)).trans (hk.block b hb)⟩
def KG.next (x : KG W0 g T) {w' : World} (hk : Kept x.W w') : KG W0 g T :=
  ⟨w', hk.os.trans x.os, hk.tape.trans x.tape, hk.output.trans x.output, Nat.le_trans x.size hk.size, fun b hb hne => (hk.block b (Nat.lt_of_lt_of_le hb x.size)).trans (x.block b hb hne), by
    obtain ⟨k, e, h⟩ := x.own
    exact ⟨k, e, h.kept hk⟩⟩
theorem KG.call {f : FuncId} {args : Array Value} {x : KG W0 g T} {v : Value} (h : Calls P f args x.W fun e w' => e = .returned v ∧ Kept x.W w') : Calls P f args x.W fun e w'' => e = .returned v ∧ ∃ y : KG W0 g T, w'' = y.W :=
  h.mono fun _ _ ⟨he, hk⟩ => ⟨he, x.next hk, rfl⟩
theorem KG.pure {f : FuncId} {args : Array Value} {x : KG W0 g T} {v : Value} (h : Calls P f args x.W fun e w' => e = .returned v ∧ x.W = w') : Calls P f args x.W fun e w'' => e = .returned v ∧ ∃ y : KG W0 g T, w'' = y.W :=
  h.mono fun _ _ ⟨he, hk⟩ => ⟨he, x, hk.symm⟩
theorem KG.store {o : Oper} {a : Act} {ty : TypeId} {x y : Operand} {k e : Int} (ho : o.op = .store ty x y) (hx : a.eval x = .pointer (some ⟨g, 0, none⟩)) (hy : a.eval y = .agg #[.int .i64 k, .int .i64 e]) (hi : (P.info? ty).map (·.size) = some 2) :
    ∀ w, (∃ x : KG W0 g T, w = x.W) → sAt P o a (fun w' => ∃ x : KG W0 g T, w' = x.W) w undef := by
  rintro _ ⟨X, rfl⟩
  obtain ⟨k0, e0, hB⟩ := X.own
  have ht : X.W.there g 0 2 := fun j hj => by
    rw [Nat.zero_add, hB.cell, hB.frozen]
    refine ⟨?_, rfl⟩
    match j, hj with
    | 0, _ => rfl
    | 1, _ => rfl
  have hone : (#[Value.int .i64 k, Value.int .i64 e].all (·.oneCell')) = true := Array.all_eq_true_iff_forall_mem.2 (fun v hv => by
    simp only [List.mem_toArray, List.mem_cons, List.not_mem_nil, or_false] at hv
    rcases hv with rfl | rfl <;> rfl)
  unfold sAt execOp
  simp only [ho, hx, hy, Instr.storeAt, Instr.sureAddr, Sem.run_bind, Sem.run_pure, Result.andThen_ok, run_storeVar_mid X.W g 0 ty #[.int .i64 k, .int .i64 e] ht hi hone]
  refine ⟨⟨⟨(X.W.setCell ⟨g, 0, none⟩ (.int .i64 k)).setCell ⟨g, 1, none⟩ (.int .i64 e), X.os, X.tape, X.output, ?_, fun b hb hne => ?_, ⟨k, e, (hB.set_ 0 (.int .i64 k)).set_ 1 (.int .i64 e)⟩⟩, rfl⟩, rfl⟩
  · simpa using X.size
  · rw [Below.heap_setCell _ _ _ _ hne, Below.heap_setCell _ _ _ _ hne]
    exact X.block b hb hne
end
end Go.Proofs.YtjeifmjcgemlgaaGreatDoor
