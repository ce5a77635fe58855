/- The text of code is read back, and a text that is read is the text of the code. -/
import Derived.Test.YtnoegcdogcbhbaaDoorBcText
namespace Go.Proofs.YtnoegcdogcbhbaaDoor
open Go.RowKit

def lineL (x : Nd) : List UInt8 := mnS x.o ++ 32 :: L (numS x.n)
def inR (n : Int) : Bool := decide (-4611686018427387904 ≤ n) && decide (n ≤ 4611686018427387904)
/-- the first error in code, or 0 -/
def fmtE : List Nd → Int
  | [] => 0
  | x :: r => if mnS x.o = [] then 2 else if inR x.n then fmtE r else 3
def fmtC (c : List Nd) : ByteArray × Int := if 128 < c.length then (⟨#[]⟩, 4) else if fmtE c = 0 then (bs (textL (c.map lineL)), 0) else (⟨#[]⟩, fmtE c)
/-- a line -/
def parL (l : List UInt8) : Nd × Int :=
  match l.drop (l.takeWhile (· != 32)).length with
  | [] => (⟨0, 0⟩, 2)
  | _ :: num =>
    if l.takeWhile (· != 32) = [] ∨ num = [] ∨ 32 ∈ num then (⟨0, 0⟩, 2)
    else if opOf (l.takeWhile (· != 32)) = 0 then (⟨0, 0⟩, 6)
    else if (refI num).2 = 0 then (⟨opOf (l.takeWhile (· != 32)), (refI num).1⟩, 0) else (⟨0, 0⟩, (refI num).2)
def parF : List (List UInt8) → Nat → List Nd → List Nd × Nat × Int
  | [], _, acc => (acc, 0, 0)
  | l :: r, i, acc => if 128 ≤ i then ([], i, 4) else if (parL l).2 = 0 then parF r (i + 1) (acc ++ [(parL l).1]) else ([], i, (parL l).2)
def parC (s : ByteArray) : List Nd × Nat × Int := if (linR s).2 = 0 then parF ((linR s).1.map L) 0 [] else ([], 0, (linR s).2)

theorem mn_all (P : UInt8 → Bool) (h : (mnT.all fun l => l.all P) = true) (op : Int) : ∀ c ∈ mnS op, P c = true := by
  intro c hc
  unfold mnS at hc
  split at hc
  · cases hg : mnT[op.toNat]? with
    | none => rw [hg] at hc; simp at hc
    | some l =>
      rw [hg, Option.getD_some] at hc
      rw [List.all_eq_true] at h
      have := h l (List.mem_of_getElem? hg)
      rw [List.all_eq_true] at this
      exact this c hc
  · simp at hc
theorem mn_low (op : Int) : ∀ c ∈ mnS op, 97 ≤ c.toNat ∧ c.toNat ≤ 122 := by
  intro c hc
  have := mn_all (fun c => decide (97 ≤ c.toNat) && decide (c.toNat ≤ 122)) (by kernel_rfl) op c hc
  simpa using this
theorem num_bytes (n : Int) : ∀ c ∈ L (numS n), c.toNat = 45 ∨ (48 ≤ c.toNat ∧ c.toNat ≤ 57) := by
  have hd : ∀ c ∈ absD n, 48 ≤ c.toNat ∧ c.toNat ≤ 57 := by
    intro c hc
    have h1 : (absD n).all isDig = true := by unfold absD; exact decDigits_all _
    have := List.all_eq_true.1 h1 c hc
    unfold isDig at this
    simpa using this
  intro c hc
  by_cases h : n < 0
  · rw [numS_neg h, L_bs] at hc
    rcases List.mem_cons.1 hc with rfl | hc
    · exact .inl rfl
    · exact .inr (hd c hc)
  · rw [numS_pos h, L_bs] at hc
    exact .inr (hd c hc)
theorem numS_ne (n : Int) : L (numS n) ≠ [] := by
  by_cases h : n < 0
  · rw [numS_neg h, L_bs]; simp
  · rw [numS_pos h, L_bs]; exact decDigits_ne _
theorem line_ok (x : Nd) : Line (lineL x) := by
  intro c hc
  unfold lineL at hc
  rw [List.mem_append, List.mem_cons] at hc
  rcases hc with hc | rfl | hc
  · have := mn_low x.o c hc; omega
  · exact ⟨by decide, by decide⟩
  · have := num_bytes x.n c hc; omega
theorem not32 {l : List UInt8} (h : ∀ c ∈ l, c.toNat ≠ 32) : ∀ c ∈ l, (c != 32) = true := fun c hc => by
  have := h c hc
  simpa using fun e : c = 32 => this (by rw [e]; rfl)
theorem takeWhile_32 {a b : List UInt8} (h : ∀ c ∈ a, (c != 32) = true) : (a ++ 32 :: b).takeWhile (· != 32) = a := by
  rw [List.takeWhile_append_of_pos h, List.takeWhile_cons]
  simp
theorem inR_rt {n : Int} (h : inR n = true) : rt n = (n, 0) := by
  unfold inR at h
  simp only [Bool.and_eq_true, decide_eq_true_eq] at h
  rw [rt, if_neg (by omega)]
theorem parL_line {x : Nd} (h1 : mnS x.o ≠ []) (h2 : inR x.n = true) : parL (lineL x) = (x, 0) := by
  have hw : (lineL x).takeWhile (· != 32) = mnS x.o := takeWhile_32 (not32 (fun c hc => by have := mn_low x.o c hc; omega))
  unfold parL
  rw [hw]
  have hd : (lineL x).drop (mnS x.o).length = 32 :: L (numS x.n) := by unfold lineL; rw [List.drop_left]
  rw [hd]
  dsimp only
  rw [if_neg, refI_num, inR_rt h2]
  · have ho := opOf_of h1
    rw [if_neg, if_pos rfl, ho]
    intro e
    rw [e] at ho
    rw [← ho] at h1
    exact h1 rfl
  · rintro (e | e | e)
    · exact h1 e
    · exact numS_ne _ e
    · have := num_bytes x.n 32 e
      revert this; decide
theorem parF_lines : ∀ (c : List Nd) (i : Nat) (acc : List Nd), i + c.length ≤ 128 → fmtE c = 0 → parF (c.map lineL) i acc = (acc ++ c, 0, 0)
  | [], i, acc, _, _ => by rw [List.map_nil, parF, List.append_nil]
  | x :: r, i, acc, hi, hf => by
    rw [List.length_cons] at hi
    rw [fmtE] at hf
    split at hf
    · exact absurd hf (by decide)
    · rename_i h1
      split at hf
      · rename_i h2
        rw [List.map_cons, parF, if_neg (by omega), parL_line h1 h2, if_pos rfl, parF_lines r (i + 1) _ (by omega) hf]
        simp
      · exact absurd hf (by decide)
theorem lineL_len {x : Nd} (h : inR x.n = true) : (lineL x).length ≤ 40 := by
  have hm : (mnS x.o).length ≤ 12 := by
    have hb : (mnT.all fun l => decide (l.length ≤ 12)) = true := by kernel_rfl
    unfold mnS
    split
    · cases hg : mnT[x.o.toNat]? with
      | none => simp
      | some l =>
        rw [Option.getD_some]
        rw [List.all_eq_true] at hb
        simpa using hb l (List.mem_of_getElem? hg)
    · simp
  unfold inR at h
  simp only [Bool.and_eq_true, decide_eq_true_eq] at h
  have := numS_size x.n (by omega) (by omega)
  unfold lineL
  rw [List.length_append, List.length_cons, L_length]
  omega
theorem text_len : ∀ (c : List Nd), fmtE c = 0 → (textL (c.map lineL)).length ≤ 41 * c.length
  | [], _ => by simp [textL]
  | x :: r, hf => by
    rw [fmtE] at hf
    split at hf
    · exact absurd hf (by decide)
    · split at hf
      · rename_i h2
        have := text_len r hf
        have := lineL_len h2
        rw [List.map_cons, textL_cons, List.length_append, List.length_cons, List.length_cons]
        omega
      · exact absurd hf (by decide)
theorem linR_code {c : List Nd} (hl : c.length ≤ 128) (hf : fmtE c = 0) : linR (bs (textL (c.map lineL))) = ((c.map lineL).map bs, 0) := by
  have := text_len c hf
  exact linR_text (fun l h => by obtain ⟨x, _, rfl⟩ := List.mem_map.1 h; exact line_ok x) (by omega)
theorem map_L_bs (l : List (List UInt8)) : (l.map bs).map L = l := by
  rw [List.map_map]
  have : L ∘ bs = id := by funext s; exact L_bs s
  rw [this, List.map_id]
/-- parsing the text of code returns the code -/
theorem parC_fmt {c : List Nd} (h : (fmtC c).2 = 0) : parC (fmtC c).1 = (c, 0, 0) := by
  unfold fmtC at h ⊢
  split at h
  · exact absurd h (by decide)
  · rename_i h1
    split at h
    · rename_i h2
      rw [if_neg h1, if_pos h2]
      unfold parC
      rw [linR_code (by omega) h2]
      dsimp only
      rw [if_pos rfl, map_L_bs, parF_lines c 0 [] (by omega) h2, List.nil_append]
    · rename_i h2
      exact absurd h h2
theorem dw_head {p : UInt8 → Bool} : ∀ {l r : List UInt8} {c : UInt8}, l.dropWhile p = c :: r → p c = false
  | [], _, _, h => by simp at h
  | x :: l, r, c, h => by
    rw [List.dropWhile_cons] at h
    split at h
    · exact dw_head h
    · rename_i hp
      obtain ⟨rfl, _⟩ := List.cons.inj h
      simpa using hp
theorem drop_tw (p : UInt8 → Bool) (l : List UInt8) : l.drop (l.takeWhile p).length = l.dropWhile p ∧ l.takeWhile p ++ l.dropWhile p = l := by
  have e := List.takeWhile_append_dropWhile (p := p) (l := l)
  refine ⟨?_, e⟩
  generalize l.takeWhile p = W at *
  generalize l.dropWhile p = R at *
  subst e
  rw [List.drop_left]
theorem refI_inR {l : List UInt8} {v : Int} (h : refI l = (v, 0)) : inR v = true := by
  have h1 := refI_num v
  rw [refI_canon h, h] at h1
  unfold rt at h1
  split at h1
  · exact absurd (show (0 : Int) = 3 from congrArg Prod.snd h1) (by decide)
  · unfold inR
    rename_i h2
    rw [decide_eq_true (by omega), decide_eq_true (by omega)]; rfl
theorem parL_back {l : List UInt8} {x : Nd} (h : parL l = (x, 0)) : lineL x = l ∧ mnS x.o ≠ [] ∧ inR x.n = true := by
  obtain ⟨e1, e2⟩ := drop_tw (· != 32) l
  have hhd := @dw_head (· != 32) l
  unfold parL at h
  rw [e1] at h
  generalize l.takeWhile (· != 32) = W at *
  generalize l.dropWhile (· != 32) = R at *
  cases R with
  | nil => exact absurd (show (2 : Int) = 0 from congrArg Prod.snd h) (by decide)
  | cons c num =>
    have hc : c = 32 := by have := hhd rfl; simpa using this
    subst hc
    dsimp only at h
    split at h
    · exact absurd (show (2 : Int) = 0 from congrArg Prod.snd h) (by decide)
    · rename_i h1
      split at h
      · exact absurd (show (6 : Int) = 0 from congrArg Prod.snd h) (by decide)
      · rename_i h2
        split at h
        · rename_i h3
          obtain rfl : _ = x := congrArg Prod.fst h
          have hmn := opOf_mn h2
          have hr : refI num = ((refI num).1, 0) := Prod.ext rfl h3
          refine ⟨?_, ?_, refI_inR hr⟩
          · unfold lineL
            dsimp only
            rw [hmn, refI_canon hr, e2]
          · dsimp only
            rw [hmn]
            exact fun e => h1 (.inl e)
        · rename_i h3
          exact absurd (congrArg Prod.snd h) h3
theorem parF_back : ∀ (ls : List (List UInt8)) (i : Nat) (acc c : List Nd) (k : Nat), parF ls i acc = (c, k, 0) → i ≤ 128 → ∃ d, c = acc ++ d ∧ d.map lineL = ls ∧ fmtE d = 0 ∧ i + d.length ≤ 128 ∧ k = 0
  | [], i, acc, c, k, h, hi => by
    rw [parF] at h
    obtain ⟨rfl, h2⟩ := Prod.mk.inj h
    obtain ⟨rfl, _⟩ := Prod.mk.inj h2
    exact ⟨[], by simp, rfl, rfl, by simpa using hi, rfl⟩
  | l :: r, i, acc, c, k, h, hi => by
    rw [parF] at h
    split at h
    · exact absurd (show (4 : Int) = 0 from congrArg (fun p : List Nd × Nat × Int => p.2.2) h) (by decide)
    · rename_i h1
      split at h
      · rename_i h2
        obtain ⟨d, rfl, hd, hf, hl, hk⟩ := parF_back r (i + 1) _ c k h (by omega)
        obtain ⟨b1, b2, b3⟩ := parL_back (l := l) (x := (parL l).1) (Prod.ext rfl h2)
        refine ⟨(parL l).1 :: d, by simp, by rw [List.map_cons, b1, hd], ?_, by rw [List.length_cons]; omega, hk⟩
        rw [fmtE, if_neg b2, if_pos b3]
        exact hf
      · rename_i h2
        exact absurd (congrArg (fun p : List Nd × Nat × Int => p.2.2) h) h2
/-- a text that is read is the text of the code -/
theorem fmtC_par {s : ByteArray} (h : (parC s).2.2 = 0) : fmtC (parC s).1 = (s, 0) ∧ (parC s).2.1 = 0 := by
  unfold parC at h ⊢
  split at h
  · rename_i h1
    rw [if_pos h1]
    obtain ⟨d, hd, hm, hf, hl, hk⟩ := parF_back ((linR s).1.map L) 0 [] (parF ((linR s).1.map L) 0 []).1 (parF ((linR s).1.map L) 0 []).2.1 (Prod.ext rfl (Prod.ext rfl h)) (by decide)
    rw [hd, List.nil_append]
    refine ⟨?_, hk⟩
    unfold fmtC
    rw [if_neg (by omega), if_pos hf, hm, linR_canon (xs := (linR s).1) (Prod.ext rfl h1)]
  · rename_i h1
    exact absurd h h1
theorem parF_err : ∀ (ls : List (List UInt8)) (i : Nat) (acc : List Nd), (parF ls i acc).2.2 ≠ 0 → (parF ls i acc).1 = []
  | [], i, acc, h => by rw [parF] at h; exact absurd rfl h
  | l :: r, i, acc, h => by
    rw [parF] at h ⊢
    split at h
    · rename_i h1; rw [if_pos h1]
    · rename_i h1
      rw [if_neg h1]
      split at h
      · rename_i h2; rw [if_pos h2]; exact parF_err r _ _ h
      · rename_i h2; rw [if_neg h2]
theorem parC_err {s : ByteArray} (h : (parC s).2.2 ≠ 0) : (parC s).1 = [] := by
  unfold parC at h ⊢
  split at h
  · rename_i h1; rw [if_pos h1]; exact parF_err _ _ _ h
  · rename_i h1; rw [if_neg h1]
end Go.Proofs.YtnoegcdogcbhbaaDoor
