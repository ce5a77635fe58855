/- Plain facts about the tokens of a text: where they stand, and what is read from their text. No program stands here. -/
import Derived.Test.YtmlkgfacenajnaaDoorLexMath
namespace Go.Proofs.YtmlkgfacenajnaaDoor

/-- where a token's text begins, behind its offset -/
def quoteN (k : Int) : Nat := if k = 6 then 1 else 0
def srcL (k : Int) (t : List UInt8) : List UInt8 := if k = 6 then 34 :: (t ++ [34]) else t
theorem srcL_six (t : List UInt8) : srcL 6 t = 34 :: (t ++ [34]) := rfl
theorem srcL_no {k : Int} (h : k ≠ 6) (t : List UInt8) : srcL k t = t := by rw [srcL, if_neg h]
theorem lxKL_kind (l : List UInt8) : (lxKL l).1 = 5 ∨ (lxKL l).1 = 3 ∨ (lxKL l).1 = 4 ∨ (lxKL l).1 = 2 := by
  unfold lxKL
  split
  · exact .inl rfl
  · split
    · exact .inr (.inl rfl)
    · split
      · exact .inr (.inr (.inl rfl))
      · exact .inr (.inr (.inr rfl))
/-- what a token that was read has taken -/
theorem lxScan_src {l : List UInt8} (h : (lxScan l).code = 0) : srcL (lxScan l).k (lxScan l).t = l.take (lxScan l).len := by
  cases l with
  | nil => cases h
  | cons c r =>
    rw [lxScan] at h ⊢
    split at h
    · rename_i h1
      rw [if_pos h1]
      rw [show c = 10 from UInt8.toNat_inj.1 h1]; rfl
    · rename_i h1
      rw [if_neg h1]
      split at h
      · rename_i h2
        rw [if_pos h2]
        unfold lxName at h ⊢
        split at h
        · cases h
        · rename_i h3; rw [if_neg h3]; rfl
      · rename_i h2
        rw [if_neg h2]
        split at h
        · rename_i h3
          rw [if_pos h3]
          obtain ⟨e, _⟩ := lxNum_len h
          rw [e]
          exact srcL_no (by rcases lxKL_kind (c :: r) with e | e | e | e <;> simp only [e] <;> decide) _
        · rename_i h3
          rw [if_neg h3]
          split at h
          · rename_i h4
            rw [if_pos h4]
            unfold lxStr at h ⊢
            split at h
            · rename_i h5
              rw [if_pos h5]
              split at h
              · rename_i h6
                rw [if_pos h6]
                split at h
                · cases h
                · rename_i h7
                  rw [if_neg h7]
                  simp only [List.drop_one, List.tail_cons] at h5 ⊢
                  rw [srcL_six, show lead_of inStr r + 2 = (lead_of inStr r + 1) + 1 from rfl, List.take_succ_cons, List.take_add_one, h5, show c = 34 from UInt8.toNat_inj.1 h4]
                  rfl
              · cases h
            · cases h
          · rename_i h4
            rw [if_neg h4]
            rw [lxSym] at h ⊢
            split at h
            · rename_i h5
              rw [if_pos h5]
              cases r with
              | nil => cases h5.1
              | cons d r =>
                have : d = 61 := Option.some.inj h5.1
                rw [this]; rfl
            · rename_i h5
              rw [if_neg h5]
              split at h
              · rename_i h6; rw [if_pos h6]; rfl
              · cases h

/-- the token stands in the text at its offset -/
def TokAt (s : List UInt8) (t : Tok) : Prop := ∃ p : Nat, t.o = p ∧ p + quoteN t.k + t.t.length ≤ s.length ∧ (s.drop (p + quoteN t.k)).take t.t.length = t.t
theorem scan_at {s : List UInt8} {p : Nat} (h : (lxScan (s.drop p)).code = 0) (hp : p < s.length) : TokAt s ⟨(lxScan (s.drop p)).k, (lxScan (s.drop p)).t, (lxScan (s.drop p)).n, (p : Int)⟩ := by
  have h1 := lxScan_src h
  have h2 := (lxScan_len h).2
  generalize lxScan (s.drop p) = r at *
  refine ⟨p, rfl, ?_⟩
  rw [List.length_drop] at h2
  by_cases h6 : r.k = 6
  · rw [h6, srcL_six] at h1
    have hl := congrArg List.length h1
    simp only [List.length_cons, List.length_append, List.length_nil, List.length_take, List.length_drop] at hl
    simp only [h6, quoteN, if_true]
    refine ⟨by omega, ?_⟩
    have e : (s.drop p).take (r.t.length + 1) = 34 :: r.t := by
      have := congrArg (List.take (r.t.length + 1)) h1
      rw [List.take_take, Nat.min_eq_left (by omega)] at this
      rw [← this, List.take_succ_cons, List.take_left' rfl]
    rw [← List.drop_drop]
    have e2 := congrArg (List.drop 1) e
    rw [List.drop_take] at e2
    simpa using e2
  · rw [srcL_no h6] at h1
    have hl := congrArg List.length h1
    simp only [List.length_take, List.length_drop] at hl
    simp only [quoteN, if_neg h6, Nat.add_zero]
    refine ⟨by omega, ?_⟩
    rw [hl, Nat.min_eq_left (by omega), h1]
theorem lexF_toks (s : List UInt8) : ∀ (f : Nat) (o : Nat), (lexF f (s.drop o) o).2.2 = 0 → ∀ (i : Nat) (t : Tok), (lexF f (s.drop o) o).1[i]? = some t →
    TokAt s t ∧ (o : Int) ≤ t.o ∧ ∀ t', 0 < i → (lexF f (s.drop o) o).1[i - 1]? = some t' → t'.o < t.o := by
  intro f
  induction f with
  | zero => intro o _ i t h; simp [lexF] at h
  | succ f ih =>
    intro o hc i t h
    generalize hj : skipL false (s.drop o) = j at *
    by_cases hn : (s.drop o).drop j = []
    · rw [lexF, hj, if_pos hn] at h; simp at h
    · have hlen : o + j < s.length := by
        rw [List.drop_drop, List.drop_eq_nil_iff] at hn; omega
      by_cases hs : (lxScan ((s.drop o).drop j)).code = 0
      · have hln := lxScan_len hs
        rw [lexF, hj, if_neg hn, if_pos hs] at hc h ⊢
        have hds : ((s.drop o).drop j).drop (lxScan ((s.drop o).drop j)).len = s.drop (o + j + (lxScan ((s.drop o).drop j)).len) := by rw [List.drop_drop, List.drop_drop]; simp only [Nat.add_assoc]
        rw [hds] at hc h ⊢
        have hat := scan_at (s := s) (p := o + j) (by rw [← List.drop_drop]; exact hs) hlen
        rw [← List.drop_drop] at hat
        generalize lxScan ((s.drop o).drop j) = r at *
        by_cases hp : (lexF f (s.drop (o + j + r.len)) (o + j + r.len)).2.2 = 0
        · have IH := ih _ hp
          rw [if_pos hp] at h ⊢
          cases i with
          | zero =>
            have e : _ = t := Option.some.inj h
            subst e
            exact ⟨hat, by simp only; omega, fun _ h0 => absurd h0 (by omega)⟩
          | succ i =>
            simp only [List.getElem?_cons_succ] at h
            obtain ⟨g1, g2, g3⟩ := IH i t h
            refine ⟨g1, by omega, fun t' _ ht' => ?_⟩
            cases i with
            | zero =>
              have e : _ = t' := Option.some.inj ht'
              subst e
              simp only; omega
            | succ i => exact g3 t' (by omega) (by simpa using ht')
        · rw [if_neg hp] at hc; exact absurd hc hp
      · rw [lexF, hj, if_neg hn, if_neg hs] at hc; exact absurd hc hs
theorem lexF_err (s : List UInt8) : ∀ (f : Nat) (o : Nat), o ≤ s.length → (lexF f (s.drop o) o).2.2 ≠ 0 → (lexF f (s.drop o) o).1 = [] ∧ 0 ≤ (lexF f (s.drop o) o).2.1 ∧ (lexF f (s.drop o) o).2.1 ≤ s.length := by
  intro f
  induction f with
  | zero => intro o _ h; exact absurd rfl h
  | succ f ih =>
    intro o ho hc
    have hj2 := skipL_le false (s.drop o)
    generalize hj : skipL false (s.drop o) = j at *
    rw [List.length_drop] at hj2
    by_cases hn : (s.drop o).drop j = []
    · rw [lexF, hj, if_pos hn] at hc; exact absurd rfl hc
    · by_cases hs : (lxScan ((s.drop o).drop j)).code = 0
      · have hln := (lxScan_len hs).2
        rw [lexF, hj, if_neg hn, if_pos hs] at hc ⊢
        have hds : ((s.drop o).drop j).drop (lxScan ((s.drop o).drop j)).len = s.drop (o + j + (lxScan ((s.drop o).drop j)).len) := by rw [List.drop_drop, List.drop_drop]; simp only [Nat.add_assoc]
        rw [hds] at hc ⊢
        generalize lxScan ((s.drop o).drop j) = r at *
        rw [List.length_drop, List.length_drop] at hln
        by_cases hp : (lexF f (s.drop (o + j + r.len)) (o + j + r.len)).2.2 = 0
        · rw [if_pos hp] at hc; exact absurd rfl hc
        · rw [if_neg hp] at hc ⊢
          exact ih _ (by omega) hc
      · rw [lexF, hj, if_neg hn, if_neg hs]
        exact ⟨rfl, by simp only; omega, by simp only; omega⟩

/-! what is read again -/
def okRest (b : List UInt8) : Prop := b.head? = none ∨ b.head? = some 32 ∨ b.head? = some 10
structure Good (k : Int) (t : List UInt8) (n : Int) : Prop where
  scan : ∀ b, okRest b ∨ k = 8 → lxScan (srcL k t ++ b) = ⟨0, k, t, n, (srcL k t).length⟩
  skip : ∀ b, skipL false (srcL k t ++ b) = 0
  ne : srcL k t ≠ []
  nl : k = 8 → t = [10]
theorem okRest_p {p : UInt8 → Bool} {b : List UInt8} (h : okRest b) (h1 : p 32 = false) (h2 : p 10 = false) : b.head? = none ∨ ∃ c, b.head? = some c ∧ p c = false := by
  rcases h with h | h | h
  · exact .inl h
  · exact .inr ⟨32, h, h1⟩
  · exact .inr ⟨10, h, h2⟩
theorem okRest_glued {b : List UInt8} (h : okRest b) : gluedAt b.head? = false := by
  rcases h with h | h | h <;> rw [h] <;> decide
theorem skip_head {c : UInt8} {r : List UInt8} (h1 : c.toNat ≠ 35) (h2 : c.toNat ≠ 32) (h3 : c.toNat ≠ 9) : skipL false (c :: r) = 0 := by
  rw [skipL, if_neg h1, if_neg (by omega)]
/-- the bytes of a number's text -/
def numCh (c : UInt8) : Bool := isDig c || (decide (c.toNat = 46) || decide (c.toNat = 37))
theorem all_at {p : UInt8 → Bool} {l : List UInt8} {i : Nat} {c : UInt8} (h : l.all p = true) (hi : l[i]? = some c) : p c = true :=
  List.all_eq_true.1 h c (List.mem_of_getElem? hi)
theorem not_dated {t b : List UInt8} (ht : t.all numCh = true) (hb : okRest b) : datedB (t ++ b) = false := by
  rw [Bool.eq_false_iff]
  intro h
  simp only [datedB, Bool.and_eq_true, decide_eq_true_eq, beq_iff_eq] at h
  obtain ⟨hl, hd, h4, _⟩ := h
  rcases Nat.lt_trichotomy t.length 4 with hlt | he | hgt
  · have hbl : t.length < (t ++ b).length := by omega
    have hb0 : b ≠ [] := by intro e; rw [e] at hbl; simp at hbl
    obtain ⟨c, r, rfl⟩ : ∃ c r, b = c :: r := by cases b with | nil => exact absurd rfl hb0 | cons c r => exact ⟨c, r, rfl⟩
    have hc : ((t ++ c :: r).take 4)[t.length]? = some c := by
      rw [List.getElem?_take_of_lt hlt, List.getElem?_append_right (Nat.le_refl _), Nat.sub_self]; rfl
    have := all_at (p := isDig) hd hc
    rcases hb with hb | hb | hb
    · cases hb
    · have : c = 32 := Option.some.inj hb
      subst this; revert this; decide
    · have : c = 10 := Option.some.inj hb
      subst this; revert this; decide
  · rw [List.getElem?_append_right (by omega), he, Nat.sub_self, ← List.head?_eq_getElem?] at h4
    rcases hb with hb | hb | hb <;> rw [hb] at h4 <;> exact absurd h4 (by decide)
  · rw [List.getElem?_append_left hgt] at h4
    have := all_at ht h4
    revert this; decide
theorem dated_app {l b : List UInt8} (h : datedB l = true) : datedB (l.take 10 ++ b) = true := by
  simp only [datedB, Bool.and_eq_true, decide_eq_true_eq, beq_iff_eq] at h ⊢
  obtain ⟨hl, h1, h2, h3, h4, h5⟩ := h
  have ht : (l.take 10).length = 10 := by rw [List.length_take]; omega
  refine ⟨by rw [List.length_append]; omega, ?_, ?_, ?_, ?_, ?_⟩
  · rw [List.take_append_of_le_length (by omega), List.take_take]; exact h1
  · rw [List.getElem?_append_left (by omega), List.getElem?_take_of_lt (by omega)]; exact h2
  · rw [List.drop_append_of_le_length (by omega), List.take_append_of_le_length (by rw [List.length_drop]; omega), List.drop_take, List.take_take]; exact h3
  · rw [List.getElem?_append_left (by omega), List.getElem?_take_of_lt (by omega)]; exact h4
  · rw [List.drop_append_of_le_length (by omega), List.take_append_of_le_length (by rw [List.length_drop]; omega), List.drop_take, List.take_take]; exact h5
theorem dig_not46 : isDig 46 = false := by decide
/-- a number's kind and length stay when another rest follows -/
theorem lxKL_app {l b : List UInt8} (hb : okRest b) : lxKL (l.take (lxKL l).2 ++ b) = lxKL l ∧ datedB (l.take (lxKL l).2 ++ b) = datedB l ∧ (l.head?.map isDig = some true → lead_of isDig (l.take (lxKL l).2 ++ b) = lead_of isDig l ∨ datedB l = true) := by
  cases hd : datedB l
  · have hW := lead_of_all (p := isDig) (l := l)
    have hWl := lead_of_le isDig l
    generalize hw : lead_of isDig l = W at *
    have hWlen : (l.take W).length = W := by rw [List.length_take]; omega
    cases h2 : pointB l 2
    · cases h4 : rateB l
      · -- an integer
        have e : lxKL l = (2, W) := by unfold lxKL; rw [hd, h2, h4, hw]; rfl
        rw [e]
        dsimp only
        have hnd : datedB (l.take W ++ b) = false := not_dated (by
          rw [List.all_eq_true] at hW ⊢
          intro x hx; rw [numCh, hW x hx]; rfl) hb
        have hlead : lead_of isDig (l.take W ++ b) = W := by
          rw [lead_of_app hW (okRest_p hb (by decide) (by decide)), hWlen]
        have hpt : ∀ q, pointB (l.take W ++ b) q = false := by
          intro q
          rw [pointB, hlead, List.getElem?_append_right (by omega), hWlen, Nat.sub_self, ← List.head?_eq_getElem?]
          rcases hb with hb | hb | hb <;> rw [hb] <;> rfl
        refine ⟨?_, hnd, fun _ => .inl hlead⟩
        unfold lxKL
        rw [hnd, hpt 2, rateB, hpt 4, hlead]; rfl
      · -- a rate
        have e : lxKL l = (4, W + 6) := by unfold lxKL; rw [hd, h2, h4, hw]; rfl
        rw [e]
        dsimp only
        rw [rateB, Bool.and_eq_true, beq_iff_eq, pointB_iff, hw] at h4
        obtain ⟨⟨p1, p2⟩, p3⟩ := h4
        have hlen := get_lt p3
        have hF := lead_of_all (p := isDig) (l := l.drop (W + 1))
        rw [p2] at hF
        have hsplit : l.take (W + 6) = l.take W ++ (46 :: ((l.drop (W + 1)).take 4 ++ [37])) := by
          rw [show W + 6 = W + (1 + (4 + 1)) from rfl, List.take_add, List.take_add (i := 1), List.drop_drop, List.take_add_one (i := 4)]
          rw [show (l.drop W).take 1 = [46] by rw [List.take_one, List.head?_drop, p1]; rfl]
          rw [List.getElem?_drop, show W + 1 + 4 = W + 5 from by omega, p3]; rfl
        have hFl : ((l.drop (W + 1)).take 4).length = 4 := by rw [List.length_take, List.length_drop]; omega
        have hlead : lead_of isDig (l.take (W + 6) ++ b) = W := by
          rw [hsplit, List.append_assoc, lead_of_app hW (.inr ⟨46, rfl, dig_not46⟩), hWlen]
        have hdrop : (l.take (W + 6) ++ b).drop (W + 1) = (l.drop (W + 1)).take 4 ++ (37 :: b) := by
          rw [hsplit, List.append_assoc, show W + 1 = (l.take W).length + 1 by rw [hWlen], ← List.drop_drop, List.drop_left' rfl]
          simp
        have hget : ∀ i, i < W + 6 → (l.take (W + 6) ++ b)[i]? = l[i]? := fun i hi => by
          rw [List.getElem?_append_left (by rw [List.length_take]; omega), List.getElem?_take_of_lt hi]
        have hl4 : lead_of isDig ((l.take (W + 6) ++ b).drop (W + 1)) = 4 := by
          rw [hdrop, lead_of_app hF (.inr ⟨37, rfl, by decide⟩), hFl]
        have hpt : ∀ q, pointB (l.take (W + 6) ++ b) q = (4 == q) := by
          intro q
          rw [pointB, hlead, hl4, hget W (by omega), p1]; rfl
        have hnd : datedB (l.take (W + 6) ++ b) = false := not_dated (by
          rw [hsplit, List.all_append, List.all_cons, List.all_append]
          have i1 : (l.take W).all numCh = true := by
            rw [List.all_eq_true] at hW ⊢
            intro x hx; rw [numCh, hW x hx]; rfl
          have i2 : ((l.drop (W + 1)).take 4).all numCh = true := by
            rw [List.all_eq_true] at hF ⊢
            intro x hx; rw [numCh, hF x hx]; rfl
          rw [i1, i2]; decide) hb
        refine ⟨?_, hnd, fun _ => .inl hlead⟩
        unfold lxKL
        rw [hnd, hpt 2, rateB, hpt 4, hlead, hget (W + 5) (by omega), p3]; rfl
    · -- an amount
      have e : lxKL l = (3, W + 3) := by unfold lxKL; rw [hd, h2, hw]; rfl
      rw [e]
      dsimp only
      rw [pointB_iff, hw] at h2
      obtain ⟨p1, p2⟩ := h2
      have hlen := get_lt p1
      have hF := lead_of_all (p := isDig) (l := l.drop (W + 1))
      have hF2 := lead_of_le isDig (l.drop (W + 1))
      rw [p2, List.length_drop] at hF2
      rw [p2] at hF
      have hsplit : l.take (W + 3) = l.take W ++ (46 :: (l.drop (W + 1)).take 2) := by
        rw [show W + 3 = W + (1 + 2) from rfl, List.take_add, List.take_add (i := 1), List.drop_drop]
        rw [show (l.drop W).take 1 = [46] by rw [List.take_one, List.head?_drop, p1]; rfl]
        rfl
      have hFl : ((l.drop (W + 1)).take 2).length = 2 := by rw [List.length_take, List.length_drop]; omega
      have hlead : lead_of isDig (l.take (W + 3) ++ b) = W := by
        rw [hsplit, List.append_assoc, lead_of_app hW (.inr ⟨46, rfl, dig_not46⟩), hWlen]
      have hdrop : (l.take (W + 3) ++ b).drop (W + 1) = (l.drop (W + 1)).take 2 ++ b := by
        rw [hsplit, List.append_assoc, show W + 1 = (l.take W).length + 1 by rw [hWlen], ← List.drop_drop, List.drop_left' rfl]
        simp
      have hget : ∀ i, i < W + 3 → (l.take (W + 3) ++ b)[i]? = l[i]? := fun i hi => by
        rw [List.getElem?_append_left (by rw [List.length_take]; omega), List.getElem?_take_of_lt hi]
      have hl2 : lead_of isDig ((l.take (W + 3) ++ b).drop (W + 1)) = 2 := by
        rw [hdrop, lead_of_app hF (okRest_p hb (by decide) (by decide)), hFl]
      have hpt : ∀ q, pointB (l.take (W + 3) ++ b) q = (2 == q) := by
        intro q
        rw [pointB, hlead, hl2, hget W (by omega), p1]; rfl
      have hnd : datedB (l.take (W + 3) ++ b) = false := not_dated (by
        rw [hsplit, List.all_append, List.all_cons]
        have i1 : (l.take W).all numCh = true := by
          rw [List.all_eq_true] at hW ⊢
          intro x hx; rw [numCh, hW x hx]; rfl
        have i2 : ((l.drop (W + 1)).take 2).all numCh = true := by
          rw [List.all_eq_true] at hF ⊢
          intro x hx; rw [numCh, hF x hx]; rfl
        rw [i1, i2]; decide) hb
      refine ⟨?_, hnd, fun _ => .inl hlead⟩
      unfold lxKL
      rw [hnd, hpt 2, hlead]; rfl
  · have e : lxKL l = (5, 10) := by unfold lxKL; rw [hd]; rfl
    rw [e]
    dsimp only
    refine ⟨?_, dated_app hd, fun _ => .inr rfl⟩
    unfold lxKL; rw [dated_app hd]; rfl
theorem num_good {c : UInt8} {r : List UInt8} (hc : isDig c = true) (h : (lxNum (c :: r)).code = 0) :
    ∀ b, okRest b → lxNum ((lxNum (c :: r)).t ++ b) = lxNum (c :: r) := by
  intro b hb
  obtain ⟨e, hz, _, hv⟩ := lxNum_len h
  have hle := lxKL_le (l := c :: r)
  have hpos := lxKL_pos (r := r) hc
  obtain ⟨g1, g2, g3⟩ := lxKL_app (l := c :: r) hb
  have g3' := g3 (by simp [hc])
  rw [e]
  dsimp only
  generalize hl : c :: r = l at *
  have h0 : l[0]? = some c := by rw [← hl]; rfl
  have htl : (l.take (lxKL l).2).length = (lxKL l).2 := by rw [List.length_take]; omega
  have hz' : zeroB (l.take (lxKL l).2 ++ b) = false := by
    unfold zeroB at hz ⊢
    rw [g2]
    rcases g3' with g | g
    · rw [g, List.getElem?_append_left (by omega), List.getElem?_take_of_lt (by omega)]; exact hz
    · rw [g]; rfl
  have htk : (l.take (lxKL l).2 ++ b).take (lxKL l).2 = l.take (lxKL l).2 := List.take_left' htl
  unfold lxNum
  rw [hz', g1, htk, List.getElem?_append_right (by omega), htl, Nat.sub_self, ← List.head?_eq_getElem?, okRest_glued hb, if_pos hv]
  rfl
theorem scan_good {l : List UInt8} (h : (lxScan l).code = 0) : Good (lxScan l).k (lxScan l).t (lxScan l).n := by
  cases l with
  | nil => cases h
  | cons c r =>
    have hsrc := lxScan_src h
    rw [lxScan] at h hsrc ⊢
    split at h
    · rename_i h1
      rw [if_pos h1]
      exact ⟨fun b _ => rfl, fun b => rfl, by decide, fun _ => rfl⟩
    · rename_i h1
      rw [if_neg h1] at hsrc ⊢
      split at h
      · rename_i h2
        rw [if_pos h2] at hsrc ⊢
        have hl := lxName_len h
        have hpos := lead_of_pos (p := wordB) (c := c) (r := r) (by simp [wordB, h2])
        have hle := lead_of_le wordB (c :: r)
        have hall := lead_of_all (p := wordB) (l := c :: r)
        have e : lxName (c :: r) = ⟨0, 1, (c :: r).take (lead_of wordB (c :: r)), 0, lead_of wordB (c :: r)⟩ := by unfold lxName; rw [if_neg (by omega)]
        rw [e]
        dsimp only
        generalize hW : lead_of wordB (c :: r) = W at *
        obtain ⟨W', rfl⟩ : ∃ W', W = W' + 1 := ⟨W - 1, by omega⟩
        rw [List.take_succ_cons] at hall ⊢
        have htl : (r.take W').length = W' := by rw [List.length_take]; simp only [List.length_cons] at hle; omega
        have hlow : 97 ≤ c.toNat ∧ c.toNat ≤ 122 := by simpa [lowB] using h2
        have k6 : (1 : Int) ≠ 6 := by decide
        have k8 : ¬ (1 : Int) = 8 := by decide
        refine ⟨fun b hb => ?_, fun b => ?_, by rw [srcL_no k6]; simp, fun h8 => absurd h8 k8⟩
        · rw [srcL_no (by decide)]
          have hb' : okRest b := by rcases hb with hb | hb; exact hb; exact absurd hb (by decide)
          have hlead := lead_of_app (p := wordB) hall (okRest_p hb' (by decide) (by decide))
          rw [List.length_cons, htl] at hlead
          rw [List.cons_append, lxScan, if_neg (by omega), if_pos h2, lxName]
          rw [List.cons_append] at hlead
          rw [hlead, if_neg (by omega), List.length_cons, htl, List.take_succ_cons, List.take_left' htl]
        · rw [srcL_no (by decide), List.cons_append]
          exact skip_head (by omega) (by omega) (by omega)
      · rename_i h2
        rw [if_neg h2] at hsrc ⊢
        split at h
        · rename_i h3
          rw [if_pos h3] at hsrc ⊢
          have hg := num_good h3 h
          obtain ⟨e, _⟩ := lxNum_len h
          have hpos := lxKL_pos (r := r) h3
          have hle := lxKL_le (l := c :: r)
          have hk : (lxNum (c :: r)).k ≠ 6 ∧ (lxNum (c :: r)).k ≠ 8 := by
            rw [e]; rcases lxKL_kind (c :: r) with e | e | e | e <;> simp only [e] <;> decide
          have hlen : (lxNum (c :: r)).len = (lxNum (c :: r)).t.length := by
            rw [e]; dsimp only; rw [List.length_take]; omega
          have hcode : (lxNum (c :: r)).code = 0 := h
          obtain ⟨m, hm⟩ : ∃ m, (lxNum (c :: r)).t = c :: m := by
            rw [e]; dsimp only
            obtain ⟨q, hq⟩ : ∃ q, (lxKL (c :: r)).2 = q + 1 := ⟨(lxKL (c :: r)).2 - 1, by omega⟩
            rw [hq]; exact ⟨_, rfl⟩
          have hdg := isDig_iff.1 h3
          generalize lxNum (c :: r) = R at *
          rw [srcL_no hk.1] at *
          refine ⟨fun b hb => ?_, fun b => ?_, by rw [srcL_no hk.1, hm]; simp, fun h8 => absurd h8 hk.2⟩
          · rw [srcL_no hk.1]
            have hb' : okRest b := by rcases hb with hb | hb; exact hb; exact absurd hb hk.2
            have := hg b hb'
            rw [hm, List.cons_append] at this ⊢
            rw [lxScan, if_neg (by omega), if_neg (by simp [lowB]; omega), if_pos h3, this, ← hm, ← hlen, ← hcode]
          · rw [srcL_no hk.1, hm, List.cons_append]
            exact skip_head (by omega) (by omega) (by omega)
        · rename_i h3
          rw [if_neg h3] at hsrc ⊢
          split at h
          · rename_i h4
            rw [if_pos h4] at hsrc ⊢
            have hc34 : c = 34 := UInt8.toNat_inj.1 h4
            unfold lxStr at h ⊢
            split at h
            · rename_i h5
              rw [if_pos h5]
              split at h
              · rename_i h6
                rw [if_pos h6]
                split at h
                · cases h
                · rename_i h7
                  rw [if_neg h7]
                  simp only [List.drop_one, List.tail_cons] at h5 h6 h7 ⊢
                  have hall := lead_of_all (p := inStr) (l := r)
                  have hle := lead_of_le inStr r
                  generalize lead_of inStr r = j at *
                  have htl : (r.take j).length = j := by rw [List.length_take]; omega
                  refine ⟨fun b _ => ?_, fun b => ?_, by rw [srcL_six]; simp, fun h8 => absurd h8 (by decide)⟩
                  · have hlead := lead_of_app (p := inStr) (b := 34 :: b) hall (.inr ⟨34, rfl, by decide⟩)
                    rw [htl] at hlead
                    rw [srcL_six]
                    have e1 : (34 :: (r.take j ++ [34])) ++ b = 34 :: (r.take j ++ 34 :: b) := by simp
                    rw [e1, lxScan, if_neg (by decide), if_neg (by decide), if_neg (by decide), if_pos (by decide), lxStr]
                    simp only [List.drop_one, List.tail_cons]
                    rw [hlead, List.getElem?_append_right (by omega), htl, Nat.sub_self, if_pos (by rfl), List.take_left' htl, if_pos h6, if_neg h7]
                    simp [htl]
                  · rw [srcL_six]; rfl
              · cases h
            · cases h
          · rename_i h4
            rw [if_neg h4] at hsrc ⊢
            rw [lxSym] at h hsrc ⊢
            split at h
            · rename_i h5
              rw [if_pos h5]
              have k6 : (7 : Int) ≠ 6 := by decide
              have k8 : ¬ (7 : Int) = 8 := by decide
              have hs2 : c.toNat = 60 ∨ c.toNat = 61 ∨ c.toNat = 33 := by simpa [sym2] using h5.2
              refine ⟨fun b _ => ?_, fun b => ?_, by rw [srcL_no k6]; simp, fun h8 => absurd h8 k8⟩
              · rw [srcL_no k6, List.cons_append, lxScan, if_neg h1, if_neg h2, if_neg h3, if_neg h4, lxSym, if_pos ⟨rfl, h5.2⟩]; rfl
              · rw [srcL_no k6, List.cons_append]
                exact skip_head (by omega) (by omega) (by omega)
            · rename_i h5
              rw [if_neg h5]
              split at h
              · rename_i h6
                rw [if_pos h6]
                have k6 : (7 : Int) ≠ 6 := by decide
                have k8 : ¬ (7 : Int) = 8 := by decide
                have hs1 : c.toNat = 60 ∨ c.toNat = 61 ∨ c.toNat = 40 ∨ c.toNat = 41 ∨ c.toNat = 44 ∨ c.toNat = 58 ∨ c.toNat = 43 ∨ c.toNat = 45 ∨ c.toNat = 42 := by simpa [sym1] using h6
                refine ⟨fun b hb => ?_, fun b => ?_, by rw [srcL_no k6]; simp, fun h8 => absurd h8 k8⟩
                · have hb' : okRest b := by rcases hb with hb | hb; exact hb; exact absurd hb k8
                  rw [srcL_no k6, List.cons_append, List.nil_append, lxScan, if_neg h1, if_neg h2, if_neg h3, if_neg h4, lxSym, if_neg, if_pos h6]
                  · rfl
                  · rintro ⟨e, _⟩
                    rcases hb' with hb | hb | hb <;> rw [hb] at e <;> exact absurd e (by decide)
                · rw [srcL_no k6, List.cons_append]
                  exact skip_head (by omega) (by omega) (by omega)
              · cases h

/-! Format -/
def sepL (p : Option Int) (k : Int) : List UInt8 := match p with
  | some q => if k ≠ 8 ∧ q ≠ 8 then [32] else []
  | none => []
def joinF : Option Int → List Tok → List UInt8
  | _, [] => []
  | p, t :: r => sepL p t.k ++ (srcL t.k t.t ++ joinF (some t.k) r)
/-- is a token read from its text alone -/
def fmtB (t : Tok) : Bool := decide ((tokR (srcL t.k t.t)).2.2 = 0) && (match (tokR (srcL t.k t.t)).1 with
  | [x] => decide (x.k = t.k) && (decide (x.t = t.t) && decide (x.n = t.n))
  | _ => false)
def fmtR (ts : List Tok) : List UInt8 × Int := if ts.all fmtB then (joinF none ts, 0) else ([], 2)
/-- alike but for the offsets -/
def sameT (a b : Tok) : Prop := a.k = b.k ∧ a.t = b.t ∧ a.n = b.n
theorem fmtB_same {a b : Tok} (h : sameT a b) : fmtB a = fmtB b := by
  obtain ⟨h1, h2, h3⟩ := h
  unfold fmtB; rw [h1, h2, h3]
def sameTs : List Tok → List Tok → Prop
  | [], [] => True
  | a :: x, b :: y => sameT a b ∧ sameTs x y
  | _, _ => False
theorem joinF_same : ∀ (a b : List Tok) (p : Option Int), sameTs a b → joinF p a = joinF p b
  | [], [], _, _ => rfl
  | x :: a, y :: b, p, h => by
    obtain ⟨⟨h1, h2, _⟩, h4⟩ := h
    rw [joinF, joinF, h1, h2, joinF_same a b _ h4]
  | [], _ :: _, _, h => h.elim
  | _ :: _, [], _, h => h.elim
theorem all_same : ∀ (a b : List Tok), sameTs a b → a.all fmtB = b.all fmtB
  | [], [], _ => rfl
  | x :: a, y :: b, h => by
    rw [List.all_cons, List.all_cons, fmtB_same h.1, all_same a b h.2]
  | [], _ :: _, h => h.elim
  | _ :: _, [], h => h.elim
theorem sameTs_length : ∀ (a b : List Tok), sameTs a b → a.length = b.length
  | [], [], _ => rfl
  | _ :: a, _ :: b, h => by rw [List.length_cons, List.length_cons, sameTs_length a b h.2]
  | [], _ :: _, h => h.elim
  | _ :: _, [], h => h.elim
theorem sameTs_get : ∀ (a b : List Tok) (i : Nat) (x y : Tok), sameTs a b → a[i]? = some x → b[i]? = some y → sameT x y
  | [], [], _, _, _, _, h, _ => by simp at h
  | a :: _, b :: _, 0, x, y, h, hx, hy => by
    have e1 : a = x := Option.some.inj hx
    have e2 : b = y := Option.some.inj hy
    rw [← e1, ← e2]; exact h.1
  | _ :: a, _ :: b, i + 1, x, y, h, hx, hy => sameTs_get a b i x y h.2 (by simpa using hx) (by simpa using hy)
  | [], _ :: _, _, _, _, h, _, _ => h.elim
  | _ :: _, [], _, _, _, h, _, _ => h.elim
theorem lexF_nil (f : Nat) (o : Nat) : lexF f [] o = ([], 0, 0) := by
  cases f with
  | zero => rfl
  | succ f => rw [lexF, if_pos]; rfl
theorem good_fmt {t : Tok} (h : Good t.k t.t t.n) (hl : (srcL t.k t.t).length ≤ 65536) : fmtB t = true := by
  have e : tokR (srcL t.k t.t) = ([⟨t.k, t.t, t.n, 0⟩], 0, 0) := by
    have h1 := h.scan [] (.inl (.inl rfl))
    have h2 := h.skip []
    rw [List.append_nil] at h1 h2
    rw [tokR, if_neg (by omega), lexF, h2, List.drop_zero, if_neg h.ne, h1]
    rw [if_pos rfl]
    simp only [List.drop_length, lexF_nil]
    rfl
  unfold fmtB
  rw [e]; simp
def goodTs (ts : List Tok) : Prop := ∀ t, t ∈ ts → Good t.k t.t t.n
theorem joinF_head {ts : List Tok} {k : Int} (hg : goodTs ts) : okRest (joinF (some k) ts) ∨ k = 8 := by
  cases ts with
  | nil => exact .inl (.inl rfl)
  | cons t r =>
    by_cases h8 : k = 8
    · exact .inr h8
    · left
      rw [joinF, sepL]
      by_cases ht : t.k = 8
      · rw [if_neg (by omega), ht, (hg t (by simp)).nl ht]
        exact .inr (.inr rfl)
      · rw [if_pos ⟨ht, h8⟩]; exact .inr (.inl rfl)
/-- the formatted tokens are split into the same tokens again -/
theorem lexF_join : ∀ (ts : List Tok) (p : Option Int) (o f : Nat), goodTs ts → ts.length < f → ∃ ts', lexF f (joinF p ts) o = (ts', 0, 0) ∧ sameTs ts' ts := by
  intro ts
  induction ts with
  | nil => intro p o f _ _; exact ⟨[], lexF_nil f o, trivial⟩
  | cons t r ih =>
    intro p o f hg hf
    obtain ⟨f, rfl⟩ : ∃ g, f = g + 1 := ⟨f - 1, by omega⟩
    have ht := hg t (by simp)
    have hr : goodTs r := fun x hx => hg x (by simp [hx])
    have hs := ht.scan (joinF (some t.k) r) (joinF_head hr)
    have hk := ht.skip (joinF (some t.k) r)
    have hsk : skipL false (joinF p (t :: r)) = (sepL p t.k).length ∧ (joinF p (t :: r)).drop (sepL p t.k).length = srcL t.k t.t ++ joinF (some t.k) r := by
      rw [joinF]
      refine ⟨?_, List.drop_left' rfl⟩
      have hsep : sepL p t.k = [] ∨ sepL p t.k = [32] := by
        unfold sepL
        split
        · split
          · exact .inr rfl
          · exact .inl rfl
        · exact .inl rfl
      rcases hsep with e | e
      · rw [e]; exact hk
      · rw [e, List.cons_append, List.nil_append, skipL, if_neg (by decide), if_pos (by decide), hk]; rfl
    obtain ⟨ts', e1, e2⟩ := ih (some t.k) (o + (sepL p t.k).length + (srcL t.k t.t).length) f hr (by simp only [List.length_cons] at hf; omega)
    refine ⟨⟨t.k, t.t, t.n, ((o + (sepL p t.k).length : Nat) : Int)⟩ :: ts', ?_, ⟨rfl, rfl, rfl⟩, e2⟩
    rw [lexF, hsk.1, hsk.2, if_neg (by
      intro e
      exact ht.ne (List.append_eq_nil_iff.1 e).1), hs]
    dsimp only
    rw [if_pos rfl, List.drop_left' rfl, e1]
    rfl
theorem joinF_len : ∀ (ts : List Tok) (p : Option Int), goodTs ts → ts.length ≤ (joinF p ts).length := by
  intro ts
  induction ts with
  | nil => intro p _; exact Nat.zero_le _
  | cons t r ih =>
    intro p hg
    have := ih (some t.k) (fun x hx => hg x (by simp [hx]))
    have h2 := List.length_pos_iff.2 (hg t (by simp)).ne
    rw [joinF, List.length_append, List.length_append, List.length_cons]
    omega
theorem sepL_len (p : Option Int) (k : Int) : (sepL p k).length ≤ 1 := by
  unfold sepL
  split
  · split <;> simp
  · simp
theorem lexF_good (s : List UInt8) : ∀ (f o : Nat), o ≤ s.length → (lexF f (s.drop o) o).2.2 = 0 → goodTs (lexF f (s.drop o) o).1 ∧ ∀ p, (joinF p (lexF f (s.drop o) o).1).length ≤ 2 * (s.length - o) := by
  intro f
  induction f with
  | zero => intro o _ _; exact ⟨fun t ht => by simp [lexF] at ht, fun p => by simp [lexF, joinF]⟩
  | succ f ih =>
    intro o ho hc
    have hj2 := skipL_le false (s.drop o)
    generalize hj : skipL false (s.drop o) = j at *
    rw [List.length_drop] at hj2
    by_cases hn : (s.drop o).drop j = []
    · rw [lexF, hj, if_pos hn]
      exact ⟨fun t ht => by simp at ht, fun p => by simp [joinF]⟩
    · by_cases hs : (lxScan ((s.drop o).drop j)).code = 0
      · have hln := lxScan_len hs
        have hgd := scan_good hs
        have hsrc := lxScan_src hs
        rw [lexF, hj, if_neg hn, if_pos hs] at hc ⊢
        have hds : ((s.drop o).drop j).drop (lxScan ((s.drop o).drop j)).len = s.drop (o + j + (lxScan ((s.drop o).drop j)).len) := by rw [List.drop_drop, List.drop_drop]; simp only [Nat.add_assoc]
        rw [hds] at hc ⊢
        generalize lxScan ((s.drop o).drop j) = r at *
        rw [List.length_drop, List.length_drop] at hln
        by_cases hp : (lexF f (s.drop (o + j + r.len)) (o + j + r.len)).2.2 = 0
        · obtain ⟨i1, i2⟩ := ih _ (by omega) hp
          rw [if_pos hp]
          refine ⟨fun t ht => ?_, fun p => ?_⟩
          · rcases List.mem_cons.1 ht with rfl | ht
            · exact hgd
            · exact i1 t ht
          · have h1 := i2 (some r.k)
            have h2 := congrArg List.length hsrc
            have h3 := sepL_len p r.k
            rw [List.length_take, List.length_drop, List.length_drop] at h2
            rw [joinF, List.length_append, List.length_append]
            dsimp only
            omega
        · rw [if_neg hp] at hc; exact absurd hc hp
      · rw [lexF, hj, if_neg hn, if_neg hs] at hc; exact absurd hc hs
/-- the round trip -/
theorem lex_round {l : List UInt8} (h3 : l.length ≤ 3000) (hc : (tokR l).2.2 = 0) :
    fmtR (tokR l).1 = (joinF none (tokR l).1, 0) ∧ (joinF none (tokR l).1).length ≤ 6000 ∧
    ∃ m, tokR (joinF none (tokR l).1) = (m, 0, 0) ∧ sameTs m (tokR l).1 ∧ fmtR m = (joinF none (tokR l).1, 0) := by
  have e0 : tokR l = lexF (l.length + 1) (l.drop 0) 0 := by rw [tokR, if_neg (by omega), List.drop_zero]
  rw [e0] at hc ⊢
  obtain ⟨hg, hl⟩ := lexF_good l (l.length + 1) 0 (Nat.zero_le _) hc
  generalize (lexF (l.length + 1) (l.drop 0) 0).1 = ts at *
  have hlen := hl none
  have hall : ∀ (ts : List Tok) (p : Option Int), goodTs ts → (joinF p ts).length ≤ 65536 → ts.all fmtB = true := by
    intro ts
    induction ts with
    | nil => intro p _ _; rfl
    | cons t r ih =>
      intro p hg hl
      rw [joinF, List.length_append, List.length_append] at hl
      rw [List.all_cons, good_fmt (hg t (by simp)) (by omega), ih (some t.k) (fun x hx => hg x (by simp [hx])) (by omega)]; rfl
  have h1 := hall ts none hg (by omega)
  have e1 : fmtR ts = (joinF none ts, 0) := by rw [fmtR, if_pos h1]
  obtain ⟨m, em, hm⟩ := lexF_join ts none 0 ((joinF none ts).length + 1) hg (by have := joinF_len ts none hg; omega)
  refine ⟨e1, by omega, m, ?_, hm, ?_⟩
  · rw [tokR, if_neg (by omega), em]
  · rw [fmtR, all_same m ts hm, if_pos h1, joinF_same m ts none hm]
end Go.Proofs.YtmlkgfacenajnaaDoor
