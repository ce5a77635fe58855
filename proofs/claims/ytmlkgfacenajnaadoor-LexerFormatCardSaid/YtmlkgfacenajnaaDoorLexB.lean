/- What the lexer's number and scanName compute. -/
import Derived.Test.YtmlkgfacenajnaaDoorLexA
import Derived.Test.YtmlkgfacenajnaaDoorParse
namespace Go.Proofs.YtmlkgfacenajnaaDoor
open Go.RowKit

theorem ext_take (s : ByteArray) (k : Nat) : L (s.extract 0 k) = (L s).take k := by rw [L_extract]; simp
theorem ext_drop (s : ByteArray) (k : Nat) : L (s.extract k s.size) = (L s).drop k := by
  rw [L_extract]
  exact List.take_of_length_le (by rw [List.length_drop, L_length]; omega)

/-! the number of a token -/
theorem fin_pos (l : List UInt8) : finR false (some (acc l 0 false)) = if BB < val l 0 then ((0, 3) : Int × Int) else (((val l 0 : Nat) : Int), 0) := by
  have h := acc_zero l
  generalize acc l 0 false = t at *
  obtain ⟨v, g⟩ := t
  dsimp only at h
  rcases h with ⟨rfl, rfl, h3⟩ | ⟨rfl, h2⟩
  · rw [if_neg (by omega)]; rfl
  · rw [if_pos h2]; rfl
theorem negB_dig {c : UInt8} {r : List UInt8} (h : isDig c = true) : negB (c :: r) = false ∧ bodyL (c :: r) = c :: r := by
  have h' := isDig_iff.1 h
  have hn : negB (c :: r) = false := by
    rw [negB, List.head?_cons, beq_eq_false_iff_ne]
    intro e
    have : c = 45 := Option.some.inj e
    subst this; revert h'; decide
  exact ⟨hn, by rw [bodyL, hn]; rfl⟩
/-- the whole digits: no superfluous zero ahead -/
theorem parP_int {c : UInt8} {r : List UInt8} (hd : (c :: r).all isDig = true) (hz : ¬ (1 < (c :: r).length ∧ c = 48)) :
    parP (c :: r) 0 = if BB < val (c :: r) 0 then ((0, 3) : Int × Int) else (((val (c :: r) 0 : Nat) : Int), 0) := by
  have h := negB_dig (r := r) (by simpa using (List.all_eq_true.1 hd c (by simp)))
  unfold parP
  rw [h.1, h.2]
  unfold bodyP
  have hw : wholeI (c :: r) 0 = ((c :: r).length : Nat) := by rw [wholeI, if_neg (by omega)]
  have hb : badL (c :: r) ((c :: r).length : Nat) = false := by
    unfold badL
    rw [Bool.or_eq_false_iff, Bool.and_eq_false_iff, decide_eq_false_iff_not, decide_eq_false_iff_not, beq_eq_false_iff_ne]
    refine ⟨by simp only [List.length_cons]; omega, ?_⟩
    by_cases h1 : 1 < (c :: r).length
    · right; intro e; exact hz ⟨h1, Option.some.inj e⟩
    · left; omega
  rw [hw, hb, run_all _ _ 0 false (.inr (Int.le_refl _)), hd, if_neg Bool.false_ne_true, if_pos rfl]
  exact fin_pos _
theorem parP_point {c : UInt8} {r b : List UInt8} {q : Nat} (hq : 1 ≤ q) (hd : (c :: r).all isDig = true) (hz : ¬ (1 < (c :: r).length ∧ c = 48)) (hb : b.all isDig = true) (hl : b.length = q) :
    parP ((c :: r) ++ 46 :: b) q = if BB < val ((c :: r) ++ b) 0 then ((0, 3) : Int × Int) else (((val ((c :: r) ++ b) 0 : Nat) : Int), 0) := by
  have h := negB_dig (r := r ++ 46 :: b) (by simpa using (List.all_eq_true.1 hd c (by simp)))
  unfold parP
  rw [List.cons_append, h.1, h.2, ← List.cons_append]
  unfold bodyP
  have hw : wholeI ((c :: r) ++ 46 :: b) q = ((c :: r).length : Nat) := by
    rw [wholeI, if_pos (by omega), List.length_append, List.length_cons (a := 46)]; omega
  have hbd : badL ((c :: r) ++ 46 :: b) ((c :: r).length : Nat) = false := by
    unfold badL
    rw [Bool.or_eq_false_iff, Bool.and_eq_false_iff, decide_eq_false_iff_not, decide_eq_false_iff_not, beq_eq_false_iff_ne]
    refine ⟨by simp only [List.length_cons]; omega, ?_⟩
    by_cases h1 : 1 < (c :: r).length
    · right; intro e; exact hz ⟨h1, Option.some.inj e⟩
    · left; omega
  rw [hw, hbd, run_at, hd, hb, if_neg Bool.false_ne_true, if_pos (by decide)]
  exact fin_pos _
/-- what package lexer's number answers -/
def pN (k : Int) (t : List UInt8) : Int × Int := if k = 5 then dparS (bs t) else if k = 3 then parP t 2 else if k = 4 then parP (t.take (t.length - 1)) 4 else parP t 0
def limK (k : Int) : Int := if k = 5 then 109572 else mostK k
def pL (k : Int) (t : List UInt8) : Int × Int := if (pN k t).2 = 0 ∧ limK k < (pN k t).1 then ((pN k t).1, 3) else pN k t
theorem filter_all {l : List UInt8} (h : l.all isDig = true) : l.filter isDig = l := by
  rw [List.filter_eq_self]; exact List.all_eq_true.1 h
theorem lim_val {k : Int} {t : List UInt8} {v : Nat} (hk : k ≠ 5) (hv : digsN t = v) (hp : pN k t = if BB < v then (0, 3) else ((v : Int), 0)) :
    ((pL k t).2 = 0 ∧ lxVal k t = pL k t) ∨ ((pL k t).2 ≠ 0 ∧ (lxVal k t).2 = 3) := by
  have hlim : limK k = mostK k := by rw [limK, if_neg hk]
  have hm : mostK k ≤ 1000000000000000 := by
    unfold mostK
    split
    · omega
    · split <;> omega
  have hx : lxVal k t = if mostK k < (v : Int) then (0, 3) else ((v : Int), 0) := by
    unfold lxVal; rw [if_neg hk, hv]
  unfold pL
  rw [hp, hx, hlim]
  by_cases h : BB < v
  · rw [if_pos h]
    right
    refine ⟨by simp, ?_⟩
    rw [if_pos]
    unfold BB at h; omega
  · rw [if_neg h]
    by_cases h2 : mostK k < (v : Int)
    · right; simp [h2]
    · left; simp [h2]
theorem digsN_app {a b : List UInt8} (ha : a.all isDig = true) (hb : b.all isDig = true) (c : UInt8) (hc : isDig c = false) : digsN (a ++ c :: b) = val (a ++ b) 0 := by
  unfold digsN
  rw [List.filter_append, filter_all ha, List.filter_cons_of_neg (by rw [hc]; decide), filter_all hb]
/-- at the head of a text: the parser's answer is the token's number -/
theorem pL_lx {c : UInt8} {r : List UInt8} (hc : isDig c = true) (hz : zeroB (c :: r) = false) :
    ((pL (lxKL (c :: r)).1 ((c :: r).take (lxKL (c :: r)).2)).2 = 0 ∧ lxVal (lxKL (c :: r)).1 ((c :: r).take (lxKL (c :: r)).2) = pL (lxKL (c :: r)).1 ((c :: r).take (lxKL (c :: r)).2)) ∨
    ((pL (lxKL (c :: r)).1 ((c :: r).take (lxKL (c :: r)).2)).2 ≠ 0 ∧ (lxVal (lxKL (c :: r)).1 ((c :: r).take (lxKL (c :: r)).2)).2 ≠ 0) := by
  generalize hl : c :: r = l at *
  cases hd : datedB l
  · have hW := lead_of_all (p := isDig) (l := l)
    have hWl := lead_of_le isDig l
    have hW1 : 1 ≤ lead_of isDig l := by rw [← hl]; exact lead_of_pos hc
    have hz' : ¬ (1 < lead_of isDig l ∧ c = 48) := by
      rintro ⟨h1, h2⟩
      have h0 : l[0]? = some c := by rw [← hl]; rfl
      rw [zeroB, hd, h0, h2] at hz
      simp [h1] at hz
    generalize hw : lead_of isDig l = W at *
    have hWlen : (l.take W).length = W := by rw [List.length_take]; omega
    obtain ⟨V, rfl⟩ : ∃ V, W = V + 1 := ⟨W - 1, by omega⟩
    have htk : l.take (V + 1) = c :: r.take V := by rw [← hl]; rfl
    rw [htk] at hW hWlen
    have hz2 : ¬ (1 < (c :: r.take V).length ∧ c = 48) := by rw [hWlen]; exact hz'
    cases h2 : pointB l 2
    · cases h4 : rateB l
      · have e : lxKL l = (2, V + 1) := by unfold lxKL; rw [hd, h2, h4, hw]; rfl
        rw [e]
        dsimp only
        rw [htk]
        have := lim_val (k := 2) (t := c :: r.take V) (v := val (c :: r.take V) 0) (by decide) (by rw [digsN, filter_all hW]) (parP_int hW hz2)
        rcases this with h | ⟨h, h'⟩
        · exact .inl h
        · exact .inr ⟨h, by omega⟩
      · have e : lxKL l = (4, V + 1 + 6) := by unfold lxKL; rw [hd, h2, h4, hw]; rfl
        rw [e]
        dsimp only
        rw [rateB, Bool.and_eq_true, beq_iff_eq, pointB_iff, hw] at h4
        obtain ⟨⟨p1, p2⟩, p3⟩ := h4
        have hlen := get_lt p3
        have hF := lead_of_all (p := isDig) (l := l.drop (V + 1 + 1))
        rw [p2] at hF
        have hFl : ((l.drop (V + 1 + 1)).take 4).length = 4 := by rw [List.length_take, List.length_drop]; omega
        have hsplit : l.take (V + 1 + 6) = (c :: r.take V) ++ 46 :: ((l.drop (V + 1 + 1)).take 4 ++ [37]) := by
          rw [← htk, show V + 1 + 6 = (V + 1) + (1 + (4 + 1)) from rfl, List.take_add, List.take_add (i := 1), List.drop_drop, List.take_add_one (i := 4)]
          rw [show (l.drop (V + 1)).take 1 = [46] by rw [List.take_one, List.head?_drop, p1]; rfl]
          rw [List.getElem?_drop, show V + 1 + 1 + 4 = V + 1 + 5 from by omega, p3]; rfl
        have hdl : (l.take (V + 1 + 6)).take ((l.take (V + 1 + 6)).length - 1) = (c :: r.take V) ++ 46 :: (l.drop (V + 1 + 1)).take 4 := by
          rw [hsplit]
          have : (c :: r.take V) ++ 46 :: ((l.drop (V + 1 + 1)).take 4 ++ [37]) = ((c :: r.take V) ++ 46 :: (l.drop (V + 1 + 1)).take 4) ++ [37] := by simp
          rw [this, List.length_append, List.length_singleton, Nat.add_sub_cancel, List.take_left' rfl]
        have hdg : digsN (l.take (V + 1 + 6)) = val ((c :: r.take V) ++ (l.drop (V + 1 + 1)).take 4) 0 := by
          rw [hsplit]
          unfold digsN
          rw [List.filter_append, filter_all hW, List.filter_cons_of_neg (by decide), List.filter_append, filter_all hF, List.filter_cons_of_neg (by decide)]
          simp
        have := lim_val (k := 4) (t := l.take (V + 1 + 6)) (v := val ((c :: r.take V) ++ (l.drop (V + 1 + 1)).take 4) 0) (by decide) hdg (by
          show parP ((l.take (V + 1 + 6)).take ((l.take (V + 1 + 6)).length - 1)) 4 = _
          rw [hdl]
          exact parP_point (q := 4) (by decide) hW hz2 hF hFl)
        rcases this with h | ⟨h, h'⟩
        · exact .inl h
        · exact .inr ⟨h, by omega⟩
    · have e : lxKL l = (3, V + 1 + 3) := by unfold lxKL; rw [hd, h2, hw]; rfl
      rw [e]
      dsimp only
      rw [pointB_iff, hw] at h2
      obtain ⟨p1, p2⟩ := h2
      have hF := lead_of_all (p := isDig) (l := l.drop (V + 1 + 1))
      have hF2 := lead_of_le isDig (l.drop (V + 1 + 1))
      rw [p2, List.length_drop] at hF2
      rw [p2] at hF
      have hFl : ((l.drop (V + 1 + 1)).take 2).length = 2 := by rw [List.length_take, List.length_drop]; omega
      have hsplit : l.take (V + 1 + 3) = (c :: r.take V) ++ 46 :: (l.drop (V + 1 + 1)).take 2 := by
        rw [← htk, show V + 1 + 3 = (V + 1) + (1 + 2) from rfl, List.take_add, List.take_add (i := 1), List.drop_drop]
        rw [show (l.drop (V + 1)).take 1 = [46] by rw [List.take_one, List.head?_drop, p1]; rfl]
        rfl
      rw [hsplit]
      have := lim_val (k := 3) (t := (c :: r.take V) ++ 46 :: (l.drop (V + 1 + 1)).take 2) (v := val ((c :: r.take V) ++ (l.drop (V + 1 + 1)).take 2) 0) (by decide) (digsN_app hW hF 46 dig_not46) (parP_point (q := 2) (by decide) hW hz2 hF hFl)
      rcases this with h | ⟨h, h'⟩
      · exact .inl h
      · exact .inr ⟨h, by omega⟩
  · have e : lxKL l = (5, 10) := by unfold lxKL; rw [hd]; rfl
    rw [e]
    dsimp only
    have e1 : pN 5 (l.take 10) = dparS (bs (l.take 10)) := rfl
    have e2 : lxVal 5 (l.take 10) = if (dparS (bs (l.take 10))).2 = 0 then dparS (bs (l.take 10)) else (0, 3) := rfl
    rw [pL, e1, e2]
    have hb : (dparS (bs (l.take 10))).2 = 0 → (dparS (bs (l.take 10))).1 ≤ 109572 := by
      unfold dparS
      split
      · unfold fromS
        split
        · rename_i h; intro _; exact (dayNo_bd h).2
        · intro h; exact absurd h (by decide)
      · intro h; exact absurd h (by decide)
    have hl5 : limK 5 = 109572 := rfl
    rw [hl5]
    generalize dparS (bs (l.take 10)) = p at *
    by_cases h : p.2 = 0
    · have := hb h
      rw [if_neg (by omega), if_pos h]
      exact .inl ⟨h, rfl⟩
    · rw [if_neg (fun x => h x.1), if_neg h]
      exact .inr ⟨h, by decide⟩

set_option maxRecDepth 100000 in
theorem pI_any (s : ByteArray) (hs : s.size ≤ 1000000) (w : World) :
    Calls Tryd.prog 118 #[.string s] w fun e w' => e = .returned (.tuple #[.int .i64 (parP (L s) 0).1, .int .i64 (parP (L s) 0).2]) ∧ Kept w w' := by
  have HP := Lib.hid (fun w => parse_num s 0 hs (by omega) (by omega) w)
  generalize parP (L s) 0 = r at *
  go_enter Tryd.func118, Tryd.ntmps118
  go_wp2_with (go_at_call 131; refine (HP.out _).mono ?_; rintro e w' ⟨rfl, hk⟩)
  go_ret2
  exact ⟨rfl, hk⟩
set_option maxRecDepth 100000 in
theorem pF_any (s : ByteArray) (p : Int) (p0 : 0 ≤ p) (p9 : p ≤ 9) (hs : s.size ≤ 1000000) (w : World) :
    Calls Tryd.prog 117 #[.string s, .int .i64 p] w fun e w' => e = .returned (.tuple #[.int .i64 (parP (L s) p).1, .int .i64 (parP (L s) p).2]) ∧ Kept w w' := by
  have hq : max 0 (min p 9) = p := by omega
  have HQ := Lib.hid (show ∀ w, Calls Tryd.prog 132 #[.int .i64 p] w fun e w' => e = .returned (.int .i64 p) ∧ w = w' from fun w => by have h := clamp_any p w; rwa [hq] at h)
  have HP := Lib.hid (fun w => parse_num s p hs p0 p9 w)
  clear hq
  generalize parP (L s) p = r at *
  go_enter Tryd.func117, Tryd.ntmps117
  go_wp2_with (first
    | (go_at_call 132; refine (HQ.out _).mono ?_; rintro e w' ⟨rfl, rfl⟩)
    | (go_at_call 131; refine (HP.out _).mono ?_; rintro e w' ⟨rfl, hk⟩))
  go_ret2
  exact ⟨rfl, hk⟩

theorem pL_cases (k : Int) (t : List UInt8) (n c : Int) (h : pN k t = (n, c)) : (c ≠ 0 ∧ pL k t = (n, c)) ∨ (c = 0 ∧ limK k < n ∧ pL k t = (n, 3)) ∨ (c = 0 ∧ n ≤ limK k ∧ pL k t = (n, 0)) := by
  unfold pL
  rw [h]
  by_cases hc : c = 0
  · subst hc
    by_cases hn : limK k < n
    · exact .inr (.inl ⟨rfl, hn, by simp [hn]⟩)
    · exact .inr (.inr ⟨rfl, by omega, by simp [hn]⟩)
  · exact .inl ⟨hc, by simp [hc]⟩
set_option maxRecDepth 100000 in
set_option maxHeartbeats 4000000 in
theorem number_any (k : Int) (s : ByteArray) (hk : k = 5 ∨ k = 3 ∨ k = 4 ∨ k = 2) (hs : s.size ≤ 1000000) (h0 : 1 ≤ s.size) (w : World) (hM : Mon w) :
    Calls Tryd.prog 98 #[.int .i64 k, .string s] w fun e w' => e = .returned (.tuple #[.int .i64 (pL k (L s)).1, .int .i64 (pL k (L s)).2]) ∧ Kept w w' := by
  obtain ⟨⟨n, c⟩, hp⟩ : ∃ p, pN k (L s) = p := ⟨_, rfl⟩
  have hc := pL_cases k (L s) n c hp
  rcases hk with rfl | rfl | rfl | rfl
  · have H := Lib.hid (fun w hM => parse_any s w hM)
    have e : dparS s = (n, c) := by rw [← hp]; show dparS s = dparS (bs (L s)); rw [bs_L]
    have e2 : limK 5 = 109572 := rfl
    rw [e] at H
    rw [e2] at hc
    clear hp e e2
    rcases hc with ⟨h1, h2⟩ | ⟨rfl, h1, h2⟩ | ⟨rfl, h1, h2⟩
    · have h1b : (c == 0) = false := by rw [beq_eq_false_iff_ne]; exact h1
      have HR := Lib.hid h2
      clear h1 h2
      go_enter Tryd.func98, Tryd.ntmps98
      go_wp2_with (go_at_call 116; refine (H.out _ hM).mono ?_; rintro e w' ⟨rfl, hk⟩)
      go_ret2
      exact ⟨from_ret HR.out, hk⟩
    all_goals
      have HR := Lib.hid h2
      clear h2
      go_enter Tryd.func98, Tryd.ntmps98
      go_wp2_with (go_at_call 116; refine (H.out _ hM).mono ?_; rintro e w' ⟨rfl, hk⟩)
      go_ret2
      exact ⟨from_ret HR.out, hk⟩
  · have H := Lib.hid (fun w => pF_any s 2 (by decide) (by decide) hs w)
    have e : parP (L s) 2 = (n, c) := hp
    have e2 : limK 3 = 1000000000000000 := rfl
    rw [e] at H
    rw [e2] at hc
    clear hp e e2
    rcases hc with ⟨h1, h2⟩ | ⟨rfl, h1, h2⟩ | ⟨rfl, h1, h2⟩
    · have h1b : (c == 0) = false := by rw [beq_eq_false_iff_ne]; exact h1
      have HR := Lib.hid h2
      clear h1 h2
      go_enter Tryd.func98, Tryd.ntmps98
      go_wp2_with (go_at_call 117; refine (H.out _).mono ?_; rintro e w' ⟨rfl, hk⟩)
      go_ret2
      exact ⟨from_ret HR.out, hk⟩
    all_goals
      have HR := Lib.hid h2
      clear h2
      go_enter Tryd.func98, Tryd.ntmps98
      go_wp2_with (go_at_call 117; refine (H.out _).mono ?_; rintro e w' ⟨rfl, hk⟩)
      go_ret2
      exact ⟨from_ret HR.out, hk⟩
  · have hx : (s.extract 0 (s.size - 1)).size ≤ 1000000 := by rw [ByteArray.size_extract]; omega
    have H := Lib.hid (fun w => pF_any (s.extract 0 (s.size - 1)) 4 (by decide) (by decide) hx w)
    have e : parP (L (s.extract 0 (s.size - 1))) 4 = (n, c) := by rw [ext_take]; exact hp
    have e2 : limK 4 = 1000000000 := rfl
    rw [e] at H
    rw [e2] at hc
    have i1 : (1 : Int) ≤ s.size := by omega
    have hnn : ((s.size : Int) - 1).toNat = s.size - 1 := by omega
    have HN := Lib.hid hnn
    clear hp e e2 hx hnn
    rcases hc with ⟨h1, h2⟩ | ⟨rfl, h1, h2⟩ | ⟨rfl, h1, h2⟩
    · have h1b : (c == 0) = false := by rw [beq_eq_false_iff_ne]; exact h1
      have HR := Lib.hid h2
      clear h1 h2
      go_enter Tryd.func98, Tryd.ntmps98
      go_wp2_with (go_at_call 117; (try rw [HN.out]); refine (H.out _).mono ?_; rintro e w' ⟨rfl, hk⟩)
      go_ret2
      exact ⟨from_ret HR.out, hk⟩
    all_goals
      have HR := Lib.hid h2
      clear h2
      go_enter Tryd.func98, Tryd.ntmps98
      go_wp2_with (go_at_call 117; (try rw [HN.out]); refine (H.out _).mono ?_; rintro e w' ⟨rfl, hk⟩)
      go_ret2
      exact ⟨from_ret HR.out, hk⟩
  · have H := Lib.hid (fun w => pI_any s hs w)
    have e : parP (L s) 0 = (n, c) := hp
    have e2 : limK 2 = 1000000000000 := rfl
    rw [e] at H
    rw [e2] at hc
    clear hp e e2
    rcases hc with ⟨h1, h2⟩ | ⟨rfl, h1, h2⟩ | ⟨rfl, h1, h2⟩
    · have h1b : (c == 0) = false := by rw [beq_eq_false_iff_ne]; exact h1
      have HR := Lib.hid h2
      clear h1 h2
      go_enter Tryd.func98, Tryd.ntmps98
      go_wp2_with (go_at_call 118; refine (H.out _).mono ?_; rintro e w' ⟨rfl, hk⟩)
      go_ret2
      exact ⟨from_ret HR.out, hk⟩
    all_goals
      have HR := Lib.hid h2
      clear h2
      go_enter Tryd.func98, Tryd.ntmps98
      go_wp2_with (go_at_call 118; refine (H.out _).mono ?_; rintro e w' ⟨rfl, hk⟩)
      go_ret2
      exact ⟨from_ret HR.out, hk⟩

def srV (r : SR) : Value := .tuple #[.agg #[.int .i64 r.k, .string (bs r.t), .int .i64 r.n, .int .i64 0], .int .i64 r.len, .int .i64 r.code]
set_option maxRecDepth 100000 in
set_option maxHeartbeats 1000000 in
theorem scanName_any (s : ByteArray) (hs : s.size ≤ 1000000) (w : World) :
    Calls Tryd.prog 70 #[.string s] w fun e w' => e = .returned (srV (lxName (L s))) ∧ Kept w w' := by
  have hle := lead_of_le wordB (L s)
  rw [L_length] at hle
  have H := Lib.hid (fun w => nameLen_any s hs w)
  by_cases h : 16 < lead_of wordB (L s)
  · have HR := Lib.hid (show lxName (L s) = .err 4 by rw [lxName, if_pos h])
    generalize lead_of wordB (L s) = k at *
    go_enter Tryd.func70, Tryd.ntmps70
    go_wp2_with (go_at_call 41; refine (H.out _).mono ?_; rintro e w' ⟨rfl, rfl⟩)
    refine bodyPost_ret (v := srV (lxName (L s))) (by rw [HR.out]; simp [srV, SR.err, bs, results, Tryd.results70, go_sem]) rfl ⟨rfl, ?_⟩
    exact (Kept.refl _).alloc _
  · have HR := Lib.hid (show lxName (L s) = ⟨0, 1, L (s.extract 0 (lead_of wordB (L s))), 0, lead_of wordB (L s)⟩ by rw [lxName, if_neg h, ext_take])
    generalize lead_of wordB (L s) = k at *
    go_enter Tryd.func70, Tryd.ntmps70
    go_wp2_with (go_at_call 41; refine (H.out _).mono ?_; rintro e w' ⟨rfl, rfl⟩)
    refine bodyPost_ret (v := srV (lxName (L s))) (by rw [HR.out]; simp [srV, results, Tryd.results70, go_sem]) rfl ⟨rfl, ?_⟩
    exact (Kept.refl _).alloc _
end Go.Proofs.YtmlkgfacenajnaaDoor
