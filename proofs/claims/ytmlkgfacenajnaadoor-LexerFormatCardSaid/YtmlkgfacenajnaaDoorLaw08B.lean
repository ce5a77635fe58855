/- The fixed examples of the chapter on the lexer, and the walks of the laws LexerTokenize, LexerIdentifier, LexerOffsets. -/
import Derived.Test.YtmlkgfacenajnaaDoorLaw08A
namespace Go.Proofs.YtmlkgfacenajnaaDoor
open Go.RowKit

def exD : List UInt8 := [50, 48, 50, 52, 45, 48, 50, 45, 51, 48]
theorem exD_par : dparS (bs exD) = (0, 3) := by
  have e : dparB (bs exD) = true := by
    unfold dparB
    rw [L_extract, L_extract, L_extract, L_bs, bs_size]
    decide
  rw [dparS_yes e, L_extract, L_extract, L_extract, L_bs]
  decide
theorem exD_scan : lxScan exD = .err 3 := by
  have h1 : lxScan exD = lxNum exD := by kernel_rfl
  have hk : lxKL exD = (5, 10) := by kernel_rfl
  have ht : exD.take 10 = exD := by kernel_rfl
  have hv : lxVal 5 exD = if (dparS (bs exD)).2 = 0 then dparS (bs exD) else (0, 3) := rfl
  rw [h1, lxNum, show zeroB exD = false from by kernel_rfl, hk]
  dsimp only
  rw [ht, show gluedAt exD[10]? = false from by kernel_rfl, hv, exD_par]
  rfl
theorem tok_a : tokR (L ⟨#[100, 101, 102, 32, 97, 50, 32, 60, 61, 32, 49, 50, 46, 53, 48, 32, 35, 32, 120]⟩) = ([⟨1, [100, 101, 102], 0, 0⟩, ⟨1, [97, 50], 0, 4⟩, ⟨7, [60, 61], 0, 7⟩, ⟨3, [49, 50, 46, 53, 48], 1250, 10⟩], 0, 0) := by kernel_rfl
theorem tok_b : tokR (L ⟨#[48, 48, 55]⟩) = ([], 0, 2) := by kernel_rfl
theorem tok_c : tokR (L ⟨#[49, 32, 50, 48, 50, 52, 45, 48, 50, 45, 51, 48]⟩) = ([], 2, 3) := by
  have h0 : tokR (L ⟨#[49, 32, 50, 48, 50, 52, 45, 48, 50, 45, 51, 48]⟩) = comb [] (lexF 13 (49 :: 32 :: exD) 0) := by
    rw [comb_nil _ (lexF_ok _ _ _)]; rfl
  have h1 := lexF_next 12 (49 :: 32 :: exD) 0 0 [] ⟨0, 2, [49], 1, 1⟩ (by kernel_rfl) (by simp) (by kernel_rfl) rfl
  have h2 := lexF_bad 11 (32 :: exD) 1 1 ([] ++ [⟨2, [49], 1, ((0 + 0 : Nat) : Int)⟩]) (by kernel_rfl) (by simp [exD]) (by
    show (lxScan exD).code ≠ 0
    rw [exD_scan]; decide)
  rw [h0, h1]
  refine h2.trans ?_
  show ([], (((1 + 1 : Nat) : Int)), (lxScan exD).code) = _
  rw [exD_scan]; rfl
theorem tok_d : tokR (L ⟨#[97, 32, 34, 98]⟩) = ([], 2, 5) := by kernel_rfl
theorem id_a : idB (L ⟨#[112, 114, 105, 111]⟩) = false := by kernel_rfl
theorem id_b : idB (L ⟨#[97, 50]⟩) = true := by kernel_rfl

set_option maxRecDepth 100000 in
set_option maxHeartbeats 8000000 in
theorem awake08_any (w : World) (hM : Mon w) :
    Calls Tryd.prog 13 #[] w fun e w' => e = .returned (.bool true) ∧ Kept w w' := by
  go_enter Tryd.func13, Tryd.ntmps13
  go_wp2_with fail
  refine (tokenize_any _ (by decide) _ hM).mono ?_
  unfold tokPost
  rintro e w1 ⟨v1, rfl, hT1, k1⟩
  rw [tok_a] at hT1 ⊢
  dsimp only at hT1 ⊢
  obtain ⟨A1, c1, rfl, hA1⟩ := hT1.at_
  obtain ⟨b, off, rfl, hb, hc⟩ := hA1 (by decide)
  simp only [List.length_cons, List.length_nil] at hb hc ⊢
  have q1 := hc 1 ⟨1, [97, 50], 0, 4⟩ rfl
  have q3 := hc 3 ⟨3, [49, 50, 46, 53, 48], 1250, 10⟩ rfl
  clear hc hA1 hT1
  go_wp2_with fail
  refine (tokenize_any _ (by decide) _ (hM.kept k1)).mono ?_
  unfold tokPost
  rintro e w2 ⟨v2, rfl, hT2, k2⟩
  rw [tok_b] at hT2 ⊢
  clear hT2
  dsimp only
  go_wp2_with fail
  refine (tokenize_any _ (by decide) _ ((hM.kept k1).kept k2)).mono ?_
  unfold tokPost
  rintro e w3 ⟨v3, rfl, hT3, k3⟩
  rw [tok_c] at hT3 ⊢
  clear hT3
  dsimp only
  go_wp2_with fail
  refine (tokenize_any _ (by decide) _ (((hM.kept k1).kept k2).kept k3)).mono ?_
  unfold tokPost
  rintro e w4 ⟨v4, rfl, hT4, k4⟩
  rw [tok_d] at hT4 ⊢
  clear hT4
  dsimp only
  have hK := (k2.trans k3).trans k4
  obtain ⟨x0, x1, x2, x3⟩ := q1
  obtain ⟨y0, y1, y2, y3⟩ := q3
  have X0 := hK.cell (p := ⟨b, _, none⟩) hb x0
  have X1 := hK.cell (p := ⟨b, _, none⟩) hb x1
  have X2 := hK.cell (p := ⟨b, _, none⟩) hb x2
  have X3 := hK.cell (p := ⟨b, _, none⟩) hb x3
  have Y0 := hK.cell (p := ⟨b, _, none⟩) hb y0
  have Y1 := hK.cell (p := ⟨b, _, none⟩) hb y1
  have Y2 := hK.cell (p := ⟨b, _, none⟩) hb y2
  have Y3 := hK.cell (p := ⟨b, _, none⟩) hb y3
  clear x0 x1 x2 x3 y0 y1 y2 y3
  simp only [Nat.reduceMul, Nat.add_assoc, Nat.reduceAdd] at X0 X1 X2 X3 Y0 Y1 Y2 Y3
  rw [show bs [97, 50] = ⟨#[97, 50]⟩ from rfl] at X1
  rw [show bs [49, 50, 46, 53, 48] = ⟨#[49, 50, 46, 53, 48]⟩ from rfl] at Y1
  go_wp2_with (go_at_call 17; refine (isId_any _ (by decide) _).mono ?_; rintro e w' ⟨rfl, rfl⟩; first | rw [id_a] | rw [id_b])
  go_ret
  exact ⟨rfl, k1.trans hK⟩

theorem lexF_count (f : Nat) : ∀ l o, (lexF f l o).1.length ≤ f := by
  induction f with
  | zero => intro l o; exact Nat.zero_le _
  | succ f ih =>
    intro l o
    rw [lexF]
    split
    · simp
    · split
      · split
        · have := ih ((l.drop (skipL false l)).drop (lxScan (l.drop (skipL false l))).len) (o + skipL false l + (lxScan (l.drop (skipL false l))).len)
          simp only [List.length_cons]; omega
        · have := ih ((l.drop (skipL false l)).drop (lxScan (l.drop (skipL false l))).len) (o + skipL false l + (lxScan (l.drop (skipL false l))).len)
          omega
      · simp
theorem tokR_count (l : List UInt8) : (tokR l).1.length ≤ 65537 := by
  unfold tokR
  split
  · simp
  · have := lexF_count (l.length + 1) l 0
    omega

set_option maxRecDepth 100000 in
set_option maxHeartbeats 8000000 in
theorem lawLexTokenize (s : ByteArray) (hs : s.size ≤ maxLen) (w : World) (hM : Mon w) :
    Calls Tryd.prog 3 #[.string s] w (LawPost w) := by
  unfold LawPost
  unfold maxLen at hs
  have hcnt := tokR_count (L s)
  have HT := Lib.hid (fun w hM => tokenize_any s (by omega) w hM)
  have HRT := Lib.hid (fun w => rtokenize_any s (by omega) w)
  unfold tokPost at HT HRT
  generalize hR : tokR (L s) = R at *
  clear hR
  obtain ⟨xs, at_, code⟩ := R
  dsimp only at hcnt HT HRT
  rcases (show (3000 < s.size ∧ s.size ≤ 65536) ∨ s.size ≤ 3000 ∨ (3000 < s.size ∧ 65536 < s.size) by omega) with ⟨h1, h2⟩ | h1 | ⟨h1, h2⟩
  · have h1i : 3000 < (s.size : Int) := by omega
    have h2i : (s.size : Int) ≤ 65536 := by omega
    go_enter Tryd.func3, Tryd.ntmps3
    go_wp2_with (go_at_call 13; refine (awake08_any _ hM).mono ?_; rintro e w' ⟨rfl, hk⟩)
    go_ret
    exact ⟨rfl, hk⟩
  all_goals
    first
      | have h1i : ¬ (3000 < (s.size : Int)) := by omega
      | (have h1i : 3000 < (s.size : Int) := by omega
         have h2i : ¬ ((s.size : Int) ≤ 65536) := by omega)
    go_enter Tryd.func3, Tryd.ntmps3
    go_wp2_with fail
    refine (HT.out _ hM).mono ?_
    rintro e w1 ⟨v1, rfl, hT1, k1⟩
    go_wp2_with fail
    refine (HRT.out _).mono ?_
    rintro e w2 ⟨v2, rfl, hT2, k2⟩
    have HT1 := Lib.hid hT1
    have HT2 := Lib.hid hT2
    clear hT1 hT2
    go_wp2_with (first
      | (go_at_call 16; refine (tokens_same _ _ xs _ (Recs.kept HT1.out k2) HT2.out (by omega)).mono ?_; rintro e w3 ⟨rfl, k3⟩; have hK := (k1.trans k2).trans k3)
      | (go_at_call 13; refine (awake08_any _ (hM.kept hK)).mono ?_; rintro e w' ⟨rfl, hk⟩))
    go_ret
    exact ⟨rfl, hK.trans hk⟩

set_option maxRecDepth 100000 in
set_option maxHeartbeats 8000000 in
theorem lawLexIdentifier (s : ByteArray) (hs : s.size ≤ maxLen) (w : World) (hM : Mon w) :
    Calls Tryd.prog 4 #[.string s] w (LawPost w) := by
  unfold LawPost
  unfold maxLen at hs
  by_cases h1 : 1000 < s.size
  · have h1i : 1000 < (s.size : Int) := by omega
    go_enter Tryd.func4, Tryd.ntmps4
    go_wp2_with (go_at_call 13; refine (awake08_any _ hM).mono ?_; rintro e w' ⟨rfl, hk⟩)
    go_ret
    exact ⟨rfl, hk⟩
  · have h1i : ¬ (1000 < (s.size : Int)) := by omega
    have HA := Lib.hid (fun w => isId_any s (by omega) w)
    have HB := Lib.hid (fun w => risId_any s (by omega) w)
    generalize idB (L s) = R at *
    go_enter Tryd.func4, Tryd.ntmps4
    go_wp2_with (first
      | (go_at_call 17; refine (HA.out _).mono ?_; rintro e w' ⟨rfl, rfl⟩)
      | (go_at_call 18; refine (HB.out _).mono ?_; rintro e w1 ⟨rfl, k1⟩)
      | (go_at_call 13; refine (awake08_any _ (hM.kept k1)).mono ?_; rintro e w' ⟨rfl, hk⟩))
    go_ret
    exact ⟨rfl, k1.trans hk⟩

theorem tok_err {l : List UInt8} (h3 : l.length ≤ 3000) (h : (tokR l).2.2 ≠ 0) : 0 ≤ (tokR l).2.1 ∧ (tokR l).2.1 ≤ l.length := by
  have e : tokR l = lexF (l.length + 1) (l.drop 0) 0 := by rw [tokR, if_neg (by omega), List.drop_zero]
  rw [e] at h ⊢
  exact (lexF_err l (l.length + 1) 0 (Nat.zero_le _) h).2
theorem tok_ok {l : List UInt8} (h3 : l.length ≤ 3000) (h : (tokR l).2.2 = 0) (i : Nat) (t : Tok) (ht : (tokR l).1[i]? = some t) : TokAt l t ∧ ∀ t', 0 < i → (tokR l).1[i - 1]? = some t' → t'.o < t.o := by
  have e : tokR l = lexF (l.length + 1) (l.drop 0) 0 := by rw [tokR, if_neg (by omega), List.drop_zero]
  rw [e] at h ht ⊢
  have := lexF_toks l (l.length + 1) 0 h i t ht
  exact ⟨this.1, this.2.2⟩
set_option maxRecDepth 100000 in
set_option maxHeartbeats 8000000 in
theorem lawLexOffsets (s : ByteArray) (hs : s.size ≤ maxLen) (w : World) (hM : Mon w) :
    Calls Tryd.prog 5 #[.string s] w (LawPost w) := by
  unfold LawPost
  unfold maxLen at hs
  by_cases h3 : 3000 < s.size
  · have h3i : 3000 < (s.size : Int) := by omega
    go_enter Tryd.func5, Tryd.ntmps5
    go_wp2_with (go_at_call 13; refine (awake08_any _ hM).mono ?_; rintro e w' ⟨rfl, hk⟩)
    go_ret
    exact ⟨rfl, hk⟩
  · have h3i : ¬ (3000 < (s.size : Int)) := by omega
    have HT := Lib.hid (fun w hM => tokenize_any s (by omega) w hM)
    have hcnt := tokR_count (L s)
    have herr := tok_err (l := L s) (by rw [L_length]; omega)
    have hok := tok_ok (l := L s) (by rw [L_length]; omega)
    unfold tokPost at HT
    generalize tokR (L s) = R at *
    obtain ⟨xs, at_, code⟩ := R
    dsimp only at hcnt HT herr hok
    by_cases hc : code = 0
    · subst hc
      have HOK := Lib.hid (hok rfl)
      clear herr hok
      go_enter Tryd.func5, Tryd.ntmps5
      go_wp2_with fail
      refine (HT.out _ hM).mono ?_
      rintro e w1 ⟨v1, rfl, hT1, k1⟩
      obtain ⟨A, cap, rfl, hA⟩ := hT1.at_
      obtain ⟨n, hxn⟩ : ∃ n, n = xs.length := ⟨_, rfl⟩
      rw [← hxn] at hA hcnt ⊢
      have HX := Lib.hid hxn
      clear hxn hT1
      go_wp2_with fail
      go_loopw [6] (fun z wr => ∃ pos : Nat, pos ≤ n ∧ z = .int .i64 pos ∧ Kept w1 wr) (fun z _ => (n - intOf z).toNat)
      case atStart => exact ⟨0, Nat.zero_le _, rfl, Kept.refl _⟩
      case round =>
        obtain ⟨pos, hps, rfl, hK⟩ := hrel
        by_cases hp : pos < n
        · obtain ⟨b1, o1, rfl, hb1, hc1⟩ := hA (by omega)
          have hg : xs[pos]? = some (xs[pos]'(by have := HX.out; omega)) := List.getElem?_eq_getElem _
          obtain ⟨hat, hpr⟩ := HOK.out pos _ hg
          obtain ⟨x0, x1, x2, x3⟩ := hc1 pos _ hg
          have hw1 := Nat.lt_of_lt_of_le hb1 hK.size
          have hprev : 0 < pos → ∃ o', wr.cell? ⟨b1, o1 + (pos - 1) * 4 + 3, none⟩ = some (.int .i64 o') ∧ o' < (xs[pos]'(by have := HX.out; omega)).o := fun h => by
            have hg2 : xs[pos - 1]? = some (xs[pos - 1]'(by have := HX.out; omega)) := List.getElem?_eq_getElem _
            exact ⟨_, hK.cell (p := ⟨b1, _, none⟩) hb1 (hc1 (pos - 1) _ hg2).2.2.2, hpr _ h hg2⟩
          clear hc1 hA hpr
          have X0 := hK.cell (p := ⟨b1, _, none⟩) hb1 x0
          have X1 := hK.cell (p := ⟨b1, _, none⟩) hb1 x1
          have X3 := hK.cell (p := ⟨b1, _, none⟩) hb1 x3
          clear x0 x1 x2 x3 hg
          generalize xs[pos]'(by have := HX.out; omega) = T at *
          obtain ⟨k, t, nn, o⟩ := T
          obtain ⟨p, hpo, hlen, htx⟩ := hat
          dsimp only at hpo hlen htx X0 X1 X3 hprev
          subst hpo
          have hex : s.extract (p + quoteN k) (p + quoteN k + (bs t).size) = bs t := by
            rw [← bs_L (s.extract _ _), ext_mid, bs_size, htx]
          rw [L_length] at hlen
          rw [← bs_size] at hlen
          generalize bs t = S at *
          have hpi : (pos : Int) < n := by omega
          have c0 := KW.cell hw1 X0
          have c1 := KW.cell hw1 X1
          have c3 := KW.cell hw1 X3
          have hF : ((k == 6) = true ∧ quoteN k = 1) ∨ ((k == 6) = false ∧ quoteN k = 0) := by
            unfold quoteN
            by_cases h : k = 6
            · left; simp [h]
            · right; simp [h]
          have s2 : IntKind.i64.wrap ((s.size : Int) - S.size) = (s.size : Int) - S.size := IntWalk.i64_in _ (by omega)
          have z0 : decide ((p : Int) < 0) = false := by rw [decide_eq_false_iff_not]; omega
          have HEX := Lib.hid hex
          have hSS : (S.toList != S.toList) = false := by simp
          clear hex htx
          rcases hF with ⟨k6, q6⟩ | ⟨k6, q6⟩
          · rw [q6] at hlen
            have hex := HEX.out
            rw [q6] at hex
            clear q6
            have sA : IntKind.i64.wrap ((p : Int) + 1 + S.size) = (p : Int) + 1 + S.size := IntWalk.i64_in _ (by omega)
            have d1 : decide ((s.size : Int) - S.size < (p : Int) + 1) = false := by rw [decide_eq_false_iff_not]; omega
            have f0 : (0 : Int) ≤ (p : Int) + 1 := by omega
            have f1 : (p : Int) + 1 ≤ (p : Int) + 1 + S.size := by omega
            have f2 : (p : Int) + 1 + S.size ≤ s.size := by omega
            have f3 : ((p : Int) + 1).toNat = p + 1 := by omega
            have f4 : ((p : Int) + 1 + S.size).toNat = p + 1 + S.size := by omega
            by_cases h0 : 0 < pos
            · obtain ⟨o', hc', ho'⟩ := hprev h0
              have c4 := KW.cell hw1 hc'
              have h0i : decide (0 < pos) = true := by simpa using h0
              have s3 : IntKind.i64.wrap ((pos : Int) - 1) = (pos : Int) - 1 := IntWalk.i64_in _ (by omega)
              have s4 : ((pos : Int) - 1).toNat = pos - 1 := by omega
              have s5 : (0 : Int) ≤ (pos : Int) - 1 := by omega
              have s5' : (1 : Int) ≤ (pos : Int) := by omega
              have s6 : (pos : Int) - 1 < n := by omega
              have s7 : decide ((p : Int) ≤ o') = false := by rw [decide_eq_false_iff_not]; omega
              clear hprev hc'
              go_wp2_with fail
              refine wp_region_kept (by kernel_rfl) (by kernel_rfl) ?_
              repeat (go_big_quiet_step (fail))
              refine wpQuiet_nil ?_
              rintro _ ⟨⟨wx, hx2⟩, rfl⟩
              clear s2 sA s3 s4 f3 f4 hex c0 c1 c3 c4
              go_wp2_with fail
              go_roundw
              case rel => exact ⟨pos + 1, hp, by go_num, hK.trans hx2⟩
              case measure => simp only [intOf]; omega
            · have h0i : decide (0 < pos) = false := by simpa using h0
              clear hprev
              go_wp2_with fail
              refine wp_region_kept (by kernel_rfl) (by kernel_rfl) ?_
              repeat (go_big_quiet_step (fail))
              refine wpQuiet_nil ?_
              rintro _ ⟨⟨wx, hx2⟩, rfl⟩
              clear s2 sA f3 f4 hex c0 c1 c3
              go_wp2_with fail
              go_roundw
              case rel => exact ⟨pos + 1, hp, by go_num, hK.trans hx2⟩
              case measure => simp only [intOf]; omega
          · rw [q6] at hlen
            have hex := HEX.out
            rw [q6] at hex
            simp only [Nat.add_zero] at hex hlen
            clear q6
            have sA : IntKind.i64.wrap ((p : Int) + S.size) = (p : Int) + S.size := IntWalk.i64_in _ (by omega)
            have d1 : decide ((s.size : Int) - S.size < (p : Int)) = false := by rw [decide_eq_false_iff_not]; omega
            have f0 : (0 : Int) ≤ (p : Int) := by omega
            have f1 : (p : Int) ≤ (p : Int) + S.size := by omega
            have f2 : (p : Int) + S.size ≤ s.size := by omega
            have f4 : ((p : Int) + S.size).toNat = p + S.size := by omega
            by_cases h0 : 0 < pos
            · obtain ⟨o', hc', ho'⟩ := hprev h0
              have c4 := KW.cell hw1 hc'
              have h0i : decide (0 < pos) = true := by simpa using h0
              have s3 : IntKind.i64.wrap ((pos : Int) - 1) = (pos : Int) - 1 := IntWalk.i64_in _ (by omega)
              have s4 : ((pos : Int) - 1).toNat = pos - 1 := by omega
              have s5 : (0 : Int) ≤ (pos : Int) - 1 := by omega
              have s5' : (1 : Int) ≤ (pos : Int) := by omega
              have s6 : (pos : Int) - 1 < n := by omega
              have s7 : decide ((p : Int) ≤ o') = false := by rw [decide_eq_false_iff_not]; omega
              clear hprev hc'
              go_wp2_with fail
              refine wp_region_kept (by kernel_rfl) (by kernel_rfl) ?_
              repeat (go_big_quiet_step (fail))
              refine wpQuiet_nil ?_
              rintro _ ⟨⟨wx, hx2⟩, rfl⟩
              clear s2 sA s3 s4 f4 hex c0 c1 c3 c4
              go_wp2_with fail
              go_roundw
              case rel => exact ⟨pos + 1, hp, by go_num, hK.trans hx2⟩
              case measure => simp only [intOf]; omega
            · have h0i : decide (0 < pos) = false := by simpa using h0
              clear hprev
              go_wp2_with fail
              refine wp_region_kept (by kernel_rfl) (by kernel_rfl) ?_
              repeat (go_big_quiet_step (fail))
              refine wpQuiet_nil ?_
              rintro _ ⟨⟨wx, hx2⟩, rfl⟩
              clear s2 sA f4 hex c0 c1 c3
              go_wp2_with fail
              go_roundw
              case rel => exact ⟨pos + 1, hp, by go_num, hK.trans hx2⟩
              case measure => simp only [intOf]; omega
        · have hpi : ¬ ((pos : Int) < n) := by omega
          go_wp2_with (go_at_call 13; refine (awake08_any _ ((hM.kept k1).kept hK)).mono ?_; rintro e w' ⟨rfl, hk⟩)
          go_ret
          exact ⟨rfl, (k1.trans hK).trans hk⟩
    · have hcb : (code != 0) = true := by simpa using hc
      obtain ⟨a0, a1⟩ := herr hc
      rw [L_length] at a1
      clear hok hc
      go_enter Tryd.func5, Tryd.ntmps5
      go_wp2_with (first
        | (go_at_call 14; refine (HT.out _ hM).mono ?_; rintro e w1 ⟨v1, rfl, hT1, k1⟩; clear hT1)
        | (go_at_call 13; refine (awake08_any _ (hM.kept k1)).mono ?_; rintro e w' ⟨rfl, hk⟩))
      go_ret
      exact ⟨rfl, k1.trans hk⟩
end Go.Proofs.YtmlkgfacenajnaaDoor
