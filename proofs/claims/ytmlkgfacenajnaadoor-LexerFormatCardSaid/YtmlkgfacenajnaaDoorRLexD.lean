/- What next and Tokenize of the reference of the lexer compute. -/
import Derived.Test.YtmlkgfacenajnaaDoorRLexB
import Derived.Test.YtmlkgfacenajnaaDoorRLexC
namespace Go.Proofs.YtmlkgfacenajnaaDoor
open Go.RowKit

set_option maxRecDepth 100000 in
set_option maxHeartbeats 8000000 in
theorem rnext_any (s : ByteArray) (i : Nat) (hs : s.size ≤ 100000) (hi : i < s.size) (w : World) :
    Calls Tryd.prog 39 #[.string s, .int .i64 i] w (rPost (lxScan ((L s).drop i)) i w) := by
  have hdr := L_drop s i hi
  have hii : (i : Int) < s.size := by omega
  rcases scan_cases (s[i]'hi) with ⟨c1, c2⟩ | ⟨c1, c2, c3⟩ | ⟨c1, c2, c3, c4⟩ | ⟨c1, c2, c3, c4, c5, c6⟩ | ⟨c1, c2, c3, c4, c5, c6, c7⟩ | ⟨c1, c2, c3, c4, c5, c6, c7⟩ | ⟨c1, c2, c3, c4, c5, c6, c7⟩ | ⟨c1, c2, c3, c4, c5, c6, c7⟩
  · have HR := Lib.hid (show lxScan ((L s).drop i) = ⟨0, 8, [10], 0, 1⟩ by rw [hdr, lxScan, if_pos c2])
    clear hdr c2
    go_enter Tryd.func39, Tryd.ntmps39
    go_wp2_with fail
    refine bodyPost_ret (v := .tuple #[.agg #[.int .i64 8, .string ⟨#[10]⟩, .int .i64 0, .int .i64 i], .int .i64 ((i : Int) + 1), .int .i64 0]) (by simp [results, Tryd.results39, go_sem]) rfl ?_
    unfold rPost
    rw [HR.out]
    exact ⟨_, _, _, _, _, rfl, fun h => ⟨rfl, rfl, rfl, rfl, rfl⟩, (Kept.refl _).alloc _⟩
  · have HR := Lib.hid (show lxScan ((L s).drop i) = lxName ((L s).drop i) by rw [hdr, lxScan, if_neg c2, if_pos c3])
    have H := Lib.hid (fun w => rname_any s i (by omega) (by omega) w)
    clear hdr c2
    generalize lxName ((L s).drop i) = R at *
    go_enter Tryd.func39, Tryd.ntmps39
    go_wp2_with (first
      | (go_at_call 43; refine (rlower_any _ _).mono ?_; rintro e w' ⟨rfl, rfl⟩)
      | (go_at_call 76; refine (H.out _).mono ?_; rintro e w' ⟨a, b, c, d, z, rfl, hcnd, k1⟩; have HCN := Lib.hid hcnd; clear hcnd; have B := k1.blk1; have bb := B.cell; have l := B.lt; have f := B.frozen))
    refine bodyPost_ret (v := .tuple #[.agg #[.int .i64 a, .string b, .int .i64 c, .int .i64 d], .int .i64 z, .int .i64 R.code]) (by simp [results, Tryd.results39, go_sem, bb]) rfl ?_
    unfold rPost
    rw [HR.out]
    refine ⟨_, _, _, _, _, rfl, HCN.out, ?_⟩
    repeat refine Kept.setCell ?_ (by simp only; omega) _
    exact ((Kept.refl _).alloc _).trans k1
  · have HR := Lib.hid (show lxScan ((L s).drop i) = lxNum ((L s).drop i) by rw [hdr, lxScan, if_neg c2, if_neg (by rw [c3]; decide), if_pos c4])
    have H := Lib.hid (fun w => rnumber08_any s i hs hi c4 w)
    clear hdr c2
    generalize lxNum ((L s).drop i) = R at *
    go_enter Tryd.func39, Tryd.ntmps39
    go_wp2_with (first
      | (go_at_call 43; refine (rlower_any _ _).mono ?_; rintro e w' ⟨rfl, rfl⟩)
      | (go_at_call 77; refine (rdigit_any _ _).mono ?_; rintro e w' ⟨rfl, rfl⟩)
      | (go_at_call 78; refine (H.out _).mono ?_; rintro e w' ⟨a, b, c, d, z, rfl, hcnd, k1⟩; have HCN := Lib.hid hcnd; clear hcnd; have B := k1.blk1; have bb := B.cell; have l := B.lt; have f := B.frozen))
    refine bodyPost_ret (v := .tuple #[.agg #[.int .i64 a, .string b, .int .i64 c, .int .i64 d], .int .i64 z, .int .i64 R.code]) (by simp [results, Tryd.results39, go_sem, bb]) rfl ?_
    unfold rPost
    rw [HR.out]
    refine ⟨_, _, _, _, _, rfl, HCN.out, ?_⟩
    repeat refine Kept.setCell ?_ (by simp only; omega) _
    exact ((Kept.refl _).alloc _).trans k1
  · have HR := Lib.hid (show lxScan ((L s).drop i) = lxStr ((L s).drop i) by rw [hdr, lxScan, if_neg c2, if_neg (by rw [c3]; decide), if_neg (by rw [c4]; decide), if_pos c6])
    have H := Lib.hid (fun w => rquoted_any s i (by omega) hi w)
    clear hdr c2 c6
    generalize lxStr ((L s).drop i) = R at *
    go_enter Tryd.func39, Tryd.ntmps39
    go_wp2_with (first
      | (go_at_call 43; refine (rlower_any _ _).mono ?_; rintro e w' ⟨rfl, rfl⟩)
      | (go_at_call 77; refine (rdigit_any _ _).mono ?_; rintro e w' ⟨rfl, rfl⟩)
      | (go_at_call 79; refine (H.out _).mono ?_; rintro e w' ⟨a, b, c, d, z, rfl, hcnd, k1⟩; have HCN := Lib.hid hcnd; clear hcnd; have B := k1.blk1; have bb := B.cell; have l := B.lt; have f := B.frozen))
    refine bodyPost_ret (v := .tuple #[.agg #[.int .i64 a, .string b, .int .i64 c, .int .i64 d], .int .i64 z, .int .i64 R.code]) (by simp [results, Tryd.results39, go_sem, bb]) rfl ?_
    unfold rPost
    rw [HR.out]
    refine ⟨_, _, _, _, _, rfl, HCN.out, ?_⟩
    repeat refine Kept.setCell ?_ (by simp only; omega) _
    exact ((Kept.refl _).alloc _).trans k1
  all_goals
    have HR := Lib.hid (show lxScan ((L s).drop i) = lxSym ((L s).drop i) by rw [hdr, lxScan, if_neg c2, if_neg (by rw [c3]; decide), if_neg (by rw [c4]; decide), if_neg c6])
    have H := Lib.hid (fun w => rsymbol_any s i (by omega) hi w)
    clear hdr c2 c6 c7
    generalize lxSym ((L s).drop i) = R at *
    go_enter Tryd.func39, Tryd.ntmps39
    go_wp2_with (first
      | (go_at_call 43; refine (rlower_any _ _).mono ?_; rintro e w' ⟨rfl, rfl⟩)
      | (go_at_call 77; refine (rdigit_any _ _).mono ?_; rintro e w' ⟨rfl, rfl⟩)
      | (go_at_call 80; refine (H.out _).mono ?_; rintro e w' ⟨a, b, c, d, z, rfl, hcnd, k1⟩; have HCN := Lib.hid hcnd; clear hcnd; have B := k1.blk1; have bb := B.cell; have l := B.lt; have f := B.frozen))
    refine bodyPost_ret (v := .tuple #[.agg #[.int .i64 a, .string b, .int .i64 c, .int .i64 d], .int .i64 z, .int .i64 R.code]) (by simp [results, Tryd.results39, go_sem, bb]) rfl ?_
    unfold rPost
    rw [HR.out]
    refine ⟨_, _, _, _, _, rfl, HCN.out, ?_⟩
    repeat refine Kept.setCell ?_ (by simp only; omega) _
    exact ((Kept.refl _).alloc _).trans k1

theorem skip_hash {s : ByteArray} {q : Nat} (hq : q < s.size) (h : (s[q]'hq).toNat = 35) : skipL false ((L s).drop q) = skipL true ((L s).drop q) := by
  have a : skipL false (s[q]'hq :: (L s).drop (q + 1)) = skipL true ((L s).drop (q + 1)) + 1 := by rw [skipL, if_pos h]
  have b : skipL true (s[q]'hq :: (L s).drop (q + 1)) = skipL true ((L s).drop (q + 1)) + 1 := by rw [skipL, if_neg (by omega)]
  rw [L_drop s q hq, a, b]
theorem skip_nl {s : ByteArray} {q : Nat} (hq : q < s.size) (h : (s[q]'hq).toNat = 10) : skipL false ((L s).drop q) = 0 ∧ skipL true ((L s).drop q) = 0 := by
  rw [L_drop s q hq]
  exact ⟨by rw [skipL, if_neg (by omega), if_neg (by omega)], by rw [skipL, if_pos h]⟩
theorem skip_end {s : ByteArray} {q : Nat} (hq : ¬ q < s.size) : skipL false ((L s).drop q) = 0 ∧ skipL true ((L s).drop q) = 0 := by
  rw [List.drop_of_length_le (by rw [L_length]; omega)]
  exact ⟨rfl, rfl⟩
/-- where the reference stands: p the end of the last token, q where it reads -/
def SkAt (s : ByteArray) (b : Bool) (p q : Nat) : Prop := p ≤ q ∧ skipL false ((L s).drop p) = (q - p) + skipL b ((L s).drop q)
theorem SkAt.step {s : ByteArray} {b b' : Bool} {p q : Nat} (h : SkAt s b p q) (hq : q < s.size) (hb : skipL b (s[q]'hq :: (L s).drop (q + 1)) = skipL b' ((L s).drop (q + 1)) + 1) : SkAt s b' p (q + 1) := by
  refine ⟨by have := h.1; omega, ?_⟩
  have h1 := h.1
  rw [h.2, L_drop s q hq, hb]; omega
theorem SkAt.turn {s : ByteArray} {b b' : Bool} {p q : Nat} (h : SkAt s b p q) (hb : skipL b ((L s).drop q) = skipL b' ((L s).drop q)) : SkAt s b' p q := ⟨h.1, by rw [h.2, hb]⟩

set_option maxRecDepth 100000 in
set_option maxHeartbeats 8000000 in
theorem rtokenize_any (s : ByteArray) (hs0 : s.size ≤ 9223372036854775807) (w : World) :
    Calls Tryd.prog 15 #[.string s] w (tokPost (L s) w) := by
  by_cases hbig : 65536 < s.size
  · have HR := Lib.hid (show tokR (L s) = ([], 0, 4) by rw [tokR, if_pos (by rw [L_length]; exact hbig)])
    go_enter Tryd.func15, Tryd.ntmps15
    go_wp2_with fail
    go_ret3
    unfold tokPost
    rw [HR.out]
    exact ⟨_, rfl, Recs.nil _ _ _, Kept.refl _⟩
  · have hs : s.size ≤ 1000000 := by omega
    clear hs0
    obtain ⟨i0, hi, hz0, hz1, hz2⟩ := info_parts Tryd.infoTok
    have htk : tokR (L s) = lexF (s.size + 1) (L s) 0 := by rw [tokR, if_neg (by rw [L_length]; exact hbig)]; rfl
    go_enter Tryd.func15, Tryd.ntmps15
    go_wp2_with fail
    go_loopw [5, 6] (fun x y wr => ∃ (p q f : Nat) (acc : List Tok), y = .int .i64 (q : Int) ∧ q ≤ s.size ∧ SkAt s false p q ∧ acc.length ≤ p ∧ Kept w wr ∧ GathR wr w.heap.size 30 tokF 4 x acc ∧ s.size - p < f ∧ comb acc (lexF f ((L s).drop p) p) = tokR (L s)) (fun _ y _ => s.size - (intOf y).toNat)
    case atStart => exact ⟨0, 0, s.size + 1, [], rfl, Nat.zero_le _, ⟨Nat.le_refl _, by simp⟩, Nat.le_refl _, Kept.refl _, GathR.nil _ _ _, by omega, by rw [htk, List.drop_zero]; exact comb_nil _ (lexF_ok _ _ _)⟩
    case round =>
      obtain ⟨p, q, f, acc, rfl, hq, hsk, hacc, hK, hown, hf, hrun⟩ := hrel
      obtain ⟨f, rfl⟩ : ∃ g, f = g + 1 := ⟨f - 1, by omega⟩
      by_cases hlt : q < s.size
      · have hqi : (q : Int) < s.size := by omega
        have hpq := hsk.1
        have e : ∀ z : Nat, (((s[q]'hlt).toNat : Int) == (z : Int)) = decide ((s[q]'hlt).toNat = z) := by
          intro z; rw [Bool.eq_iff_iff, beq_iff_eq, decide_eq_true_eq]; omega
        have e35 := e 35
        have e32 := e 32
        have e9 := e 9
        rw [show ((35 : Nat) : Int) = 35 from rfl] at e35
        rw [show ((32 : Nat) : Int) = 32 from rfl] at e32
        rw [show ((9 : Nat) : Int) = 9 from rfl] at e9
        clear e
        by_cases hbl : (s[q]'hlt).toNat = 32 ∨ (s[q]'hlt).toNat = 9
        · have HSK := Lib.hid (hsk.step (b' := false) hlt (by rw [skipL, if_neg (by omega), if_pos hbl]))
          have HRUN := Lib.hid hrun
          have HOWN := Lib.hid hown
          clear hrun hown hsk
          rcases hbl with h32 | h9
          · have t32 : (((s[q]'hlt).toNat : Int) == 32) = true := by rw [e32, h32]; rfl
            clear e35 e32 e9 h32
            go_wp2_with fail
            go_roundw
            case rel => exact ⟨p, q + 1, f + 1, acc, by go_num, hlt, HSK.out, hacc, hK, HOWN.out, hf, HRUN.out⟩
            case measure => simp [intOf]; omega
          · have t9 : (((s[q]'hlt).toNat : Int) == 9) = true := by rw [e9, h9]; rfl
            have t32 : (((s[q]'hlt).toNat : Int) == 32) = false := by rw [e32, h9]; rfl
            clear e35 e32 e9 h9
            go_wp2_with fail
            go_roundw
            case rel => exact ⟨p, q + 1, f + 1, acc, by go_num, hlt, HSK.out, hacc, hK, HOWN.out, hf, HRUN.out⟩
            case measure => simp [intOf]; omega
        · have t32 : (((s[q]'hlt).toNat : Int) == 32) = false := by rw [e32]; simp; omega
          have t9 : (((s[q]'hlt).toNat : Int) == 9) = false := by rw [e9]; simp; omega
          by_cases h35 : (s[q]'hlt).toNat = 35
          · have t35 : (((s[q]'hlt).toNat : Int) == 35) = true := by rw [e35, h35]; rfl
            have HSK := Lib.hid (hsk.turn (skip_hash hlt h35))
            have h10 : (s[q]'hlt).toNat ≠ 10 := by omega
            have HRUN := Lib.hid hrun
            have HOWN := Lib.hid hown
            have H10 := Lib.hid h10
            clear hrun hown hsk e35 e32 e9 hbl h35 h10
            go_wp2_with fail
            go_loop [6] (fun y => ∃ r : Nat, y = .int .i64 (r : Int) ∧ q ≤ r ∧ r ≤ s.size ∧ SkAt s true p r) (fun y => s.size - (intOf y).toNat)
            case atStart => exact ⟨q, rfl, Nat.le_refl _, hq, HSK.out⟩
            case round =>
              obtain ⟨r, rfl, hqr, hrs, hskr⟩ := hrel
              by_cases hstop : ∃ h : r < s.size, (s[r]'h).toNat ≠ 10
              · obtain ⟨hrl, h10⟩ := hstop
                have hri : (r : Int) < s.size := by omega
                have t10 : (((s[r]'hrl).toNat : Int) == 10) = false := by rw [beq_eq_false_iff_ne]; omega
                have t10' : (((s[r]'hrl).toNat : Int) != 10) = true := by rw [bne, t10]; rfl
                have HS2 := Lib.hid (hskr.step (b' := true) hrl (by rw [skipL, if_neg h10]))
                clear hskr h10
                go_wp2_with fail
                go_round
                case rel => exact ⟨r + 1, by go_num, by omega, hrl, HS2.out⟩
                case measure => simp [intOf]; omega
              · have hqr2 : q < r := by
                  rcases Nat.lt_or_ge q r with h | h
                  · exact h
                  · obtain rfl : q = r := by omega
                    exact absurd ⟨hlt, H10.out⟩ hstop
                by_cases hrl : r < s.size
                · have h10 : (s[r]'hrl).toNat = 10 := by
                    by_cases h : (s[r]'hrl).toNat = 10
                    · exact h
                    · exact absurd ⟨hrl, h⟩ hstop
                  have hri : (r : Int) < s.size := by omega
                  have t10 : (((s[r]'hrl).toNat : Int) == 10) = true := by rw [beq_iff_eq]; omega
                  have t10' : (((s[r]'hrl).toNat : Int) != 10) = false := by rw [bne, t10]; rfl
                  have hz := skip_nl hrl h10
                  have HS2 := Lib.hid (hskr.turn (b' := false) (by rw [hz.1, hz.2]))
                  clear hskr hstop h10 hz
                  go_wp2_with fail
                  go_roundw
                  case rel => exact ⟨p, r, f + 1, acc, rfl, hrs, HS2.out, hacc, hK, HOWN.out, hf, HRUN.out⟩
                  case measure => simp [intOf]; omega
                · have hri : ¬ ((r : Int) < s.size) := by omega
                  have hz := skip_end (s := s) (q := r) hrl
                  have HS2 := Lib.hid (hskr.turn (b' := false) (by rw [hz.1, hz.2]))
                  clear hskr hstop hz
                  go_wp2_with fail
                  go_roundw
                  case rel => exact ⟨p, r, f + 1, acc, rfl, hrs, HS2.out, hacc, hK, HOWN.out, hf, HRUN.out⟩
                  case measure => simp [intOf]; omega
          · have t35 : (((s[q]'hlt).toNat : Int) == 35) = false := by rw [e35]; simp [h35]
            have hsz : skipL false ((L s).drop q) = 0 := by rw [L_drop s q hlt, skipL, if_neg h35, if_neg hbl]
            have hj : skipL false ((L s).drop p) = q - p := by rw [hsk.2, hsz]; omega
            have hdd : ((L s).drop p).drop (q - p) = (L s).drop q := by rw [List.drop_drop]; congr 1; omega
            have hne : ((L s).drop p).drop (q - p) ≠ [] := by
              rw [hdd, Ne, List.drop_eq_nil_iff, L_length]; omega
            have hbad := lexF_bad f ((L s).drop p) p (q - p) acc hj hne
            have hnext := lexF_next f ((L s).drop p) p (q - p) acc (lxScan ((L s).drop q)) hj hne (by rw [hdd])
            have hlen := lxScan_len (l := (L s).drop q)
            rw [hdd, show p + (q - p) = q by omega] at hbad hnext
            rw [hrun] at hbad hnext
            have hsc := fun w => rnext_any s q (by omega) hlt w
            rw [List.length_drop, L_length] at hlen
            have hds : ∀ n, ((L s).drop q).drop n = (L s).drop (q + n) := fun n => List.drop_drop
            rw [hds] at hnext
            clear hds hne hdd hrun hj hsz hsk hbl h35 e35 e32 e9
            generalize hR : lxScan ((L s).drop q) = R at *
            clear hR
            obtain ⟨code, k, t, n, len⟩ := R
            dsimp only at hbad hnext hlen
            have HSC := Lib.hid hsc
            clear hsc
            by_cases hc : code = 0
            · subst hc
              have hlen := hlen rfl
              have HN := Lib.hid (hnext rfl)
              have HOWN := Lib.hid hown
              clear hbad hnext hown
              obtain ⟨len1, len2⟩ := hlen
              have hil : q + len ≤ s.size := by omega
              have hal : acc.length + 1 ≤ q + len := by omega
              have hil2 : s.size - (q + len) < f := by omega
              go_wp2_with fail
              refine (HSC.out _).mono ?_
              rintro e w1 ⟨a, b, c, d, z, rfl, hcnd, k1⟩
              have hcnd := hcnd rfl
              dsimp only at hcnd ⊢
              obtain ⟨rfl, rfl, rfl, rfl, rfl⟩ := hcnd
              have HNEW := Lib.hid (show ∀ j u, (tokF ⟨a, t, c, (q : Nat)⟩)[j]? = some u → ((w1.alloc (.cells #[.int .i64 a, .string (bs t), .int .i64 c, .int .i64 q] 30)).alloc (.cells #[.int .i64 a, .string (bs t), .int .i64 c, .int .i64 q] 30)).cell? ((⟨w1.heap.size + 1, 0, none⟩ : Addr).add j) = some u by
                have h := tok_new (w := w1.alloc (.cells #[.int .i64 a, .string (bs t), .int .i64 c, .int .i64 q] 30)) ⟨a, t, c, (q : Nat)⟩
                rwa [World.size_alloc] at h)
              have HO1 := Lib.hid ((HOWN.out.keptOwn k1).alloc (.cells #[.int .i64 a, .string (bs t), .int .i64 c, .int .i64 q] 30))
              have hw1 : w.heap.size ≤ w1.heap.size := Nat.le_trans hK.size k1.size
              go_wp2_with (at_builtin; refine wpList_append_own _ rfl (.tmp 56) (.tmp 58) 23 rfl w.heap.size 30 i0 (.agg #[.int .i64 0, .string ⟨#[]⟩, .int .i64 0, .int .i64 0]) 4 40 (by kernel_rfl) hi hz0 hz1 hz2 rfl (by decide) _ acc.length (acc.flatMap tokF) rfl (World.ownsRow.alloc HO1.out _) ⟨w1.heap.size + 1, 0, none⟩ 1 1 (tokF ⟨a, t, c, (q : Nat)⟩) rfl rfl HNEW.out (tokF_one _) (by unfold maxLen; omega) (by omega) (by simp; omega) ?_; intro v' w2 hown' hgrow _)
              go_roundw
              case rel =>
                exact ⟨q + len, q + len, f, acc ++ [⟨a, t, c, (q : Nat)⟩], by go_num, hil, ⟨Nat.le_refl _, by simp⟩, by rw [List.length_append]; exact hal, ownGrown_kept ((hK.trans k1).alloc _) HO1.out (Nat.le_refl _) hgrow, GathR.snoc hown', hil2, HN.out.symm⟩
              case measure => simp [intOf]; omega
            · have hcb : (code != 0) = true := by simpa using hc
              have HR := Lib.hid (hbad hc)
              clear hbad hnext hc hlen hown
              go_wp2_with fail
              refine (HSC.out _).mono ?_
              rintro e w1 ⟨a, b, c, d, z, rfl, hcnd, k1⟩
              dsimp only at hcnd ⊢
              clear hcnd
              go_wp2_with fail
              go_ret3
              unfold tokPost
              rw [HR.out]
              exact ⟨_, rfl, Recs.nil _ _ _, (hK.trans k1).alloc _⟩
      · have hz := skip_end (s := s) (q := q) hlt
        have hj : skipL false ((L s).drop p) = q - p := by rw [hsk.2, hz.1]; omega
        have hpq := hsk.1
        have hend := lexF_end (f + 1) ((L s).drop p) p acc (by rw [hj, List.drop_drop, List.drop_eq_nil_iff, L_length]; omega)
        rw [hrun] at hend
        have HR := Lib.hid hend
        have HT := Lib.hid (hown.recs tokF_len)
        clear hend hrun hown hj hz hsk
        have hn : ¬ ((q : Int) < s.size) := by omega
        go_wp2_with fail
        go_ret3
        unfold tokPost
        rw [HR.out]
        exact ⟨_, rfl, HT.out, hK⟩
end Go.Proofs.YtmlkgfacenajnaaDoor
