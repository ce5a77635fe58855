/- What Tokenize of package lexer computes. -/
import Derived.Test.YtmlkgfacenajnaaDoorLexF
import Derived.Test.YtmlkgfacenajnaaDoorRecs
namespace Go.Proofs.YtmlkgfacenajnaaDoor
open Go.RowKit

def tokF (t : Tok) : List Value := [.int .i64 t.k, .string (bs t.t), .int .i64 t.n, .int .i64 t.o]
theorem tokF_len (t : Tok) : (tokF t).length = 4 := rfl
theorem tokF_one (t : Tok) : ∀ u ∈ tokF t, u.oneCell' = true := by
  intro u hu
  simp only [tokF, List.mem_cons, List.not_mem_nil, or_false] at hu
  rcases hu with rfl | rfl | rfl | rfl <;> rfl
/-- the slice value v reads as the tokens xs -/
def Toks (w : World) (v : Value) (xs : List Tok) : Prop := Recs w tokF 4 v xs
theorem Tryd.infoTok : (Tryd.prog.info? 30).map (fun i => (i.zero, i.size, i.bytes)) = some (some (.agg #[.int .i64 0, .string ⟨#[]⟩, .int .i64 0, .int .i64 0]), 4, 40) := by kernel_rfl
theorem tok_new {w : World} (t : Tok) : ∀ j u, (tokF t)[j]? = some u → (w.alloc (.cells #[.int .i64 t.k, .string (bs t.t), .int .i64 t.n, .int .i64 t.o] 30)).cell? ((⟨w.heap.size, 0, none⟩ : Addr).add j) = some u :=
  blk_cells (l := tokF t)
def tokPost (l : List UInt8) (w : World) (e : Ending) (w' : World) : Prop := ∃ v, e = .returned (.tuple #[v, .int .i64 (tokR l).2.1, .int .i64 (tokR l).2.2]) ∧ Toks w' v (tokR l).1 ∧ Kept w w'

set_option maxRecDepth 100000 in
set_option maxHeartbeats 8000000 in
theorem tokenize_any (s : ByteArray) (hs0 : s.size ≤ 9223372036854775807) (w : World) (hM : Mon w) :
    Calls Tryd.prog 14 #[.string s] w (tokPost (L s) w) := by
  by_cases hbig : 65536 < s.size
  · have HR := Lib.hid (show tokR (L s) = ([], 0, 4) by rw [tokR, if_pos (by rw [L_length]; exact hbig)])
    go_enter Tryd.func14, Tryd.ntmps14
    go_wp2_with fail
    go_ret3
    unfold tokPost
    rw [HR.out]
    exact ⟨_, rfl, Recs.nil _ _ _, Kept.refl _⟩
  · have hs : s.size ≤ 1000000 := by omega
    clear hs0
    obtain ⟨i0, hi, hz0, hz1, hz2⟩ := info_parts Tryd.infoTok
    have hsk0 := skip_any s 0 hs (by omega)
    rw [List.drop_zero] at hsk0
    have htk : tokR (L s) = lexF (s.size + 1) (L s) 0 := by rw [tokR, if_neg (by rw [L_length]; exact hbig)]; rfl
    have HSK := Lib.hid hsk0
    clear hsk0
    go_enter Tryd.func14, Tryd.ntmps14
    go_wp2_with (go_at_call 37; refine (HSK.out _).mono ?_; rintro e w' ⟨rfl, rfl⟩)
    go_loopw [5, 6] (fun x y wr => ∃ (p f : Nat) (acc : List Tok), y = .int .i64 ((p + skipL false ((L s).drop p) : Nat) : Int) ∧ p ≤ s.size ∧ acc.length ≤ p ∧ Kept w wr ∧ GathR wr w.heap.size 30 tokF 4 x acc ∧ s.size - p < f ∧ comb acc (lexF f ((L s).drop p) p) = tokR (L s)) (fun _ y _ => s.size - (intOf y).toNat)
    case atStart => exact ⟨0, s.size + 1, [], by simp, Nat.zero_le _, Nat.le_refl _, Kept.refl _, GathR.nil _ _ _, by omega, by rw [htk, List.drop_zero]; exact comb_nil _ (lexF_ok _ _ _)⟩
    case round =>
      obtain ⟨p, f, acc, rfl, hp, hacc, hK, hown, hf, hrun⟩ := hrel
      obtain ⟨f, rfl⟩ : ∃ g, f = g + 1 := ⟨f - 1, by omega⟩
      have hjl := skipL_le false ((L s).drop p)
      rw [List.length_drop, L_length] at hjl
      generalize hj : skipL false ((L s).drop p) = j at *
      have hdd : ((L s).drop p).drop j = (L s).drop (p + j) := List.drop_drop
      by_cases hlt : p + j < s.size
      · have hne : ((L s).drop p).drop j ≠ [] := by
          rw [hdd, Ne, List.drop_eq_nil_iff, L_length]; omega
        have hbad := lexF_bad f ((L s).drop p) p j acc hj hne
        have hnext := lexF_next f ((L s).drop p) p j acc (lxScan ((L s).drop (p + j))) hj hne (by rw [hdd])
        have hlen := lxScan_len (l := (L s).drop (p + j))
        rw [hdd] at hbad hnext
        rw [hrun] at hbad hnext
        have hex : (s.extract (p + j) s.size).size = s.size - (p + j) := by rw [ByteArray.size_extract]; omega
        have hsc := fun w hM => scan_any (s.extract (p + j) s.size) (by omega) (by omega) w hM
        rw [ext_drop, srV_of] at hsc
        rw [List.length_drop, L_length] at hlen
        have hds : ∀ n, ((L s).drop (p + j)).drop n = (L s).drop (p + j + n) := fun n => List.drop_drop
        rw [hds] at hnext
        clear hds hex hne hdd hrun hj
        have hi64 : p + j ≤ 65536 := by omega
        generalize hR : lxScan ((L s).drop (p + j)) = R at *
        clear hR
        obtain ⟨code, k, t, n, len⟩ := R
        dsimp only at hbad hnext hlen hsc
        generalize hii : p + j = i at *
        have HSC := Lib.hid hsc
        have HII := Lib.hid hii
        clear hsc hii
        have hli : (i : Int) ≤ s.size := by omega
        have hli2 : (i : Int) < s.size := by omega
        by_cases hc : code = 0
        · subst hc
          have hlen := hlen rfl
          have HN := Lib.hid (hnext rfl)
          have HSK2 := Lib.hid (fun w => skip_any s (i + len) hs (by omega) w)
          have HOWN := Lib.hid hown
          have HK := Lib.hid hK
          clear hbad hnext hown
          obtain ⟨len1, len2⟩ := hlen
          have hil : i + len ≤ s.size := by omega
          have hal : acc.length + 1 ≤ i + len := by have := HII.out; omega
          have hil2 : s.size - (i + len) < f := by have := HII.out; omega
          go_wp2_with fail
          refine (HSC.out _ (hM.kept hK)).mono ?_
          rintro e w1 ⟨rfl, k1⟩
          have HNEW := Lib.hid (show ∀ j u, (tokF ⟨k, t, n, (i : Nat)⟩)[j]? = some u → ((w1.alloc (.cells #[.int .i64 k, .string (bs t), .int .i64 n, .int .i64 i] 30)).alloc (.cells #[.int .i64 k, .string (bs t), .int .i64 n, .int .i64 i] 30)).cell? ((⟨w1.heap.size + 1, 0, none⟩ : Addr).add j) = some u by
            have h := tok_new (w := w1.alloc (.cells #[.int .i64 k, .string (bs t), .int .i64 n, .int .i64 i] 30)) ⟨k, t, n, (i : Nat)⟩
            rwa [World.size_alloc] at h)
          have HO1 := Lib.hid ((HOWN.out.keptOwn k1).alloc (.cells #[.int .i64 k, .string (bs t), .int .i64 n, .int .i64 i] 30))
          have hw1 : w.heap.size ≤ w1.heap.size := Nat.le_trans hK.size k1.size
          go_wp2_with (first
            | (at_builtin; refine wpList_append_own _ rfl (.tmp 33) (.tmp 35) 23 rfl w.heap.size 30 i0 (.agg #[.int .i64 0, .string ⟨#[]⟩, .int .i64 0, .int .i64 0]) 4 40 (by kernel_rfl) hi hz0 hz1 hz2 rfl (by decide) _ acc.length (acc.flatMap tokF) rfl (World.ownsRow.alloc HO1.out _) ⟨w1.heap.size + 1, 0, none⟩ 1 1 (tokF ⟨k, t, n, (i : Nat)⟩) rfl rfl HNEW.out (tokF_one _) (by unfold maxLen; omega) (by omega) (by simp; omega) ?_; intro v' w2 hown' hgrow _)
            | (go_at_call 37; refine (HSK2.out _).mono ?_; rintro e w5 ⟨rfl, rfl⟩))
          go_roundw
          case rel =>
            exact ⟨i + len, f, acc ++ [⟨k, t, n, (i : Nat)⟩], rfl, hil, by rw [List.length_append]; exact hal, ownGrown_kept ((hK.trans k1).alloc _) HO1.out (Nat.le_refl _) hgrow, GathR.snoc hown', hil2, HN.out.symm⟩
          case measure => simp [intOf]; omega
        · have hcb : (code != 0) = true := by simpa using hc
          have HR := Lib.hid (hbad hc)
          clear hbad hnext hc hlen hown
          go_wp2_with fail
          refine (HSC.out _ (hM.kept hK)).mono ?_
          rintro e w1 ⟨rfl, k1⟩
          go_wp2_with fail
          go_ret3
          unfold tokPost
          rw [HR.out]
          exact ⟨_, rfl, Recs.nil _ _ _, (hK.trans k1).alloc _⟩
      · have hend := lexF_end (f + 1) ((L s).drop p) p acc (by rw [hj, hdd, List.drop_eq_nil_iff, L_length]; omega)
        rw [hrun] at hend
        have HR := Lib.hid hend
        have HT := Lib.hid (hown.recs tokF_len)
        clear hend hrun hown hdd hj
        have hn : ¬ ((p : Int) + j < s.size) := by omega
        go_wp2_with fail
        go_ret3
        unfold tokPost
        rw [HR.out]
        exact ⟨_, rfl, HT.out, hK⟩
end Go.Proofs.YtmlkgfacenajnaaDoor
