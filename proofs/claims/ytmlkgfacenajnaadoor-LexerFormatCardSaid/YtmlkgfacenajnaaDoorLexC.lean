/- What strings.IndexRune and strings.IndexAny answer at the quote and the newline. -/
import Derived.Test.YtmlkgfacenajnaaDoorLexB
import Derived.Laws.Runes
import Derived.Deep.AppendLies
import Derived.WalkMore
import Derived.ScopeJumps
import Derived.Deep.LoopGhost
import Derived.Lib.MapLaws
import Derived.Lib.OthersKept
namespace Go.Proofs.YtmlkgfacenajnaaDoor
open Go.RowKit

theorem iterPos_of' {w : World} {k : Nat} {s : ByteArray} {p : Nat} (h : w.heap[k]? = some (.stringIter s p)) : w.iterPos k = p := by
  unfold World.iterPos; rw [h]
set_option maxRecDepth 100000 in
set_option maxHeartbeats 4000000 in
theorem idxRune_err (S : ByteArray) (ha : ∀ i (h : i < S.size), (S[i]'h).toNat < 128) (w : World) :
    Calls Tryd.prog 119 #[.string S, .int .i32 65533] w fun e w' => e = .returned (.int .i64 (-1)) ∧ Kept w w' := by
  have HA := Lib.hid ha
  clear ha
  go_enter Tryd.func119, Tryd.ntmps119
  go_wp2_with fail
  go_loopw [5, 6] (fun _ _ wr => ∃ pos : Nat, pos ≤ S.size ∧ wr = w.iter S pos) (fun _ _ wr => S.size - wr.iterPos w.heap.size)
  case atStart => exact ⟨0, Nat.zero_le _, rfl⟩
  case round =>
    obtain ⟨pos, hps, rfl⟩ := hrel
    by_cases hp : pos < S.size
    · have h128 := HA.out pos hp
      have hnx : ∀ ty, (Instr.next (.pointer (some ⟨w.heap.size, 0, none⟩)) true ty).run Tryd.prog (w.iter S pos) = _ := fun ty => run_next_ascii w S pos ty hp h128
      generalize (S[pos]'hp).toNat = c at *
      have hc : ((c : Int) == 65533) = false := by rw [beq_eq_false_iff_ne]; omega
      go_wp2_with fail
      go_roundw
      case rel => exact ⟨pos + 1, hp, rfl⟩
      case measure => simp; omega
    · have hnx : ∀ ty, (Instr.next (.pointer (some ⟨w.heap.size, 0, none⟩)) true ty).run Tryd.prog (w.iter S pos) = _ := fun ty => run_next_end w S pos ty hp
      go_wp2_with fail
      go_ret
      exact ⟨rfl, iter_kept (Kept.refl _) _ _⟩
set_option maxRecDepth 100000 in
set_option maxHeartbeats 4000000 in
theorem idxRune_bad (S : ByteArray) (r : Int) (h : 128 ≤ r) (h1 : r ≤ 1114111) (h2 : (r == 65533) = false) (hv : Lib.validRune r = false) (w : World) :
    Calls Tryd.prog 119 #[.string S, .int .i32 r] w fun e w' => e = .returned (.int .i64 (-1)) ∧ Kept w w' := by
  go_enter Tryd.func119, Tryd.ntmps119
  go_wp2_with (go_at_call 133; refine (Tryd.utf8_ValidRune _ _).mono ?_; rintro e w' ⟨rfl, rfl⟩; rw [hv])
  go_ret
  exact ⟨rfl, Kept.refl _⟩
theorem idxB_nil (s : ByteArray) (hs : L s = []) (c : Int) (w : World) :
    Calls Tryd.prog 75 #[.string s, .int .u8 c] w fun e w' => e = .returned (.int .i64 (-1)) ∧ w = w' :=
  (Tryd.strings_IndexByte s c w).mono fun _ _ ⟨he, hw⟩ => ⟨he.trans (by rw [show s.data.toList = [] from hs]; rfl), hw.symm⟩
set_option maxRecDepth 100000 in
set_option maxHeartbeats 4000000 in
theorem idxRune_high (S : ByteArray) (hS : S.size = 2) (hS1 : (S[1]'(by omega)).toNat < 128) (r : Int) (h : 128 ≤ r) (h1 : r ≤ 1114111) (h2 : (r == 65533) = false) (hv : Lib.validRune r = true)
    (E : ByteArray) (hE : Utf8.encode r = E) (n : Nat) (hn : E.size = n + 1) (n1 : 1 ≤ n) (n3 : n ≤ 3) (hl : (E[n]'(by omega)).toNat ≥ 128) (w : World) :
    Calls Tryd.prog 119 #[.string S, .int .i32 r] w fun e w' => e = .returned (.int .i64 (-1)) ∧ Kept w w' := by
  have hcv : ∀ W, (convert 21 9 (.int .i32 r)).run Tryd.prog W = _ := fun W => run_convert_int_string W _ _ .i32 r (by kernel_rfl) (by kernel_rfl)
  rw [hE] at hcv
  clear hE
  have hEl : n < E.size := by omega
  by_cases hn1 : n = 1
  · subst hn1
    have hSe : (L S).drop 2 = [] := List.drop_of_length_le (by rw [L_length]; omega)
    have b0 : (1 : Int) < (S.size : Int) := by omega
    have b1 : (1 : Int) < (E.size : Int) := by omega
    have hb : ((S[1]'(by omega)).toNat : Int) ≠ ((E[1]'(by omega)).toNat : Int) := by omega
    have hb' : (((S[1]'(by omega)).toNat : Int) != ((E[1]'(by omega)).toNat : Int)) = true := by simpa using hb
    go_enter Tryd.func119, Tryd.ntmps119
    go_wp2_with (go_at_call 133; refine (Tryd.utf8_ValidRune _ _).mono ?_; rintro e w' ⟨rfl, rfl⟩; rw [hv])
    go_step3
    go_wp2_with fail
    go_loopg [9, 10] 0 (fun _ a _ wx => a = .int .i64 1 ∧ wx = w')
    case atStart => exact ⟨by go_num, rfl⟩
    case round =>
      obtain ⟨rfl, rfl⟩ := hrel
      go_wp2_with fail
      go_step3
      go_wp2_with fail
      refine wp_region_kept (by kernel_rfl) (by kernel_rfl) ?_
      repeat (go_big_quiet_step (fail))
      refine wpQuiet_nil ?_
      rintro _ ⟨⟨wx, hx⟩, rfl⟩
      have hK := hx
      go_wp2_with fail
      refine wp_region_kept (by kernel_rfl) (by kernel_rfl) ?_
      have s1 : IntKind.i64.wrap (1 + 1) = 2 := by decide
      have s2 : (2 : Int) ≤ (S.size : Int) := by omega
      repeat (go_big_quiet_step ((go_at_call 75; exact KW.pure (idxB_nil _ (by first | rfl | (rw [L_extract]; simp [hSe])) _ _))))
      refine wpQuiet_nil ?_
      rintro _ ⟨⟨wy, hy⟩, rfl⟩
      go_wp2_with fail
      rw [Exit.noGoto_ret]
      go_wp2_with fail
      rw [Exit.noGoto_ret]
      go_ret
      exact ⟨rfl, hx.trans hy⟩
  · have hn1' : ¬ ((n : Int) < 2) := by omega
    go_enter Tryd.func119, Tryd.ntmps119
    go_wp2_with (go_at_call 133; refine (Tryd.utf8_ValidRune _ _).mono ?_; rintro e w' ⟨rfl, rfl⟩; rw [hv])
    go_step3
    go_wp2_with fail
    go_loopg [9, 10] 0 (fun _ a _ wx => a = .int .i64 n ∧ wx = w')
    case atStart => exact ⟨by go_num, rfl⟩
    case round =>
      obtain ⟨rfl, rfl⟩ := hrel
      go_wp2_with fail
      rw [Exit.noGoto_ret]
      go_ret
      exact ⟨rfl, Kept.refl _⟩

/-- the quote and the newline -/
def qn : ByteArray := ⟨#[34, 10]⟩
theorem qn_byte (c : UInt8) : Lib.indexByte (L qn) c = if c.toNat = 34 then 0 else if c.toNat = 10 then 1 else -1 := by
  by_cases h1 : c.toNat = 34
  · have : c = 34 := UInt8.toNat_inj.1 h1
    subst this; rfl
  · by_cases h2 : c.toNat = 10
    · have : c = 10 := UInt8.toNat_inj.1 h2
      subst this; rfl
    · rw [if_neg h1, if_neg h2]
      have e1 : ¬ c = 34 := fun e => h1 (by rw [e]; rfl)
      have e2 : ¬ c = 10 := fun e => h2 (by rw [e]; rfl)
      have e3 : (34 == c) = false := by rw [beq_eq_false_iff_ne]; exact fun e => e1 e.symm
      have e4 : (10 == c) = false := by rw [beq_eq_false_iff_ne]; exact fun e => e2 e.symm
      simp [Lib.indexByte, qn, L, e3, e4]
theorem valid_rune {r : Int} (h : Lib.validRune r = true) : Utf8.valid r = true := by
  unfold Lib.validRune at h
  unfold Utf8.valid
  revert h
  simp
  omega
theorem idxRune_any (r : Int) (h : 128 ≤ r) (h1 : r ≤ 1114111) (w : World) :
    Calls Tryd.prog 119 #[.string qn, .int .i32 r] w fun e w' => e = .returned (.int .i64 (-1)) ∧ Kept w w' := by
  by_cases he : r = 65533
  · subst he
    exact idxRune_err qn (by intro i h; match i, h with | 0, _ => exact (by decide : (34 : UInt8).toNat < 128) | 1, _ => exact (by decide : (10 : UInt8).toNat < 128)) w
  · have h2 : (r == 65533) = false := by rw [beq_eq_false_iff_ne]; exact he
    cases hv : Lib.validRune r
    · exact idxRune_bad qn r h h1 h2 hv w
    · obtain ⟨e1, e2, e3⟩ := encode_facts r (valid_rune hv) h
      obtain ⟨n, hn⟩ : ∃ n, (Utf8.encode r).size = n + 1 := ⟨(Utf8.encode r).size - 1, by omega⟩
      refine idxRune_high qn rfl (by decide) r h h1 h2 hv (Utf8.encode r) rfl n hn (by omega) (by omega) ?_ w
      have := e3 (by omega)
      have e : (Utf8.encode r).size - 1 = n := by omega
      simp only [e] at this
      exact this

theorem qn_contains (c : UInt8) : (L qn).contains c = !inStr c := by
  have e3 : (c == 34) = decide (c.toNat = 34) := by
    rw [Bool.eq_iff_iff, beq_iff_eq, decide_eq_true_eq, ← UInt8.toNat_inj]; rfl
  have e4 : (c == 10) = decide (c.toNat = 10) := by
    rw [Bool.eq_iff_iff, beq_iff_eq, decide_eq_true_eq, ← UInt8.toNat_inj]; rfl
  show ([34, 10] : List UInt8).contains c = _
  rw [List.contains_cons, List.contains_cons, e3, e4]
  unfold inStr
  by_cases h1 : c.toNat = 34 <;> by_cases h2 : c.toNat = 10 <;> simp [h1, h2]
/-- the first quote or newline, or -1 -/
def idxQ (l : List UInt8) : Int := if lead_of inStr l < l.length then (lead_of inStr l : Nat) else -1
theorem noAny_lead (l : List UInt8) (i : Nat) (h : i ≤ lead_of inStr l) : Lib.NoAny l (L qn) i := by
  intro j b hj hb
  obtain ⟨c, hc, hp⟩ := lead_of_in (show j < lead_of inStr l by omega)
  rw [hb] at hc
  have : b = c := Option.some.inj hc
  rw [qn_contains, this, hp]; rfl
theorem indexAny_lead (l : List UInt8) : Lib.indexAny l (L qn) = idxQ l := by
  unfold idxQ
  have hle := lead_of_le inStr l
  split
  · rename_i h
    rcases lead_of_end inStr l with he | ⟨c, he, hc⟩
    · rw [List.getElem?_eq_none_iff] at he; omega
    · exact Lib.indexAny_hit (noAny_lead l _ (Nat.le_refl _)) he (by rw [qn_contains, hc]; rfl)
  · rename_i h
    exact Lib.indexAny_none (noAny_lead l _ (by omega))
theorem inStr_iff (c : UInt8) : inStr c = true ↔ c.toNat ≠ 34 ∧ c.toNat ≠ 10 := by simp [inStr]

theorem get_bang {s : ByteArray} {i : Nat} {c : UInt8} (h : (L s)[i]? = some c) : s.get! i = c := by
  have hi : i < s.data.size := by
    have := get_lt h
    rwa [L_length] at this
  have h2 : s.data[i]? = some c := by rw [← Array.getElem?_toList]; exact h
  show s.data[i]! = c
  rw [getElem!_def, h2]
/-- the bytes of a rune that is not ASCII -/
theorem decode_span (s : ByteArray) (pos : Nat) (hp : pos < s.size) (hb : 128 ≤ (s[pos]'hp).toNat) :
    128 ≤ (Utf8.decode s pos).1 ∧ (Utf8.decode s pos).1 ≤ 1114111 ∧ 1 ≤ (Utf8.decode s pos).2 ∧ pos + (Utf8.decode s pos).2 ≤ s.size ∧ ∀ j, pos ≤ j → j < pos + (Utf8.decode s pos).2 → ∀ c, (L s)[j]? = some c → 128 ≤ c.toNat := by
  have h0 := L_get s pos hp
  have g0 := get_bang h0
  rw [Lib.decode_at, g0]
  have hj0 : ∀ j c, pos ≤ j → j < pos + 1 → (L s)[j]? = some c → 128 ≤ c.toNat := by
    intro j c h1 h2 hc
    obtain rfl : j = pos := by omega
    rw [h0] at hc
    have : s[j] = c := Option.some.inj hc
    rw [← this]; exact hb
  have lt := (s[pos]'hp).toNat_lt
  rcases Lib.decodeN_shape (s.size - pos) (s[pos]'hp).toNat (s.get! (pos + 1)).toNat (s.get! (pos + 2)).toNat (s.get! (pos + 3)).toNat with ⟨h, e⟩ | ⟨h1, h2, h3, h4, e⟩ | ⟨h1, h2, h3, h4, h5, h6, e⟩ | ⟨h1, h2, h3, h4, h5, h6, h7, e⟩ | e
  · omega
  all_goals rw [e]; dsimp only
  · refine ⟨by omega, by omega, by omega, by omega, fun j a1 a2 c hc => ?_⟩
    have gc := get_bang hc
    rcases (show j = pos ∨ j = pos + 1 by omega) with rfl | rfl
    · exact hj0 _ c (by omega) (by omega) hc
    · rw [gc] at h3; omega
  · refine ⟨by omega, by omega, by omega, by omega, fun j a1 a2 c hc => ?_⟩
    have gc := get_bang hc
    rcases (show j = pos ∨ j = pos + 1 ∨ j = pos + 2 by omega) with rfl | rfl | rfl
    · exact hj0 _ c (by omega) (by omega) hc
    · rw [gc] at h3; omega
    · rw [gc] at h4; omega
  · refine ⟨by omega, by omega, by omega, by omega, fun j a1 a2 c hc => ?_⟩
    have gc := get_bang hc
    rcases (show j = pos ∨ j = pos + 1 ∨ j = pos + 2 ∨ j = pos + 3 by omega) with rfl | rfl | rfl | rfl
    · exact hj0 _ c (by omega) (by omega) hc
    · rw [gc] at h3; omega
    · rw [gc] at h4; omega
    · rw [gc] at h5; omega
  · exact ⟨by decide, by decide, by decide, by omega, fun j a1 a2 c hc => hj0 j c a1 a2 hc⟩
theorem lead_more {l : List UInt8} {a b : Nat} (h : a ≤ lead_of inStr l) (hb : b ≤ l.length) (hj : ∀ j, a ≤ j → j < b → ∀ c, l[j]? = some c → inStr c = true) : b ≤ lead_of inStr l := by
  rcases Nat.lt_or_ge (lead_of inStr l) b with hlt | hge
  · exfalso
    rcases lead_of_end inStr l with he | ⟨c, he, hc⟩
    · rw [List.getElem?_eq_none_iff] at he; omega
    · rw [hj _ h hlt c he] at hc; cases hc
  · exact hge

theorem useSet_any (n : Int) (w : World) : Calls Tryd.prog 120 #[.int .i64 n] w fun e w' => e = .returned (.bool (decide (8 < n))) ∧ w = w' :=
  (Tryd.strings_shouldUseASCIISet n w).mono fun _ _ ⟨he, hw⟩ => ⟨he, hw.symm⟩
theorem idxRune_low (c : UInt8) (hc : c.toNat < 128) (z : Int) (hz : (if c.toNat = 34 then (0 : Int) else if c.toNat = 10 then 1 else -1) = z) (w : World) :
    Calls Tryd.prog 119 #[.string qn, .int .i32 c.toNat] w fun e w' => e = .returned (.int .i64 z) ∧ Kept w w' :=
  (Tryd.strings_IndexRune_ascii qn c.toNat w (by omega) (by omega)).mono fun _ _ ⟨he, hw⟩ => ⟨he.trans (by
    have e : ((c.toNat : Int)).toNat.toUInt8 = c := by simp
    rw [e, show qn.data.toList = L qn from rfl, qn_byte, hz]), hw ▸ Kept.refl _⟩
set_option maxRecDepth 100000 in
set_option maxHeartbeats 4000000 in
theorem idxAny_short (s : ByteArray) (h8 : s.size ≤ 8) (w : World) :
    Calls Tryd.prog 99 #[.string s, .string qn] w fun e w' => e = .returned (.int .i64 (idxQ (L s))) ∧ Kept w w' := by
  have hle := lead_of_le inStr (L s)
  rw [L_length] at hle
  have hemp : (qn.toList == []) = false := by rw [toList_L]; rfl
  have hemp2 : qn.toList.isEmpty = false := by rw [toList_L]; rfl
  have hsz : (qn.size : Int) = 2 := rfl
  have HI := Lib.hid (fun r h h1 w => idxRune_any r h h1 w)
  have HB := Lib.hid (fun c hc z hz w => idxRune_low c hc z hz w)
  generalize qn = Q at *
  have h8z : decide ((8 : Int) < (s.size : Int)) = false := decide_eq_false (by omega)
  go_enter Tryd.func99, Tryd.ntmps99
  go_wp2_with (go_at_call 120; refine (useSet_any _ _).mono ?_; rintro e w' ⟨rfl, rfl⟩; rw [h8z])
  clear hemp hemp2
  go_loopw [9, 10] (fun _ _ wr => ∃ pos : Nat, pos ≤ s.size ∧ wr.heap[w.heap.size]? = some (.stringIter s pos) ∧ Kept w wr ∧ pos ≤ lead_of inStr (L s)) (fun _ _ wr => s.size - wr.iterPos w.heap.size)
  case atStart => exact ⟨0, Nat.zero_le _, World.iter_heap _ _ _, (Kept.refl _).alloc _, Nat.zero_le _⟩
  case round =>
    obtain ⟨pos, hps, hit, hK, hno⟩ := hrel
    have HIT0 := Lib.hid hit
    have hlt := (show w.heap.size < wr.heap.size from by
      rcases Nat.lt_or_ge w.heap.size wr.heap.size with h | h
      · exact h
      · rw [Array.getElem?_eq_none h] at hit; cases hit)
    by_cases hp : pos < s.size
    · by_cases ha : (s[pos]'hp).toNat < 128
      · have hnx : ∀ ty, (Instr.next (.pointer (some ⟨w.heap.size, 0, none⟩)) true ty).run Tryd.prog wr = _ := fun ty => Lib.run_next_ascii_at wr w.heap.size s pos ty hit hp ha
        have hIK : Kept w (wr.iterAt w.heap.size s (pos + 1)) := Lib.below_iterAt hK (Nat.le_refl _) _ _
        have hIT := Lib.iterAt_heap wr w.heap.size s pos (pos + 1) hit
        have hIS : w.heap.size < (wr.iterAt w.heap.size s (pos + 1)).heap.size := by rw [Lib.iterAt_size]; exact hlt
        have hg := L_get s pos hp
        by_cases hin : inStr (s[pos]'hp) = true
        · have hi2 := (inStr_iff _).1 hin
          have hno' : pos + 1 ≤ lead_of inStr (L s) := lead_more hno (by rw [L_length]; exact hp) (fun j a1 a2 c hc => by
            obtain rfl : j = pos := by omega
            rw [hg] at hc
            have : s[j] = c := Option.some.inj hc
            rw [← this]; exact hin)
          have HC := Lib.hid (fun w => HB.out (s[pos]'hp) ha (-1) (by rw [if_neg hi2.1, if_neg hi2.2]) w)
          clear hi2 hin hg hit hK
          generalize (s[pos]'hp) = c at *
          generalize wr.iterAt w.heap.size s (pos + 1) = W at *
          have HIK := Lib.hid hIK
          have HIT := Lib.hid hIT
          clear hIK hIT
          go_wp2_with (go_at_call 119; refine (HC.out _).mono ?_; rintro e w5 ⟨rfl, k5⟩)
          have hIT2 := (k5.block _ hIS).trans HIT.out
          go_roundw
          case rel => exact ⟨pos + 1, hp, hIT2, HIK.out.trans k5, hno'⟩
          case measure => rw [iterPos_of' hIT2, iterPos_of' HIT0.out]; omega
        · have hend : lead_of inStr (L s) = pos := by
            rcases Nat.lt_or_ge pos (lead_of inStr (L s)) with hlt2 | hge
            · obtain ⟨c, hc, hpc⟩ := lead_of_in hlt2
              rw [hg] at hc
              have : s[pos] = c := Option.some.inj hc
              rw [← this] at hpc
              exact absurd hpc hin
            · omega
          have HR := Lib.hid (show idxQ (L s) = (pos : Int) by rw [idxQ, if_pos (by rw [hend, L_length]; exact hp), hend])
          obtain ⟨z, hz, hz0⟩ : ∃ z : Int, (if (s[pos]'hp).toNat = 34 then (0 : Int) else if (s[pos]'hp).toNat = 10 then 1 else -1) = z ∧ 0 ≤ z := by
            refine ⟨_, rfl, ?_⟩
            split
            · omega
            · split
              · omega
              · rename_i q1 q2
                exact absurd ((inStr_iff _).2 ⟨q1, q2⟩) hin
          have HC := Lib.hid (fun w => HB.out (s[pos]'hp) ha z hz w)
          clear hin hg hit hK hz hend
          generalize (s[pos]'hp) = c at *
          generalize wr.iterAt w.heap.size s (pos + 1) = W at *
          have HIK := Lib.hid hIK
          clear hIK hIT
          go_wp2_with (go_at_call 119; refine (HC.out _).mono ?_; rintro e w5 ⟨rfl, k5⟩)
          go_ret
          exact ⟨ret_int HR.out.symm, HIK.out.trans k5⟩
      · obtain ⟨d1, d2, d3, d4, d5⟩ := decode_span s pos hp (by omega)
        have hnx : ∀ ty, (Instr.next (.pointer (some ⟨w.heap.size, 0, none⟩)) true ty).run Tryd.prog wr = _ := fun ty => Lib.run_next_any_at wr w.heap.size s pos ty hit hp
        generalize (Utf8.decode s pos).1 = r at *
        generalize (Utf8.decode s pos).2 = k at *
        have hIK : Kept w (wr.iterAt w.heap.size s (pos + k)) := Lib.below_iterAt hK (Nat.le_refl _) _ _
        have hIT := Lib.iterAt_heap wr w.heap.size s pos (pos + k) hit
        have hIS : w.heap.size < (wr.iterAt w.heap.size s (pos + k)).heap.size := by rw [Lib.iterAt_size]; exact hlt
        have hno' : pos + k ≤ lead_of inStr (L s) := lead_more hno (by rw [L_length]; exact d4) (fun j a1 a2 c hc => by
          have := d5 j a1 a2 c hc
          exact (inStr_iff _).2 ⟨by omega, by omega⟩)
        have HC := Lib.hid (fun w => HI.out r (by omega) (by omega) w)
        clear d5 hit hK ha
        generalize wr.iterAt w.heap.size s (pos + k) = W at *
        have HIK := Lib.hid hIK
        have HIT := Lib.hid hIT
        clear hIK hIT
        go_wp2_with (go_at_call 119; refine (HC.out _).mono ?_; rintro e w5 ⟨rfl, k5⟩)
        have hIT2 := (k5.block _ hIS).trans HIT.out
        go_roundw
        case rel => exact ⟨pos + k, d4, hIT2, HIK.out.trans k5, hno'⟩
        case measure => rw [iterPos_of' hIT2, iterPos_of' HIT0.out]; omega
    · have HR := Lib.hid (show idxQ (L s) = -1 by rw [idxQ, if_neg (by rw [L_length]; omega)])
      have hnx : ∀ ty, (Instr.next (.pointer (some ⟨w.heap.size, 0, none⟩)) true ty).run Tryd.prog wr = _ := fun ty => Lib.run_next_end_at wr w.heap.size s pos ty hit hp
      have HK := Lib.hid hK
      clear hit hK
      go_wp2_with fail
      go_ret
      exact ⟨ret_int HR.out.symm, HK.out⟩
theorem asciiZero : ∀ w, (zeroValue 106).run Tryd.prog w = .ok (.agg (Array.replicate 256 (.bool false))) w :=
  (zero_of_info (P := Tryd.prog) (show (Tryd.prog.info? 106).map (fun i => (i.zero, i.size)) = some (some (.agg (Array.replicate 256 (.bool false))), 256) by kernel_rfl)).1
theorem idxAny_any (s : ByteArray) (hs : s.size ≤ 1000000) (w : World) :
    Calls Tryd.prog 99 #[.string s, .string qn] w fun e w' => e = .returned (.int .i64 (idxQ (L s))) ∧ Kept w w' := by
  by_cases h8 : s.size ≤ 8
  · exact idxAny_short s h8 w
  · refine (Tryd.strings_IndexAny_long asciiZero s qn w (by decide) (by omega) (by omega) (by decide) (fun j b hb => ?_)).mono ?_
    · match j, hb with
      | 0, hb => have : (34 : UInt8) = b := Option.some.inj hb
                 subst this; decide
      | 1, hb => have : (10 : UInt8) = b := Option.some.inj hb
                 subst this; decide
      | j + 2, hb => exact absurd (get_lt (l := L qn) hb) (by show ¬ j + 2 < 2; omega)
    · rintro e w' ⟨rfl, rfl⟩
      exact ⟨ret_int (indexAny_lead (L s)), ((Kept.refl _).alloc _).alloc _⟩
end Go.Proofs.YtmlkgfacenajnaaDoor
