/- What scan and skip of package lexer compute. -/
import Derived.Test.YtmlkgfacenajnaaDoorLexD
import Derived.Test.YtmlkgfacenajnaaDoorLexE
namespace Go.Proofs.YtmlkgfacenajnaaDoor
open Go.RowKit

def symB (c : UInt8) : Bool := decide (0 ≤ Lib.indexByte [40, 41, 44, 58, 43, 45, 42] c)
theorem symB_iff (c : UInt8) : symB c = true ↔ c.toNat = 40 ∨ c.toNat = 41 ∨ c.toNat = 44 ∨ c.toNat = 58 ∨ c.toNat = 43 ∨ c.toNat = 45 ∨ c.toNat = 42 := by
  unfold symB
  rw [← Lib.contains_iff_indexByte]
  simp only [List.contains_cons, List.contains_nil, Bool.or_false, Bool.or_eq_true, beq_iff_eq, ← UInt8.toNat_inj]
  rfl
theorem scan_cases (c : UInt8) :
    (((c.toNat : Int) == 10) = true ∧ c.toNat = 10) ∨ (((c.toNat : Int) == 10) = false ∧ c.toNat ≠ 10 ∧ lowB c = true) ∨ (((c.toNat : Int) == 10) = false ∧ c.toNat ≠ 10 ∧ lowB c = false ∧ isDig c = true) ∨
    (((c.toNat : Int) == 10) = false ∧ c.toNat ≠ 10 ∧ lowB c = false ∧ isDig c = false ∧ ((c.toNat : Int) == 34) = true ∧ c.toNat = 34) ∨
    (((c.toNat : Int) == 10) = false ∧ c.toNat ≠ 10 ∧ lowB c = false ∧ isDig c = false ∧ ((c.toNat : Int) == 34) = false ∧ c.toNat ≠ 34 ∧ ((c.toNat : Int) == 60) = true ∧ ((c.toNat : Int) == 33) = false ∧ sym2 c = true ∧ sym1 c = true) ∨
    (((c.toNat : Int) == 10) = false ∧ c.toNat ≠ 10 ∧ lowB c = false ∧ isDig c = false ∧ ((c.toNat : Int) == 34) = false ∧ c.toNat ≠ 34 ∧ ((c.toNat : Int) == 60) = false ∧ ((c.toNat : Int) == 61) = true ∧ ((c.toNat : Int) == 33) = false ∧ sym2 c = true ∧ sym1 c = true) ∨
    (((c.toNat : Int) == 10) = false ∧ c.toNat ≠ 10 ∧ lowB c = false ∧ isDig c = false ∧ ((c.toNat : Int) == 34) = false ∧ c.toNat ≠ 34 ∧ ((c.toNat : Int) == 60) = false ∧ ((c.toNat : Int) == 61) = false ∧ ((c.toNat : Int) == 33) = true ∧ sym2 c = true ∧ sym1 c = false) ∨
    (((c.toNat : Int) == 10) = false ∧ c.toNat ≠ 10 ∧ lowB c = false ∧ isDig c = false ∧ ((c.toNat : Int) == 34) = false ∧ c.toNat ≠ 34 ∧ ((c.toNat : Int) == 60) = false ∧ ((c.toNat : Int) == 61) = false ∧ ((c.toNat : Int) == 33) = false ∧ sym2 c = false ∧ symB c = sym1 c) := by
  have e : ∀ z : Nat, ((c.toNat : Int) == (z : Int)) = decide (c.toNat = z) := by
    intro z; rw [Bool.eq_iff_iff, beq_iff_eq, decide_eq_true_eq]; omega
  have e10 := e 10
  have e34 := e 34
  have e60 := e 60
  have e61 := e 61
  have e33 := e 33
  rw [show ((10 : Nat) : Int) = 10 from rfl] at e10
  rw [show ((34 : Nat) : Int) = 34 from rfl] at e34
  rw [show ((60 : Nat) : Int) = 60 from rfl] at e60
  rw [show ((61 : Nat) : Int) = 61 from rfl] at e61
  rw [show ((33 : Nat) : Int) = 33 from rfl] at e33
  rw [e10, e34, e60, e61, e33]
  by_cases h10 : c.toNat = 10
  · exact .inl ⟨by simp [h10], h10⟩
  · right
    by_cases hl : lowB c = true
    · exact .inl ⟨by simp [h10], h10, hl⟩
    · right
      have hl' : lowB c = false := by simpa using hl
      by_cases hd : isDig c = true
      · exact .inl ⟨by simp [h10], h10, hl', hd⟩
      · right
        have hd' : isDig c = false := by simpa using hd
        by_cases h34 : c.toNat = 34
        · exact .inl ⟨by simp [h10], h10, hl', hd', by simp [h34], h34⟩
        · right
          by_cases h60 : c.toNat = 60
          · exact .inl ⟨by simp [h10], h10, hl', hd', by simp [h34], h34, by simp [h60], by simp [h60], by simp [sym2, h60], by simp [sym1, h60]⟩
          · right
            by_cases h61 : c.toNat = 61
            · exact .inl ⟨by simp [h10], h10, hl', hd', by simp [h34], h34, by simp [h60], by simp [h61], by simp [h61], by simp [sym2, h61], by simp [sym1, h61]⟩
            · right
              by_cases h33 : c.toNat = 33
              · exact .inl ⟨by simp [h10], h10, hl', hd', by simp [h34], h34, by simp [h60], by simp [h61], by simp [h33], by simp [sym2, h33], by simp [sym1, h33]⟩
              · refine .inr ⟨by simp [h10], h10, hl', hd', by simp [h34], h34, by simp [h60], by simp [h61], by simp [h33], by simp [sym2, h60, h61, h33], ?_⟩
                rw [Bool.eq_iff_iff, symB_iff]
                simp [sym1, h60, h61]
theorem srV_of {R : SR} : srV R = .tuple #[.agg #[.int .i64 R.k, .string (bs R.t), .int .i64 R.n, .int .i64 0], .int .i64 R.len, .int .i64 R.code] := rfl

set_option maxRecDepth 100000 in
set_option maxHeartbeats 8000000 in
theorem scan_any (s : ByteArray) (hs : s.size ≤ 1000000) (h0 : 0 < s.size) (w : World) (hM : Mon w) :
    Calls Tryd.prog 38 #[.string s] w fun e w' => e = .returned (srV (lxScan (L s))) ∧ Kept w w' := by
  have hdr := L_drop s 0 h0
  rw [List.drop_zero] at hdr
  have hdd : (L s).drop 1 = (L s).drop (0 + 1) := rfl
  have h1i : (1 : Int) ≤ s.size := by omega
  have hMM := hM.kept ((Kept.refl w).alloc (.cells #[.int .i64 0, .string ⟨#[]⟩, .int .i64 0, .int .i64 0] 30))
  rcases scan_cases (s[0]'h0) with ⟨c1, c2⟩ | ⟨c1, c2, c3⟩ | ⟨c1, c2, c3, c4⟩ | ⟨c1, c2, c3, c4, c5, c6⟩ | ⟨c1, c2, c3, c4, c5, c6, c7, c8, c9, c10⟩ | ⟨c1, c2, c3, c4, c5, c6, c7, c8, c9, c10, c11⟩ | ⟨c1, c2, c3, c4, c5, c6, c7, c8, c9, c10, c11⟩ | ⟨c1, c2, c3, c4, c5, c6, c7, c8, c9, c10, c11⟩
  · have HR := Lib.hid (show lxScan (L s) = ⟨0, 8, L (s.extract 0 1), 0, 1⟩ by
      rw [ext_take, hdr, lxScan, if_pos c2]
      have : s[0] = 10 := UInt8.toNat_inj.1 c2
      rw [this]; rfl)
    clear hdr hdd c2
    go_enter Tryd.func38, Tryd.ntmps38
    go_wp2_with fail
    refine bodyPost_ret (v := srV (lxScan (L s))) (by rw [HR.out]; simp [srV, results, Tryd.results38, go_sem]) rfl ⟨rfl, ?_⟩
    exact (Kept.refl _).alloc _
  · have HR := Lib.hid (show lxScan (L s) = lxName (L s) by rw [hdr, lxScan, if_neg c2, if_pos c3])
    clear hdr hdd c2
    have H := Lib.hid (fun w => scanName_any s hs w)
    rw [srV_of] at H
    generalize lxName (L s) = R at *
    go_enter Tryd.func38, Tryd.ntmps38
    go_wp2_with (first
      | (go_at_call 40; refine (lower_any _ _).mono ?_; rintro e w' ⟨rfl, rfl⟩)
      | (go_at_call 70; refine (H.out _).mono ?_; rintro e w' ⟨rfl, k1⟩; have B := k1.blk1; have b := B.cell; have l := B.lt; have f := B.frozen))
    refine bodyPost_ret (v := srV (lxScan (L s))) (by rw [HR.out]; simp [srV, results, Tryd.results38, go_sem, b]) rfl ⟨rfl, ?_⟩
    repeat refine Kept.setCell ?_ (by simp only; omega) _
    exact ((Kept.refl _).alloc _).trans k1
  · have HR := Lib.hid (show lxScan (L s) = lxNum (L s) by rw [hdr, lxScan, if_neg c2, if_neg (by rw [c3]; decide), if_pos c4])
    clear hdr hdd c2
    have H := Lib.hid (fun w hM => scanNumber_any s hs h0 c4 w hM)
    rw [srV_of] at H
    generalize lxNum (L s) = R at *
    go_enter Tryd.func38, Tryd.ntmps38
    go_wp2_with (first
      | (go_at_call 40; refine (lower_any _ _).mono ?_; rintro e w' ⟨rfl, rfl⟩)
      | (go_at_call 71; refine (ldigit_any _ _).mono ?_; rintro e w' ⟨rfl, rfl⟩)
      | (go_at_call 72; refine (H.out _ hMM).mono ?_; rintro e w' ⟨rfl, k1⟩; have B := k1.blk1; have b := B.cell; have l := B.lt; have f := B.frozen))
    refine bodyPost_ret (v := srV (lxScan (L s))) (by rw [HR.out]; simp [srV, results, Tryd.results38, go_sem, b]) rfl ⟨rfl, ?_⟩
    repeat refine Kept.setCell ?_ (by simp only; omega) _
    exact ((Kept.refl _).alloc _).trans k1
  · have HR := Lib.hid (show lxScan (L s) = lxStr (L s) by rw [hdr, lxScan, if_neg c2, if_neg (by rw [c3]; decide), if_neg (by rw [c4]; decide), if_pos c6])
    clear hdr hdd c2 c6
    have H := Lib.hid (fun w => scanString_any s hs h0 w)
    rw [srV_of] at H
    generalize lxStr (L s) = R at *
    go_enter Tryd.func38, Tryd.ntmps38
    go_wp2_with (first
      | (go_at_call 40; refine (lower_any _ _).mono ?_; rintro e w' ⟨rfl, rfl⟩)
      | (go_at_call 71; refine (ldigit_any _ _).mono ?_; rintro e w' ⟨rfl, rfl⟩)
      | (go_at_call 73; refine (H.out _).mono ?_; rintro e w' ⟨rfl, k1⟩; have B := k1.blk1; have b := B.cell; have l := B.lt; have f := B.frozen))
    refine bodyPost_ret (v := srV (lxScan (L s))) (by rw [HR.out]; simp [srV, results, Tryd.results38, go_sem, b]) rfl ⟨rfl, ?_⟩
    repeat refine Kept.setCell ?_ (by simp only; omega) _
    exact ((Kept.refl _).alloc _).trans k1
  all_goals
    have hsym : lxScan (L s) = lxSym (L s) := by rw [hdr, lxScan, if_neg c2, if_neg (by rw [c3]; decide), if_neg (by rw [c4]; decide), if_neg c6]
    have hsy : lxSym (L s) = if ((L s).drop 1).head? = some 61 ∧ sym2 (s[0]'h0) = true then ⟨0, 7, [s[0]'h0, 61], 0, 2⟩ else if sym1 (s[0]'h0) then ⟨0, 7, [s[0]'h0], 0, 1⟩ else .err 2 := by
      conv => lhs; rw [hdr]
      rfl
    rw [hsy] at hsym
    have t1 : L (s.extract 0 1) = [s[0]'h0] := by rw [ext_take, hdr]; rfl
    have HP := fun w => Tryd.strings_HasPrefix (s.extract 1 s.size) ⟨#[61]⟩ w
    have ep : Lib.hasPrefix (s.extract 1 s.size).data.toList [61] = (((L s).drop 1).head? == some 61) := by
      rw [prefix_one, show (s.extract 1 s.size).data.toList = L (s.extract 1 s.size) from rfl, ext_drop]
    have e61 : ((⟨#[61]⟩ : ByteArray)).data.toList = [61] := rfl
    rw [e61, ep] at HP
    clear ep e61 hsy
  iterate 3
    · cases hh : (((L s).drop 1).head? == some 61)
      · have hh' : ¬ ((L s).drop 1).head? = some 61 := by simpa using hh
        rw [hh] at HP
        have HHP := Lib.hid HP
        first
          | (have HR := Lib.hid (show lxScan (L s) = ⟨0, 7, L (s.extract 0 1), 0, 1⟩ by
              rw [hsym, if_neg (fun h => hh' h.1), t1]
              first | rw [if_pos c10] | rw [if_pos c11])
             clear hh hh' hsym HP t1 hdr hdd c2 c6
             go_enter Tryd.func38, Tryd.ntmps38
             go_wp2_with (first
               | (go_at_call 40; refine (lower_any _ _).mono ?_; rintro e w' ⟨rfl, rfl⟩)
               | (go_at_call 71; refine (ldigit_any _ _).mono ?_; rintro e w' ⟨rfl, rfl⟩)
               | (go_at_call 74; refine (HHP.out _).mono ?_; rintro e w' ⟨rfl, rfl⟩))
             refine bodyPost_ret (v := srV (lxScan (L s))) (by rw [HR.out]; simp [srV, results, Tryd.results38, go_sem]) rfl ⟨rfl, ?_⟩
             exact (Kept.refl _).alloc _)
          | (have HR := Lib.hid (show lxScan (L s) = .err 2 by
              rw [hsym, if_neg (fun h => hh' h.1), if_neg (by rw [c11]; decide)])
             clear hh hh' hsym HP t1 hdr hdd c2 c6
             go_enter Tryd.func38, Tryd.ntmps38
             go_wp2_with (first
               | (go_at_call 40; refine (lower_any _ _).mono ?_; rintro e w' ⟨rfl, rfl⟩)
               | (go_at_call 71; refine (ldigit_any _ _).mono ?_; rintro e w' ⟨rfl, rfl⟩)
               | (go_at_call 74; refine (HHP.out _).mono ?_; rintro e w' ⟨rfl, rfl⟩))
             refine bodyPost_ret (v := srV (lxScan (L s))) (by rw [HR.out]; simp [srV, SR.err, bs, results, Tryd.results38, go_sem]) rfl ⟨rfl, ?_⟩
             exact (Kept.refl _).alloc _)
      · have hh' : ((L s).drop 1).head? = some 61 := by simpa using hh
        have hl2 : 2 ≤ s.size := by
          rw [List.head?_drop] at hh'
          have := get_lt hh'
          rw [L_length] at this; omega
        have hl2i : (2 : Int) ≤ s.size := by omega
        have t2 : L (s.extract 0 2) = [s[0]'h0, 61] := by
          rw [ext_take, List.take_add_one, ← List.head?_drop, hh']
          conv => lhs; rw [hdr]
          rfl
        rw [hh] at HP
        have HHP := Lib.hid HP
        have HR := Lib.hid (show lxScan (L s) = ⟨0, 7, L (s.extract 0 2), 0, 2⟩ by
          rw [hsym, if_pos ⟨hh', by first | exact c9 | exact c10⟩, t2])
        clear hh hh' hsym HP t1 t2 hdr hdd c2 c6
        go_enter Tryd.func38, Tryd.ntmps38
        go_wp2_with (first
          | (go_at_call 40; refine (lower_any _ _).mono ?_; rintro e w' ⟨rfl, rfl⟩)
          | (go_at_call 71; refine (ldigit_any _ _).mono ?_; rintro e w' ⟨rfl, rfl⟩)
          | (go_at_call 74; refine (HHP.out _).mono ?_; rintro e w' ⟨rfl, rfl⟩))
        refine bodyPost_ret (v := srV (lxScan (L s))) (by rw [HR.out]; simp [srV, results, Tryd.results38, go_sem]) rfl ⟨rfl, ?_⟩
        exact (Kept.refl _).alloc _
  · have HB := fun w => Tryd.strings_IndexByte ⟨#[40, 41, 44, 58, 43, 45, 42]⟩ ((s[0]'h0).toNat : Int) w
    have eb : (((s[0]'h0).toNat : Int)).toNat.toUInt8 = s[0]'h0 := by simp
    have eL : (⟨#[40, 41, 44, 58, 43, 45, 42]⟩ : ByteArray).data.toList = [40, 41, 44, 58, 43, 45, 42] := rfl
    rw [eb, eL] at HB
    have hsb : symB (s[0]'h0) = decide (0 ≤ Lib.indexByte [40, 41, 44, 58, 43, 45, 42] (s[0]'h0)) := rfl
    rw [c11] at hsb
    generalize Lib.indexByte [40, 41, 44, 58, 43, 45, 42] (s[0]'h0) = z at *
    have HHB := Lib.hid HB
    rw [if_neg (fun h => by rw [c10] at h; exact absurd h.2 (by decide))] at hsym
    cases h1 : sym1 (s[0]'h0)
    · have HR := Lib.hid (show lxScan (L s) = .err 2 by rw [hsym, if_neg (by rw [h1]; decide)])
      rw [h1] at hsb
      have hz : decide (0 ≤ z) = false := hsb.symm
      clear hsb h1 hsym HP HB t1 eb eL hdr hdd c2 c6 c10 c11
      go_enter Tryd.func38, Tryd.ntmps38
      go_wp2_with (first
        | (go_at_call 40; refine (lower_any _ _).mono ?_; rintro e w' ⟨rfl, rfl⟩)
        | (go_at_call 71; refine (ldigit_any _ _).mono ?_; rintro e w' ⟨rfl, rfl⟩)
        | (go_at_call 75; refine (HHB.out _).mono ?_; rintro e w' ⟨rfl, rfl⟩))
      refine bodyPost_ret (v := srV (lxScan (L s))) (by rw [HR.out]; simp [srV, SR.err, bs, results, Tryd.results38, go_sem]) rfl ⟨rfl, ?_⟩
      exact (Kept.refl _).alloc _
    · have HR := Lib.hid (show lxScan (L s) = ⟨0, 7, L (s.extract 0 1), 0, 1⟩ by rw [hsym, if_pos h1, t1])
      rw [h1] at hsb
      have hz : 0 ≤ z := by simpa using hsb.symm
      clear hsb h1 hsym HP HB t1 eb eL hdr hdd c2 c6 c10 c11
      go_enter Tryd.func38, Tryd.ntmps38
      go_wp2_with (first
        | (go_at_call 40; refine (lower_any _ _).mono ?_; rintro e w' ⟨rfl, rfl⟩)
        | (go_at_call 71; refine (ldigit_any _ _).mono ?_; rintro e w' ⟨rfl, rfl⟩)
        | (go_at_call 75; refine (HHB.out _).mono ?_; rintro e w' ⟨rfl, rfl⟩))
      refine bodyPost_ret (v := srV (lxScan (L s))) (by rw [HR.out]; simp [srV, results, Tryd.results38, go_sem]) rfl ⟨rfl, ?_⟩
      exact (Kept.refl _).alloc _

theorem skip_step {b : Bool} {s : ByteArray} {i n k : Nat} (hi : i < s.size) {b' : Bool} (hb : skipL b (s[i]'hi :: (L s).drop (i + 1)) = skipL b' ((L s).drop (i + 1)) + 1) (h : n = k + skipL b ((L s).drop i)) : n = k + 1 + skipL b' ((L s).drop (i + 1)) := by
  rw [h, L_drop s i hi, hb]; omega
theorem skip_stop {b : Bool} {s : ByteArray} {i n k : Nat} (hi : i < s.size) (hb : skipL b (s[i]'hi :: (L s).drop (i + 1)) = 0) (h : n = k + skipL b ((L s).drop i)) : n = k := by
  rw [h, L_drop s i hi, hb]; rfl
theorem skip_out {b : Bool} {s : ByteArray} {i n k : Nat} (hi : ¬ i < s.size) (h : n = k + skipL b ((L s).drop i)) : n = k := by
  rw [h, List.drop_of_length_le (by rw [L_length]; omega)]
  cases b <;> rfl

set_option maxRecDepth 100000 in
set_option maxHeartbeats 4000000 in
theorem skip_any (s : ByteArray) (a : Nat) (hs : s.size ≤ 1000000) (ha : a ≤ 1000000) (w : World) :
    Calls Tryd.prog 37 #[.string s, .int .i64 a] w fun e w' => e = .returned (.int .i64 ((a + skipL false ((L s).drop a) : Nat) : Int)) ∧ w = w' := by
  go_enter Tryd.func37, Tryd.ntmps37
  go_wp2_with fail
  go_loop [1, 5] (fun x y => ∃ (k : Nat) (b : Bool), x = .int .i64 ((a + k : Nat) : Int) ∧ y = .bool b ∧ (k = 0 ∨ a + k ≤ s.size) ∧ skipL false ((L s).drop a) = k + skipL b ((L s).drop (a + k))) (fun x _ => s.size - (intOf x).toNat)
  case atStart => exact ⟨0, false, rfl, rfl, .inl rfl, by simp⟩
  case round =>
    obtain ⟨k, b, rfl, rfl, hk, hr⟩ := hrel
    have hkb : k ≤ 1000000 := by omega
    generalize hi : a + k = i at *
    by_cases hlt : i < s.size
    · have e : ∀ z : Nat, (((s[i]'hlt).toNat : Int) == (z : Int)) = decide ((s[i]'hlt).toNat = z) := by
        intro z; rw [Bool.eq_iff_iff, beq_iff_eq, decide_eq_true_eq]; omega
      have e10 := e 10
      have e35 := e 35
      have e32 := e 32
      have e9 := e 9
      rw [show ((10 : Nat) : Int) = 10 from rfl] at e10
      rw [show ((35 : Nat) : Int) = 35 from rfl] at e35
      rw [show ((32 : Nat) : Int) = 32 from rfl] at e32
      rw [show ((9 : Nat) : Int) = 9 from rfl] at e9
      clear e
      cases b
      · by_cases h35 : (s[i]'hlt).toNat = 35
        · have HR := Lib.hid (skip_step (b' := true) hlt (by rw [skipL, if_pos h35]) hr)
          have t35 : (((s[i]'hlt).toNat : Int) == 35) = true := by rw [e35, h35]; rfl
          clear hr e10 e35 e32 e9 h35
          go_wp2_with fail
          go_round
          case rel => exact ⟨k + 1, true, by congr 1; omega, rfl, by omega, by rw [show a + (k + 1) = i + 1 by omega]; exact HR.out⟩
          case measure => simp [intOf]; omega
        · have t35 : (((s[i]'hlt).toNat : Int) == 35) = false := by rw [e35]; simp [h35]
          by_cases h32 : (s[i]'hlt).toNat = 32
          · have HR := Lib.hid (skip_step (b' := false) hlt (by rw [skipL, if_neg h35, if_pos (.inl h32)]) hr)
            have t32 : (((s[i]'hlt).toNat : Int) == 32) = true := by rw [e32, h32]; rfl
            have t32' : (((s[i]'hlt).toNat : Int) != 32) = false := by rw [bne, t32]; rfl
            clear hr e10 e35 e32 e9 h35 h32
            go_wp2_with fail
            go_round
            case rel => exact ⟨k + 1, false, by congr 1; omega, rfl, by omega, by rw [show a + (k + 1) = i + 1 by omega]; exact HR.out⟩
            case measure => simp [intOf]; omega
          · have t32 : (((s[i]'hlt).toNat : Int) == 32) = false := by rw [e32]; simp [h32]
            have t32' : (((s[i]'hlt).toNat : Int) != 32) = true := by rw [bne, t32]; rfl
            by_cases h9 : (s[i]'hlt).toNat = 9
            · have HR := Lib.hid (skip_step (b' := false) hlt (by rw [skipL, if_neg h35, if_pos (.inr h9)]) hr)
              have t9 : (((s[i]'hlt).toNat : Int) == 9) = true := by rw [e9, h9]; rfl
              have t9' : (((s[i]'hlt).toNat : Int) != 9) = false := by rw [bne, t9]; rfl
              clear hr e10 e35 e32 e9 h35 h32 h9
              go_wp2_with fail
              go_round
              case rel => exact ⟨k + 1, false, by congr 1; omega, rfl, by omega, by rw [show a + (k + 1) = i + 1 by omega]; exact HR.out⟩
              case measure => simp [intOf]; omega
            · have HR := Lib.hid (skip_stop hlt (by rw [skipL, if_neg h35, if_neg (by omega)]) hr)
              have t9 : (((s[i]'hlt).toNat : Int) == 9) = false := by rw [e9]; simp [h9]
              have t9' : (((s[i]'hlt).toNat : Int) != 9) = true := by rw [bne, t9]; rfl
              clear hr e10 e35 e32 e9 h35 h32 h9
              go_wp2_with fail
              go_ret
              exact ⟨ret_int (by rw [HR.out]; omega), rfl⟩
      · by_cases h10 : (s[i]'hlt).toNat = 10
        · have HR := Lib.hid (skip_stop hlt (by rw [skipL, if_pos h10]) hr)
          have t10 : (((s[i]'hlt).toNat : Int) == 10) = true := by rw [e10, h10]; rfl
          clear hr e10 e35 e32 e9 h10
          go_wp2_with fail
          go_ret
          exact ⟨ret_int (by rw [HR.out]; omega), rfl⟩
        · have HR := Lib.hid (skip_step (b' := true) hlt (by rw [skipL, if_neg h10]) hr)
          have t10 : (((s[i]'hlt).toNat : Int) == 10) = false := by rw [e10]; simp [h10]
          clear hr e10 e35 e32 e9 h10
          go_wp2_with fail
          go_round
          case rel => exact ⟨k + 1, true, by congr 1; omega, rfl, by omega, by rw [show a + (k + 1) = i + 1 by omega]; exact HR.out⟩
          case measure => simp [intOf]; omega
    · have HR := Lib.hid (skip_out hlt hr)
      clear hr
      go_wp2_with fail
      go_ret
      exact ⟨ret_int (by rw [HR.out]; omega), rfl⟩
end Go.Proofs.YtmlkgfacenajnaaDoor
