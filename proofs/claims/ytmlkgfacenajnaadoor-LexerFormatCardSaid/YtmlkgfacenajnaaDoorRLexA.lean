/- What the small functions of the reference of the lexer compute: lower, digit, word, glued, run, dated, amount, name. -/
import Derived.Test.YtmlkgfacenajnaaDoorLexG
namespace Go.Proofs.YtmlkgfacenajnaaDoor
open Go.RowKit

theorem rlower_any (c : UInt8) (w : World) : Calls Tryd.prog 43 #[.int .u8 c.toNat] w fun e w' => e = .returned (.bool (lowB c)) ∧ w = w' := by
  by_cases h : 97 ≤ c.toNat
  · have HR := Lib.hid (show lowB c = decide ((c.toNat : Int) ≤ 122) by simp [lowB, h]; omega)
    go_enter Tryd.func43, Tryd.ntmps43
    go_wp2_with fail
    go_ret
    exact ⟨ret_bool HR.out.symm, rfl⟩
  · have HR := Lib.hid (show lowB c = false by simp [lowB, h])
    go_enter Tryd.func43, Tryd.ntmps43
    go_wp2_with fail
    go_ret
    exact ⟨ret_bool HR.out.symm, rfl⟩
theorem rdigit_any (c : UInt8) (w : World) : Calls Tryd.prog 77 #[.int .u8 c.toNat] w fun e w' => e = .returned (.bool (isDig c)) ∧ w = w' := by
  by_cases h : 48 ≤ c.toNat
  · have HR := Lib.hid (show isDig c = decide ((c.toNat : Int) ≤ 57) by simp [isDig, h]; omega)
    go_enter Tryd.func77, Tryd.ntmps77
    go_wp2_with fail
    go_ret
    exact ⟨ret_bool HR.out.symm, rfl⟩
  · have HR := Lib.hid (show isDig c = false by simp [isDig, h])
    go_enter Tryd.func77, Tryd.ntmps77
    go_wp2_with fail
    go_ret
    exact ⟨ret_bool HR.out.symm, rfl⟩
theorem rword_any (c : UInt8) (w : World) : Calls Tryd.prog 44 #[.int .u8 c.toNat] w fun e w' => e = .returned (.bool (wordB c)) ∧ w = w' := by
  rcases wordB_cases c with ⟨h1, h2⟩ | ⟨h0, h1, h2⟩ | ⟨h0, h1, h3, h2⟩ | ⟨h0, h1, h3, h2⟩
  all_goals
    have HR := Lib.hid h2
    clear h2
    go_enter Tryd.func44, Tryd.ntmps44
    go_wp2_with (first | (go_at_call 77; refine (rdigit_any _ _).mono ?_; rintro e w' ⟨rfl, rfl⟩) | (go_at_call 43; refine (rlower_any _ _).mono ?_; rintro e w' ⟨rfl, rfl⟩))
    go_ret
    exact ⟨ret_bool HR.out.symm, rfl⟩
theorem rglue_cases (c : UInt8) :
    (gluedB c = true ∧ wordB c = true) ∨ (gluedB c = true ∧ wordB c = false ∧ 65 ≤ c.toNat ∧ c.toNat ≤ 90) ∨
    (gluedB c = ((c.toNat : Int) == 46) ∧ wordB c = false ∧ c.toNat < 65) ∨ (gluedB c = ((c.toNat : Int) == 46) ∧ wordB c = false ∧ 65 ≤ c.toNat ∧ 90 < c.toNat) := by
  have e : ((c.toNat : Int) == 46) = decide (c.toNat = 46) := by
    rw [Bool.eq_iff_iff, beq_iff_eq, decide_eq_true_eq]; omega
  rw [e]
  unfold gluedB
  cases hw : wordB c
  · by_cases h65 : 65 ≤ c.toNat
    · by_cases h90 : c.toNat ≤ 90
      · simp [h65, h90]
      · simp [h65, h90]; omega
    · simp [h65]; omega
  · simp
theorem rglued_any (c : UInt8) (w : World) : Calls Tryd.prog 104 #[.int .u8 c.toNat] w fun e w' => e = .returned (.bool (gluedB c)) ∧ w = w' := by
  rcases rglue_cases c with ⟨h, h1⟩ | ⟨h, h1, h2, h3⟩ | ⟨h, h1, h2⟩ | ⟨h, h1, h2, h3⟩
  all_goals
    have HR := Lib.hid h
    clear h
    go_enter Tryd.func104, Tryd.ntmps104
    go_wp2_with (go_at_call 44; refine (rword_any _ _).mono ?_; rintro e w' ⟨rfl, rfl⟩)
    go_ret
    exact ⟨ret_bool (by first | exact HR.out.symm | (rw [HR.out, decide_eq_false (by omega)]; rfl)), rfl⟩
set_option maxRecDepth 100000 in
set_option maxHeartbeats 1000000 in
theorem rrun_any (s : ByteArray) (a : Nat) (hs : s.size ≤ 1000000) (ha : a ≤ 1000000) (w : World) :
    Calls Tryd.prog 102 #[.string s, .int .i64 a] w fun e w' => e = .returned (.int .i64 ((a + lead_of isDig ((L s).drop a) : Nat) : Int)) ∧ w = w' := by
  go_enter Tryd.func102, Tryd.ntmps102
  go_wp2_with fail
  go_loop [1] (fun x => ∃ k : Nat, x = .int .i64 ((a + k : Nat) : Int) ∧ (k = 0 ∨ a + k ≤ s.size) ∧ lead_of isDig ((L s).drop a) = k + lead_of isDig ((L s).drop (a + k))) (fun x => s.size - (intOf x).toNat)
  case atStart => exact ⟨0, rfl, .inl rfl, by simp⟩
  case round =>
    obtain ⟨k, rfl, hk, hr⟩ := hrel
    have hkb : k ≤ 1000000 := by omega
    generalize hi : a + k = i at *
    by_cases hlt : i < s.size
    · cases hd : isDig (s[i]'hlt)
      · have HR := Lib.hid (lead_stop hlt hd hr)
        have HI := Lib.hid hi
        clear hr
        go_wp2_with (go_at_call 77; refine (rdigit_any _ _).mono ?_; rintro e w' ⟨rfl, rfl⟩)
        go_ret
        exact ⟨ret_int (by rw [HR.out]; omega), rfl⟩
      · have HR := Lib.hid (lead_step hlt hd hr)
        clear hr
        go_wp2_with (go_at_call 77; refine (rdigit_any _ _).mono ?_; rintro e w' ⟨rfl, rfl⟩)
        go_round
        case rel => exact ⟨k + 1, by congr 1; omega, by omega, by rw [show a + (k + 1) = i + 1 by omega]; exact HR.out⟩
        case measure => simp [intOf]; omega
    · have HR := Lib.hid (lead_out hlt hr)
      clear hr
      go_wp2_with fail
      go_ret
      exact ⟨ret_int (by rw [HR.out]; omega), rfl⟩

def okAt (l : List UInt8) (j : Nat) : Bool := match l[j]? with
  | some c => if j = 4 ∨ j = 7 then decide (c.toNat = 45) else isDig c
  | none => false
theorem byte45 (c : UInt8) : (some c == some (45 : UInt8)) = decide (c.toNat = 45) := by
  rw [Bool.eq_iff_iff, beq_iff_eq, decide_eq_true_eq, some_45]
theorem dated_ok (l : List UInt8) (hl : 10 ≤ l.length) : datedB l = (okAt l 0 && (okAt l 1 && (okAt l 2 && (okAt l 3 && (okAt l 4 && (okAt l 5 && (okAt l 6 && (okAt l 7 && (okAt l 8 && okAt l 9))))))))) := by
  match l, hl with
  | a0 :: a1 :: a2 :: a3 :: a4 :: a5 :: a6 :: a7 :: a8 :: a9 :: r, _ =>
    have e4 : (some a4 == some (45 : UInt8)) = decide (a4.toNat = 45) := byte45 a4
    have e7 : (some a7 == some (45 : UInt8)) = decide (a7.toNat = 45) := byte45 a7
    show (decide (10 ≤ (a0 :: a1 :: a2 :: a3 :: a4 :: a5 :: a6 :: a7 :: a8 :: a9 :: r).length) && ((isDig a0 && (isDig a1 && (isDig a2 && (isDig a3 && true)))) && ((some a4 == some (45 : UInt8)) && ((isDig a5 && (isDig a6 && true)) && ((some a7 == some (45 : UInt8)) && (isDig a8 && (isDig a9 && true))))))) = _
    rw [e4, e7]
    simp [okAt, Bool.and_assoc]
theorem dated_all {l : List UInt8} (hl : 10 ≤ l.length) (h : ∀ j, j < 10 → okAt l j = true) : datedB l = true := by
  rw [dated_ok l hl, h 0 (by decide), h 1 (by decide), h 2 (by decide), h 3 (by decide), h 4 (by decide), h 5 (by decide), h 6 (by decide), h 7 (by decide), h 8 (by decide), h 9 (by decide)]; rfl
theorem dated_not {l : List UInt8} (hl : 10 ≤ l.length) {j : Nat} (hj : j < 10) (h : okAt l j = false) : datedB l = false := by
  rw [dated_ok l hl]
  match j, hj with
  | 0, _ => rw [h]; rfl
  | 1, _ => rw [h]; simp
  | 2, _ => rw [h]; simp
  | 3, _ => rw [h]; simp
  | 4, _ => rw [h]; simp
  | 5, _ => rw [h]; simp
  | 6, _ => rw [h]; simp
  | 7, _ => rw [h]; simp
  | 8, _ => rw [h]; simp
  | 9, _ => rw [h]; simp
theorem dated_short {l : List UInt8} (hl : ¬ 10 ≤ l.length) : datedB l = false := by simp [datedB, hl]
theorem okAt_of {s : ByteArray} {i j : Nat} (h : i + j < s.size) : okAt ((L s).drop i) j = if j = 4 ∨ j = 7 then decide ((s[i + j]'h).toNat = 45) else isDig (s[i + j]'h) := by
  unfold okAt
  rw [List.getElem?_drop, L_get s (i + j) h]

set_option maxRecDepth 100000 in
set_option maxHeartbeats 4000000 in
theorem rdated_any (s : ByteArray) (i : Nat) (hs : s.size ≤ 1000000) (hi : i ≤ s.size) (w : World) :
    Calls Tryd.prog 103 #[.string s, .int .i64 i] w fun e w' => e = .returned (.bool (datedB ((L s).drop i))) ∧ w = w' := by
  have hlen : ((L s).drop i).length = s.size - i := by rw [List.length_drop, L_length]
  by_cases h10 : (s.size : Int) - i < 10
  · have HR := Lib.hid (dated_short (l := (L s).drop i) (by rw [hlen]; omega))
    clear hlen
    go_enter Tryd.func103, Tryd.ntmps103
    go_wp2_with fail
    go_ret
    exact ⟨ret_bool HR.out.symm, rfl⟩
  · have hl : 10 ≤ ((L s).drop i).length := by rw [hlen]; omega
    have HA := Lib.hid (fun h => dated_all hl h)
    have HN := Lib.hid (fun j hj h => dated_not (j := j) hl hj h)
    clear hlen hl
    go_enter Tryd.func103, Tryd.ntmps103
    go_wp2_with fail
    go_loop [5] (fun x => ∃ k : Nat, x = .int .i64 (k : Int) ∧ k ≤ 10 ∧ ∀ j, j < k → okAt ((L s).drop i) j = true) (fun x => 10 - (intOf x).toNat)
    case atStart => exact ⟨0, rfl, by decide, fun j hj => absurd hj (by omega)⟩
    case round =>
      obtain ⟨k, rfl, hk, hall⟩ := hrel
      by_cases hlt : k < 10
      · have hlti : (k : Int) < 10 := by omega
        have hin : i + k < s.size := by omega
        have hini : (i : Int) + k < s.size := by omega
        have ho := okAt_of (i := i) (j := k) hin
        have hstep : okAt ((L s).drop i) k = true → ∀ j, j < k + 1 → okAt ((L s).drop i) j = true := fun h j hj => by
          by_cases e : j = k
          · rw [e]; exact h
          · exact hall j (by omega)
        have HS := Lib.hid hstep
        have HNk := Lib.hid (fun h => HN.out k hlt h)
        clear hall hstep
        by_cases h47 : k = 4 ∨ k = 7
        · rw [if_pos h47] at ho
          cases h45 : decide ((s[i + k]'hin).toNat = 45)
          · have HR := Lib.hid (HNk.out (by rw [ho, h45]))
            have hb : (((s[i + k]'hin).toNat : Int) == 45) = false := by rw [beq_eq_false_iff_ne]; have := of_decide_eq_false h45; omega
            have hb' : (((s[i + k]'hin).toNat : Int) != 45) = true := by rw [bne, hb]; rfl
            clear ho h45
            rcases h47 with rfl | rfl
            all_goals
              go_wp2_with fail
              go_ret
              exact ⟨ret_bool HR.out.symm, rfl⟩
          · have HR := Lib.hid (HS.out (by rw [ho, h45]))
            have hb : (((s[i + k]'hin).toNat : Int) == 45) = true := by rw [beq_iff_eq]; have := of_decide_eq_true h45; omega
            have hb' : (((s[i + k]'hin).toNat : Int) != 45) = false := by rw [bne, hb]; rfl
            clear ho h45
            rcases h47 with rfl | rfl
            · go_wp2_with fail
              go_round
              case rel => exact ⟨4 + 1, by go_num, by omega, HR.out⟩
              case measure => simp [intOf]
            · go_wp2_with fail
              go_round
              case rel => exact ⟨7 + 1, by go_num, by omega, HR.out⟩
              case measure => simp [intOf]
        · rw [if_neg h47] at ho
          have n4 : ((k : Int) == 4) = false := by rw [beq_eq_false_iff_ne]; omega
          have n7 : ((k : Int) == 7) = false := by rw [beq_eq_false_iff_ne]; omega
          cases hd : isDig (s[i + k]'hin)
          · have HR := Lib.hid (HNk.out (by rw [ho, hd]))
            clear ho h47
            go_wp2_with (go_at_call 77; refine (rdigit_any _ _).mono ?_; rintro e w' ⟨rfl, rfl⟩)
            go_ret
            exact ⟨ret_bool HR.out.symm, rfl⟩
          · have HR := Lib.hid (HS.out (by rw [ho, hd]))
            clear ho h47
            go_wp2_with (go_at_call 77; refine (rdigit_any _ _).mono ?_; rintro e w' ⟨rfl, rfl⟩)
            go_round
            case rel => exact ⟨k + 1, by go_num, by omega, HR.out⟩
            case measure => simp [intOf]; omega
      · have HR := Lib.hid (HA.out (fun j hj => hall j (by omega)))
        have hlti : ¬ (k : Int) < 10 := by omega
        clear hall
        go_wp2_with fail
        go_ret
        exact ⟨ret_bool HR.out.symm, rfl⟩

def amtS (t : List UInt8) (most : Int) : Int := if most < digsN t then most + 1 else digsN t
theorem digsN_snoc (T : ByteArray) (k : Nat) (hk : k < T.size) : digsN ((L T).take (k + 1)) = if isDig (T[k]'hk) then 10 * digsN ((L T).take k) + dval (T[k]'hk) else digsN ((L T).take k) := by
  unfold digsN
  rw [L_take T k hk, List.filter_append]
  by_cases h : isDig (T[k]'hk) = true
  · rw [if_pos h, List.filter_cons_of_pos h, List.filter_nil, val_snoc]
  · rw [if_neg h, List.filter_cons_of_neg h, List.filter_nil, List.append_nil]
theorem digsN_mono (t : List UInt8) (k : Nat) : digsN (t.take k) ≤ digsN t := by
  unfold digsN
  have : t.filter isDig = (t.take k).filter isDig ++ (t.drop k).filter isDig := by rw [← List.filter_append, List.take_append_drop]
  rw [this, val_append]
  exact val_ge _ _
set_option maxRecDepth 100000 in
set_option maxHeartbeats 4000000 in
theorem ramount_any (T : ByteArray) (most : Int) (hs : T.size ≤ 1000000) (m0 : 0 ≤ most) (m1 : most ≤ 1000000000000000) (w : World) :
    Calls Tryd.prog 106 #[.string T, .int .i64 most] w fun e w' => e = .returned (.int .i64 (amtS (L T) most)) ∧ w = w' := by
  go_enter Tryd.func106, Tryd.ntmps106
  go_wp2_with fail
  go_loop [5, 6] (fun n x => ∃ k : Nat, x = .int .i64 (k : Int) ∧ k ≤ T.size ∧ n = .int .i64 (digsN ((L T).take k) : Nat) ∧ ((digsN ((L T).take k) : Nat) : Int) ≤ most) (fun _ x => T.size - (intOf x).toNat)
  case atStart => exact ⟨0, rfl, Nat.zero_le _, rfl, m0⟩
  case round =>
    obtain ⟨k, rfl, hk, rfl, hle⟩ := hrel
    by_cases hlt : k < T.size
    · have hsn := digsN_snoc T k hlt
      have hmono := digsN_mono (L T) (k + 1)
      have hki : (k : Int) < T.size := by omega
      cases hd : isDig (T[k]'hlt)
      · rw [hd] at hsn
        have HSN := Lib.hid hsn
        clear hsn hmono
        generalize digsN ((L T).take k) = d at *
        go_wp2_with (go_at_call 77; refine (rdigit_any _ _).mono ?_; rintro e w' ⟨rfl, rfl⟩)
        go_round
        case rel => exact ⟨k + 1, by go_num, hlt, by rw [HSN.out]; rfl, by rw [HSN.out]; exact hle⟩
        case measure => simp [intOf]; omega
      · rw [hd, if_pos rfl] at hsn
        have hb := isDig_iff.1 hd
        have hdv : dval (T[k]'hlt) = (T[k]'hlt).toNat - 48 := rfl
        rw [hdv] at hsn
        generalize digsN ((L T).take k) = d at *
        obtain ⟨b1, b2⟩ := hb
        by_cases hgt : most < ((10 * d + ((T[k]'hlt).toNat - 48) : Nat) : Int)
        · have HR := Lib.hid (show amtS (L T) most = most + 1 by rw [amtS, if_pos (by omega)])
          have hg : most < (d : Int) * 10 + (((T[k]'hlt).toNat : Int) - 48) := by omega
          clear hsn hmono hdv
          go_wp2_with (go_at_call 77; refine (rdigit_any _ _).mono ?_; rintro e w' ⟨rfl, rfl⟩)
          go_ret
          exact ⟨ret_int HR.out.symm, rfl⟩
        · have HSN := Lib.hid hsn
          have hg : (d : Int) * 10 + (((T[k]'hlt).toNat : Int) - 48) ≤ most := by omega
          clear hsn hmono hdv
          go_wp2_with (go_at_call 77; refine (rdigit_any _ _).mono ?_; rintro e w' ⟨rfl, rfl⟩)
          go_round
          case rel => exact ⟨k + 1, by go_num, hlt, by rw [HSN.out]; congr 1; omega, by rw [HSN.out]; omega⟩
          case measure => simp [intOf]; omega
    · have HR := Lib.hid (show amtS (L T) most = (digsN ((L T).take k) : Nat) by
        rw [L_take_all T k hlt] at hle ⊢
        rw [amtS, if_neg (by omega)])
      generalize digsN ((L T).take k) = d at *
      go_wp2_with fail
      go_ret
      exact ⟨ret_int HR.out.symm, rfl⟩

/-- what the reference's scanners leave -/
def rPost (r : SR) (i : Nat) (w : World) (e : Ending) (w' : World) : Prop :=
  ∃ (a : Int) (b : ByteArray) (c d z : Int), e = .returned (.tuple #[.agg #[.int .i64 a, .string b, .int .i64 c, .int .i64 d], .int .i64 z, .int .i64 r.code]) ∧ (r.code = 0 → a = r.k ∧ b = bs r.t ∧ c = r.n ∧ d = i ∧ z = (i : Int) + r.len) ∧ Kept w w'
theorem ext_mid (s : ByteArray) (i k : Nat) : L (s.extract i (i + k)) = ((L s).drop i).take k := by rw [L_extract]; simp

set_option maxRecDepth 100000 in
set_option maxHeartbeats 4000000 in
theorem rname_any (s : ByteArray) (i : Nat) (hs : s.size ≤ 1000000) (hi : i ≤ s.size) (w : World) :
    Calls Tryd.prog 76 #[.string s, .int .i64 i] w (rPost (lxName ((L s).drop i)) i w) := by
  have hN : ∀ k, lead_of wordB ((L s).drop i) = k → (16 < k ∧ lxName ((L s).drop i) = .err 4) ∨ (k ≤ 16 ∧ lxName ((L s).drop i) = ⟨0, 1, L (s.extract i (i + k)), 0, k⟩) := by
    intro k hk
    unfold lxName
    rw [hk, ext_mid]
    by_cases h : 16 < k
    · exact .inl ⟨h, if_pos h⟩
    · exact .inr ⟨by omega, if_neg h⟩
  have HN := Lib.hid hN
  clear hN
  go_enter Tryd.func76, Tryd.ntmps76
  go_wp2_with fail
  go_loop [7] (fun x => ∃ k : Nat, x = .int .i64 ((i + k : Nat) : Int) ∧ i + k ≤ s.size ∧ lead_of wordB ((L s).drop i) = k + lead_of wordB ((L s).drop (i + k))) (fun x => s.size - (intOf x).toNat)
  case atStart => exact ⟨0, rfl, hi, by simp⟩
  case round =>
    obtain ⟨k, rfl, hk, hr⟩ := hrel
    generalize hj : i + k = j at *
    by_cases hcont : ∃ h : j < s.size, wordB (s[j]'h) = true
    · obtain ⟨hlt, hw⟩ := hcont
      have HR := Lib.hid (lead_step hlt hw hr)
      clear hr
      go_wp2_with (go_at_call 44; refine (rword_any _ _).mono ?_; rintro e w' ⟨rfl, rfl⟩)
      go_round
      case rel => exact ⟨k + 1, by congr 1; omega, by omega, by rw [show i + (k + 1) = j + 1 by omega]; exact HR.out⟩
      case measure => simp [intOf]; omega
    · have hend : lead_of wordB ((L s).drop i) = k := by
        by_cases hlt : j < s.size
        · exact lead_stop hlt (by cases h : wordB (s[j]'hlt); rfl; exact absurd ⟨hlt, h⟩ hcont) hr
        · exact lead_out hlt hr
      have hc := HN.out k hend
      subst hj
      clear hr hend
      have hcases : ¬ (i + k < s.size) ∨ ∃ h : i + k < s.size, wordB (s[i + k]'h) = false := by
        by_cases hlt : i + k < s.size
        · exact .inr ⟨hlt, by cases h : wordB (s[i + k]'hlt); rfl; exact absurd ⟨hlt, h⟩ hcont⟩
        · exact .inl hlt
      clear hcont
      have hz1 : ¬ ((i : Int) + k < i) := by omega
      rcases hc with ⟨hk16, hc⟩ | ⟨hk16, hc⟩
      all_goals
        have HR := Lib.hid hc
        clear hc
        rcases hcases with hlt | ⟨hlt, hw⟩
        all_goals
          go_wp2_with (go_at_call 44; refine (rword_any _ _).mono ?_; rintro e w' ⟨rfl, rfl⟩)
          first
            | (refine bodyPost_ret (v := .tuple #[.agg #[.int .i64 0, .string ⟨#[]⟩, .int .i64 0, .int .i64 0], .int .i64 0, .int .i64 4]) (by simp [results, Tryd.results76, go_sem]) rfl ?_
               unfold rPost
               rw [HR.out]
               exact ⟨0, ⟨#[]⟩, 0, 0, 0, rfl, fun h => absurd h (by decide), (Kept.refl _).alloc _⟩)
            | (refine bodyPost_ret (v := .tuple #[.agg #[.int .i64 1, .string (s.extract i (i + k)), .int .i64 0, .int .i64 i], .int .i64 ((i : Int) + k), .int .i64 0]) (by simp [results, Tryd.results76, go_sem]) rfl ?_
               unfold rPost
               rw [HR.out]
               exact ⟨_, _, _, _, _, rfl, fun _ => ⟨rfl, (bs_L _).symm, rfl, rfl, rfl⟩, (Kept.refl _).alloc _⟩)
end Go.Proofs.YtmlkgfacenajnaaDoor
