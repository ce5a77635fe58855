/- What the lexer's small functions compute: isLower, isDigit, digitsAt, nameLength, isDateForm, hasDecimals. -/
import Derived.Test.YtmlkgfacenajnaaDoorLexLaw
import Derived.Test.YtmlkgfacenajnaaDoorBlks
import Derived.Test.YtmlkgfacenajnaaDoorShelf
namespace Go.Proofs.YtmlkgfacenajnaaDoor
open Go.RowKit

theorem lower_any (c : UInt8) (w : World) : Calls Tryd.prog 40 #[.int .u8 c.toNat] w fun e w' => e = .returned (.bool (lowB c)) ∧ w = w' := by
  by_cases h : 97 ≤ c.toNat
  · have HR := Lib.hid (show lowB c = decide ((c.toNat : Int) ≤ 122) by simp [lowB, h]; omega)
    go_enter Tryd.func40, Tryd.ntmps40
    go_wp2_with fail
    go_ret
    exact ⟨ret_bool HR.out.symm, rfl⟩
  · have HR := Lib.hid (show lowB c = false by simp [lowB, h])
    go_enter Tryd.func40, Tryd.ntmps40
    go_wp2_with fail
    go_ret
    exact ⟨ret_bool HR.out.symm, rfl⟩
theorem ldigit_any (c : UInt8) (w : World) : Calls Tryd.prog 71 #[.int .u8 c.toNat] w fun e w' => e = .returned (.bool (isDig c)) ∧ w = w' := by
  by_cases h : 48 ≤ c.toNat
  · have HR := Lib.hid (show isDig c = decide ((c.toNat : Int) ≤ 57) by simp [isDig, h]; omega)
    go_enter Tryd.func71, Tryd.ntmps71
    go_wp2_with fail
    go_ret
    exact ⟨ret_bool HR.out.symm, rfl⟩
  · have HR := Lib.hid (show isDig c = false by simp [isDig, h])
    go_enter Tryd.func71, Tryd.ntmps71
    go_wp2_with fail
    go_ret
    exact ⟨ret_bool HR.out.symm, rfl⟩
theorem lead_step {p : UInt8 → Bool} {s : ByteArray} {i n k : Nat} (hi : i < s.size) (hp : p (s[i]'hi) = true) (h : n = k + lead_of p ((L s).drop i)) : n = k + 1 + lead_of p ((L s).drop (i + 1)) := by
  rw [h, L_drop s i hi, lead_of, if_pos hp]; omega
theorem lead_stop {p : UInt8 → Bool} {s : ByteArray} {i n k : Nat} (hi : i < s.size) (hp : p (s[i]'hi) = false) (h : n = k + lead_of p ((L s).drop i)) : n = k := by
  rw [h, L_drop s i hi, lead_of, hp]; rfl
theorem lead_out {p : UInt8 → Bool} {s : ByteArray} {i n k : Nat} (hi : ¬ i < s.size) (h : n = k + lead_of p ((L s).drop i)) : n = k := by
  rw [h, List.drop_of_length_le (by rw [L_length]; omega)]; rfl

set_option maxRecDepth 100000 in
set_option maxHeartbeats 1000000 in
theorem dat_any (s : ByteArray) (a : Nat) (hs : s.size ≤ 1000000) (ha : a ≤ 1000000) (w : World) :
    Calls Tryd.prog 96 #[.string s, .int .i64 a] w fun e w' => e = .returned (.int .i64 (lead_of isDig ((L s).drop a))) ∧ w = w' := by
  go_enter Tryd.func96, Tryd.ntmps96
  go_wp2_with fail
  go_loop [5] (fun x => ∃ k : Nat, x = .int .i64 ((a + k : Nat) : Int) ∧ (k = 0 ∨ a + k ≤ s.size) ∧ lead_of isDig ((L s).drop a) = k + lead_of isDig ((L s).drop (a + k))) (fun x => s.size - (intOf x).toNat)
  case atStart => exact ⟨0, rfl, .inl rfl, by simp⟩
  case round =>
    obtain ⟨k, rfl, hk, hr⟩ := hrel
    have hkb : k ≤ 1000000 := by omega
    generalize hi : a + k = i at *
    by_cases hlt : i < s.size
    · cases hd : isDig (s[i]'hlt)
      · have HR := Lib.hid (lead_stop hlt hd hr)
        have HI := Lib.hid hi
        clear hr
        go_wp2_with (go_at_call 71; refine (ldigit_any _ _).mono ?_; rintro e w' ⟨rfl, rfl⟩)
        go_ret
        exact ⟨ret_int (by rw [HR.out]; omega), rfl⟩
      · have HR := Lib.hid (lead_step hlt hd hr)
        clear hr
        go_wp2_with (go_at_call 71; refine (ldigit_any _ _).mono ?_; rintro e w' ⟨rfl, rfl⟩)
        go_round
        case rel => exact ⟨k + 1, by congr 1; omega, by omega, by rw [show a + (k + 1) = i + 1 by omega]; exact HR.out⟩
        case measure => simp [intOf]; omega
    · have HR := Lib.hid (lead_out hlt hr)
      clear hr
      go_wp2_with fail
      go_ret
      exact ⟨ret_int (by rw [HR.out]; omega), rfl⟩

theorem wordB_cases (c : UInt8) : (lowB c = true ∧ wordB c = true) ∨ (lowB c = false ∧ isDig c = true ∧ wordB c = true) ∨ (lowB c = false ∧ isDig c = false ∧ ((c.toNat : Int) == 95) = true ∧ wordB c = true) ∨ (lowB c = false ∧ isDig c = false ∧ ((c.toNat : Int) == 95) = false ∧ wordB c = false) := by
  have e : ((c.toNat : Int) == 95) = decide (c.toNat = 95) := by
    rw [Bool.eq_iff_iff, beq_iff_eq, decide_eq_true_eq]; omega
  unfold wordB
  rw [e]
  cases lowB c <;> cases isDig c <;> cases decide (c.toNat = 95) <;> simp

set_option maxRecDepth 100000 in
set_option maxHeartbeats 1000000 in
theorem nameLen_any (s : ByteArray) (hs : s.size ≤ 1000000) (w : World) :
    Calls Tryd.prog 41 #[.string s] w fun e w' => e = .returned (.int .i64 (lead_of wordB (L s))) ∧ w = w' := by
  go_enter Tryd.func41, Tryd.ntmps41
  go_wp2_with fail
  go_loop [3] (fun x => ∃ k : Nat, x = .int .i64 (k : Int) ∧ k ≤ s.size ∧ lead_of wordB (L s) = k + lead_of wordB ((L s).drop k)) (fun x => s.size - (intOf x).toNat)
  case atStart => exact ⟨0, rfl, Nat.zero_le _, by simp⟩
  case round =>
    obtain ⟨k, rfl, hk, hr⟩ := hrel
    by_cases hlt : k < s.size
    · rcases wordB_cases (s[k]'hlt) with ⟨h1, h2⟩ | ⟨h0, h1, h2⟩ | ⟨h0, h1, h3, h2⟩ | ⟨h0, h1, h3, h2⟩
      iterate 3
        · have HR := Lib.hid (lead_step hlt h2 hr)
          clear hr h2
          go_wp2_with (first | (go_at_call 71; refine (ldigit_any _ _).mono ?_; rintro e w' ⟨rfl, rfl⟩) | (go_at_call 40; refine (lower_any _ _).mono ?_; rintro e w' ⟨rfl, rfl⟩))
          go_round
          case rel => exact ⟨k + 1, by go_num, hlt, HR.out⟩
          case measure => simp [intOf]; omega
      · have HR := Lib.hid (lead_stop hlt h2 hr)
        clear hr h2
        go_wp2_with (first | (go_at_call 71; refine (ldigit_any _ _).mono ?_; rintro e w' ⟨rfl, rfl⟩) | (go_at_call 40; refine (lower_any _ _).mono ?_; rintro e w' ⟨rfl, rfl⟩))
        go_ret
        exact ⟨ret_int (by rw [HR.out]), rfl⟩
    · have HR := Lib.hid (lead_out hlt hr)
      clear hr
      go_wp2_with fail
      go_ret
      exact ⟨ret_int (by rw [HR.out]), rfl⟩

theorem digB_of_lead {l : List UInt8} {q : Nat} (h : q ≤ lead_of isDig l) : digB (l.take q) = true := by
  have := lead_of_all (p := isDig) (l := l)
  unfold digB
  rw [List.all_eq_true] at this ⊢
  intro x hx
  refine this x ?_
  have e : l.take q = (l.take (lead_of isDig l)).take q := by rw [List.take_take, Nat.min_eq_left h]
  rw [e] at hx
  exact List.mem_of_mem_take hx
theorem lead_ge_of {l : List UInt8} {q : Nat} (hq : q ≤ l.length) (h : digB (l.take q) = true) : q ≤ lead_of isDig l := by
  rcases Nat.lt_or_ge (lead_of isDig l) q with hlt | hge
  · exfalso
    rcases lead_of_end isDig l with he | ⟨c, he, hc⟩
    · rw [List.getElem?_eq_none_iff] at he; omega
    · have := all_at (p := isDig) h (by rw [List.getElem?_take_of_lt hlt]; exact he)
      rw [this] at hc; cases hc
  · exact hge
theorem lead_eq_of {l : List UInt8} {q : Nat} {c : UInt8} (hg : l[q]? = some c) (hc : isDig c = false) (h : digB (l.take q) = true) : lead_of isDig l = q := by
  have h1 := lead_ge_of (Nat.le_of_lt (get_lt hg)) h
  rcases Nat.lt_or_ge q (lead_of isDig l) with hlt | hge
  · obtain ⟨d, hd, hp⟩ := lead_of_in hlt
    rw [hg] at hd
    have : c = d := Option.some.inj hd
    rw [this, hp] at hc; cases hc
  · omega
theorem dated_iff (l : List UInt8) : datedB l = true ↔ lead_of isDig l = 4 ∧ lead_of isDig (l.drop 5) = 2 ∧ 2 ≤ lead_of isDig (l.drop 8) ∧ l[4]? = some 45 ∧ l[7]? = some 45 := by
  simp only [datedB, Bool.and_eq_true, decide_eq_true_eq, beq_iff_eq]
  constructor
  · rintro ⟨hl, h1, h2, h3, h4, h5⟩
    refine ⟨lead_eq_of h2 (by decide) h1, lead_eq_of (c := 45) (by rw [List.getElem?_drop]; exact h4) (by decide) h3, lead_ge_of (by rw [List.length_drop]; omega) h5, h2, h4⟩
  · rintro ⟨h1, h2, h3, h4, h5⟩
    have := lead_of_le isDig (l.drop 8)
    rw [List.length_drop] at this
    exact ⟨by omega, digB_of_lead (by omega), h4, digB_of_lead (by omega), h5, digB_of_lead h3⟩
theorem some_45 (c : UInt8) : (some c = some (45 : UInt8)) ↔ c.toNat = 45 := by
  rw [Option.some.injEq, ← UInt8.toNat_inj]; rfl

set_option maxRecDepth 100000 in
set_option maxHeartbeats 1000000 in
theorem isDate_any (s : ByteArray) (hs : s.size ≤ 1000000) (w : World) :
    Calls Tryd.prog 95 #[.string s] w fun e w' => e = .returned (.bool (datedB (L s))) ∧ w = w' := by
  have hd := dated_iff (L s)
  have hl8 := lead_of_le isDig ((L s).drop 8)
  rw [List.length_drop, L_length] at hl8
  have g := L_get s
  have R0 := fun w => dat_any s 0 hs (by omega) w
  have R5 := fun w => dat_any s 5 hs (by omega) w
  have R8 := fun w => dat_any s 8 hs (by omega) w
  rw [List.drop_zero] at R0
  generalize lead_of isDig (L s) = x at *
  generalize lead_of isDig ((L s).drop 5) = y at *
  generalize lead_of isDig ((L s).drop 8) = z at *
  have hno : ¬ (x = 4 ∧ y = 2 ∧ 2 ≤ z ∧ (L s)[4]? = some 45 ∧ (L s)[7]? = some 45) → datedB (L s) = false := fun h => by
    rw [Bool.eq_false_iff]; exact fun e => h (hd.1 e)
  by_cases h1 : x = 4
  · by_cases h2 : y = 2
    · by_cases h3 : 2 ≤ z
      · have k4 := g 4 (by omega)
        have k7 := g 7 (by omega)
        have hl : 10 ≤ s.size := by omega
        rw [k4, k7, some_45, some_45] at hd hno
        subst h1
        subst h2
        by_cases h4 : (s[4]'(by omega)).toNat = 45
        · by_cases h5 : (s[7]'(by omega)).toNat = 45
          · have HR := Lib.hid (hd.2 ⟨rfl, rfl, h3, h4, h5⟩)
            clear hd hno g k4 k7
            go_enter Tryd.func95, Tryd.ntmps95
            go_wp2_with (first
              | (go_at_call_of 96 (Value.int IntKind.i64 0); refine (R0 _).mono ?_; rintro e w' ⟨rfl, rfl⟩)
              | (go_at_call_of 96 (Value.int IntKind.i64 5); refine (R5 _).mono ?_; rintro e w' ⟨rfl, rfl⟩)
              | (go_at_call_of 96 (Value.int IntKind.i64 8); refine (R8 _).mono ?_; rintro e w' ⟨rfl, rfl⟩))
            go_ret
            exact ⟨ret_bool HR.out.symm, rfl⟩
          · have HR := Lib.hid (hno (fun h => h5 h.2.2.2.2))
            have h5b : (((s[7]'(by omega)).toNat : Int) == 45) = false := by rw [beq_eq_false_iff_ne]; omega
            clear hd hno g k4 k7
            go_enter Tryd.func95, Tryd.ntmps95
            go_wp2_with (first
              | (go_at_call_of 96 (Value.int IntKind.i64 0); refine (R0 _).mono ?_; rintro e w' ⟨rfl, rfl⟩)
              | (go_at_call_of 96 (Value.int IntKind.i64 5); refine (R5 _).mono ?_; rintro e w' ⟨rfl, rfl⟩)
              | (go_at_call_of 96 (Value.int IntKind.i64 8); refine (R8 _).mono ?_; rintro e w' ⟨rfl, rfl⟩))
            go_ret
            exact ⟨ret_bool HR.out.symm, rfl⟩
        · have HR := Lib.hid (hno (fun h => h4 h.2.2.2.1))
          have h4b : (((s[4]'(by omega)).toNat : Int) == 45) = false := by rw [beq_eq_false_iff_ne]; omega
          clear hd hno g k4 k7
          go_enter Tryd.func95, Tryd.ntmps95
          go_wp2_with (first
            | (go_at_call_of 96 (Value.int IntKind.i64 0); refine (R0 _).mono ?_; rintro e w' ⟨rfl, rfl⟩)
            | (go_at_call_of 96 (Value.int IntKind.i64 5); refine (R5 _).mono ?_; rintro e w' ⟨rfl, rfl⟩)
            | (go_at_call_of 96 (Value.int IntKind.i64 8); refine (R8 _).mono ?_; rintro e w' ⟨rfl, rfl⟩))
          go_ret
          exact ⟨ret_bool HR.out.symm, rfl⟩
      · have HR := Lib.hid (hno (fun h => h3 h.2.2.1))
        subst h1
        subst h2
        have h3b : decide (2 ≤ (z : Int)) = false := by rw [decide_eq_false_iff_not]; omega
        clear hd hno g
        go_enter Tryd.func95, Tryd.ntmps95
        go_wp2_with (first
          | (go_at_call_of 96 (Value.int IntKind.i64 0); refine (R0 _).mono ?_; rintro e w' ⟨rfl, rfl⟩)
          | (go_at_call_of 96 (Value.int IntKind.i64 5); refine (R5 _).mono ?_; rintro e w' ⟨rfl, rfl⟩)
          | (go_at_call_of 96 (Value.int IntKind.i64 8); refine (R8 _).mono ?_; rintro e w' ⟨rfl, rfl⟩))
        go_ret
        exact ⟨ret_bool HR.out.symm, rfl⟩
    · have HR := Lib.hid (hno (fun h => h2 h.2.1))
      subst h1
      have h2b : ((y : Int) == 2) = false := by rw [beq_eq_false_iff_ne]; omega
      clear hd hno g
      go_enter Tryd.func95, Tryd.ntmps95
      go_wp2_with (first
        | (go_at_call_of 96 (Value.int IntKind.i64 0); refine (R0 _).mono ?_; rintro e w' ⟨rfl, rfl⟩)
        | (go_at_call_of 96 (Value.int IntKind.i64 5); refine (R5 _).mono ?_; rintro e w' ⟨rfl, rfl⟩))
      go_ret
      exact ⟨ret_bool HR.out.symm, rfl⟩
  · have HR := Lib.hid (hno (fun h => h1 h.1))
    have h1b : ((x : Int) == 4) = false := by rw [beq_eq_false_iff_ne]; omega
    clear hd hno g
    go_enter Tryd.func95, Tryd.ntmps95
    go_wp2_with (go_at_call_of 96 (Value.int IntKind.i64 0); refine (R0 _).mono ?_; rintro e w' ⟨rfl, rfl⟩)
    go_ret
    exact ⟨ret_bool HR.out.symm, rfl⟩

theorem prefix_one (l : List UInt8) (c : UInt8) : Lib.hasPrefix l [c] = (l.head? == some c) := by
  cases l with
  | nil => rfl
  | cons d r =>
    show (c == d && true) = (some d == some c)
    rw [Bool.and_true, Bool.eq_iff_iff]
    rw [beq_iff_eq, beq_iff_eq, Option.some.injEq]
    exact ⟨Eq.symm, Eq.symm⟩
def decB (l : List UInt8) (q : Nat) : Bool := l.head? == some 46 && lead_of isDig (l.drop 1) == q
set_option maxRecDepth 100000 in
set_option maxHeartbeats 1000000 in
theorem hasDec_any (s : ByteArray) (q : Nat) (hs : s.size ≤ 1000000) (w : World) :
    Calls Tryd.prog 97 #[.string s, .int .i64 q] w fun e w' => e = .returned (.bool (decB (L s) q)) ∧ w = w' := by
  have hp : Lib.hasPrefix s.data.toList [46] = ((L s).head? == some 46) := prefix_one (L s) 46
  have R1 := fun w => dat_any s 1 hs (by omega) w
  have hd : decB (L s) q = ((L s).head? == some 46 && lead_of isDig ((L s).drop 1) == q) := rfl
  generalize lead_of isDig ((L s).drop 1) = x at *
  cases hh : ((L s).head? == some 46)
  · rw [hh] at hp hd
    have HR := Lib.hid (show decB (L s) q = false from hd)
    clear hd hh
    go_enter Tryd.func97, Tryd.ntmps97
    go_wp2_with (go_at_call 74; refine (Tryd.strings_HasPrefix _ _ _).mono ?_; rintro e w' ⟨rfl, rfl⟩)
    go_ret
    exact ⟨ret_bool HR.out.symm, rfl⟩
  · rw [hh] at hp hd
    have HR := Lib.hid (show decB (L s) q = ((x : Int) == (q : Int)) by
      rw [hd, Bool.true_and, Bool.eq_iff_iff, beq_iff_eq, beq_iff_eq]; omega)
    clear hd hh
    go_enter Tryd.func97, Tryd.ntmps97
    go_wp2_with (first
      | (go_at_call 74; refine (Tryd.strings_HasPrefix _ _ _).mono ?_; rintro e w' ⟨rfl, rfl⟩)
      | (go_at_call 96; refine (R1 _).mono ?_; rintro e w' ⟨rfl, rfl⟩))
    go_ret
    exact ⟨ret_bool HR.out.symm, rfl⟩
end Go.Proofs.YtmlkgfacenajnaaDoor
