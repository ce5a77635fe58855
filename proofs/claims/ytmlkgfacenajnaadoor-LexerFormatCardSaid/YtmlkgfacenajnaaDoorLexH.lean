/- Reserved words and identifiers: what the lexer and its reference answer. -/
import Derived.Test.YtmlkgfacenajnaaDoorRLexA
import Derived.Test.YtmlkgfacenajnaaDoorStrs
namespace Go.Proofs.YtmlkgfacenajnaaDoor
open Go.RowKit

def resW : List (List UInt8) := [[105, 102],
  [116, 104, 101, 110],
  [101, 108, 115, 101],
  [111, 114],
  [97, 110, 100],
  [110, 111, 116],
  [116, 114, 117, 101],
  [102, 97, 108, 115, 101],
  [116, 111, 100, 97, 121],
  [115, 104, 97, 114, 101],
  [100, 105, 118],
  [114, 111, 117, 110, 100],
  [109, 105, 110],
  [109, 97, 120],
  [112, 108, 117, 115],
  [109, 111, 110, 116, 104, 115],
  [100, 97, 121, 115],
  [121, 101, 97, 114, 115],
  [121, 101, 97, 114],
  [109, 111, 110, 116, 104],
  [116, 97, 98],
  [98, 97, 110, 100],
  [99, 111, 117, 110, 116],
  [115, 117, 109],
  [97, 108, 108],
  [97, 110, 121],
  [109, 111, 115, 116],
  [101, 110, 117, 109],
  [116, 97, 98, 108, 101],
  [114, 111, 119],
  [115, 99, 111, 112, 101],
  [109, 101, 109, 98, 101, 114, 115],
  [105, 110, 112, 117, 116],
  [100, 101, 102],
  [114, 117, 108, 101],
  [111, 102],
  [111, 118, 101, 114],
  [112, 114, 105, 111],
  [102, 114, 111, 109],
  [116, 111],
  [101, 110, 100],
  [119, 104, 101, 110],
  [105, 115],
  [115, 114, 99],
  [98, 111, 111, 108],
  [105, 110, 116],
  [109, 111, 110, 101, 121],
  [114, 97, 116, 101],
  [100, 97, 116, 101],
  [100, 111, 119, 110],
  [117, 112],
  [122, 101, 114, 111],
  [97, 119, 97, 121],
  [104, 97, 108, 102],
  [101, 118, 101, 110]]
def resB (l : List UInt8) : Bool := resW.contains l
theorem resB_or (s : ByteArray) : resB (L s) = ((s.toList == [105, 102]) || ((s.toList == [116, 104, 101, 110]) || ((s.toList == [101, 108, 115, 101]) || ((s.toList == [111, 114]) || ((s.toList == [97, 110, 100]) || ((s.toList == [110, 111, 116]) || ((s.toList == [116, 114, 117, 101]) || ((s.toList == [102, 97, 108, 115, 101]) || ((s.toList == [116, 111, 100, 97, 121]) || ((s.toList == [115, 104, 97, 114, 101]) || ((s.toList == [100, 105, 118]) || ((s.toList == [114, 111, 117, 110, 100]) || ((s.toList == [109, 105, 110]) || ((s.toList == [109, 97, 120]) || ((s.toList == [112, 108, 117, 115]) || ((s.toList == [109, 111, 110, 116, 104, 115]) || ((s.toList == [100, 97, 121, 115]) || ((s.toList == [121, 101, 97, 114, 115]) || ((s.toList == [121, 101, 97, 114]) || ((s.toList == [109, 111, 110, 116, 104]) || ((s.toList == [116, 97, 98]) || ((s.toList == [98, 97, 110, 100]) || ((s.toList == [99, 111, 117, 110, 116]) || ((s.toList == [115, 117, 109]) || ((s.toList == [97, 108, 108]) || ((s.toList == [97, 110, 121]) || ((s.toList == [109, 111, 115, 116]) || ((s.toList == [101, 110, 117, 109]) || ((s.toList == [116, 97, 98, 108, 101]) || ((s.toList == [114, 111, 119]) || ((s.toList == [115, 99, 111, 112, 101]) || ((s.toList == [109, 101, 109, 98, 101, 114, 115]) || ((s.toList == [105, 110, 112, 117, 116]) || ((s.toList == [100, 101, 102]) || ((s.toList == [114, 117, 108, 101]) || ((s.toList == [111, 102]) || ((s.toList == [111, 118, 101, 114]) || ((s.toList == [112, 114, 105, 111]) || ((s.toList == [102, 114, 111, 109]) || ((s.toList == [116, 111]) || ((s.toList == [101, 110, 100]) || ((s.toList == [119, 104, 101, 110]) || ((s.toList == [105, 115]) || ((s.toList == [115, 114, 99]) || ((s.toList == [98, 111, 111, 108]) || ((s.toList == [105, 110, 116]) || ((s.toList == [109, 111, 110, 101, 121]) || ((s.toList == [114, 97, 116, 101]) || ((s.toList == [100, 97, 116, 101]) || ((s.toList == [100, 111, 119, 110]) || ((s.toList == [117, 112]) || ((s.toList == [122, 101, 114, 111]) || ((s.toList == [97, 119, 97, 121]) || ((s.toList == [104, 97, 108, 102]) || ((s.toList == [101, 118, 101, 110])))))))))))))))))))))))))))))))))))))))))))))))))))))))) := by
  rw [toList_L]
  simp only [resB, resW, List.contains_cons, List.contains_nil, Bool.or_false]
set_option maxRecDepth 100000 in
set_option maxHeartbeats 8000000 in
theorem reserved_any (s : ByteArray) (w : World) :
    Calls Tryd.prog 42 #[.string s] w fun e w' => e = .returned (.bool (resB (L s))) ∧ w = w' := by
  have HS := Lib.hid (resB_or s)
  generalize resB (L s) = R at *
  go_enter Tryd.func42, Tryd.ntmps42
  go_wp2_with fail
  all_goals first
    | (rename_i a b; rw [a] at b; exact absurd b (by decide))
    | (go_ret; exact ⟨ret_bool (by rw [HS.out]; simp [*]), rfl⟩)

def lowH (l : List UInt8) : Bool := match l.head? with
  | some c => lowB c
  | none => false
def idB (l : List UInt8) : Bool := decide (0 < l.length) && (decide (l.length ≤ 16) && (lowH l && (l.all wordB && !resB l)))
theorem lead_all (p : UInt8 → Bool) (l : List UInt8) : lead_of p l = l.length ↔ l.all p = true := by
  constructor
  · intro h
    have := lead_of_all (p := p) (l := l)
    rwa [h, List.take_length] at this
  · intro h
    have := lead_of_app (p := p) (a := l) (b := []) h (.inl rfl)
    simpa using this
set_option maxRecDepth 100000 in
set_option maxHeartbeats 4000000 in
theorem isId_any (s : ByteArray) (hs : s.size ≤ 1000000) (w : World) :
    Calls Tryd.prog 17 #[.string s] w fun e w' => e = .returned (.bool (idB (L s))) ∧ w = w' := by
  have hid : idB (L s) = (decide (0 < s.size) && (decide (s.size ≤ 16) && (lowH (L s) && ((L s).all wordB && !resB (L s))))) := rfl
  by_cases h0 : 0 < s.size
  · have hlow : lowH (L s) = lowB (s[0]'h0) := by
      unfold lowH
      rw [List.head?_eq_getElem?, L_get s 0 h0]
    have hne : (s.toList != []) = true := by
      rw [toList_L, bne_iff_ne]
      intro e
      have := congrArg List.length e
      rw [L_length, List.length_nil] at this
      omega
    have hne2 : (s.toList == []) = false := by
      rw [toList_L, beq_eq_false_iff_ne]
      intro e
      have := congrArg List.length e
      rw [L_length, List.length_nil] at this
      omega
    have hla := lead_all wordB (L s)
    rw [L_length] at hla
    have HN := Lib.hid (fun w => nameLen_any s hs w)
    have HRS := Lib.hid (fun w => reserved_any s w)
    have h0i : (0 : Int) < s.size := by omega
    rw [hlow, decide_eq_true h0] at hid
    have hle := lead_of_le wordB (L s)
    rw [L_length] at hle
    cases hl : lowB (s[0]'h0)
    · have HR := Lib.hid (show idB (L s) = false by rw [hid, hl]; simp)
      clear hid hlow hla
      go_enter Tryd.func17, Tryd.ntmps17
      go_wp2_with (go_at_call 40; refine (lower_any _ _).mono ?_; rintro e w' ⟨rfl, rfl⟩)
      go_ret
      exact ⟨ret_bool HR.out.symm, rfl⟩
    · by_cases hw : lead_of wordB (L s) = s.size
      · rw [hl, hla.1 hw] at hid
        rw [hw] at HN
        have HR := Lib.hid (show idB (L s) = (decide (s.size ≤ 16) && !resB (L s)) by rw [hid]; simp)
        generalize resB (L s) = R at *
        by_cases h16 : s.size ≤ 16
        · have h16i : (s.size : Int) ≤ 16 := by omega
          have HR2 := Lib.hid (show idB (L s) = !R by rw [HR.out, decide_eq_true h16]; rfl)
          clear hid hlow hla hw
          cases R
          all_goals
            go_enter Tryd.func17, Tryd.ntmps17
            go_wp2_with (first
              | (go_at_call 40; refine (lower_any _ _).mono ?_; rintro e w' ⟨rfl, rfl⟩)
              | (go_at_call 41; refine (HN.out _).mono ?_; rintro e w' ⟨rfl, rfl⟩)
              | (go_at_call 42; refine (HRS.out _).mono ?_; rintro e w' ⟨rfl, rfl⟩))
            go_ret
            exact ⟨ret_bool HR2.out.symm, rfl⟩
        · have h16i : ¬ ((s.size : Int) ≤ 16) := by omega
          have HR2 := Lib.hid (show idB (L s) = false by rw [HR.out, decide_eq_false h16]; rfl)
          clear hid hlow hla hw
          go_enter Tryd.func17, Tryd.ntmps17
          go_wp2_with (first
            | (go_at_call 40; refine (lower_any _ _).mono ?_; rintro e w' ⟨rfl, rfl⟩)
            | (go_at_call 41; refine (HN.out _).mono ?_; rintro e w' ⟨rfl, rfl⟩)
            | (go_at_call 42; refine (HRS.out _).mono ?_; rintro e w' ⟨rfl, rfl⟩))
          go_ret
          exact ⟨ret_bool HR2.out.symm, rfl⟩
      · have hall : (L s).all wordB = false := by
          rw [Bool.eq_false_iff]; intro e; exact hw (hla.2 e)
        have HR := Lib.hid (show idB (L s) = false by rw [hid, hall]; simp)
        have hwb : ((lead_of wordB (L s) : Int) == s.size) = false := by rw [beq_eq_false_iff_ne]; omega
        clear hid hlow hla hw hall
        generalize lead_of wordB (L s) = n at *
        go_enter Tryd.func17, Tryd.ntmps17
        go_wp2_with (first
          | (go_at_call 40; refine (lower_any _ _).mono ?_; rintro e w' ⟨rfl, rfl⟩)
          | (go_at_call 41; refine (HN.out _).mono ?_; rintro e w' ⟨rfl, rfl⟩))
        go_ret
        exact ⟨ret_bool HR.out.symm, rfl⟩
  · have HR := Lib.hid (show idB (L s) = false by rw [hid, decide_eq_false h0]; rfl)
    have hz : s.size = 0 := by omega
    have hne : (s.toList != []) = false := by
      rw [toList_L, List.length_eq_zero_iff.1 (show (L s).length = 0 from hz)]; rfl
    have hne2 : (s.toList == []) = true := by
      rw [toList_L, List.length_eq_zero_iff.1 (show (L s).length = 0 from hz)]; rfl
    clear hid hz
    go_enter Tryd.func17, Tryd.ntmps17
    go_wp2_with fail
    go_ret
    exact ⟨ret_bool HR.out.symm, rfl⟩

theorem resW_len : resW.length = 55 := rfl
def resS : List ByteArray := resW.map bs
theorem resS_len : resS.length = 55 := rfl
theorem strs_new (w : World) (T : TypeId) (xs : List ByteArray) (c : Nat) : Strs (w.alloc (.cells (xs.map Value.string).toArray T)) (.slice (some ⟨w.heap.size, 0, none⟩) xs.length c) xs := by
  refine ⟨_, c, rfl, fun _ => ⟨w.heap.size, 0, rfl, by simp, fun j hj => ?_⟩⟩
  rw [World.cell?_alloc_at _ _ _ _ rfl]
  simp [List.getElem?_eq_getElem hj]
set_option maxRecDepth 100000 in
set_option maxHeartbeats 4000000 in
theorem rreserved_any (w : World) :
    Calls Tryd.prog 45 #[] w fun e w' => ∃ v, e = .returned v ∧ Strs w' v resS ∧ Kept w w' := by
  go_enter Tryd.func45, Tryd.ntmps45
  go_wp2_with fail
  go_ret
  exact ⟨_, rfl, strs_new w _ resS 55, (Kept.refl _).alloc _⟩
theorem neqH (X Y : ByteArray) : (X.toList == Y.toList) = decide (X = Y) := by
  rw [toList_L, toList_L]
  by_cases h : X = Y
  · rw [h]; simp
  · have : L X ≠ L Y := fun e => h (L_inj.1 e)
    simp [h, this]
theorem resB_mem (s : ByteArray) : resB (L s) = true ↔ ∃ j, ∃ h : j < resS.length, resS[j] = s := by
  unfold resB resS
  rw [List.contains_iff_mem]
  constructor
  · intro h
    obtain ⟨j, hj, e⟩ := List.getElem_of_mem h
    refine ⟨j, by simpa using hj, ?_⟩
    rw [List.getElem_map, e, bs_L]
  · rintro ⟨j, hj, e⟩
    rw [List.getElem_map] at e
    rw [← e, L_bs]
    exact List.getElem_mem _
set_option maxRecDepth 100000 in
set_option maxHeartbeats 4000000 in
theorem risId_any (s : ByteArray) (hs : s.size ≤ 1000000) (w : World) :
    Calls Tryd.prog 18 #[.string s] w fun e w' => e = .returned (.bool (idB (L s))) ∧ Kept w w' := by
  have hid : idB (L s) = (decide (0 < s.size) && (decide (s.size ≤ 16) && (lowH (L s) && ((L s).all wordB && !resB (L s))))) := rfl
  by_cases h0 : 0 < s.size
  · have hlow : lowH (L s) = lowB (s[0]'h0) := by
      unfold lowH
      rw [List.head?_eq_getElem?, L_get s 0 h0]
    have h0b : ((s.size : Int) == 0) = false := by rw [beq_eq_false_iff_ne]; omega
    have h0i : (0 : Int) < s.size := by omega
    rw [hlow, decide_eq_true h0] at hid
    by_cases h16 : s.size ≤ 16
    · rw [decide_eq_true h16] at hid
      have h16i : ¬ (16 < (s.size : Int)) := by omega
      cases hl : lowB (s[0]'h0)
      · have HR := Lib.hid (show idB (L s) = false by rw [hid, hl]; rfl)
        clear hid hlow
        go_enter Tryd.func18, Tryd.ntmps18
        go_wp2_with (go_at_call 43; refine (rlower_any _ _).mono ?_; rintro e w' ⟨rfl, rfl⟩)
        go_ret
        exact ⟨ret_bool HR.out.symm, Kept.refl _⟩
      · rw [hl] at hid
        have HID := Lib.hid (show idB (L s) = ((L s).all wordB && !resB (L s)) by rw [hid]; rfl)
        have HM := Lib.hid (resB_mem s)
        clear hid hlow
        go_enter Tryd.func18, Tryd.ntmps18
        go_wp2_with (go_at_call 43; refine (rlower_any _ _).mono ?_; rintro e w' ⟨rfl, rfl⟩)
        go_loop [3] (fun x => ∃ k : Nat, x = .int .i64 (k : Int) ∧ k ≤ s.size ∧ ((L s).take k).all wordB = true) (fun x => s.size - (intOf x).toNat)
        case atStart => exact ⟨0, rfl, Nat.zero_le _, rfl⟩
        case round =>
          obtain ⟨k, rfl, hk, hall⟩ := hrel
          by_cases hlt : k < s.size
          · have hki : (k : Int) < s.size := by omega
            cases hw : wordB (s[k]'hlt)
            · have HR := Lib.hid (show idB (L s) = false by
                have : (L s).all wordB = false := by rw [← List.take_append_drop k (L s), List.all_append, L_drop s k hlt, List.all_cons, hw]; simp
                rw [HID.out, this]; rfl)
              clear hall
              go_wp2_with (go_at_call 44; refine (rword_any _ _).mono ?_; rintro e w' ⟨rfl, rfl⟩)
              go_ret
              exact ⟨ret_bool HR.out.symm, Kept.refl _⟩
            · have HA := Lib.hid (show ((L s).take (k + 1)).all wordB = true by rw [L_take s k hlt, List.all_append, hall]; simp [hw])
              clear hall
              go_wp2_with (go_at_call 44; refine (rword_any _ _).mono ?_; rintro e w' ⟨rfl, rfl⟩)
              go_round
              case rel => exact ⟨k + 1, by go_num, hlt, HA.out⟩
              case measure => simp [intOf]; omega
          · have hki : ¬ ((k : Int) < s.size) := by omega
            rw [L_take_all s k hlt] at hall
            have HB := Lib.hid (show idB (L s) = !resB (L s) by rw [HID.out, hall]; rfl)
            clear hall
            go_wp2_with (go_at_call 45; refine (rreserved_any _).mono ?_; rintro e w5 ⟨v, rfl, hS, k5⟩)
            obtain ⟨A, cap, rfl, hA⟩ := hS
            rw [resS_len] at hA ⊢
            obtain ⟨b, off, rfl, hb, hc⟩ := hA (by decide)
            clear hA
            go_loop [5] (fun x => ∃ j : Nat, x = .int .i64 (j : Int) ∧ j ≤ 55 ∧ ∀ q, q < j → resS[q]? ≠ some s) (fun x => 55 - (intOf x).toNat)
            case atStart => exact ⟨0, rfl, by decide, fun q hq => absurd hq (by omega)⟩
            case round =>
              obtain ⟨j, rfl, hj, hno⟩ := hrel
              by_cases hj55 : j < 55
              · have hji : (j : Int) < 55 := by omega
                have hcell := hc j hj55
                have hgj : resS[j]? = some (resS[j]'(by rw [resS_len]; exact hj55)) := List.getElem?_eq_getElem _
                rw [hgj] at hcell
                have HNX := Lib.hid (show resS[j]'(by rw [resS_len]; exact hj55) ≠ s → ∀ q, q < j + 1 → resS[q]? ≠ some s from fun h q hq => by
                  by_cases e : q = j
                  · rw [e, hgj]; intro e2; exact h (Option.some.inj e2)
                  · exact hno q (by omega))
                have HYS := Lib.hid (show resS[j]'(by rw [resS_len]; exact hj55) = s → idB (L s) = false from fun h => by
                  rw [HB.out, HM.out.2 ⟨j, by rw [resS_len]; exact hj55, h⟩]; rfl)
                clear hno hgj hc
                simp only [Option.getD_some] at hcell
                generalize resS[j]'(by rw [resS_len]; exact hj55) = X at *
                cases hd : decide (X = s)
                · have hd' : X ≠ s := by simpa using hd
                  have HR := Lib.hid (HNX.out hd')
                  rw [← neqH] at hd
                  clear hd'
                  go_wp2_with fail
                  go_round
                  case rel => exact ⟨j + 1, by go_num, hj55, HR.out⟩
                  case measure => simp [intOf]; omega
                · have hd' : X = s := by simpa using hd
                  have HR := Lib.hid (HYS.out hd')
                  rw [← neqH] at hd
                  clear hd'
                  go_wp2_with fail
                  go_ret
                  exact ⟨ret_bool HR.out.symm, k5⟩
              · have hji : ¬ ((j : Int) < 55) := by omega
                have HR := Lib.hid (show idB (L s) = true by
                  have : resB (L s) = false := by
                    rw [Bool.eq_false_iff]
                    intro e
                    obtain ⟨q, hq, e2⟩ := HM.out.1 e
                    rw [resS_len] at hq
                    exact hno q (by omega) (by rw [List.getElem?_eq_getElem (by rw [resS_len]; exact hq), e2])
                  rw [HB.out, this]; rfl)
                clear hno hc
                go_wp2_with fail
                go_ret
                exact ⟨ret_bool HR.out.symm, k5⟩
    · have h16i : 16 < (s.size : Int) := by omega
      have HR := Lib.hid (show idB (L s) = false by rw [hid, decide_eq_false h16]; rfl)
      clear hid hlow
      go_enter Tryd.func18, Tryd.ntmps18
      go_wp2_with fail
      go_ret
      exact ⟨ret_bool HR.out.symm, Kept.refl _⟩
  · have HR := Lib.hid (show idB (L s) = false by rw [hid, decide_eq_false h0]; rfl)
    have hz : ((s.size : Int) == 0) = true := by rw [beq_iff_eq]; omega
    clear hid
    go_enter Tryd.func18, Tryd.ntmps18
    go_wp2_with fail
    go_ret
    exact ⟨ret_bool HR.out.symm, Kept.refl _⟩
end Go.Proofs.YtmlkgfacenajnaaDoor
