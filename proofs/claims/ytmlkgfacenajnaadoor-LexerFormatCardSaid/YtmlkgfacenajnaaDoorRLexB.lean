/- What quoted and symbol of the reference of the lexer compute. -/
import Derived.Test.YtmlkgfacenajnaaDoorRLexA
import Derived.Test.YtmlkgfacenajnaaDoorLexD
import Derived.Deep.DeepCutAuto
namespace Go.Proofs.YtmlkgfacenajnaaDoor
open Go.RowKit

set_option maxRecDepth 100000 in
set_option maxHeartbeats 8000000 in
theorem rquoted_any (s : ByteArray) (i : Nat) (hs : s.size ≤ 1000000) (hi : i < s.size) (w : World) :
    Calls Tryd.prog 79 #[.string s, .int .i64 i] w (rPost (lxStr ((L s).drop i)) i w) := by
  have hdd : ((L s).drop i).drop 1 = (L s).drop (i + 1) := List.drop_drop
  have R5 := fun h => lxStr_five (l := (L s).drop i) h
  have R2 := fun h h2 => lxStr_two (l := (L s).drop i) h h2
  have R4 := fun h h2 h3 => lxStr_four (l := (L s).drop i) h h2 h3
  have R0 := fun h h2 h3 => lxStr_ok (l := (L s).drop i) h h2 h3
  rw [hdd] at R5 R2 R4 R0
  have H5 := Lib.hid R5
  have H2 := Lib.hid R2
  have H4 := Lib.hid R4
  have H0 := Lib.hid R0
  clear R5 R2 R4 R0 hdd
  go_enter Tryd.func79, Tryd.ntmps79
  go_wp2_with fail
  go_loop [7] (fun x => ∃ k : Nat, x = .int .i64 ((i + 1 + k : Nat) : Int) ∧ i + 1 + k ≤ s.size ∧ lead_of inStr ((L s).drop (i + 1)) = k + lead_of inStr ((L s).drop (i + 1 + k))) (fun x => s.size - (intOf x).toNat)
  case atStart => exact ⟨0, by simp, by omega, by simp⟩
  case round =>
    obtain ⟨k, rfl, hk, hr⟩ := hrel
    generalize hj : i + 1 + k = j at *
    have hj64 : j ≤ 1000000 := by omega
    by_cases hcont : ∃ h : j < s.size, inStr (s[j]'h) = true
    · obtain ⟨hlt, hw⟩ := hcont
      have HR := Lib.hid (lead_step hlt hw hr)
      have hw2 := (inStr_iff _).1 hw
      have b34 : (((s[j]'hlt).toNat : Int) == 34) = false := by rw [beq_eq_false_iff_ne]; omega
      have b10 : (((s[j]'hlt).toNat : Int) == 10) = false := by rw [beq_eq_false_iff_ne]; omega
      have b34' : (((s[j]'hlt).toNat : Int) != 34) = true := by rw [bne, b34]; rfl
      have b10' : (((s[j]'hlt).toNat : Int) != 10) = true := by rw [bne, b10]; rfl
      clear hr hw hw2
      go_wp2_with fail
      go_round
      case rel => exact ⟨k + 1, by congr 1; omega, by omega, by rw [show i + 1 + (k + 1) = j + 1 by omega]; exact HR.out⟩
      case measure => simp [intOf]; omega
    · have hend : lead_of inStr ((L s).drop (i + 1)) = k := by
        by_cases hlt : j < s.size
        · exact lead_stop hlt (by cases h : inStr (s[j]'hlt); rfl; exact absurd ⟨hlt, h⟩ hcont) hr
        · exact lead_out hlt hr
      clear hr
      have hT : L (s.extract (i + 1) j) = ((L s).drop (i + 1)).take k := by rw [← hj]; exact ext_mid s (i + 1) k
      have G5 := H5.out
      have G2 := H2.out
      have G4 := H4.out
      have G0 := H0.out
      rw [hend, List.getElem?_drop, hj] at G5 G2 G4 G0
      rw [← hT] at G2 G4 G0
      by_cases hlt : j < s.size
      · have hg := L_get s j hlt
        have hni : (j : Int) ≠ s.size := by omega
        have hnib : ((j : Int) == s.size) = false := by rw [beq_eq_false_iff_ne]; omega
        by_cases h10 : (s[j]'hlt).toNat = 10
        · have HR := Lib.hid (G5 (by
            rw [hg]; intro e
            have : s[j] = 34 := Option.some.inj e
            rw [this] at h10; exact absurd h10 (by decide)))
          have b34 : (((s[j]'hlt).toNat : Int) == 34) = false := by rw [beq_eq_false_iff_ne]; omega
          have b10 : (((s[j]'hlt).toNat : Int) == 10) = true := by rw [beq_iff_eq]; omega
          have b34' : (((s[j]'hlt).toNat : Int) != 34) = true := by rw [bne, b34]; rfl
          have b10' : (((s[j]'hlt).toNat : Int) != 10) = false := by rw [bne, b10]; rfl
          clear G5 G2 G4 G0 hcont hT hg h10 hend
          go_wp2_with fail
          refine bodyPost_ret (v := .tuple #[.agg #[.int .i64 0, .string ⟨#[]⟩, .int .i64 0, .int .i64 0], .int .i64 0, .int .i64 5]) (by simp [results, Tryd.results79, go_sem]) rfl ?_
          unfold rPost
          rw [HR.out]
          exact ⟨0, ⟨#[]⟩, 0, 0, 0, rfl, fun h => absurd h (by decide), (Kept.refl _).alloc _⟩
        · have h34 : (s[j]'hlt).toNat = 34 := by
            by_cases e : (s[j]'hlt).toNat = 34
            · exact e
            · exact absurd ⟨hlt, (inStr_iff _).2 ⟨e, h10⟩⟩ hcont
          have hq : (L s)[j]? = some 34 := by rw [hg]; congr 1; exact UInt8.toNat_inj.1 h34
          have b34 : (((s[j]'hlt).toNat : Int) == 34) = true := by rw [beq_iff_eq]; omega
          have b10 : (((s[j]'hlt).toNat : Int) == 10) = false := by rw [beq_eq_false_iff_ne]; omega
          have b34' : (((s[j]'hlt).toNat : Int) != 34) = false := by rw [bne, b34]; rfl
          have K2 := Lib.hid (fun h => G2 hq h)
          have K4 := Lib.hid (fun h h3 => G4 hq h h3)
          have K0 := Lib.hid (fun h h3 => G0 hq h h3)
          have HJ := Lib.hid hj
          have hTs : (s.extract (i + 1) j).size = k := by rw [ByteArray.size_extract]; omega
          have hTget : ∀ (q : Nat) (_ : q < k) (hh : i + 1 + q < s.size), (L (s.extract (i + 1) j))[q]? = some (s[i + 1 + q]'hh) := fun q hq hh => by
            rw [hT, List.getElem?_take_of_lt hq, List.getElem?_drop, L_get s _ hh]
          have HTG := Lib.hid hTget
          have HTL := Lib.hid (show (L (s.extract (i + 1) j)).length = k from hTs)
          have hij : (i : Int) + 1 ≤ j := by omega
          have hkj : (k : Int) = j - (i + 1) := by omega
          have HKJ := Lib.hid hkj
          clear G5 G2 G4 G0 hcont hT hg h10 hend h34 hq hTget hTs hkj hj
          go_wp2_with fail
          go_loop [8] (fun x => ∃ q : Nat, x = .int .i64 ((i + 1 + q : Nat) : Int) ∧ q ≤ k ∧ ((L (s.extract (i + 1) j)).take q).all printB = true) (fun x => j - (intOf x).toNat)
          case atStart => exact ⟨0, by simp, Nat.zero_le _, rfl⟩
          case round =>
            obtain ⟨q, rfl, hqk, hall⟩ := hrel
            by_cases hql : q < k
            · have hjj := HJ.out
              have hqs : i + 1 + q < s.size := by omega
              have hqi : (i : Int) + 1 + q < s.size := by omega
              have hqj : (i : Int) + 1 + q < j := by omega
              have htq := HTG.out q hql hqs
              rcases (show (printB (s[i + 1 + q]'hqs) = true ∧ 32 ≤ (s[i + 1 + q]'hqs).toNat ∧ (s[i + 1 + q]'hqs).toNat ≤ 126) ∨ (printB (s[i + 1 + q]'hqs) = false ∧ (s[i + 1 + q]'hqs).toNat < 32) ∨ (printB (s[i + 1 + q]'hqs) = false ∧ 32 ≤ (s[i + 1 + q]'hqs).toNat ∧ 126 < (s[i + 1 + q]'hqs).toNat) by
                unfold printB
                by_cases a : 32 ≤ (s[i + 1 + q]'hqs).toNat <;> by_cases c : (s[i + 1 + q]'hqs).toNat ≤ 126 <;> simp [a, c] <;> omega) with ⟨h1, h2, h3⟩ | ⟨h1, h2⟩ | ⟨h1, h2, h3⟩
              · have HA := Lib.hid (show ((L (s.extract (i + 1) j)).take (q + 1)).all printB = true by
                  rw [List.take_add_one, htq, List.all_append, hall]; simp [h1])
                clear hall h1 htq hjj
                go_wp2_with fail
                go_round
                case rel => exact ⟨q + 1, by first | rfl | (congr 1; omega), hql, HA.out⟩
                case measure => simp [intOf]; omega
              all_goals
                have HR := Lib.hid (K2.out (by
                  have := List.mem_of_getElem? htq
                  rw [Bool.eq_false_iff]; intro e
                  rw [List.all_eq_true.1 e _ this] at h1; cases h1))
                clear hall h1 htq hjj
                go_wp2_with fail
                refine bodyPost_ret (v := .tuple #[.agg #[.int .i64 0, .string ⟨#[]⟩, .int .i64 0, .int .i64 0], .int .i64 0, .int .i64 2]) (by simp [results, Tryd.results79, go_sem]) rfl ?_
                unfold rPost
                rw [HR.out]
                exact ⟨0, ⟨#[]⟩, 0, 0, 0, rfl, fun h => absurd h (by decide), (Kept.refl _).alloc _⟩
            · have hjj := HJ.out
              have hqj : ¬ ((i : Int) + 1 + q < j) := by omega
              have hall2 : (L (s.extract (i + 1) j)).all printB = true := by
                rw [List.take_of_length_le (by rw [HTL.out]; omega)] at hall; exact hall
              have hjs : (j : Int) - i - 1 = k := by omega
              have hj1 : (j : Int) + 1 = (i : Int) + ((k + 2 : Nat) : Int) := by omega
              have hjn : (j : Int) ≤ s.size := by omega
              have HJ1 := Lib.hid hj1
              clear hall hjj
              by_cases h64 : 64 < k
              · have HR := Lib.hid (K4.out hall2 h64)
                have h64i : 64 < (j : Int) - i - 1 := by omega
                clear hall2 hjs hj1
                go_wp2_with fail
                refine bodyPost_ret (v := .tuple #[.agg #[.int .i64 0, .string ⟨#[]⟩, .int .i64 0, .int .i64 0], .int .i64 0, .int .i64 4]) (by simp [results, Tryd.results79, go_sem]) rfl ?_
                unfold rPost
                rw [HR.out]
                exact ⟨0, ⟨#[]⟩, 0, 0, 0, rfl, fun h => absurd h (by decide), (Kept.refl _).alloc _⟩
              · have HR := Lib.hid (K0.out hall2 h64)
                have h64i : ¬ (64 < (j : Int) - i - 1) := by omega
                clear hall2 hjs hj1
                go_wp2_with fail
                refine bodyPost_ret (v := .tuple #[.agg #[.int .i64 6, .string (s.extract (i + 1) j), .int .i64 0, .int .i64 i], .int .i64 ((j : Int) + 1), .int .i64 0]) (by simp [results, Tryd.results79, go_sem]) rfl ?_
                unfold rPost
                rw [HR.out]
                exact ⟨_, _, _, _, _, rfl, fun _ => ⟨rfl, (bs_L _).symm, rfl, rfl, HJ1.out⟩, (Kept.refl _).alloc _⟩
      · have hje : j = s.size := by omega
        have HR := Lib.hid (G5 (by rw [List.getElem?_eq_none (by rw [L_length]; omega)]; intro e; cases e))
        have hnib : ((j : Int) == s.size) = true := by rw [beq_iff_eq]; omega
        clear G5 G2 G4 G0 hcont hT hend hje
        go_wp2_with fail
        refine bodyPost_ret (v := .tuple #[.agg #[.int .i64 0, .string ⟨#[]⟩, .int .i64 0, .int .i64 0], .int .i64 0, .int .i64 5]) (by simp [results, Tryd.results79, go_sem]) rfl ?_
        unfold rPost
        rw [HR.out]
        exact ⟨0, ⟨#[]⟩, 0, 0, 0, rfl, fun h => absurd h (by decide), (Kept.refl _).alloc _⟩

theorem beqI (n z : Nat) : ((n : Int) == (z : Int)) = decide (n = z) := by
  rw [Bool.eq_iff_iff, beq_iff_eq, decide_eq_true_eq]; omega
theorem sym1_z (c : UInt8) (z : Int) (hz : (c.toNat : Int) = z) : sym1 c = ((z == 60) || ((z == 61) || ((z == 40) || ((z == 41) || ((z == 44) || ((z == 58) || ((z == 43) || ((z == 45) || ((z == 42)))))))))) := by
  subst hz
  unfold sym1
  simp only [← beqI]
  rfl
theorem sym2_z (c : UInt8) (z : Int) (hz : (c.toNat : Int) = z) : sym2 c = ((z == 60) || ((z == 61) || (z == 33))) := by
  subst hz
  unfold sym2
  simp only [← beqI]
  rfl
def twoB (l : List UInt8) (c : UInt8) : Bool := (l[1]? == some 61) && sym2 c
theorem lxSym_two {l : List UInt8} {c : UInt8} (h0 : l[0]? = some c) : lxSym l = if twoB l c then ⟨0, 7, l.take 2, 0, 2⟩ else if sym1 c then ⟨0, 7, l.take 1, 0, 1⟩ else .err 2 := by
  cases l with
  | nil => cases h0
  | cons d r =>
    have : d = c := Option.some.inj h0
    subst this
    rw [lxSym]
    cases r with
    | nil => simp [twoB]
    | cons e q =>
      by_cases h61 : e = 61
      · subst h61
        simp [twoB]
      · simp [twoB, h61]
set_option maxRecDepth 100000 in
set_option maxHeartbeats 8000000 in
theorem rsymbol_any (s : ByteArray) (i : Nat) (hs : s.size ≤ 1000000) (hi : i < s.size) (w : World) :
    Calls Tryd.prog 80 #[.string s, .int .i64 i] w (rPost (lxSym ((L s).drop i)) i w) := by
  have h0 : ((L s).drop i)[0]? = some (s[i]'hi) := by rw [List.getElem?_drop]; exact L_get s i hi
  have hL := lxSym_two h0
  have e1 : ((L s).drop i).take 1 = L (s.extract i (i + 1)) := (ext_mid s i 1).symm
  have e2 : ((L s).drop i).take 2 = L (s.extract i (i + 2)) := (ext_mid s i 2).symm
  rw [e1, e2] at hL
  have hT : twoB ((L s).drop i) (s[i]'hi) = (((L s)[i + 1]? == some 61) && sym2 (s[i]'hi)) := by unfold twoB; rw [List.getElem?_drop]
  obtain ⟨z, hz⟩ : ∃ z : Int, ((s[i]'hi).toNat : Int) = z := ⟨_, rfl⟩
  have HS1 := Lib.hid (sym1_z _ z hz)
  have HS2 := Lib.hid (sym2_z _ z hz)
  have HLX := Lib.hid hL
  have HTW := Lib.hid hT
  clear hL hT e1 e2 h0
  have hii : (i : Int) < s.size := by omega
  generalize sym1 (s[i]'hi) = S1 at *
  generalize sym2 (s[i]'hi) = S2 at *
  generalize twoB ((L s).drop i) (s[i]'hi) = T2 at *
  go_enter Tryd.func80, Tryd.ntmps80
  go_upto_region 3 with fail
  go_cut [45] (fun v wx => v = .bool S1 ∧ wx = w.alloc (.cells #[.int .i64 0, .string ⟨#[]⟩, .int .i64 0, .int .i64 0] 30))
  case first =>
    cases h60 : (z == 60)
    · cases h61 : (z == 61)
      · cases h40 : (z == 40)
        · cases h41 : (z == 41)
          · cases h44 : (z == 44)
            · cases h58 : (z == 58)
              · cases h43 : (z == 43)
                · cases h45 : (z == 45)
                  · cases h42 : (z == 42)
                    · go_wp2_with fail
                      go_meet
                      case rel => exact ⟨congrArg Value.bool (by rw [HS1.out]; simp [h60, h61, h40, h41, h44, h58, h43, h45, h42]), rfl⟩
                    · go_wp2_with fail
                      go_meet
                      case rel => exact ⟨congrArg Value.bool (by rw [HS1.out]; simp [h60, h61, h40, h41, h44, h58, h43, h45, h42]), rfl⟩
                  · go_wp2_with fail
                    go_meet
                    case rel => exact ⟨congrArg Value.bool (by rw [HS1.out]; simp [h60, h61, h40, h41, h44, h58, h43, h45]), rfl⟩
                · go_wp2_with fail
                  go_meet
                  case rel => exact ⟨congrArg Value.bool (by rw [HS1.out]; simp [h60, h61, h40, h41, h44, h58, h43]), rfl⟩
              · go_wp2_with fail
                go_meet
                case rel => exact ⟨congrArg Value.bool (by rw [HS1.out]; simp [h60, h61, h40, h41, h44, h58]), rfl⟩
            · go_wp2_with fail
              go_meet
              case rel => exact ⟨congrArg Value.bool (by rw [HS1.out]; simp [h60, h61, h40, h41, h44]), rfl⟩
          · go_wp2_with fail
            go_meet
            case rel => exact ⟨congrArg Value.bool (by rw [HS1.out]; simp [h60, h61, h40, h41]), rfl⟩
        · go_wp2_with fail
          go_meet
          case rel => exact ⟨congrArg Value.bool (by rw [HS1.out]; simp [h60, h61, h40]), rfl⟩
      · go_wp2_with fail
        go_meet
        case rel => exact ⟨congrArg Value.bool (by rw [HS1.out]; simp [h60, h61]), rfl⟩
    · go_wp2_with fail
      go_meet
      case rel => exact ⟨congrArg Value.bool (by rw [HS1.out]; simp [h60]), rfl⟩
  case rest =>
    obtain ⟨rfl, rfl⟩ := hcut
    by_cases hl : i + 1 < s.size
    · have hg := L_get s (i + 1) hl
      have hli : (i : Int) + 1 < s.size := by omega
      have hl2 : (i : Int) + 2 ≤ s.size := by omega
      have e61 : (((s[i + 1]'hl).toNat : Int) == 61) = (some (s[i + 1]'hl) == some 61) := by
        rw [Bool.eq_iff_iff, beq_iff_eq, beq_iff_eq, Option.some.injEq, ← UInt8.toNat_inj]
        have : (61 : UInt8).toNat = 61 := rfl
        omega
      have HE := Lib.hid (show T2 = ((((s[i + 1]'hl).toNat : Int) == 61) && S2) by rw [HTW.out, hg, e61])
      clear hg e61
      cases h61 : (((s[i + 1]'hl).toNat : Int) == 61)
      · have hT2 : T2 = false := by rw [HE.out, h61]; rfl
        cases S1
        · have HR := Lib.hid (show lxSym ((L s).drop i) = .err 2 by rw [HLX.out, hT2]; rfl)
          clear hT2
          go_wp2_with fail
          refine bodyPost_ret (v := .tuple #[.agg #[.int .i64 0, .string ⟨#[]⟩, .int .i64 0, .int .i64 0], .int .i64 0, .int .i64 2]) (by simp [results, Tryd.results80, go_sem]) rfl ?_
          unfold rPost
          rw [HR.out]
          exact ⟨0, ⟨#[]⟩, 0, 0, 0, rfl, fun h => absurd h (by decide), (Kept.refl _).alloc _⟩
        · have HR := Lib.hid (show lxSym ((L s).drop i) = ⟨0, 7, L (s.extract i (i + 1)), 0, 1⟩ by rw [HLX.out, hT2]; rfl)
          clear hT2
          go_wp2_with fail
          refine bodyPost_ret (v := .tuple #[.agg #[.int .i64 7, .string (s.extract i (i + 1)), .int .i64 0, .int .i64 i], .int .i64 ((i : Int) + 1), .int .i64 0]) (by simp [results, Tryd.results80, go_sem]) rfl ?_
          unfold rPost
          rw [HR.out]
          exact ⟨_, _, _, _, _, rfl, fun _ => ⟨rfl, (bs_L _).symm, rfl, rfl, rfl⟩, (Kept.refl _).alloc _⟩
      · cases z60 : (z == 60)
        · cases z61 : (z == 61)
          · cases z33 : (z == 33)
            · have hT2 : T2 = false := by rw [HE.out, h61, HS2.out, z60, z61, z33]; rfl
              cases S1
              · have HR := Lib.hid (show lxSym ((L s).drop i) = .err 2 by rw [HLX.out, hT2]; rfl)
                clear hT2
                go_wp2_with fail
                refine bodyPost_ret (v := .tuple #[.agg #[.int .i64 0, .string ⟨#[]⟩, .int .i64 0, .int .i64 0], .int .i64 0, .int .i64 2]) (by simp [results, Tryd.results80, go_sem]) rfl ?_
                unfold rPost
                rw [HR.out]
                exact ⟨0, ⟨#[]⟩, 0, 0, 0, rfl, fun h => absurd h (by decide), (Kept.refl _).alloc _⟩
              · have HR := Lib.hid (show lxSym ((L s).drop i) = ⟨0, 7, L (s.extract i (i + 1)), 0, 1⟩ by rw [HLX.out, hT2]; rfl)
                clear hT2
                go_wp2_with fail
                refine bodyPost_ret (v := .tuple #[.agg #[.int .i64 7, .string (s.extract i (i + 1)), .int .i64 0, .int .i64 i], .int .i64 ((i : Int) + 1), .int .i64 0]) (by simp [results, Tryd.results80, go_sem]) rfl ?_
                unfold rPost
                rw [HR.out]
                exact ⟨_, _, _, _, _, rfl, fun _ => ⟨rfl, (bs_L _).symm, rfl, rfl, rfl⟩, (Kept.refl _).alloc _⟩
            · have hT2 : T2 = true := by rw [HE.out, h61, HS2.out, z60, z61, z33]; rfl
              have HR := Lib.hid (show lxSym ((L s).drop i) = ⟨0, 7, L (s.extract i (i + 2)), 0, 2⟩ by rw [HLX.out, hT2]; rfl)
              clear hT2
              cases S1
              all_goals
                go_wp2_with fail
                refine bodyPost_ret (v := .tuple #[.agg #[.int .i64 7, .string (s.extract i (i + 2)), .int .i64 0, .int .i64 i], .int .i64 ((i : Int) + 2), .int .i64 0]) (by simp [results, Tryd.results80, go_sem]) rfl ?_
                unfold rPost
                rw [HR.out]
                exact ⟨_, _, _, _, _, rfl, fun _ => ⟨rfl, (bs_L _).symm, rfl, rfl, rfl⟩, (Kept.refl _).alloc _⟩
          · have hT2 : T2 = true := by rw [HE.out, h61, HS2.out, z60, z61]; rfl
            have HR := Lib.hid (show lxSym ((L s).drop i) = ⟨0, 7, L (s.extract i (i + 2)), 0, 2⟩ by rw [HLX.out, hT2]; rfl)
            clear hT2
            cases S1
            all_goals
              go_wp2_with fail
              refine bodyPost_ret (v := .tuple #[.agg #[.int .i64 7, .string (s.extract i (i + 2)), .int .i64 0, .int .i64 i], .int .i64 ((i : Int) + 2), .int .i64 0]) (by simp [results, Tryd.results80, go_sem]) rfl ?_
              unfold rPost
              rw [HR.out]
              exact ⟨_, _, _, _, _, rfl, fun _ => ⟨rfl, (bs_L _).symm, rfl, rfl, rfl⟩, (Kept.refl _).alloc _⟩
        · have hT2 : T2 = true := by rw [HE.out, h61, HS2.out, z60]; rfl
          have HR := Lib.hid (show lxSym ((L s).drop i) = ⟨0, 7, L (s.extract i (i + 2)), 0, 2⟩ by rw [HLX.out, hT2]; rfl)
          clear hT2
          cases S1
          all_goals
            go_wp2_with fail
            refine bodyPost_ret (v := .tuple #[.agg #[.int .i64 7, .string (s.extract i (i + 2)), .int .i64 0, .int .i64 i], .int .i64 ((i : Int) + 2), .int .i64 0]) (by simp [results, Tryd.results80, go_sem]) rfl ?_
            unfold rPost
            rw [HR.out]
            exact ⟨_, _, _, _, _, rfl, fun _ => ⟨rfl, (bs_L _).symm, rfl, rfl, rfl⟩, (Kept.refl _).alloc _⟩
    · have hT2 : T2 = false := by
        rw [HTW.out, List.getElem?_eq_none (by rw [L_length]; omega)]; rfl
      have hli : ¬ ((i : Int) + 1 < s.size) := by omega
      cases S1
      · have HR := Lib.hid (show lxSym ((L s).drop i) = .err 2 by rw [HLX.out, hT2]; rfl)
        clear hT2
        go_wp2_with fail
        refine bodyPost_ret (v := .tuple #[.agg #[.int .i64 0, .string ⟨#[]⟩, .int .i64 0, .int .i64 0], .int .i64 0, .int .i64 2]) (by simp [results, Tryd.results80, go_sem]) rfl ?_
        unfold rPost
        rw [HR.out]
        exact ⟨0, ⟨#[]⟩, 0, 0, 0, rfl, fun h => absurd h (by decide), (Kept.refl _).alloc _⟩
      · have HR := Lib.hid (show lxSym ((L s).drop i) = ⟨0, 7, L (s.extract i (i + 1)), 0, 1⟩ by rw [HLX.out, hT2]; rfl)
        clear hT2
        go_wp2_with fail
        refine bodyPost_ret (v := .tuple #[.agg #[.int .i64 7, .string (s.extract i (i + 1)), .int .i64 0, .int .i64 i], .int .i64 ((i : Int) + 1), .int .i64 0]) (by simp [results, Tryd.results80, go_sem]) rfl ?_
        unfold rPost
        rw [HR.out]
        exact ⟨_, _, _, _, _, rfl, fun _ => ⟨rfl, (bs_L _).symm, rfl, rfl, rfl⟩, (Kept.refl _).alloc _⟩
end Go.Proofs.YtmlkgfacenajnaaDoor
