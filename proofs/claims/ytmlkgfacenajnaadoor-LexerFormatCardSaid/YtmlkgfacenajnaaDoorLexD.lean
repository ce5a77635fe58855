/- What scanString of package lexer computes. -/
import Derived.Test.YtmlkgfacenajnaaDoorLexC
namespace Go.Proofs.YtmlkgfacenajnaaDoor
open Go.RowKit

theorem lxStr_five {l : List UInt8} (h : ¬ (l.drop 1)[lead_of inStr (l.drop 1)]? = some 34) : lxStr l = .err 5 := by rw [lxStr, if_neg h]
theorem lxStr_two {l : List UInt8} (h : (l.drop 1)[lead_of inStr (l.drop 1)]? = some 34) (h2 : ((l.drop 1).take (lead_of inStr (l.drop 1))).all printB = false) : lxStr l = .err 2 := by
  rw [lxStr, if_pos h, h2]; rfl
theorem lxStr_four {l : List UInt8} (h : (l.drop 1)[lead_of inStr (l.drop 1)]? = some 34) (h2 : ((l.drop 1).take (lead_of inStr (l.drop 1))).all printB = true) (h3 : 64 < lead_of inStr (l.drop 1)) : lxStr l = .err 4 := by
  rw [lxStr, if_pos h, if_pos h2, if_pos h3]
theorem lxStr_ok {l : List UInt8} (h : (l.drop 1)[lead_of inStr (l.drop 1)]? = some 34) (h2 : ((l.drop 1).take (lead_of inStr (l.drop 1))).all printB = true) (h3 : ¬ 64 < lead_of inStr (l.drop 1)) :
    lxStr l = ⟨0, 6, (l.drop 1).take (lead_of inStr (l.drop 1)), 0, lead_of inStr (l.drop 1) + 2⟩ := by
  rw [lxStr, if_pos h, if_pos h2, if_neg h3]
theorem all_take_succ {p : UInt8 → Bool} {T : ByteArray} {k : Nat} (hk : k < T.size) (h : ((L T).take k).all p = true) (hp : p (T[k]'hk) = true) : ((L T).take (k + 1)).all p = true := by
  rw [L_take T k hk, List.all_append, h]; simp [hp]
theorem all_not {p : UInt8 → Bool} {T : ByteArray} {k : Nat} (hk : k < T.size) (hp : p (T[k]'hk) = false) : (L T).all p = false := by
  rw [← List.take_append_drop k (L T), List.all_append, L_drop T k hk, List.all_cons, hp]; simp

set_option maxRecDepth 100000 in
set_option maxHeartbeats 4000000 in
theorem scanString_any (s : ByteArray) (hs : s.size ≤ 1000000) (h0 : 1 ≤ s.size) (w : World) :
    Calls Tryd.prog 73 #[.string s] w fun e w' => e = .returned (srV (lxStr (L s))) ∧ Kept w w' := by
  have hx : (s.extract 1 s.size).size ≤ 1000000 := by rw [ByteArray.size_extract]; omega
  have H := fun w => idxAny_any (s.extract 1 s.size) hx w
  rw [ext_drop] at H
  have hle := lead_of_le inStr ((L s).drop 1)
  have hen := lead_of_end inStr ((L s).drop 1)
  rw [List.length_drop, L_length] at hle
  have h0i : (1 : Int) ≤ s.size := by omega
  by_cases hend : lead_of inStr ((L s).drop 1) < s.size - 1
  · have hq : idxQ ((L s).drop 1) = (lead_of inStr ((L s).drop 1) : Nat) := by rw [idxQ, if_pos (by rw [List.length_drop, L_length]; exact hend)]
    have R5 := Lib.hid (fun h => lxStr_five (l := L s) h)
    have R2 := Lib.hid (fun h h2 => lxStr_two (l := L s) h h2)
    have R4 := Lib.hid (fun h h2 h3 => lxStr_four (l := L s) h h2 h3)
    have R0 := Lib.hid (fun h h2 h3 => lxStr_ok (l := L s) h h2 h3)
    have hqq : ∀ c, ((L s).drop 1)[lead_of inStr ((L s).drop 1)]? = some c → inStr c = false := by
      intro c hc
      rcases hen with he | ⟨d, hd, hp⟩
      · rw [he] at hc; cases hc
      · rw [hd] at hc
        have : d = c := Option.some.inj hc
        rw [← this]; exact hp
    rw [hq] at H
    clear hq hen
    have hT : L (s.extract 1 (1 + lead_of inStr ((L s).drop 1))) = ((L s).drop 1).take (lead_of inStr ((L s).drop 1)) := by rw [L_extract]; simp
    rw [← hT] at R2 R4 R0
    clear hT
    generalize lead_of inStr ((L s).drop 1) = j at *
    have hg : ((L s).drop 1)[j]? = some (s[1 + j]'(by omega)) := by rw [List.getElem?_drop]; exact L_get s (1 + j) (by omega)
    have hin := hqq _ hg
    clear hqq
    have HH := Lib.hid H
    clear H
    have hi1 : (1 : Int) + j < s.size := by omega
    have HG := Lib.hid hg
    clear hg
    by_cases h10 : (s[1 + j]'(by omega)).toNat = 10
    · have HR := Lib.hid (R5.out (by
        rw [HG.out]
        intro e
        have : s[1 + j] = 34 := Option.some.inj e
        rw [this] at h10; exact absurd h10 (by decide)))
      have h10b : (((s[1 + j]'(by omega)).toNat : Int) == 10) = true := by rw [beq_iff_eq]; omega
      clear h10 hin
      go_enter Tryd.func73, Tryd.ntmps73
      go_wp2_with (go_at_call 99; refine (HH.out _).mono ?_; rintro e w' ⟨rfl, k1⟩; have B := k1.blk1; have b := B.cell; have l := B.lt; have f := B.frozen)
      refine bodyPost_ret (v := srV (lxStr (L s))) (by rw [HR.out]; simp [srV, SR.err, bs, results, Tryd.results73, go_sem, b]) rfl ⟨rfl, ?_⟩
      repeat refine Kept.setCell ?_ (by simp only; omega) _
      exact ((Kept.refl _).alloc _).trans k1
    · have h34 : (s[1 + j]'(by omega)).toNat = 34 := by
        rcases Nat.lt_or_ge 34 (s[1 + j]'(by omega)).toNat with h | h
        · exact absurd ((inStr_iff _).2 ⟨by omega, h10⟩) (by rw [hin]; decide)
        · by_cases e : (s[1 + j]'(by omega)).toNat = 34
          · exact e
          · exact absurd ((inStr_iff _).2 ⟨e, h10⟩) (by rw [hin]; decide)
      have HQ := Lib.hid (show ((L s).drop 1)[j]? = some 34 by
        rw [HG.out]; congr 1; exact UInt8.toNat_inj.1 h34)
      have h10b : (((s[1 + j]'(by omega)).toNat : Int) == 10) = false := by rw [beq_eq_false_iff_ne]; omega
      have hTs : (s.extract 1 (1 + j)).size = j := by rw [ByteArray.size_extract]; omega
      have hj2 : (1 : Int) + (j : Int) ≤ s.size := by omega
      clear h10 hin h34
      have HTs := Lib.hid hTs
      clear hTs
      go_enter Tryd.func73, Tryd.ntmps73
      go_wp2_with (go_at_call 99; refine (HH.out _).mono ?_; rintro e w' ⟨rfl, k1⟩)
      have e26 : min (1 + j) s.size - 1 = j := by omega
      rw [e26]
      clear e26
      have hTs := HTs.out
      generalize s.extract 1 (1 + j) = T at *
      clear HTs
      have HK := Lib.hid (((Kept.refl w).alloc (.cells #[.int .i64 0, .string ⟨#[]⟩, .int .i64 0, .int .i64 0] 30)).trans k1)
      have B := k1.blk1
      have b := B.cell
      have l := B.lt
      have f := B.frozen
      clear k1 B
      go_loop [27] (fun x => ∃ k : Nat, x = .int .i64 (k : Int) ∧ k ≤ j ∧ ((L T).take k).all printB = true) (fun x => j - (intOf x).toNat)
      case atStart => exact ⟨0, rfl, Nat.zero_le _, rfl⟩
      case round =>
        obtain ⟨k, rfl, hk, hall⟩ := hrel
        by_cases hlt : k < j
        · have hkT : k < T.size := by omega
          have hki : (k : Int) < T.size := by omega
          rcases (show (printB (T[k]'hkT) = true ∧ 32 ≤ (T[k]'hkT).toNat ∧ (T[k]'hkT).toNat ≤ 126) ∨ (printB (T[k]'hkT) = false ∧ (T[k]'hkT).toNat < 32) ∨ (printB (T[k]'hkT) = false ∧ 32 ≤ (T[k]'hkT).toNat ∧ 126 < (T[k]'hkT).toNat) by
            unfold printB
            by_cases a : 32 ≤ (T[k]'hkT).toNat <;> by_cases c : (T[k]'hkT).toNat ≤ 126 <;> simp [a, c] <;> omega) with ⟨h1, h2, h3⟩ | ⟨h1, h2⟩ | ⟨h1, h2, h3⟩
          · have HA := Lib.hid (all_take_succ hkT hall h1)
            clear hall h1
            go_wp2_with fail
            go_round
            case rel => exact ⟨k + 1, by go_num, hlt, HA.out⟩
            case measure => simp [intOf]; omega
          all_goals
            have HR := Lib.hid (R2.out HQ.out (all_not hkT h1))
            clear hall h1
            go_wp2_with fail
            refine bodyPost_ret (v := srV (lxStr (L s))) (by rw [HR.out]; simp [srV, SR.err, bs, results, Tryd.results73, go_sem, b]) rfl ⟨rfl, ?_⟩
            repeat refine Kept.setCell ?_ (by simp only; omega) _
            exact HK.out
        · have hall2 : (L T).all printB = true := by
            rw [List.take_of_length_le (by rw [L_length]; omega)] at hall; exact hall
          clear hall
          by_cases h64 : 64 < j
          · have HR := Lib.hid (R4.out HQ.out hall2 h64)
            clear hall2
            go_wp2_with fail
            refine bodyPost_ret (v := srV (lxStr (L s))) (by rw [HR.out]; simp [srV, SR.err, bs, results, Tryd.results73, go_sem, b]) rfl ⟨rfl, ?_⟩
            repeat refine Kept.setCell ?_ (by simp only; omega) _
            exact HK.out
          · have HR := Lib.hid (R0.out HQ.out hall2 h64)
            clear hall2
            go_wp2_with fail
            refine bodyPost_ret (v := srV (lxStr (L s))) (by rw [HR.out]; simp [srV, results, Tryd.results73, go_sem, b]) rfl ⟨rfl, ?_⟩
            repeat refine Kept.setCell ?_ (by simp only; omega) _
            exact HK.out
  · have hq : idxQ ((L s).drop 1) = -1 := by rw [idxQ, if_neg (by rw [List.length_drop, L_length]; exact hend)]
    have HR := Lib.hid (lxStr_five (l := L s) (by
      rw [List.getElem?_eq_none (by rw [List.length_drop, L_length]; omega)]
      intro e; cases e))
    rw [hq] at H
    clear hq hen hle
    have HH := Lib.hid H
    clear H
    go_enter Tryd.func73, Tryd.ntmps73
    go_wp2_with (go_at_call 99; refine (HH.out _).mono ?_; rintro e w' ⟨rfl, k1⟩; have B := k1.blk1; have b := B.cell; have l := B.lt; have f := B.frozen)
    refine bodyPost_ret (v := srV (lxStr (L s))) (by rw [HR.out]; simp [srV, SR.err, bs, results, Tryd.results73, go_sem, b]) rfl ⟨rfl, ?_⟩
    repeat refine Kept.setCell ?_ (by simp only; omega) _
    exact ((Kept.refl _).alloc _).trans k1
end Go.Proofs.YtmlkgfacenajnaaDoor
