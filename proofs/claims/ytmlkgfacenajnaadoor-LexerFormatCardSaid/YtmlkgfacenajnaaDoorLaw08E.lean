/- The walk of the law LexerFormat: the text and the error of Format are the reference's, for every list of tokens within the law's bounds. -/
import Derived.Test.YtmlkgfacenajnaaDoorLaw08B
import Derived.Test.YtmlkgfacenajnaaDoorRLexE
namespace Go.Proofs.YtmlkgfacenajnaaDoor
open Go.ChangeShapes Go.WideShapes Go.ChangeAt Go.RowKit Go.Joins

set_option maxRecDepth 100000 in
set_option maxHeartbeats 8000000 in
theorem lawLexFormat (v : Value) (xs : List Tok) (w : World) (hT : Toks w v xs) (hlen : xs.length ≤ maxLen) (htx : ∀ t, t ∈ xs → t.t.length ≤ maxLen) (hM : Mon w) :
    Calls Tryd.prog 6 #[v] w (LawPost w) := by
  unfold LawPost
  obtain ⟨A, cap, rfl, hA⟩ := hT.at_
  obtain ⟨n, hxn⟩ : ∃ n, n = xs.length := ⟨_, rfl⟩
  have HX := Lib.hid hxn
  rw [← hxn] at hT hA hlen ⊢
  have HT := Lib.hid hT
  clear hT
  clear hxn
  have hmx : maxLen = 9223372036854775807 := by unfold maxLen; rfl
  by_cases hbig : (100 : Int) < (n : Int)
  · go_enter Tryd.func6, Tryd.ntmps6
    go_wp2_with (go_at_call 13; refine (awake08_any _ hM).mono ?_; rintro e w' ⟨rfl, hk⟩)
    go_ret
    exact ⟨rfl, hk⟩
  · have HTX := Lib.hid htx
    clear htx
    go_enter Tryd.func6, Tryd.ntmps6
    go_wp2_with fail
    go_loopw [3] (fun z wr => ∃ pos : Nat, pos ≤ n ∧ z = .int .i64 pos ∧ Kept w wr ∧ ∀ j t, xs[j]? = some t → j < pos → t.t.length ≤ 200) (fun z _ => (n - intOf z).toNat)
    case atStart => exact ⟨0, Nat.zero_le _, rfl, Kept.refl _, fun _ _ _ h => absurd h (by omega)⟩
    case round =>
      obtain ⟨pos, hps, rfl, hK, hall⟩ := hrel
      have HALL := Lib.hid hall
      clear hall
      by_cases hp : pos < n
      · obtain ⟨b1, o1, rfl, hb1, hc1⟩ := hA (by omega)
        have hg : xs[pos]? = some (xs[pos]'(by have := HX.out; omega)) := List.getElem?_eq_getElem _
        obtain ⟨_, x1, _, _⟩ := hc1 pos _ hg
        have hTl : (xs[pos]'(by have := HX.out; omega)).t.length ≤ maxLen := HTX.out _ (List.getElem_mem _)
        have HG := Lib.hid hg
        clear hc1 hA hg
        generalize xs[pos]'(by have := HX.out; omega) = T at *
        have X1 := hK.cell (p := ⟨b1, _, none⟩) hb1 x1
        clear x1
        have hsz : (bs T.t).size = T.t.length := bs_size _
        have hpi : (pos : Int) < n := by omega
        by_cases h2 : (200 : Int) < ((bs T.t).size : Int)
        · go_wp2_with (go_at_call 13; refine (awake08_any _ (hM.kept hK)).mono ?_; rintro e w' ⟨rfl, hk⟩)
          go_ret
          exact ⟨rfl, hK.trans hk⟩
        · go_wp2_with fail
          go_roundw
          case rel =>
            refine ⟨pos + 1, hp, by go_num, hK, fun j t hj hjp => ?_⟩
            by_cases e : j = pos
            · subst e
              rw [HG.out] at hj
              obtain rfl := Option.some.inj hj
              omega
            · exact HALL.out j t hj (by omega)
          case measure => simp only [intOf]; omega
      · have hpi : ¬ ((pos : Int) < n) := by omega
        have hpn : pos = n := by omega
        have hsm : ∀ t, t ∈ xs → t.t.length ≤ 4000 := by
          intro t ht
          obtain ⟨j, hjl, rfl⟩ := List.mem_iff_getElem.1 ht
          have := HALL.out j _ (List.getElem?_eq_getElem hjl) (by have := HX.out; omega)
          omega
        have hx4 : xs.length ≤ 4000 := by have := HX.out; omega
        obtain ⟨S, c, HF, HR⟩ : ∃ (S : ByteArray) (c : Int), RowKit.Hid (∀ v w', Toks w' v xs → Mon w' → Calls Tryd.prog 19 #[v] w' fun e w2 => e = .returned (.tuple #[.string S, .int .i64 c]) ∧ Kept w' w2) ∧
            RowKit.Hid (∀ v w', Toks w' v xs → Calls Tryd.prog 20 #[v] w' fun e w2 => e = .returned (.tuple #[.string S, .int .i64 c]) ∧ Kept w' w2) :=
          ⟨bs (fmtR xs).1, (fmtR xs).2, Lib.hid fun v w' h1 h2 => format08_any v xs w' h1 h2 hx4 hsm, Lib.hid fun v w' h1 => rformat08_any v xs w' h1 hx4 hsm⟩
        have hself : (S.toList == S.toList) = true := by simp
        clear hsm hx4 hA HTX HALL
        go_wp2_with fail
        refine (HF.out _ _ (Recs.kept HT.out hK) (hM.kept hK)).mono ?_
        rintro e w1 ⟨rfl, k1⟩
        have hK1 := hK.trans k1
        go_wp2_with fail
        refine (HR.out _ _ (Recs.kept HT.out hK1)).mono ?_
        rintro e w2 ⟨rfl, k2⟩
        have hK2 := hK1.trans k2
        go_wp2_with (go_at_call 13; refine (awake08_any _ (hM.kept hK2)).mono ?_; rintro e w' ⟨rfl, hk⟩)
        go_ret
        exact ⟨rfl, hK2.trans hk⟩
end Go.Proofs.YtmlkgfacenajnaaDoor
