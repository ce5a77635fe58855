/- What guerdonsame.Strings computes: whether two slices of strings read alike. -/
import Derived.Test.YtplconloofpakaaDoorStrs
namespace Go.Proofs.YtplconloofpakaaDoor
open Go.RowKit

theorem neq_str (X Y : ByteArray) : (X.toList == Y.toList) = decide (X = Y) := by
  rw [toList_L, toList_L]
  by_cases h : X = Y
  · rw [h]; simp
  · have : L X ≠ L Y := fun e => h (L_inj.1 e)
    simp [h, this]
set_option maxRecDepth 100000 in
set_option maxHeartbeats 4000000 in
theorem same_any (va vb : Value) (xs ys : List ByteArray) (w : World) (ha : Strs w va xs) (hb : Strs w vb ys) (hy : ys.length ≤ 1000000) :
    Calls Tryd.prog 42 #[va, vb] w fun e w' => e = .returned (.bool (decide (xs = ys))) ∧ Kept w w' := by
  obtain ⟨A, ca, rfl, hA⟩ := ha
  obtain ⟨B, cb, rfl, hB⟩ := hb
  by_cases hl : xs.length = ys.length
  · obtain ⟨n, hn⟩ : ∃ n, n = xs.length := ⟨_, rfl⟩
    rw [← hn] at hl hA ⊢
    rw [← hl] at hB hy ⊢
    have HLx := Lib.hid hn
    have HLy := Lib.hid hl
    clear hn hl
    go_enter Tryd.func42, Tryd.ntmps42
    go_wp2_with fail
    go_loopw [5] (fun z wr => ∃ pos : Nat, pos ≤ n ∧ z = .int .i64 pos ∧ xs.take pos = ys.take pos ∧ Kept w wr) (fun z _ => (n - intOf z).toNat)
    case atStart => exact ⟨0, Nat.zero_le _, rfl, rfl, Kept.refl _⟩
    case round =>
      obtain ⟨pos, hps, rfl, heq, hK⟩ := hrel
      by_cases hp : pos < n
      · obtain ⟨b1, o1, rfl, hb1, hc1⟩ := hA (by omega)
        obtain ⟨b2, o2, rfl, hb2, hc2⟩ := hB (by omega)
        have lx : pos < xs.length := by have := HLx.out; omega
        have ly : pos < ys.length := by have := HLy.out; omega
        have c1 := hK.cell (p := ⟨b1, o1 + pos, none⟩) hb1 (hc1 pos hp)
        have c2 := hK.cell (p := ⟨b2, o2 + pos, none⟩) hb2 (hc2 pos hp)
        have e1 : xs[pos]?.getD ⟨#[]⟩ = xs[pos]'lx := by rw [List.getElem?_eq_getElem (by assumption)]; rfl
        have e2 : ys[pos]?.getD ⟨#[]⟩ = ys[pos]'ly := by rw [List.getElem?_eq_getElem (by assumption)]; rfl
        rw [e1] at c1
        rw [e2] at c2
        have hT : xs.take (pos + 1) = xs.take pos ++ [xs[pos]'lx] := by rw [List.take_add_one, List.getElem?_eq_getElem (by assumption)]; rfl
        have hT2 : ys.take (pos + 1) = ys.take pos ++ [ys[pos]'ly] := by rw [List.take_add_one, List.getElem?_eq_getElem (by assumption)]; rfl
        have HNE := Lib.hid (fun (h : xs[pos]'lx ≠ ys[pos]'ly) => (show decide (xs = ys) = false by
          rw [decide_eq_false_iff_not]; intro e; subst e; exact h rfl))
        have HT := Lib.hid (fun (h : xs[pos]'lx = ys[pos]'ly) => (show xs.take (pos + 1) = ys.take (pos + 1) by rw [hT, hT2, heq, h]))
        clear hT hT2 e1 e2 hc1 hc2 hA hB
        generalize xs[pos]'lx = X at *
        generalize ys[pos]'ly = Y at *
        clear lx ly
        have hw1 := Nat.lt_of_lt_of_le hb1 hK.size
        have hw2 := Nat.lt_of_lt_of_le hb2 hK.size
        have k1 : ∀ x : KW wr, x.W.cell? ⟨b1, o1 + pos, none⟩ = some (.string X) := fun x => KW.cell hw1 c1 x
        have k2 : ∀ x : KW wr, x.W.cell? ⟨b2, o2 + pos, none⟩ = some (.string Y) := fun x => KW.cell hw2 c2 x
        have hpi : (pos : Int) < n := by omega
        clear c1 c2
        cases hd : decide (X = Y)
        · have hd' : X ≠ Y := by simpa using hd
          have HR := Lib.hid (HNE.out hd')
          rw [← neq_str] at hd
          clear hd' heq
          go_wp2_with fail
          refine wp_region_kept (by kernel_rfl) (by kernel_rfl) ?_
          repeat (go_big_quiet_step (fail))
          refine wpQuiet_nil ?_
          rintro _ ⟨⟨wx, hx2⟩, rfl⟩
          go_wp2_with fail
          go_ret
          exact ⟨ret_bool HR.out.symm, hK.trans hx2⟩
        · have hd' : X = Y := by simpa using hd
          have HR := Lib.hid (HT.out hd')
          rw [← neq_str] at hd
          clear hd' heq
          go_wp2_with fail
          refine wp_region_kept (by kernel_rfl) (by kernel_rfl) ?_
          repeat (go_big_quiet_step (fail))
          refine wpQuiet_nil ?_
          rintro _ ⟨⟨wx, hx2⟩, rfl⟩
          go_wp2_with fail
          go_roundw
          case rel => exact ⟨pos + 1, hp, by go_num, HR.out, hK.trans hx2⟩
          case measure => simp only [intOf]; omega
      · have HR := Lib.hid (show decide (xs = ys) = true by
          rw [decide_eq_true_eq]
          have h1 := HLx.out
          have h2 := HLy.out
          rw [List.take_of_length_le (by omega), List.take_of_length_le (by omega)] at heq
          exact heq)
        clear heq
        go_wp2_with fail
        go_ret
        exact ⟨ret_bool HR.out.symm, hK⟩
  · have HR := Lib.hid (show decide (xs = ys) = false by
      rw [decide_eq_false_iff_not]; intro e; exact hl (by rw [e]))
    generalize xs.length = n at *
    generalize ys.length = m at *
    have hnm : ((n : Int) == m) = false := by rw [beq_eq_false_iff_ne]; omega
    clear hA hB
    go_enter Tryd.func42, Tryd.ntmps42
    go_wp2_with fail
    go_ret
    exact ⟨ret_bool HR.out.symm, Kept.refl _⟩
end Go.Proofs.YtplconloofpakaaDoor
