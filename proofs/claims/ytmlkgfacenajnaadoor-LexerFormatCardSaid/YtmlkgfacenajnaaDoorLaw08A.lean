/- Tokens of guerdonsame, and the fixed examples of the chapter on the lexer: awake returns true. -/
import Derived.Test.YtmlkgfacenajnaaDoorRLexD
import Derived.Test.YtmlkgfacenajnaaDoorLexH
import Derived.Test.YtmlkgfacenajnaaDoorFrameL
import Derived.Stop.LaidErr
namespace Go.Proofs.YtmlkgfacenajnaaDoor
open Go.ChangeShapes Go.WideShapes Go.ChangeAt Go.RowKit Go.Joins

/-- what the rows of the chapter say of the listed table -/
theorem env8 {W : World} (h : laidMetH Tryd.prog Rows.lexerTokenizeRow.laid W) : Mon W := by
  have h4 : laidMet Tryd.prog Rows.lexerTokenizeRow.laid W := h
  have t4 : Lib.TabIs Tryd.prog W "guerdon/date.monthLengths" .i64 mlens :=
    Lib.tabIs_of_head (g := 0) (t := 88) (e := 3) (n := 12) (by kernel_rfl) (by kernel_rfl) (by kernel_rfl) (by kernel_rfl) (by kernel_rfl) (by kernel_rfl) h4
  exact fun i hi => t4.cell (g := 0) (by kernel_rfl) i hi

/-- a token's cell -/
theorem Toks.at_ {w : World} {v : Value} {xs : List Tok} (h : Toks w v xs) : ∃ A cap, v = .slice A xs.length cap ∧ (0 < xs.length → ∃ b off, A = some ⟨b, off, none⟩ ∧ b < w.heap.size ∧
    ∀ j t, xs[j]? = some t → w.cell? ⟨b, off + j * 4, none⟩ = some (.int .i64 t.k) ∧ w.cell? ⟨b, off + j * 4 + 1, none⟩ = some (.string (bs t.t)) ∧ w.cell? ⟨b, off + j * 4 + 2, none⟩ = some (.int .i64 t.n) ∧ w.cell? ⟨b, off + j * 4 + 3, none⟩ = some (.int .i64 t.o)) := by
  obtain ⟨A, cap, hv, hx⟩ := h
  refine ⟨A, cap, hv, fun hp => ?_⟩
  obtain ⟨b, off, hA, hb, hc⟩ := hx hp
  exact ⟨b, off, hA, hb, fun j t hj => ⟨hc j t hj 0 _ rfl, hc j t hj 1 _ rfl, hc j t hj 2 _ rfl, hc j t hj 3 _ rfl⟩⟩

set_option maxRecDepth 100000 in
set_option maxHeartbeats 8000000 in
theorem tokens_same (va vb : Value) (xs : List Tok) (w : World) (ha : Toks w va xs) (hb : Toks w vb xs) (hn : xs.length ≤ 1000000) :
    Calls Tryd.prog 16 #[va, vb] w fun e w' => e = .returned (.bool true) ∧ Kept w w' := by
  obtain ⟨A, ca, rfl, hA⟩ := ha.at_
  obtain ⟨B, cb, rfl, hB⟩ := hb.at_
  obtain ⟨n, hxn⟩ : ∃ n, n = xs.length := ⟨_, rfl⟩
  rw [← hxn] at hA hB hn ⊢
  have HX := Lib.hid hxn
  clear hxn
  go_enter Tryd.func16, Tryd.ntmps16
  go_wp2_with fail
  go_loopw [5] (fun z wr => ∃ pos : Nat, pos ≤ n ∧ z = .int .i64 pos ∧ Kept w wr) (fun z _ => (n - intOf z).toNat)
  case atStart => exact ⟨0, Nat.zero_le _, rfl, Kept.refl _⟩
  case round =>
    obtain ⟨pos, hps, rfl, hK⟩ := hrel
    by_cases hp : pos < n
    · obtain ⟨b1, o1, rfl, hb1, hc1⟩ := hA (by omega)
      obtain ⟨b2, o2, rfl, hb2, hc2⟩ := hB (by omega)
      have hg : xs[pos]? = some (xs[pos]'(by have := HX.out; omega)) := List.getElem?_eq_getElem _
      obtain ⟨x0, x1, x2, x3⟩ := hc1 pos _ hg
      obtain ⟨y0, y1, y2, y3⟩ := hc2 pos _ hg
      clear hc1 hc2 hA hB
      generalize xs[pos]'(by have := HX.out; omega) = T at *
      clear hg
      have hw1 := Nat.lt_of_lt_of_le hb1 hK.size
      have hw2 := Nat.lt_of_lt_of_le hb2 hK.size
      have k0 := KW.cell hw1 (hK.cell (p := ⟨b1, _, none⟩) hb1 x0)
      have k1 := KW.cell hw1 (hK.cell (p := ⟨b1, _, none⟩) hb1 x1)
      have k2 := KW.cell hw1 (hK.cell (p := ⟨b1, _, none⟩) hb1 x2)
      have k3 := KW.cell hw1 (hK.cell (p := ⟨b1, _, none⟩) hb1 x3)
      have m0 := KW.cell hw2 (hK.cell (p := ⟨b2, _, none⟩) hb2 y0)
      have m1 := KW.cell hw2 (hK.cell (p := ⟨b2, _, none⟩) hb2 y1)
      have m2 := KW.cell hw2 (hK.cell (p := ⟨b2, _, none⟩) hb2 y2)
      have m3 := KW.cell hw2 (hK.cell (p := ⟨b2, _, none⟩) hb2 y3)
      clear x0 x1 x2 x3 y0 y1 y2 y3
      have hpi : (pos : Int) < n := by omega
      go_wp2_with fail
      refine wp_region_kept (by kernel_rfl) (by kernel_rfl) ?_
      repeat (go_big_quiet_step (fail))
      refine wpQuiet_nil ?_
      rintro _ ⟨⟨wx, hx2⟩, rfl⟩
      go_wp2_with fail
      go_roundw
      case rel => exact ⟨pos + 1, hp, by go_num, hK.trans hx2⟩
      case measure => simp only [intOf]; omega
    · have hpi : ¬ ((pos : Int) < n) := by omega
      go_wp2_with fail
      go_ret
      exact ⟨rfl, hK⟩
end Go.Proofs.YtmlkgfacenajnaaDoor
