/- What source, formattable and Format of package lexer compute. -/
import Derived.Test.YtmlkgfacenajnaaDoorLexG
import Derived.Test.YtmlkgfacenajnaaDoorBld
import Derived.Deep.DeepCutAuto
namespace Go.Proofs.YtmlkgfacenajnaaDoor
open Go.RowKit

def tokV (t : Tok) : Value := .agg #[.int .i64 t.k, .string (bs t.t), .int .i64 t.n, .int .i64 t.o]
theorem src_six (t : List UInt8) : (⟨#[34]⟩ : ByteArray) ++ bs t ++ ⟨#[34]⟩ = bs (srcL 6 t) := by
  show bs [34] ++ bs t ++ bs [34] = _
  rw [bs_append, bs_append]; rfl
theorem srcL_len (k : Int) (t : List UInt8) : (srcL k t).length ≤ t.length + 2 := by
  unfold srcL
  split <;> simp
set_option maxRecDepth 100000 in
set_option maxHeartbeats 1000000 in
theorem source_any (t : Tok) (hl : t.t.length ≤ 100000) (w : World) :
    Calls Tryd.prog 49 #[tokV t] w fun e w' => e = .returned (.string (bs (srcL t.k t.t))) ∧ Kept w w' := by
  obtain ⟨k, l, n, o⟩ := t
  dsimp only at hl ⊢
  have hsz : (bs l).size ≤ 100000 := by rw [bs_size]; exact hl
  by_cases h6 : k = 6
  · have HR := Lib.hid (show (⟨#[34]⟩ : ByteArray) ++ bs l ++ ⟨#[34]⟩ = bs (srcL k l) by rw [h6]; exact src_six l)
    have k6 : (k == 6) = true := by rw [beq_iff_eq]; exact h6
    clear h6 hl
    unfold tokV
    dsimp only
    generalize bs l = T at *
    go_enter Tryd.func49, Tryd.ntmps49
    go_wp2_with fail
    go_ret
    exact ⟨congrArg (fun x => Ending.returned (Value.string x)) HR.out, (Kept.refl _).alloc _⟩
  · have HR := Lib.hid (show bs l = bs (srcL k l) by rw [srcL_no h6])
    have k6 : (k == 6) = false := by rw [beq_eq_false_iff_ne]; exact h6
    clear h6 hl
    unfold tokV
    dsimp only
    generalize bs l = T at *
    go_enter Tryd.func49, Tryd.ntmps49
    go_wp2_with fail
    go_ret
    exact ⟨congrArg (fun x => Ending.returned (Value.string x)) HR.out, (Kept.refl _).alloc _⟩

theorem bs_beq (a b : List UInt8) : ((bs a).toList == (bs b).toList) = decide (a = b) := by
  rw [toList_L, toList_L, L_bs, L_bs]
  by_cases h : a = b
  · subst h; simp
  · simp [h]
theorem fmtB_bad {t : Tok} {xs : List Tok} {a c : Int} (h : tokR (srcL t.k t.t) = (xs, a, c)) (hc : c ≠ 0) : fmtB t = false := by
  rw [fmtB, h, decide_eq_false hc]; rfl
theorem fmtB_len {t : Tok} {xs : List Tok} {a c : Int} (h : tokR (srcL t.k t.t) = (xs, a, c)) (hl : xs.length ≠ 1) : fmtB t = false := by
  rw [fmtB, h]
  match xs, hl with
  | [], _ => simp
  | [x], hl => exact absurd rfl hl
  | x :: y :: r, _ => simp
theorem fmtB_one {t x : Tok} {a : Int} (h : tokR (srcL t.k t.t) = ([x], a, 0)) : fmtB t = (decide (x.k = t.k) && (decide (x.t = t.t) && decide (x.n = t.n))) := by
  rw [fmtB, h]; rfl

set_option maxRecDepth 100000 in
set_option maxHeartbeats 8000000 in
theorem formattable_any (t : Tok) (hl : t.t.length ≤ 100000) (w : World) (hM : Mon w) :
    Calls Tryd.prog 46 #[tokV t] w fun e w' => e = .returned (.bool (fmtB t)) ∧ Kept w w' := by
  have hsl := srcL_len t.k t.t
  have HS := Lib.hid (fun w => source_any t hl w)
  have HT := Lib.hid (fun w hM => tokenize_any (bs (srcL t.k t.t)) (by rw [bs_size]; omega) w hM)
  rw [L_bs] at HT
  obtain ⟨⟨xs, a, c⟩, hr⟩ : ∃ p, tokR (srcL t.k t.t) = p := ⟨_, rfl⟩
  have HB := Lib.hid (fun hc => fmtB_bad hr hc)
  have HL := Lib.hid (fun hc => fmtB_len hr hc)
  have HO := Lib.hid (fun x (hx : xs = [x]) (hc : c = 0) => fmtB_one (t := t) (x := x) (a := a) (by rw [hr, hx, hc]))
  unfold tokPost at HT
  rw [hr] at HT
  clear hr hsl
  dsimp only at HT
  have hMM := fun (W : World) (h : Kept w W) => hM.kept h
  have hbq := bs_beq
  obtain ⟨k, l, n, o⟩ := t
  unfold tokV at HS ⊢
  dsimp only at HS HO HT ⊢
  generalize bs (srcL k l) = SRC at *
  by_cases hc : c = 0
  · subst hc
    by_cases h1 : xs.length = 1
    · obtain ⟨x, rfl⟩ := List.length_eq_one_iff.1 h1
      have HR := Lib.hid (HO.out x rfl rfl)
      clear HO HL HB h1
      go_enter Tryd.func46, Tryd.ntmps46
      go_wp2_with fail
      refine (HS.out _).mono ?_
      rintro e w1 ⟨rfl, k1⟩
      have hK1 := ((Kept.refl w).alloc (.cells #[.int .i64 k, .string (bs l), .int .i64 n, .int .i64 o] 30)).trans k1
      go_wp2_with fail
      refine (HT.out _ (hMM _ hK1)).mono ?_
      rintro e w2 ⟨v, rfl, hT, k2⟩
      obtain ⟨A, cap, rfl, hA⟩ := hT
      obtain ⟨b, off, rfl, hb, hcl⟩ := hA (by simp)
      obtain ⟨x0, x1, x2, x3⟩ := x
      have c0 := hcl 0 ⟨x0, x1, x2, x3⟩ rfl 0 _ rfl
      have c1 := hcl 0 ⟨x0, x1, x2, x3⟩ rfl 1 _ rfl
      have c2 := hcl 0 ⟨x0, x1, x2, x3⟩ rfl 2 _ rfl
      simp only [Nat.zero_mul, Nat.add_zero] at c0 c1 c2
      have B := (k1.trans k2).blk1
      have q0 := KW.cell hb c0
      have q1 := KW.cell hb c1
      have q2 := KW.cell hb c2
      have r0 := KW.cell B.lt (B.cell 0)
      have r1 := KW.cell B.lt (B.cell 1)
      have r2 := KW.cell B.lt (B.cell 2)
      clear hcl hA c0 c1 c2
      have hb1 := hbq x1 l
      have HBQ := Lib.hid hb1
      clear hb1 hbq
      simp only [List.length_cons, List.length_nil] at *
      cases e0 : (x0 == k)
      · have HF := Lib.hid (show fmtB ⟨k, l, n, o⟩ = false by rw [HR.out]; simp [beq_eq_false_iff_ne.1 e0])
        go_wp2_with fail
        refine wp_region_kept (by kernel_rfl) (by kernel_rfl) ?_
        repeat (go_big_quiet_step (fail))
        refine wpQuiet_nil ?_
        rintro _ ⟨⟨wx, hx2⟩, rfl⟩
        clear q0 q1 q2 r0 r1 r2
        go_wp2_with fail
        go_ret
        exact ⟨ret_bool HF.out.symm, (hK1.trans k2).trans hx2⟩
      · cases e1 : ((bs x1).toList == (bs l).toList)
        · have HF := Lib.hid (show fmtB ⟨k, l, n, o⟩ = false by
            have := HBQ.out; rw [e1] at this
            rw [HR.out, ← this]; simp)
          go_wp2_with fail
          refine wp_region_kept (by kernel_rfl) (by kernel_rfl) ?_
          repeat (go_big_quiet_step (fail))
          refine wpQuiet_nil ?_
          rintro _ ⟨⟨wx, hx2⟩, rfl⟩
          clear q0 q1 q2 r0 r1 r2
          go_wp2_with fail
          go_ret
          exact ⟨ret_bool HF.out.symm, (hK1.trans k2).trans hx2⟩
        · have HF := Lib.hid (show fmtB ⟨k, l, n, o⟩ = (x2 == n) by
            have h1 := HBQ.out; rw [e1] at h1
            rw [HR.out, ← h1, decide_eq_true (beq_iff_eq.1 e0)]
            rw [Bool.eq_iff_iff]; simp)
          go_wp2_with fail
          refine wp_region_kept (by kernel_rfl) (by kernel_rfl) ?_
          repeat (go_big_quiet_step (fail))
          refine wpQuiet_nil ?_
          rintro _ ⟨⟨wx, hx2⟩, rfl⟩
          clear q0 q1 q2 r0 r1 r2
          go_wp2_with fail
          go_ret
          exact ⟨ret_bool HF.out.symm, (hK1.trans k2).trans hx2⟩
    · have HR := Lib.hid (HL.out h1)
      have h1b : ((xs.length : Int) == 1) = false := by rw [beq_eq_false_iff_ne]; omega
      clear HL HB HO h1 hbq
      go_enter Tryd.func46, Tryd.ntmps46
      go_wp2_with fail
      refine (HS.out _).mono ?_
      rintro e w1 ⟨rfl, k1⟩
      have hK1 := ((Kept.refl w).alloc (.cells #[.int .i64 k, .string (bs l), .int .i64 n, .int .i64 o] 30)).trans k1
      go_wp2_with fail
      refine (HT.out _ (hMM _ hK1)).mono ?_
      rintro e w2 ⟨v, rfl, hT, k2⟩
      obtain ⟨A, cap, rfl, hA⟩ := hT
      clear hA
      generalize xs.length = m at *
      go_wp2_with fail
      refine wp_region_kept (by kernel_rfl) (by kernel_rfl) ?_
      repeat (go_big_quiet_step (fail))
      refine wpQuiet_nil ?_
      rintro _ ⟨⟨wx, hx2⟩, rfl⟩
      go_wp2_with fail
      go_ret
      exact ⟨ret_bool HR.out.symm, (hK1.trans k2).trans hx2⟩
  · have HR := Lib.hid (HB.out hc)
    have hcb : (c == 0) = false := by rw [beq_eq_false_iff_ne]; exact hc
    clear HL HB HO hc hbq
    go_enter Tryd.func46, Tryd.ntmps46
    go_wp2_with fail
    refine (HS.out _).mono ?_
    rintro e w1 ⟨rfl, k1⟩
    have hK1 := ((Kept.refl w).alloc (.cells #[.int .i64 k, .string (bs l), .int .i64 n, .int .i64 o] 30)).trans k1
    go_wp2_with fail
    refine (HT.out _ (hMM _ hK1)).mono ?_
    rintro e w2 ⟨v, rfl, hT, k2⟩
    clear hT
    go_wp2_with fail
    refine wp_region_kept (by kernel_rfl) (by kernel_rfl) ?_
    repeat (go_big_quiet_step (fail))
    refine wpQuiet_nil ?_
    rintro _ ⟨⟨wx, hx2⟩, rfl⟩
    go_wp2_with fail
    go_ret
    exact ⟨ret_bool HR.out.symm, (hK1.trans k2).trans hx2⟩
end Go.Proofs.YtmlkgfacenajnaaDoor
