/- Plain laws of typed values: texts are read back, parsed texts are canonical. -/
import Derived.Test.YtemejaomfbhldaaGreatDoorValMath
namespace Go.Proofs.YtemejaomfbhldaaGreatDoor

theorem mul_split {x y u v P : Nat} (hu : u < P) (hv : v < P) (h : x * P + u = y * P + v) : x = y ∧ u = v := by
  have hxy : x = y := by
    rcases Nat.lt_trichotomy x y with hl | hl | hl
    · have := Nat.mul_le_mul_right P (show x + 1 ≤ y from hl)
      rw [Nat.succ_mul] at this
      omega
    · exact hl
    · have := Nat.mul_le_mul_right P (show y + 1 ≤ x from hl)
      rw [Nat.succ_mul] at this
      omega
  subst hxy
  exact ⟨rfl, by omega⟩
theorem val_inj : ∀ {a b : List UInt8}, a.all isDig = true → b.all isDig = true → a.length = b.length → val a 0 = val b 0 → a = b
  | [], [], _, _, _, _ => rfl
  | [], _ :: _, _, _, h, _ => by simp at h
  | _ :: _, [], _, _, h, _ => by simp at h
  | c :: r, d :: t, ha, hb, hl, hv => by
    simp only [List.all_cons, Bool.and_eq_true] at ha hb
    simp only [List.length_cons, Nat.add_right_cancel_iff] at hl
    have e1 : val (c :: r) 0 = dval c * 10 ^ r.length + val r 0 := by rw [show val (c :: r) 0 = val r (10 * 0 + dval c) from rfl, val_acc]; simp
    have e2 : val (d :: t) 0 = dval d * 10 ^ r.length + val t 0 := by rw [show val (d :: t) 0 = val t (10 * 0 + dval d) from rfl, val_acc, hl]; simp
    rw [e1, e2] at hv
    obtain ⟨h1, h2⟩ := mul_split (val_lt ha.2) (by rw [hl]; exact val_lt hb.2) hv
    have hcd : c = d := by rw [← of_dval ha.1, ← of_dval hb.1, h1]
    rw [hcd, val_inj ha.2 hb.2 hl h2]
theorem digV_inj {a b : List UInt8} (ha : digB a = true) (hb : digB b = true) (hl : a.length = b.length) (h : digV a = digV b) : a = b := by
  rw [digV_yes ha, digV_yes hb] at h
  exact val_inj ha hb hl (by omega)
theorem dparS_canon {s : ByteArray} {n : Int} (h : dparS s = (n, 0)) : isDate n = true ∧ dateS n = s := by
  cases hB : dparB s
  · rw [dparS_no hB] at h
    simp at h
  · rw [dparS_yes hB] at h
    have hB' := hB
    unfold dparB at hB
    simp only [Bool.and_eq_true, decide_eq_true_eq, beq_iff_eq] at hB
    obtain ⟨hz, h4, h7, d1, d2, d3⟩ := hB
    cases hy : ymdB (digV (L (s.extract 0 4))) (digV (L (s.extract 5 7))) (digV (L (s.extract 8 10)))
    · rw [fromS_no hy] at h
      simp at h
    · rw [fromS_of hy] at h
      obtain ⟨hn, _⟩ := Prod.mk.inj h
      have hb := dayNo_bd hy
      have hd : isDate n = true := isDate_iff.2 (by omega)
      have ht := toS_eq hy hn
      refine ⟨hd, ?_⟩
      have hb2 := toS_bd hd
      have hdl := dimS_le (toS n).1 (toS n).2.1
      obtain ⟨a, ea, la, da, va⟩ := padS_dig (n := (toS n).1) (k := 4) (by omega) (by omega) (by show (toS n).1.toNat < 10000; omega)
      obtain ⟨b, eb, lb, db, vb⟩ := padS_dig (n := (toS n).2.1) (k := 2) (by omega) (by omega) (by show (toS n).2.1.toNat < 100; omega)
      obtain ⟨c, ec, lc, dc, vc⟩ := padS_dig (n := (toS n).2.2) (k := 2) (by omega) (by omega) (by show (toS n).2.2.toNat < 100; omega)
      have e : dateS n = bs (a ++ [45] ++ b ++ [45] ++ c) := by
        rw [dateS_yes hd, ea, eb, ec]
        show bs a ++ bs [45] ++ bs b ++ bs [45] ++ bs c = _
        rw [bs_append, bs_append, bs_append, bs_append]
      rw [ht] at va vb vc
      dsimp only at va vb vc
      have s1 : (L (s.extract 0 4)).length = 4 := by rw [L_length, ext_size _ _ _ (by omega)]
      have s2 : (L (s.extract 5 7)).length = 2 := by rw [L_length, ext_size _ _ _ (by omega)]
      have s3 : (L (s.extract 8 10)).length = 2 := by rw [L_length, ext_size _ _ _ (by omega)]
      have q1 := digV_inj da d1 (by rw [la, s1]; rfl) va
      have q2 := digV_inj db d2 (by rw [lb, s2]; rfl) vb
      have q3 := digV_inj dc d3 (by rw [lc, s3]; rfl) vc
      rw [e, q1, q2, q3, L_extract, L_extract, L_extract, ← L_inj, L_bs]
      have hl : (L s).length = 10 := by rw [L_length]; exact hz
      generalize L s = l at hl h4 h7 ⊢
      match l, hl with
      | [x0, x1, x2, x3, x4, x5, x6, x7, x8, x9], _ =>
        simp only [List.getElem?_cons_zero, List.getElem?_cons_succ, Option.some.injEq] at h4 h7
        subst h4 h7
        rfl

theorem rt_in {n : Int} (h0 : -1000000000000000 ≤ n) (h1 : n ≤ 1000000000000000) : rt n = (n, 0) := by rw [rt, if_neg (by omega)]
theorem inB_iff {n k e : Int} {ms : List (List ByteArray)} (hv : vtB k e ms = true) : inB n k e ms = true ↔ (bndV k e ms).1 ≤ n ∧ n ≤ (bndV k e ms).2 := by
  rw [inB, bndS, if_pos hv]
  simp
theorem last_snoc (l : List UInt8) (c : UInt8) : (l ++ [c]).getLast? = some c ∧ (l ++ [c]).dropLast = l := ⟨by simp, by simp⟩

/-- the text of a valid value is read back: for an enumeration as the first member of the name -/
theorem vnum_text {k e n : Int} {ms : List (List ByteArray)} (hv : vtB k e ms = true) (hi : inB n k e ms = true) :
    (k ≠ 6 → vnumS (vtext k e n ms) k e ms = (n, 0)) ∧ (k = 6 → ∃ i : Nat, (i : Int) ≤ n ∧ vnumS (vtext k e n ms) k e ms = ((i : Int), 0) ∧ (memS e ms)[i]? = some (vtext k e n ms)) := by
  have hb := (inB_iff hv).1 hi
  rcases vtB_cases hv with ⟨he, h⟩ | ⟨rfl, he0, he1⟩
  · rcases h with rfl | rfl | rfl | rfl | rfl
    · refine ⟨fun _ => ?_, fun h => absurd h (by decide)⟩
      obtain ⟨h0, h1⟩ : 0 ≤ n ∧ n ≤ 1 := hb
      obtain rfl | rfl : n = 0 ∨ n = 1 := by omega
      · rfl
      · rfl
    · refine ⟨fun _ => ?_, fun h => absurd h (by decide)⟩
      obtain ⟨h0, h1⟩ : -1000000000000 ≤ n ∧ n ≤ 1000000000000 := hb
      show refI (L (numS n)) = _
      rw [refI_num, rt_in (by omega) (by omega)]
    · refine ⟨fun _ => ?_, fun h => absurd h (by decide)⟩
      obtain ⟨h0, h1⟩ : -1000000000000000 ≤ n ∧ n ≤ 1000000000000000 := hb
      show refP (L (fixS n (max 0 (min 2 9)))) 2 = _
      rw [refP_num, rt_in (by omega) (by omega)]
    · refine ⟨fun _ => ?_, fun h => absurd h (by decide)⟩
      obtain ⟨h0, h1⟩ : -1000000000 ≤ n ∧ n ≤ 1000000000 := hb
      show (if (L (fixS n 4 ++ ⟨#[37]⟩)).getLast? = some 37 then refP (L (fixS n 4 ++ ⟨#[37]⟩)).dropLast 4 else (0, 2)) = _
      rw [L_append, show L ⟨#[37]⟩ = [37] from rfl, (last_snoc _ _).1, (last_snoc _ _).2, if_pos rfl]
      show refP (L (fixS n (max 0 (min 4 9)))) 4 = _
      rw [refP_num, rt_in (by omega) (by omega)]
    · refine ⟨fun _ => ?_, fun h => absurd h (by decide)⟩
      obtain ⟨h0, h1⟩ : 0 ≤ n ∧ n ≤ 109572 := hb
      exact dparS_dateS (isDate_iff.2 ⟨h0, h1⟩)
  · refine ⟨fun h => absurd rfl h, fun _ => ?_⟩
    have h2 : 0 ≤ n ∧ n ≤ ((memS e ms).length : Int) - 1 := hb
    have hg : (memS e ms)[n.toNat]? = some (vtext 6 e n ms) := by
      show _ = some ((memS e ms)[n.toNat]?.getD ⟨#[]⟩)
      rw [List.getElem?_eq_getElem (by omega)]
      rfl
    show ∃ i : Nat, (i : Int) ≤ n ∧ (match findS (vtext 6 e n ms) (memS e ms) 0 with | some i => ((i : Int), (0 : Int)) | none => (0, 6)) = _ ∧ _
    cases hf : findS (vtext 6 e n ms) (memS e ms) 0 with
    | none => exact absurd hg (findS_none hf n.toNat)
    | some j =>
      obtain ⟨_, h4, h5⟩ := findS_some hf
      refine ⟨j, ?_, rfl, by simpa using h4⟩
      rcases Nat.lt_or_ge n.toNat j with hl | hl
      · exact absurd hg (h5 n.toNat (by omega))
      · omega
/-- a text that can be parsed is the text of its value -/
theorem vtext_num {s : ByteArray} {k e n : Int} {ms : List (List ByteArray)} (hv : vtB k e ms = true) (h : vnumS s k e ms = (n, 0)) : vtext k e n ms = s := by
  rcases vtB_cases hv with ⟨he, hk⟩ | ⟨rfl, he0, he1⟩
  · rcases hk with rfl | rfl | rfl | rfl | rfl
    · change (if s = ⟨#[102, 97, 108, 115, 101]⟩ then ((0 : Int), (0 : Int)) else if s = ⟨#[116, 114, 117, 101]⟩ then (1, 0) else (0, 2)) = _ at h
      split at h
      · obtain rfl : 0 = n := congrArg Prod.fst h
        subst s; rfl
      · split at h
        · obtain rfl : 1 = n := congrArg Prod.fst h
          subst s; rfl
        · exact absurd (show (2 : Int) = 0 from congrArg Prod.snd h) (by decide)
    · exact L_inj.1 (refI_canon h)
    · exact refP_canon (p := 2) h
    · change (if (L s).getLast? = some 37 then refP (L s).dropLast 4 else (0, 2)) = _ at h
      split at h
      · rename_i hl
        rw [← L_bs (L s).dropLast] at h
        have h2 : fixS n 4 = bs (L s).dropLast := refP_canon (p := 4) h
        show fixS n 4 ++ ⟨#[37]⟩ = s
        rw [h2, ← L_inj, L_append, L_bs]
        show (L s).dropLast ++ [37] = L s
        have hne : L s ≠ [] := by intro hc; rw [hc] at hl; simp at hl
        have := List.dropLast_concat_getLast hne
        rw [List.getLast?_eq_some_getLast hne] at hl
        rw [Option.some.inj hl] at this
        exact this
      · exact absurd (show (2 : Int) = 0 from congrArg Prod.snd h) (by decide)
    · exact (dparS_canon h).2
  · change (match findS s (memS e ms) 0 with | some i => ((i : Int), (0 : Int)) | none => (0, 6)) = _ at h
    cases hf : findS s (memS e ms) 0 with
    | none => rw [hf] at h; exact absurd (show (6 : Int) = 0 from congrArg Prod.snd h) (by decide)
    | some j =>
      rw [hf] at h
      obtain rfl : (j : Int) = n := congrArg Prod.fst h
      obtain ⟨_, h4, _⟩ := findS_some hf
      show (memS e ms)[(j : Int).toNat]?.getD ⟨#[]⟩ = s
      rw [Int.toNat_natCast, show (memS e ms)[j]? = some s by simpa using h4]
      rfl
end Go.Proofs.YtemejaomfbhldaaGreatDoor
