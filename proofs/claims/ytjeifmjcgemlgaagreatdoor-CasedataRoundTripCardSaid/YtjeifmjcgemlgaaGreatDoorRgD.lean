/- What numtext.FormatInt and the reference's FormatInt compute: the decimal numeral. -/
import Derived.Test.YtjeifmjcgemlgaaGreatDoorRgA
import Derived.Test.YtjeifmjcgemlgaaGreatDoorShelf
import Derived.Laws.BytesString
import Derived.Deep.RegionWith
import Derived.Test.YtjeifmjcgemlgaaGreatDoorRgB
namespace Go.Proofs.YtjeifmjcgemlgaaGreatDoor
open Go.RowKit

/-- the table of powers of ten of package strconv lies in its block -/
def Pow (w : World) : Prop := Lib.TabIs Tryz.prog w "internal/strconv.uint64pow10" .u64 Lib.pow10Tab
theorem Pow.kept {w w' : World} (h : Pow w) (hk : Kept w w') : Pow w' := by
  have hg : Tryz.prog.globalNamed "internal/strconv.uint64pow10" = some 4 := by kernel_rfl
  unfold Pow Lib.TabIs World.var? at h ⊢
  rw [hg] at h ⊢
  simp only [Option.bind_some] at h ⊢
  have hlt : 4 < w.heap.size := by
    rcases Nat.lt_or_ge 4 w.heap.size with hl | hge
    · exact hl
    · rw [Array.getElem?_eq_none hge] at h; cases h
  rw [hk.block _ hlt]
  exact h
theorem kept_grow {w : World} (k : Nat) (os : Array Obj) : Kept w (Sort.grow (w.drewN k) os) :=
  ⟨rfl, rfl, rfl, by simp [Sort.grow], fun b hb => by simp [Sort.grow, Array.getElem?_append, hb]⟩
def numS (n : Int) : ByteArray := bs (Lib.itoa n)

set_option maxHeartbeats 400000 in
theorem fmtInt_any (n : Int) (h0 : -9223372036854775808 ≤ n) (h1 : n ≤ 9223372036854775807) (w : World) (hP : Pow w) :
    Calls Tryz.prog 56 #[.int .i64 n] w fun e w' => e = .returned (.string (numS n)) ∧ Kept w w' := by
  go_enter Tryz.func56, Tryz.ntmps56
  go_wp2_with (go_at_call 79; refine (Tryz.strconv_Itoa n h0 h1 _ hP).mono ?_; rintro e w' ⟨rfl, k, os, rfl⟩)
  go_ret
  exact ⟨rfl, kept_grow k os⟩

theorem decDigits_len (u : Nat) (h : u < 100000000000000000000) : (Lib.decDigits u).length ≤ 20 := by
  rcases Nat.lt_or_ge 20 (Lib.decDigits u).length with hl | hl
  · exfalso
    have hd := decDigits_all u
    have h10 : 10 ≤ u := by
      rcases Nat.lt_or_ge u 10 with h' | h'
      · rw [Lib.decDigits, dif_pos h'] at hl; simp at hl
      · exact h'
    have := val_pos hd (decDigits_head u h10) (decDigits_ne u)
    rw [val_decDigits] at this
    have h2 : 10 ^ 20 ≤ 10 ^ ((Lib.decDigits u).length - 1) := Nat.pow_le_pow_right (by decide) (by omega)
    omega
  · exact hl

theorem run_conv_byte {W : World} {b : Nat} {z : Int} (h : W.cell? ⟨b, 0, none⟩ = some (.int .u8 z)) :
    (convert 67 9 (.slice (some ⟨b, 0, none⟩) 1 1)).run Tryz.prog W = .ok (.string (bs [UInt8.ofNat z.toNat])) W := by
  have hl : (loadCells ⟨b, 0, none⟩ 1).run Tryz.prog W = .ok (([z].map (Value.int .u8)).toArray) W := by
    have := run_loadCells_list (P := Tryz.prog) W ⟨b, 0, none⟩ [Value.int .u8 z] (by
      intro j v hj
      cases j with
      | zero => simp at hj; subst hj; simpa [Addr.add] using h
      | succ j => simp at hj)
    simpa using this
  rw [run_convert_bytes_string W 67 9 5 _ 1 1 (by kernel_rfl) (by kernel_rfl) (by kernel_rfl), run_bytesToString W _ 1 1 [z] hl]
  rfl

end Go.Proofs.YtjeifmjcgemlgaaGreatDoor
/- What pad and Format of package date, and of the reference, compute: the text of a date. -/
namespace Go.Proofs.YtjeifmjcgemlgaaGreatDoor
open Go.RowKit

theorem repeatL_one (c : UInt8) : ∀ k, Lib.repeatL [c] k = List.replicate k c
  | 0 => rfl
  | k + 1 => by rw [Lib.repeatL, repeatL_one c k]; rfl
theorem repeat_any (s : ByteArray) (c : Int) (h0 : 0 ≤ c) (hc : s.size * c.toNat ≤ 140737488355328) (hm : c ≤ 9223372036854775807) (w : World) :
    Calls Tryz.prog 57 #[.string s, .int .i64 c] w fun e w' => e = .returned (.string (bs (Lib.repeatL (L s) c.toNat))) ∧ Kept w w' := by
  have := Tryz.strings_Repeat s c.toNat w (by omega) hc
  rwa [Int.toNat_of_nonneg h0] at this
theorem zeros_any (c : Int) (h0 : 0 ≤ c) (hc : c ≤ 100) (w : World) :
    Calls Tryz.prog 57 #[.string ⟨#[48]⟩, .int .i64 c] w fun e w' => e = .returned (.string (bs (List.replicate c.toNat 48))) ∧ Kept w w' := by
  have := repeat_any ⟨#[48]⟩ c h0 (by show 1 * c.toNat ≤ _; omega) (by omega) w
  rwa [show Lib.repeatL (L ⟨#[48]⟩) c.toNat = List.replicate c.toNat 48 from repeatL_one 48 _] at this
theorem numS_size (n : Int) (h0 : -9223372036854775808 ≤ n) (h1 : n ≤ 9223372036854775807) : (numS n).size ≤ 21 := by
  rw [numS, bs_size, Lib.itoa]
  split
  · have := decDigits_len n.natAbs (by omega); simp; omega
  · have := decDigits_len n.toNat (by omega); omega

def padS (n k : Int) : ByteArray := bs (List.replicate (k.toNat - (numS n).size) 48 ++ Lib.itoa n)
theorem padS_no {n k : Int} (h : k ≤ (numS n).size) : padS n k = numS n := by
  rw [padS, show k.toNat - (numS n).size = 0 by omega]; rfl
theorem padS_yes {n k : Int} : bs (List.replicate (k.toNat - (numS n).size) 48) ++ numS n = padS n k := by
  rw [numS, bs_append]; rfl
theorem padS_size (n k : Int) (h0 : -9223372036854775808 ≤ n) (h1 : n ≤ 9223372036854775807) (h2 : k ≤ 9) : (padS n k).size ≤ 30 := by
  have := numS_size n h0 h1
  rw [padS, bs_size, List.length_append, List.length_replicate]
  have e : (Lib.itoa n).length = (numS n).size := by rw [numS, bs_size]
  omega

set_option maxRecDepth 100000 in
set_option maxHeartbeats 1000000 in
theorem pad_any (n k : Int) (h0 : -9223372036854775808 ≤ n) (h1 : n ≤ 9223372036854775807) (k0 : 0 ≤ k) (k1 : k ≤ 9) (w : World) (hP : Pow w) :
    Calls Tryz.prog 38 #[.int .i64 n, .int .i64 k] w fun e w' => e = .returned (.string (padS n k)) ∧ Kept w w' := by
  have hs := numS_size n h0 h1
  have HR := Lib.hid (padS_yes (n := n) (k := k))
  have e1 : (max 0 (k - (numS n).size)).toNat = k.toNat - (numS n).size := by omega
  go_enter Tryz.func38, Tryz.ntmps38
  go_wp2_with (first
    | (go_at_call 56; refine (fmtInt_any n h0 h1 _ hP).mono ?_; rintro e w' ⟨rfl, hk⟩)
    | (go_at_call 57; refine (zeros_any (max 0 (k - (numS n).size)) (by omega) (by omega) _).mono ?_; rintro e w2 ⟨rfl, hk2⟩; rw [e1]))
  go_ret
  exact ⟨congrArg (fun x => Ending.returned (Value.string x)) HR.out, hk.trans hk2⟩

/-- the text of a date -/
noncomputable def dateS (n : Int) : ByteArray :=
  if isDate n then padS (toS n).1 4 ++ ⟨#[45]⟩ ++ padS (toS n).2.1 2 ++ ⟨#[45]⟩ ++ padS (toS n).2.2 2 else ⟨#[]⟩
theorem dateS_no {n : Int} (h : isDate n = false) : dateS n = ⟨#[]⟩ := by rw [dateS, h]; rfl
theorem dateS_yes {n : Int} (h : isDate n = true) : dateS n = padS (toS n).1 4 ++ ⟨#[45]⟩ ++ padS (toS n).2.1 2 ++ ⟨#[45]⟩ ++ padS (toS n).2.2 2 := by rw [dateS, if_pos h]
theorem ret_str {a b : ByteArray} (h : a = b) : Ending.returned (.string a) = .returned (.string b) := by rw [h]

set_option maxRecDepth 100000 in
set_option maxHeartbeats 1000000 in
theorem format_any (n : Int) (w : World) (hM : Mon w) (hP : Pow w) :
    Calls Tryz.prog 19 #[.int .i64 n] w fun e w' => e = .returned (.string (dateS n)) ∧ Kept w w' := by
  cases hd : isDate n
  · have HR := Lib.hid (dateS_no hd)
    go_enter Tryz.func19, Tryz.ntmps19
    go_wp2_with (go_at_call 36; refine (dvalid_any _ _).mono ?_; rintro e w' ⟨rfl, rfl⟩)
    go_ret
    exact ⟨ret_str HR.out.symm, Kept.refl _⟩
  · have HR := Lib.hid (dateS_yes hd)
    have hb := toS_bd hd
    have hdl := dimS_le (toS n).1 (toS n).2.1
    generalize ht : toS n = t at *
    obtain ⟨y, m, d⟩ := t
    dsimp only at *
    obtain ⟨b1, b2, b3, b4, b5, b6⟩ := hb
    obtain ⟨_, b7⟩ := hdl
    have s1 := padS_size y 4 (by omega) (by omega) (by omega)
    have s2 := padS_size m 2 (by omega) (by omega) (by omega)
    have s3 := padS_size d 2 (by omega) (by omega) (by omega)
    go_enter Tryz.func19, Tryz.ntmps19
    go_wp2_with (first
      | (go_at_call 36; refine (dvalid_any _ _).mono ?_; rintro e w' ⟨rfl, rfl⟩)
      | (go_at_call 37; refine (toYMD_any _ _ hM).mono ?_; rintro e w' ⟨rfl, rfl⟩; rw [ht]; dsimp only; have hK := Kept.refl w)
      | (first
          | (go_at_call_of 38 (Value.int IntKind.i64 y); refine (pad_any y 4 (by omega) (by omega) (by omega) (by omega) _ (hP.kept (by assumption))).mono ?_; rintro e w' ⟨rfl, hk⟩; have hK := Kept.trans (by assumption) hk)
          | (go_at_call_of 38 (Value.int IntKind.i64 m); refine (pad_any m 2 (by omega) (by omega) (by omega) (by omega) _ (hP.kept (by assumption))).mono ?_; rintro e w' ⟨rfl, hk⟩; have hK := Kept.trans (by assumption) hk)
          | (go_at_call_of 38 (Value.int IntKind.i64 d); refine (pad_any d 2 (by omega) (by omega) (by omega) (by omega) _ (hP.kept (by assumption))).mono ?_; rintro e w' ⟨rfl, hk⟩; have hK := Kept.trans (by assumption) hk)))
    go_ret
    exact ⟨ret_str HR.out.symm, by assumption⟩

end Go.Proofs.YtjeifmjcgemlgaaGreatDoor
/- What Parse of package date, and of the reference, computes. -/
namespace Go.Proofs.YtjeifmjcgemlgaaGreatDoor
open Go.RowKit

/-- is a string of the form YYYY-MM-DD -/
def dparB (s : ByteArray) : Bool := decide (s.size = 10) && ((L s)[4]? == some 45 && ((L s)[7]? == some 45 && (digB (L (s.extract 0 4)) && (digB (L (s.extract 5 7)) && digB (L (s.extract 8 10))))))
def dparS (s : ByteArray) : Int × Int := if dparB s then fromS (digV (L (s.extract 0 4))) (digV (L (s.extract 5 7))) (digV (L (s.extract 8 10))) else (0, 2)
theorem dparS_yes {s : ByteArray} (h : dparB s = true) : dparS s = fromS (digV (L (s.extract 0 4))) (digV (L (s.extract 5 7))) (digV (L (s.extract 8 10))) := by rw [dparS, if_pos h]
theorem dparS_no {s : ByteArray} (h : dparB s = false) : dparS s = (0, 2) := by rw [dparS, h]; rfl
theorem ext_size (s : ByteArray) (a b : Nat) (h : b ≤ s.size) : (s.extract a b).size = b - a := by
  rw [ByteArray.size_extract]; omega
/-- the ways in which a string is none -/
theorem dpar_cases (s : ByteArray) : (dparB s = false ∧ s.size ≠ 10) ∨ ∃ h : s.size = 10,
    (dparB s = false ∧ s[4].toNat ≠ 45) ∨ (dparB s = false ∧ s[4].toNat = 45 ∧ s[7].toNat ≠ 45) ∨
    (dparB s = (digB (L (s.extract 0 4)) && (digB (L (s.extract 5 7)) && digB (L (s.extract 8 10)))) ∧ s[4].toNat = 45 ∧ s[7].toNat = 45) := by
  by_cases h : s.size = 10
  · refine .inr ⟨h, ?_⟩
    have g4 := L_get s 4 (by omega)
    have g7 := L_get s 7 (by omega)
    have key : ∀ c : UInt8, (some c == some (45 : UInt8)) = decide (c.toNat = 45) := by
      intro c
      by_cases hc : c = 45
      · subst hc; rfl
      · have : c.toNat ≠ 45 := fun e => hc (UInt8.toNat_inj.1 e)
        simp [hc, this]
    unfold dparB
    rw [g4, g7, key, key]
    by_cases e4 : s[4].toNat = 45
    · by_cases e7 : s[7].toNat = 45
      · exact .inr (.inr ⟨by simp [h, e4, e7], e4, e7⟩)
      · exact .inr (.inl ⟨by simp [e7], e4, e7⟩)
    · exact .inl ⟨by simp [e4], e4⟩
  · exact .inl ⟨by simp [dparB, h], h⟩

theorem digR_V {l : List UInt8} (h : digB l = true) : digR l = digV l := by rw [digR_yes h, digV_yes h]
theorem digR_pos {l : List UInt8} (h : digB l = true) : 0 ≤ digR l := by rw [digR_yes h]; omega
set_option maxRecDepth 100000 in
set_option maxHeartbeats 1000000 in
theorem parse_any (s : ByteArray) (w : World) (hM : Mon w) :
    Calls Tryz.prog 24 #[.string s] w fun e w' => e = .returned (.tuple #[.int .i64 (dparS s).1, .int .i64 (dparS s).2]) ∧ Kept w w' := by
  rcases dpar_cases s with ⟨h, h10⟩ | ⟨h10, ⟨h, h4⟩ | ⟨h, h4, h7⟩ | ⟨h, h4, h7⟩⟩
  iterate 3
    · have HR := Lib.hid (dparS_no h)
      clear h
      go_enter Tryz.func24, Tryz.ntmps24
      go_wp2_with fail
      go_ret2
      exact ⟨from_ret HR.out, Kept.refl _⟩
  have z1 := ext_size s 0 4 (by omega)
  have z2 := ext_size s 5 7 (by omega)
  have z3 := ext_size s 8 10 (by omega)
  have hK0 := Kept.refl w
  cases h1 : digB (L (s.extract 0 4)) <;> cases h2 : digB (L (s.extract 5 7)) <;> cases h3 : digB (L (s.extract 8 10))
  case true.true.true =>
    have HR := Lib.hid (dparS_yes (by rw [h, h1, h2, h3]; rfl))
    clear h
    go_enter Tryz.func24, Tryz.ntmps24
    go_wp2_with (first
      | (go_at_call_of 41 (Value.string (s.extract 0 4)); refine (digits_any (s.extract 0 4) (by omega) _).mono ?_; rintro e w' ⟨rfl, hk⟩; have hK := Kept.trans (by assumption) hk)
      | (go_at_call_of 41 (Value.string (s.extract 5 7)); refine (digits_any (s.extract 5 7) (by omega) _).mono ?_; rintro e w' ⟨rfl, hk⟩; have hK := Kept.trans (by assumption) hk)
      | (go_at_call_of 41 (Value.string (s.extract 8 10)); refine (digits_any (s.extract 8 10) (by omega) _).mono ?_; rintro e w' ⟨rfl, hk⟩; have hK := Kept.trans (by assumption) hk)
      | (go_at_call 42; refine (fromYMD_any _ _ _ _ (hM.kept (by assumption))).mono ?_; rintro e w' ⟨rfl, rfl⟩))
    go_ret2
    rw [HR.out]
    exact ⟨rfl, by assumption⟩
  all_goals
    have HR := Lib.hid (dparS_no (by rw [h, h1, h2, h3]; rfl))
    clear h
    go_enter Tryz.func24, Tryz.ntmps24
    go_wp2_with (first
      | (go_at_call_of 41 (Value.string (s.extract 0 4)); refine (digits_any (s.extract 0 4) (by omega) _).mono ?_; rintro e w' ⟨rfl, hk⟩; have hK := Kept.trans (by assumption) hk)
      | (go_at_call_of 41 (Value.string (s.extract 5 7)); refine (digits_any (s.extract 5 7) (by omega) _).mono ?_; rintro e w' ⟨rfl, hk⟩; have hK := Kept.trans (by assumption) hk)
      | (go_at_call_of 41 (Value.string (s.extract 8 10)); refine (digits_any (s.extract 8 10) (by omega) _).mono ?_; rintro e w' ⟨rfl, hk⟩; have hK := Kept.trans (by assumption) hk))
    go_ret2
    exact ⟨from_ret HR.out, by assumption⟩

end Go.Proofs.YtjeifmjcgemlgaaGreatDoor
/- Plain facts: the text of a date is read back, and the next date. No program stands here. -/
namespace Go.Proofs.YtjeifmjcgemlgaaGreatDoor

theorem val_zeros (j : Nat) (r : List UInt8) : val (List.replicate j 48 ++ r) 0 = val r 0 := by
  induction j with
  | zero => rfl
  | succ j ih => rw [List.replicate_succ, List.cons_append, val]; exact ih
/-- a padded number has its k digits -/
theorem padS_dig {n k : Int} (h0 : 0 ≤ n) (k0 : 1 ≤ k) (h1 : n.toNat < 10 ^ k.toNat) : ∃ l : List UInt8, padS n k = bs l ∧ l.length = k.toNat ∧ digB l = true ∧ digV l = n := by
  have hi : Lib.itoa n = Lib.decDigits n.toNat := by rw [Lib.itoa, if_neg (by omega)]
  have hs : (numS n).size = (Lib.decDigits n.toNat).length := by rw [numS, bs_size, hi]
  have hd := decDigits_all n.toNat
  have hlen : (Lib.decDigits n.toNat).length ≤ k.toNat := by
    by_cases h10 : 10 ≤ n.toNat
    · have := val_pos hd (decDigits_head _ h10) (decDigits_ne _)
      rw [val_decDigits] at this
      rcases Nat.lt_or_ge k.toNat (Lib.decDigits n.toNat).length with hl | hl
      · exfalso
        have h2 : 10 ^ k.toNat ≤ 10 ^ ((Lib.decDigits n.toNat).length - 1) := Nat.pow_le_pow_right (by decide) (by omega)
        omega
      · exact hl
    · rw [Lib.decDigits, dif_pos (by omega)]; simp; omega
  have hall : digB (List.replicate (k.toNat - (numS n).size) 48 ++ Lib.decDigits n.toNat) = true := by
    unfold digB
    rw [List.all_append, hd, Bool.and_true, List.all_eq_true]
    intro c hc
    rw [(List.mem_replicate.1 hc).2]; decide
  refine ⟨List.replicate (k.toNat - (numS n).size) 48 ++ Lib.decDigits n.toNat, by rw [padS, hi], ?_, hall, ?_⟩
  · rw [List.length_append, List.length_replicate, hs]; omega
  · rw [digV_yes hall, val_zeros, val_decDigits]; omega

theorem dparS_dateS {n : Int} (h : isDate n = true) : dparS (dateS n) = (n, 0) := by
  have hb := toS_bd h
  have h' := isDate_iff.1 h
  have hs := toS_spec n h'.1 h'.2
  have hdl := dimS_le (toS n).1 (toS n).2.1
  obtain ⟨a, ea, la, da, va⟩ := padS_dig (n := (toS n).1) (k := 4) (by omega) (by omega) (by show (toS n).1.toNat < 10000; omega)
  obtain ⟨b, eb, lb, db, vb⟩ := padS_dig (n := (toS n).2.1) (k := 2) (by omega) (by omega) (by show (toS n).2.1.toNat < 100; omega)
  obtain ⟨c, ec, lc, dc, vc⟩ := padS_dig (n := (toS n).2.2) (k := 2) (by omega) (by omega) (by show (toS n).2.2.toNat < 100; omega)
  have e : dateS n = bs (a ++ [45] ++ b ++ [45] ++ c) := by
    rw [dateS_yes h, ea, eb, ec]
    show bs a ++ bs [45] ++ bs b ++ bs [45] ++ bs c = _
    rw [bs_append, bs_append, bs_append, bs_append]
  match a, la, b, lb, c, lc with
  | [a0, a1, a2, a3], _, [b0, b1], _, [c0, c1], _ =>
    have x1 : L ((dateS n).extract 0 4) = [a0, a1, a2, a3] := by rw [e, L_extract, L_bs]; rfl
    have x2 : L ((dateS n).extract 5 7) = [b0, b1] := by rw [e, L_extract, L_bs]; rfl
    have x3 : L ((dateS n).extract 8 10) = [c0, c1] := by rw [e, L_extract, L_bs]; rfl
    have hB : dparB (dateS n) = true := by
      unfold dparB
      rw [x1, x2, x3, da, db, dc, e, L_bs, bs_size]
      rfl
    rw [dparS_yes hB, x1, x2, x3, va, vb, vc, fromS_of hs.1, hs.2]

/-- the next date: the next day of the month, or the first of the next month, or New Year -/
theorem toS_next {n : Int} (h : isDate n = true) (h1 : n ≠ 109572) :
    ((toS n).2.2 < dimS (toS n).1 (toS n).2.1 ∧ toS (n + 1) = ((toS n).1, (toS n).2.1, (toS n).2.2 + 1)) ∨
    ((toS n).2.2 = dimS (toS n).1 (toS n).2.1 ∧ (toS n).2.1 < 12 ∧ toS (n + 1) = ((toS n).1, (toS n).2.1 + 1, 1)) ∨
    ((toS n).2.2 = dimS (toS n).1 (toS n).2.1 ∧ (toS n).2.1 = 12 ∧ toS (n + 1) = ((toS n).1 + 1, 1, 1)) := by
  have hb := toS_bd h
  have h' := isDate_iff.1 h
  have hs := toS_spec n h'.1 h'.2
  generalize toS n = t at *
  obtain ⟨y, m, d⟩ := t
  dsimp only at *
  obtain ⟨b1, b2, b3, b4, b5, b6⟩ := hb
  have hno := hs.2
  unfold dayNo at hno
  by_cases hd : d < dimS y m
  · exact .inl ⟨hd, toS_eq (ymdB_iff.2 ⟨b1, b2, b3, b4, by omega, by omega⟩) (by unfold dayNo; omega)⟩
  · have hd' : d = dimS y m := by omega
    have hk : cumM y ((m - 1).toNat + 1) = cumM y (m - 1).toNat + dimS y m := by
      rw [cumM, show (((m - 1).toNat : Nat) : Int) + 1 = m by omega]
    by_cases hm : m < 12
    · refine .inr (.inl ⟨hd', hm, toS_eq (ymdB_iff.2 ⟨b1, b2, by omega, by omega, by omega, ?_⟩) ?_⟩)
      · have := dimS_bd y (m + 1) (by omega) (by omega); omega
      · unfold dayNo
        rw [show (m + 1 - 1).toNat = (m - 1).toNat + 1 by omega, hk]; omega
    · have hm' : m = 12 := by omega
      subst hm'
      have h12 : cumM y 12 = cumM y 11 + dimS y 12 := hk
      rw [cumM_12] at h12
      have hno' : ysS y + cumM y 11 + d - 1 = n := hno
      have hy := ysS_succ y (by omega)
      have hne : y ≠ 2199 := by
        rintro rfl
        have : ysS (2199 + 1) = 109573 := ysS_2200
        omega
      refine .inr (.inr ⟨hd', rfl, toS_eq (ymdB_iff.2 ⟨by omega, by omega, by omega, by omega, by omega, ?_⟩) ?_⟩)
      · have := dimS_bd (y + 1) 1 (by omega) (by omega); omega
      · show ysS (y + 1) + 0 + 1 - 1 = n + 1
        omega
end Go.Proofs.YtjeifmjcgemlgaaGreatDoor
/- Plain facts about the parser of numbers: the loop over the bytes as a function, and what it answers. No program stands here. -/
namespace Go.Proofs.YtjeifmjcgemlgaaGreatDoor

def BB : Nat := 4611686018427387904
def B10 : Nat := 461168601842738790
/-- the loop: the bytes left, how far the point is, the number so far, whether it is too large -/
def run : List UInt8 → Int → Nat → Bool → Option (Nat × Bool)
  | [], _, v, g => some (v, g)
  | c :: r, k, v, g =>
    if k = 0 then (if c = 46 then run r (k - 1) v g else none)
    else if isDig c then (if g = true ∨ B10 < v then run r (k - 1) v true else run r (k - 1) (10 * v + dval c) (decide (BB < 10 * v + dval c))) else none
theorem run_point {r : List UInt8} {k : Int} {v : Nat} {g : Bool} (h : k = 0) : run (46 :: r) k v g = run r (k - 1) v g := by rw [run, if_pos h, if_pos rfl]
theorem run_nopoint {c : UInt8} {r : List UInt8} {k : Int} {v : Nat} {g : Bool} (h : k = 0) (hc : c ≠ 46) : run (c :: r) k v g = none := by rw [run, if_pos h, if_neg hc]
theorem run_nodig {c : UInt8} {r : List UInt8} {k : Int} {v : Nat} {g : Bool} (h : k ≠ 0) (hc : isDig c = false) : run (c :: r) k v g = none := by rw [run, if_neg h, hc]; rfl
theorem run_over {c : UInt8} {r : List UInt8} {k : Int} {v : Nat} {g : Bool} (h : k ≠ 0) (hc : isDig c = true) (ho : g = true ∨ B10 < v) : run (c :: r) k v g = run r (k - 1) v true := by rw [run, if_neg h, if_pos hc, if_pos ho]
theorem run_dig {c : UInt8} {r : List UInt8} {k : Int} {v : Nat} (h : k ≠ 0) (hc : isDig c = true) (ho : ¬ B10 < v) : run (c :: r) k v false = run r (k - 1) (10 * v + dval c) (decide (BB < 10 * v + dval c)) := by
  rw [run, if_neg h, if_pos hc, if_neg (by simp [ho])]

/-- the digits alone -/
def acc : List UInt8 → Nat → Bool → Nat × Bool
  | [], v, g => (v, g)
  | c :: r, v, g => if g = true ∨ B10 < v then acc r v true else acc r (10 * v + dval c) (decide (BB < 10 * v + dval c))
theorem acc_append (a b : List UInt8) (v : Nat) (g : Bool) : acc (a ++ b) v g = acc b (acc a v g).1 (acc a v g).2 := by
  induction a generalizing v g with
  | nil => rfl
  | cons c r ih =>
    rw [List.cons_append, acc, acc]
    split
    · exact ih _ _
    · exact ih _ _
/-- (v, g) stands for the number x -/
def Stands (v : Nat) (g : Bool) (x : Nat) : Prop := (g = false ∧ v = x ∧ x ≤ BB) ∨ (g = true ∧ BB < x)
theorem acc_stands (l : List UInt8) (v : Nat) (g : Bool) (x : Nat) (h : Stands v g x) : Stands (acc l v g).1 (acc l v g).2 (val l x) := by
  induction l generalizing v g x with
  | nil => exact h
  | cons c r ih =>
    rw [acc, val]
    split
    · rename_i ho
      refine ih _ _ _ (.inr ⟨rfl, ?_⟩)
      rcases h with ⟨h1, h2, h3⟩ | ⟨h1, h2⟩
      · rcases ho with ho | ho
        · rw [h1] at ho; cases ho
        · unfold B10 at ho; unfold BB; omega
      · omega
    · rename_i ho
      have hg : g = false := by cases g <;> simp_all
      rcases h with ⟨h1, h2, h3⟩ | ⟨h1, h2⟩
      · subst h2
        refine ih _ _ _ ?_
        by_cases hb : BB < 10 * v + dval c
        · exact .inr ⟨by simpa using hb, hb⟩
        · exact .inl ⟨by simpa using hb, rfl, by omega⟩
      · rw [hg] at h1; cases h1
theorem acc_zero (l : List UInt8) : Stands (acc l 0 false).1 (acc l 0 false).2 (val l 0) := acc_stands l 0 false 0 (.inl ⟨rfl, rfl, Nat.zero_le _⟩)

/-- without a point -/
theorem run_all (l : List UInt8) (k : Int) (v : Nat) (g : Bool) (h : k < 0 ∨ (l.length : Int) ≤ k) : run l k v g = if l.all isDig then some (acc l v g) else none := by
  induction l generalizing k v g with
  | nil => rfl
  | cons c r ih =>
    have hk : k ≠ 0 := by simp only [List.length_cons] at h; omega
    have h' : k - 1 < 0 ∨ (r.length : Int) ≤ k - 1 := by simp only [List.length_cons] at h; omega
    rw [List.all_cons]
    cases hc : isDig c
    · rw [run_nodig hk hc]; rfl
    · rw [Bool.true_and, acc]
      by_cases ho : g = true ∨ B10 < v
      · rw [run_over hk hc ho, if_pos ho, ih _ _ _ h']
      · have hg : g = false := by cases g <;> simp_all
        subst hg
        rw [run_dig hk hc (by simpa using ho), if_neg ho, ih _ _ _ h']
/-- with a point -/
theorem run_at (a : List UInt8) (c : UInt8) (b : List UInt8) (v : Nat) (g : Bool) :
    run (a ++ c :: b) (a.length : Int) v g = if a.all isDig && (c == 46 && b.all isDig) then some (acc (a ++ b) v g) else none := by
  induction a generalizing v g with
  | nil =>
    by_cases hc : c = 46
    · subst hc
      rw [List.nil_append, run_point (by rfl), run_all b _ v g (.inl (by simp))]
      simp
    · rw [List.nil_append, run_nopoint (by rfl) hc]
      simp [hc]
  | cons d r ih =>
    have hk : ((d :: r).length : Int) ≠ 0 := by simp only [List.length_cons]; omega
    have e : ((d :: r).length : Int) - 1 = r.length := by simp
    rw [List.cons_append, List.all_cons]
    cases hc : isDig d
    · rw [run_nodig hk hc]; rfl
    · rw [Bool.true_and, List.cons_append, acc]
      by_cases ho : g = true ∨ B10 < v
      · rw [run_over hk hc ho, if_pos ho, e, ih]
      · have hg : g = false := by cases g <;> simp_all
        subst hg
        rw [run_dig hk hc (by simpa using ho), if_neg ho, e, ih]

def negB (l : List UInt8) : Bool := l.head? == some 45
def bodyL (l : List UInt8) : List UInt8 := if negB l then l.tail else l
def wholeI (l : List UInt8) (p : Int) : Int := if 0 < p then l.length - (p + 1) else l.length
def signed (neg : Bool) (n : Nat) : Int := if neg then -(n : Int) else n
/-- the answer out of the loop's -/
def finR (neg : Bool) : Option (Nat × Bool) → Int × Int
  | none => (0, 2)
  | some (n, g) => if neg = true ∧ n = 0 ∧ g = false then (0, 2) else if g then (0, 3) else (signed neg n, 0)
def badL (l : List UInt8) (k : Int) : Bool := decide (k < 1) || (decide (1 < k) && l.head? == some 48)
def bodyP (l : List UInt8) (neg : Bool) (p : Int) : Int × Int := if badL l (wholeI l p) then (0, 2) else finR neg (run l (wholeI l p) 0 false)
/-- what the parser answers -/
def parP (l : List UInt8) (p : Int) : Int × Int := bodyP (bodyL l) (negB l) p
end Go.Proofs.YtjeifmjcgemlgaaGreatDoor
