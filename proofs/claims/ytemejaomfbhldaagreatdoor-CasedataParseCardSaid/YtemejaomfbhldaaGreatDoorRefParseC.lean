/- What the reference's ParseFixed computes. -/
import Derived.Test.YtemejaomfbhldaaGreatDoorRefParseB
namespace Go.Proofs.YtemejaomfbhldaaGreatDoor
open Go.RowKit

theorem strip_short {l : List UInt8} (h : l.length ≤ 1) : strip l = l := by
  match l, h with
  | [], _ => rfl
  | [c], _ => rfl
theorem strip_head {l : List UInt8} (h : l.head? ≠ some 48) : strip l = l := by
  match l with
  | [] => rfl
  | [c] => rfl
  | c :: d :: r =>
    rw [strip, if_neg (fun e => h (by rw [e]; rfl))]
theorem strip_zero {l : List UInt8} (h : l.head? = some 48) (h1 : 1 < l.length) : strip l = strip (l.drop 1) := by
  match l, h1 with
  | c :: d :: r, _ =>
    have e : c = 48 := Option.some.inj h
    rw [strip, if_pos e]; rfl

def okF (b : List UInt8) (k : Nat) : Bool := (b[k]? == some 46) && (adB (b.take k) && (adB (b.drop (k + 1)) && !(badL b k)))
def finF (t : List UInt8) (neg : Bool) : Int × Int := if neg = true ∧ strip t = [48] then (0, 2) else numR (strip t) neg
def refF (l : List UInt8) (q : Int) : Int × Int :=
  if ((bodyL l).length : Int) - q - 1 < 1 then (0, 2) else
  if okF (bodyL l) (((bodyL l).length : Int) - q - 1).toNat then finF ((bodyL l).take (((bodyL l).length : Int) - q - 1).toNat ++ (bodyL l).drop ((((bodyL l).length : Int) - q - 1).toNat + 1)) (negB l) else (0, 2)
def refP (l : List UInt8) (p : Int) : Int × Int := if min (max p 0) 9 = 0 then refI l else refF l (min (max p 0) 9)

theorem rclamp_any (p : Int) (w : World) : Calls Tryz.prog 88 #[.int .i64 p] w fun e w' => e = .returned (.int .i64 (min (max p 0) 9)) ∧ w = w' := by
  go_enter Tryz.func88, Tryz.ntmps88
  go_wp2_with fail
  go_ret
  exact ⟨rfl, rfl⟩
theorem digB_take {l : List UInt8} (h : digB l = true) (k : Nat) : digB (l.drop k) = true := by
  unfold digB at *
  rw [List.all_eq_true] at *
  exact fun x hx => h x (List.mem_of_mem_drop hx)
theorem adB_dig {l : List UInt8} (h : adB l = true) : 0 < l.length ∧ digB l = true := by
  unfold adB at h
  rw [Bool.and_eq_true, decide_eq_true_eq] at h
  exact h


set_option maxRecDepth 100000 in
set_option maxHeartbeats 4000000 in
theorem rpf_ok (s b : ByteArray) (neg : Bool) (p q : Int) (k : Nat) (r : Int × Int) (q1 : 1 ≤ q) (q9 : q ≤ 9) (hbs : b.size ≤ 1000000) (hK : (b.size : Int) - q - 1 = (k : Int)) (hkl : k < b.size) (k1 : 1 ≤ k) (hkI : (k : Int) + 1 ≤ b.size)
    (hc : (b[k]'hkl).toNat = 46) (ha1 : adB (L (b.extract 0 k)) = true) (ha2 : adB (L (b.extract (k + 1) b.size)) = true) (hr : r = finF (L (b.extract 0 k ++ b.extract (k + 1) b.size)) neg)
    (hz0 : k ≤ 1 ∨ (1 < k ∧ ((((b[0]'(by omega)).toNat : Int) == 48) = false)))
    (HQ : ∀ w, Calls Tryz.prog 88 #[.int .i64 p] w fun e w' => e = .returned (.int .i64 q) ∧ w = w')
    (HC : ∀ w, Calls Tryz.prog 89 #[.string s] w fun e w' => e = .returned (.tuple #[.string b, .bool neg]) ∧ w = w') (w : World) :
    Calls Tryz.prog 97 #[.string s, .int .i64 p] w fun e w' => e = .returned (.tuple #[.int .i64 r.1, .int .i64 r.2]) ∧ Kept w w' := by
  have z1 := ext_size01 b 0 k (by omega)
  have z2 := ext_size01 b (k + 1) b.size (Nat.le_refl _)
  have HA1 := Lib.hid (fun w => rallDigits_any (b.extract 0 k) (by omega) w)
  have HA2 := Lib.hid (fun w => rallDigits_any (b.extract (k + 1) b.size) (by omega) w)
  have HR := Lib.hid hr
  have HQ := Lib.hid HQ
  have HC := Lib.hid HC
  clear hr
  have hT : digB (L (b.extract 0 k ++ b.extract (k + 1) b.size)) = true := by
    have h1 := (adB_dig ha1).2
    have h2 := (adB_dig ha2).2
    unfold digB at *
    rw [L_append, List.all_append, h1, h2]; rfl
  have zT : (b.extract 0 k ++ b.extract (k + 1) b.size).size = k + (b.size - (k + 1)) := by rw [ByteArray.size_append, z1, z2]; omega
  have hkk : (k : Int) ≤ b.size := by omega
  have hk1i : (1 : Int) ≤ k := by omega
  have HADD := Lib.hid (L_append (b.extract 0 k) (b.extract (k + 1) b.size))
  rcases hz0 with hz0 | ⟨hz0, hz48⟩
  all_goals
    go_enter Tryz.func97, Tryz.ntmps97
    go_wp2_with (first
    | (go_at_call 88; refine (HQ.out _).mono ?_; rintro e w' ⟨rfl, rfl⟩)
    | (go_at_call 89; refine (HC.out _).mono ?_; rintro e w' ⟨rfl, rfl⟩)
    | (go_at_call_of 108 (Value.string (b.extract 0 k)); refine (HA1.out _).mono ?_; rintro e w' ⟨rfl, rfl⟩; rw [ha1])
    | (go_at_call 108; refine (HA2.out _).mono ?_; rintro e w' ⟨rfl, rfl⟩; rw [ha2]))
    have hsum : ¬ (9223372036854775807 < (b.extract 0 k).size + (b.extract (k + 1) b.size).size) := by omega
    clear z1 z2 HA1 HA2 HQ HC
    refine wp_region_kept (by kernel_rfl) (by kernel_rfl) ?_
    repeat (go_big_quiet_step (fail))
    refine wpQuiet_nil ?_
    rintro _ ⟨⟨wx, hx⟩, rfl⟩
    try clear hz48
    clear hsum HADD hc ha1 ha2
    generalize b.extract 0 k ++ b.extract (k + 1) b.size = T at *
    go_wp2_with fail
    go_loop [7] (fun x => ∃ S : ByteArray, x = .string S ∧ strip (L S) = strip (L T) ∧ digB (L S) = true ∧ S.size ≤ 1000000 ∧ 1 ≤ S.size) (fun x => match x with | .string S => S.size | _ => 0)
    case atStart => exact ⟨_, rfl, rfl, hT, by omega, by omega⟩
    case round =>
      obtain ⟨S, rfl, hS, hdS, hz2, hz1⟩ := hrel
      by_cases hs1 : 1 < S.size
      · have hh := L_head S hz1
        by_cases hs48 : (S[0]'hz1).toNat = 48
        · have hst := strip_zero (l := L S) (by rw [hh]; exact congrArg some (UInt8.toNat_inj.1 hs48)) (by rw [L_length]; exact hs1)
          have x3 : L (S.extract 1 S.size) = (L S).drop 1 := by rw [L_extract, List.take_of_length_le (by simp)]
          have z3 := ext_size01 S 1 S.size (Nat.le_refl _)
          have HS := Lib.hid (show strip (L (S.extract 1 S.size)) = strip (L T) by rw [x3, ← hst, hS])
          have HD := Lib.hid (show digB (L (S.extract 1 S.size)) = true by rw [x3]; exact digB_take hdS 1)
          clear hst x3 hS hdS hh
          go_wp2_with fail
          go_round
          case rel => exact ⟨_, rfl, HS.out, HD.out, by omega, by omega⟩
          case measure => simp only [z3]; omega
        · have h4 : (((S[0]'hz1).toNat : Int) == 48) = false := by rw [beq_eq_false_iff_ne]; omega
          have hst : strip (L S) = L S := strip_head (by rw [hh]; intro e; exact hs48 (by rw [Option.some.inj e]; rfl))
          have HS := Lib.hid (show strip (L T) = L S from hS.symm.trans hst)
          have HN := Lib.hid (fun neg w => rnumber_any S neg hz2 hdS w)
          clear hst hS hdS
          cases neg
          · have HF := Lib.hid (show r = numR (L S) false by rw [HR.out, finF, HS.out, if_neg (by simp)])
            go_wp2_with (go_at_call 109; refine (HN.out _ _).mono ?_; rintro e w' ⟨rfl, rfl⟩)
            go_ret2
            rw [HF.out]
            exact ⟨rfl, hx⟩
          · cases hz : decide (L S = [48])
            · have HF := Lib.hid (show r = numR (L S) true by rw [HR.out, finF, HS.out, if_neg (by simpa using hz)])
              rw [← isZ_iff] at hz
              go_wp2_with (go_at_call 109; refine (HN.out _ _).mono ?_; rintro e w' ⟨rfl, rfl⟩)
              go_ret2
              rw [HF.out]
              exact ⟨rfl, hx⟩
            · have HF := Lib.hid (show r = (0, 2) by rw [HR.out, finF, HS.out, if_pos (by simpa using hz)])
              rw [← isZ_iff] at hz
              go_wp2_with fail
              go_ret2
              exact ⟨ret_pair HF.out, hx⟩
      · have hst : strip (L S) = L S := strip_short (by rw [L_length]; omega)
        have HS := Lib.hid (show strip (L T) = L S from hS.symm.trans hst)
        have HN := Lib.hid (fun neg w => rnumber_any S neg hz2 hdS w)
        clear hst hS hdS
        cases neg
        · have HF := Lib.hid (show r = numR (L S) false by rw [HR.out, finF, HS.out, if_neg (by simp)])
          go_wp2_with (go_at_call 109; refine (HN.out _ _).mono ?_; rintro e w' ⟨rfl, rfl⟩)
          go_ret2
          rw [HF.out]
          exact ⟨rfl, hx⟩
        · cases hz : decide (L S = [48])
          · have HF := Lib.hid (show r = numR (L S) true by rw [HR.out, finF, HS.out, if_neg (by simpa using hz)])
            rw [← isZ_iff] at hz
            go_wp2_with (go_at_call 109; refine (HN.out _ _).mono ?_; rintro e w' ⟨rfl, rfl⟩)
            go_ret2
            rw [HF.out]
            exact ⟨rfl, hx⟩
          · have HF := Lib.hid (show r = (0, 2) by rw [HR.out, finF, HS.out, if_pos (by simpa using hz)])
            rw [← isZ_iff] at hz
            go_wp2_with fail
            go_ret2
            exact ⟨ret_pair HF.out, hx⟩

set_option maxRecDepth 100000 in
set_option maxHeartbeats 2000000 in
theorem rparseFixed_pos (s : ByteArray) (p q : Int) (hq : min (max p 0) 9 = q) (q1 : 1 ≤ q) (hs : s.size ≤ 1000000) (w : World) :
    Calls Tryz.prog 97 #[.string s, .int .i64 p] w fun e w' => e = .returned (.tuple #[.int .i64 (refF (L s) q).1, .int .i64 (refF (L s) q).2]) ∧ Kept w w' := by
  have q9 : q ≤ 9 := by omega
  have hbs : (bs (bodyL (L s))).size ≤ 1000000 := by
    rw [bs_size, bodyL]; split
    · rw [List.length_tail, L_length]; omega
    · rw [L_length]; exact hs
  have HQ := Lib.hid (fun w => (hq ▸ rclamp_any p w : Calls Tryz.prog 88 #[.int .i64 p] w fun e w' => e = .returned (.int .i64 q) ∧ w = w'))
  clear hq
  have HP := Lib.hid (show refF (L s) q = (if (((bs (bodyL (L s))).size : Nat) : Int) - q - 1 < 1 then (0, 2) else
      if okF (L (bs (bodyL (L s)))) ((((bs (bodyL (L s))).size : Nat) : Int) - q - 1).toNat then finF ((L (bs (bodyL (L s)))).take ((((bs (bodyL (L s))).size : Nat) : Int) - q - 1).toNat ++ (L (bs (bodyL (L s)))).drop (((((bs (bodyL (L s))).size : Nat) : Int) - q - 1).toNat + 1)) (negB (L s)) else (0, 2)) by
    rw [refF, bs_size]; rfl)
  have HC := Lib.hid (fun w => rsign_any s w)
  generalize bs (bodyL (L s)) = b at *
  generalize negB (L s) = neg at *
  by_cases hk1 : (b.size : Int) - q - 1 < 1
  · have HR := Lib.hid (show refF (L s) q = (0, 2) by rw [HP.out, if_pos hk1])
    go_enter Tryz.func97, Tryz.ntmps97
    go_wp2_with (first
      | (go_at_call 88; refine (HQ.out _).mono ?_; rintro e w' ⟨rfl, rfl⟩)
      | (go_at_call 89; refine (HC.out _).mono ?_; rintro e w' ⟨rfl, rfl⟩))
    go_ret2
    exact ⟨ret_pair HR.out, Kept.refl _⟩
  · obtain ⟨k, hK⟩ : ∃ k : Nat, (b.size : Int) - q - 1 = (k : Int) := ⟨((b.size : Int) - q - 1).toNat, by omega⟩
    have hkl : k < b.size := by omega
    have k1 : 1 ≤ k := by omega
    have hkI : (k : Int) + 1 ≤ b.size := by omega
    have HP2 := Lib.hid (show refF (L s) q = (if okF (L b) k then finF ((L b).take k ++ (L b).drop (k + 1)) neg else (0, 2)) by
      rw [HP.out, if_neg hk1, hK]; rfl)
    clear HP hk1
    have x1 : L (b.extract 0 k) = (L b).take k := by rw [L_extract, List.drop_zero]; rfl
    have x2 : L (b.extract (k + 1) b.size) = (L b).drop (k + 1) := by rw [L_extract, List.take_of_length_le (by simp)]
    have z1 := ext_size01 b 0 k (by omega)
    have z2 := ext_size01 b (k + 1) b.size (Nat.le_refl _)
    have HA1 := Lib.hid (fun w => rallDigits_any (b.extract 0 k) (by omega) w)
    have HA2 := Lib.hid (fun w => rallDigits_any (b.extract (k + 1) b.size) (by omega) w)
    have hg : (L b)[k]? = some (b[k]'hkl) := L_get b k hkl
    have hkey := key_byte (b[k]'hkl) 46 (by omega)
    rw [← hg] at hkey
    have hof : okF (L b) k = (decide ((b[k]'hkl).toNat = 46) && (adB ((L b).take k) && (adB ((L b).drop (k + 1)) && !(badL (L b) k)))) := by
      unfold okF; rw [← hkey]; rfl
    clear hkey hg
    rw [← x1, ← x2] at hof
    rw [← x1, ← x2] at HP2
    clear x1 x2
    by_cases hc : (b[k]'hkl).toNat = 46
    · cases ha1 : adB (L (b.extract 0 k))
      · have HR := Lib.hid (show refF (L s) q = (0, 2) by rw [HP2.out, hof, ha1]; simp)
        clear hof
        go_enter Tryz.func97, Tryz.ntmps97
        go_wp2_with (first
          | (go_at_call 88; refine (HQ.out _).mono ?_; rintro e w' ⟨rfl, rfl⟩)
          | (go_at_call 89; refine (HC.out _).mono ?_; rintro e w' ⟨rfl, rfl⟩)
          | (go_at_call 108; refine (HA1.out _).mono ?_; rintro e w' ⟨rfl, rfl⟩; rw [ha1]))
        go_ret2
        exact ⟨ret_pair HR.out, Kept.refl _⟩
      · cases ha2 : adB (L (b.extract (k + 1) b.size))
        · have HR := Lib.hid (show refF (L s) q = (0, 2) by rw [HP2.out, hof, ha2]; simp)
          clear hof
          go_enter Tryz.func97, Tryz.ntmps97
          go_wp2_with (first
            | (go_at_call 88; refine (HQ.out _).mono ?_; rintro e w' ⟨rfl, rfl⟩)
            | (go_at_call 89; refine (HC.out _).mono ?_; rintro e w' ⟨rfl, rfl⟩)
            | (go_at_call_of 108 (Value.string (b.extract 0 k)); refine (HA1.out _).mono ?_; rintro e w' ⟨rfl, rfl⟩; rw [ha1])
            | (go_at_call 108; refine (HA2.out _).mono ?_; rintro e w' ⟨rfl, rfl⟩; rw [ha2]))
          go_ret2
          exact ⟨ret_pair HR.out, Kept.refl _⟩
        · have hkb : (k : Int) ≤ b.size := by omega
          have HOK := fun (hb : badL (L b) k = false) => (show refF (L s) q = finF (L (b.extract 0 k ++ b.extract (k + 1) b.size)) neg by rw [HP2.out, hof, if_pos (by simp [hc, ha1, ha2, hb]), L_append])
          rcases bad_cases b k hkb with ⟨hb, h1⟩ | ⟨hb, h1⟩ | ⟨h1, ⟨hb, h2⟩ | ⟨hb, h2⟩⟩
          · omega
          · exact rpf_ok s b neg p q k _ q1 q9 hbs hK hkl k1 hkI hc ha1 ha2 (HOK hb) (.inl (by omega)) HQ.out HC.out w
          · have HR := Lib.hid (show refF (L s) q = (0, 2) by rw [HP2.out, hof, hb]; simp)
            clear hof hb
            have hkk : (k : Int) ≤ b.size := by omega
            go_enter Tryz.func97, Tryz.ntmps97
            go_wp2_with (first
            | (go_at_call 88; refine (HQ.out _).mono ?_; rintro e w' ⟨rfl, rfl⟩)
            | (go_at_call 89; refine (HC.out _).mono ?_; rintro e w' ⟨rfl, rfl⟩)
            | (go_at_call_of 108 (Value.string (b.extract 0 k)); refine (HA1.out _).mono ?_; rintro e w' ⟨rfl, rfl⟩; rw [ha1])
            | (go_at_call 108; refine (HA2.out _).mono ?_; rintro e w' ⟨rfl, rfl⟩; rw [ha2]))
            go_ret2
            exact ⟨ret_pair HR.out, Kept.refl _⟩
          · exact rpf_ok s b neg p q k _ q1 q9 hbs hK hkl k1 hkI hc ha1 ha2 (HOK hb) (.inr ⟨by omega, by rw [beq_eq_false_iff_ne]; omega⟩) HQ.out HC.out w
    · have HR := Lib.hid (show refF (L s) q = (0, 2) by rw [HP2.out, hof]; simp [hc])
      have h3 : (((b[k]'hkl).toNat : Int) == 46) = false := by rw [beq_eq_false_iff_ne]; omega
      clear hof
      go_enter Tryz.func97, Tryz.ntmps97
      go_wp2_with (first
        | (go_at_call 88; refine (HQ.out _).mono ?_; rintro e w' ⟨rfl, rfl⟩)
        | (go_at_call 89; refine (HC.out _).mono ?_; rintro e w' ⟨rfl, rfl⟩))
      go_ret2
      exact ⟨ret_pair HR.out, Kept.refl _⟩
end Go.Proofs.YtemejaomfbhldaaGreatDoor
