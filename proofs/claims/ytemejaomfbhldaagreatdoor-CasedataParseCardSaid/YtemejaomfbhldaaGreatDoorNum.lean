/- What numtext.FormatInt and the reference's FormatInt compute: the decimal numeral. -/
import Derived.Test.YtemejaomfbhldaaGreatDoorStr
import Derived.Test.YtemejaomfbhldaaGreatDoorShelf
import Derived.Laws.BytesString
import Derived.Deep.RegionWith
namespace Go.Proofs.YtemejaomfbhldaaGreatDoor
open Go.RowKit

/-- the table of powers of ten of package strconv lies in its block -/
def Pow (w : World) : Prop := Lib.TabIs Tryz.prog w "internal/strconv.uint64pow10" .u64 Lib.pow10Tab
theorem Pow.kept {w w' : World} (h : Pow w) (hk : Kept w w') : Pow w' := by
  have hg : Tryz.prog.globalNamed "internal/strconv.uint64pow10" = some 4 := by kernel_rfl
  unfold Pow Lib.TabIs World.var? at h ⊢
  rw [hg] at h ⊢
  simp only [Option.bind_some] at h ⊢
  have hlt : 4 < w.heap.size := by
    rcases Nat.lt_or_ge 4 w.heap.size with hl | hge
    · exact hl
    · rw [Array.getElem?_eq_none hge] at h; cases h
  rw [hk.block _ hlt]
  exact h
theorem kept_grow {w : World} (k : Nat) (os : Array Obj) : Kept w (Sort.grow (w.drewN k) os) :=
  ⟨rfl, rfl, rfl, by simp [Sort.grow], fun b hb => by simp [Sort.grow, Array.getElem?_append, hb]⟩
def numS (n : Int) : ByteArray := bs (Lib.itoa n)

set_option maxHeartbeats 400000 in
theorem fmtInt_any (n : Int) (h0 : -9223372036854775808 ≤ n) (h1 : n ≤ 9223372036854775807) (w : World) (hP : Pow w) :
    Calls Tryz.prog 59 #[.int .i64 n] w fun e w' => e = .returned (.string (numS n)) ∧ Kept w w' := by
  go_enter Tryz.func59, Tryz.ntmps59
  go_wp2_with (go_at_call 79; refine (Tryz.strconv_Itoa n h0 h1 _ hP).mono ?_; rintro e w' ⟨rfl, k, os, rfl⟩)
  go_ret
  exact ⟨rfl, kept_grow k os⟩

theorem decDigits_len (u : Nat) (h : u < 100000000000000000000) : (Lib.decDigits u).length ≤ 20 := by
  rcases Nat.lt_or_ge 20 (Lib.decDigits u).length with hl | hl
  · exfalso
    have hd := decDigits_all u
    have h10 : 10 ≤ u := by
      rcases Nat.lt_or_ge u 10 with h' | h'
      · rw [Lib.decDigits, dif_pos h'] at hl; simp at hl
      · exact h'
    have := val_pos hd (decDigits_head u h10) (decDigits_ne u)
    rw [val_decDigits] at this
    have h2 : 10 ^ 20 ≤ 10 ^ ((Lib.decDigits u).length - 1) := Nat.pow_le_pow_right (by decide) (by omega)
    omega
  · exact hl

theorem run_conv_byte {W : World} {b : Nat} {z : Int} (h : W.cell? ⟨b, 0, none⟩ = some (.int .u8 z)) :
    (convert 61 9 (.slice (some ⟨b, 0, none⟩) 1 1)).run Tryz.prog W = .ok (.string (bs [UInt8.ofNat z.toNat])) W := by
  have hl : (loadCells ⟨b, 0, none⟩ 1).run Tryz.prog W = .ok (([z].map (Value.int .u8)).toArray) W := by
    have := run_loadCells_list (P := Tryz.prog) W ⟨b, 0, none⟩ [Value.int .u8 z] (by
      intro j v hj
      cases j with
      | zero => simp at hj; subst hj; simpa [Addr.add] using h
      | succ j => simp at hj)
    simpa using this
  rw [run_convert_bytes_string W 61 9 5 _ 1 1 (by kernel_rfl) (by kernel_rfl) (by kernel_rfl), run_bytesToString W _ 1 1 [z] hl]
  rfl

set_option maxHeartbeats 4000000 in
set_option maxRecDepth 100000 in
theorem rdigits01_any (m : Nat) : ∀ (n : Int) (_ : n.toNat = m) (_ : 0 ≤ n) (_ : n ≤ 18446744073709551615) (w : World),
    Calls Tryz.prog 87 #[.int .u64 n] w fun e w' => e = .returned (.string (bs (Lib.decDigits n.toNat))) ∧ Kept w w' := by
  induction m using Nat.strongRecOn with
  | _ m ih =>
    intro n hm h0 h1 w
    by_cases hs : n < 10
    · have hcv : (convert 61 9 (.slice (some ⟨w.heap.size, 0, none⟩) 1 1)).run Tryz.prog (w.alloc (.cells #[.int .u8 (48 + n)] 5)) = _ := run_conv_byte (z := 48 + n) (by simp)
      clear ih
      have HR := Lib.hid (show [UInt8.ofNat (48 + n).toNat] = Lib.decDigits n.toNat by
        rw [Lib.decDigits, dif_pos (by omega), show (48 + n).toNat = 48 + n.toNat from by omega])
      go_enter Tryz.func87, Tryz.ntmps87
      go_wp2_with fail
      go_ret
      rw [HR.out]
      exact ⟨rfl, (Kept.refl _).alloc _⟩
    · have hlen := decDigits_len (n / 10).toNat (by omega)
      have hih := ih (n / 10).toNat (by omega) (n / 10) rfl (by omega) (by omega)
      have HR := Lib.hid (show Lib.decDigits (n / 10).toNat ++ [UInt8.ofNat (48 + n % 10).toNat] = Lib.decDigits n.toNat by
        rw [Lib.decDigits.eq_def n.toNat, dif_neg (by omega), show (48 + n % 10).toNat = 48 + n.toNat % 10 from by omega, show (n / 10).toNat = n.toNat / 10 from by omega])
      have hcv : ∀ (W : World) (b : Nat), W.cell? ⟨b, 0, none⟩ = some (.int .u8 (48 + n % 10)) → (convert 61 9 (.slice (some ⟨b, 0, none⟩) 1 1)).run Tryz.prog W = .ok (.string (bs [UInt8.ofNat (48 + n % 10).toNat])) W := fun W b h => run_conv_byte h
      clear ih
      have w1 : IntKind.u64.wrap (n.tdiv 10) = n / 10 := by rw [IntKind.wrap_u64, Int.tdiv_eq_ediv_of_nonneg h0]; omega
      have w2 : n.tmod 10 = n % 10 := Int.tmod_eq_emod_of_nonneg h0
      have w3 : IntKind.u64.wrap (48 + n % 10) = 48 + n % 10 := by rw [IntKind.wrap_u64]; omega
      have w4 : IntKind.u8.wrap (48 + n % 10) = 48 + n % 10 := by rw [IntKind.wrap_u8]; omega
      go_enter Tryz.func87, Tryz.ntmps87
      go_wp2_with fail
      go_region_with (first | (go_at_call 87; (try rw [w1]); refine (hih _).mono ?_; rintro e w' ⟨rfl, hk⟩; have hkc := fun b h => Below.cell hk (p := ⟨b, 0, none⟩) h) | fail)
      all_goals
        clear hcv hih
        go_wp2_with fail
        go_ret
        rw [bs_append, HR.out]
        exact ⟨rfl, by first | exact ((Kept.refl _).drew.trans hk).alloc _ | exact ((Kept.refl _).alloc _).drew.trans hk⟩
theorem rdig01_any (n : Int) (h0 : 0 ≤ n) (h1 : n ≤ 18446744073709551615) (w : World) :
    Calls Tryz.prog 87 #[.int .u64 n] w fun e w' => e = .returned (.string (bs (Lib.decDigits n.toNat))) ∧ Kept w w' := rdigits01_any n.toNat n rfl h0 h1 w

set_option maxHeartbeats 400000 in
theorem rfmtInt_any (n : Int) (h0 : -9223372036854775808 ≤ n) (h1 : n ≤ 9223372036854775807) (w : World) :
    Calls Tryz.prog 68 #[.int .i64 n] w fun e w' => e = .returned (.string (numS n)) ∧ Kept w w' := by
  by_cases hn : n < 0
  · have hl := decDigits_len n.natAbs (by omega)
    have e1 : (-(n + 1) + 1).toNat = n.natAbs := by omega
    have HR := Lib.hid (show bs [45] ++ bs (Lib.decDigits n.natAbs) = numS n by
      rw [bs_append, numS, Lib.itoa, if_pos hn]; rfl)
    go_enter Tryz.func68, Tryz.ntmps68
    go_wp2_with (go_at_call 87; refine (rdig01_any (-(n + 1) + 1) (by omega) (by omega) _).mono ?_; rintro e w' ⟨rfl, hk⟩; rw [e1])
    go_ret
    exact ⟨congrArg (fun x => Ending.returned (Value.string x)) HR.out, hk⟩
  · have hl := decDigits_len n.toNat (by omega)
    have HR := Lib.hid (show bs (Lib.decDigits n.toNat) = numS n by rw [numS, Lib.itoa, if_neg hn])
    go_enter Tryz.func68, Tryz.ntmps68
    go_wp2_with (go_at_call 87; refine (rdig01_any n (by omega) (by omega) _).mono ?_; rintro e w' ⟨rfl, hk⟩)
    go_ret
    exact ⟨congrArg (fun x => Ending.returned (Value.string x)) HR.out, hk⟩
end Go.Proofs.YtemejaomfbhldaaGreatDoor
