/- What numtext.FormatInt and the reference's FormatInt compute: the decimal numeral. -/
import Derived.Test.YtdnjfpmngnkcfaaGreatDoorStr
import Derived.Test.YtdnjfpmngnkcfaaGreatDoorShelf
import Derived.Laws.BytesString
import Derived.Deep.RegionWith
namespace Go.Proofs.YtdnjfpmngnkcfaaGreatDoor
open Go.RowKit

/-- the table of powers of ten of package strconv lies in its block -/
def Pow (w : World) : Prop := Lib.TabIs Tryz.prog w "internal/strconv.uint64pow10" .u64 Lib.pow10Tab
theorem Pow.kept {w w' : World} (h : Pow w) (hk : Kept w w') : Pow w' := by
  have hg : Tryz.prog.globalNamed "internal/strconv.uint64pow10" = some 2 := by kernel_rfl
  unfold Pow Lib.TabIs World.var? at h ⊢
  rw [hg] at h ⊢
  simp only [Option.bind_some] at h ⊢
  have hlt : 2 < w.heap.size := by
    rcases Nat.lt_or_ge 2 w.heap.size with hl | hge
    · exact hl
    · rw [Array.getElem?_eq_none hge] at h; cases h
  rw [hk.block _ hlt]
  exact h
theorem kept_grow {w : World} (k : Nat) (os : Array Obj) : Kept w (Sort.grow (w.drewN k) os) :=
  ⟨rfl, rfl, rfl, by simp [Sort.grow], fun b hb => by simp [Sort.grow, Array.getElem?_append, hb]⟩
def numS (n : Int) : ByteArray := bs (Lib.itoa n)

set_option maxHeartbeats 400000 in
theorem fmtInt_any (n : Int) (h0 : -9223372036854775808 ≤ n) (h1 : n ≤ 9223372036854775807) (w : World) (hP : Pow w) :
    Calls Tryz.prog 55 #[.int .i64 n] w fun e w' => e = .returned (.string (numS n)) ∧ Kept w w' := by
  go_enter Tryz.func55, Tryz.ntmps55
  go_wp2_with (go_at_call 69; refine (Tryz.strconv_Itoa n h0 h1 _ hP).mono ?_; rintro e w' ⟨rfl, k, os, rfl⟩)
  go_ret
  exact ⟨rfl, kept_grow k os⟩

theorem decDigits_len (u : Nat) (h : u < 100000000000000000000) : (Lib.decDigits u).length ≤ 20 := by
  rcases Nat.lt_or_ge 20 (Lib.decDigits u).length with hl | hl
  · exfalso
    have hd := decDigits_all u
    have h10 : 10 ≤ u := by
      rcases Nat.lt_or_ge u 10 with h' | h'
      · rw [Lib.decDigits, dif_pos h'] at hl; simp at hl
      · exact h'
    have := val_pos hd (decDigits_head u h10) (decDigits_ne u)
    rw [val_decDigits] at this
    have h2 : 10 ^ 20 ≤ 10 ^ ((Lib.decDigits u).length - 1) := Nat.pow_le_pow_right (by decide) (by omega)
    omega
  · exact hl

theorem run_conv_byte {W : World} {b : Nat} {z : Int} (h : W.cell? ⟨b, 0, none⟩ = some (.int .u8 z)) :
    (convert 115 9 (.slice (some ⟨b, 0, none⟩) 1 1)).run Tryz.prog W = .ok (.string (bs [UInt8.ofNat z.toNat])) W := by
  have hl : (loadCells ⟨b, 0, none⟩ 1).run Tryz.prog W = .ok (([z].map (Value.int .u8)).toArray) W := by
    have := run_loadCells_list (P := Tryz.prog) W ⟨b, 0, none⟩ [Value.int .u8 z] (by
      intro j v hj
      cases j with
      | zero => simp at hj; subst hj; simpa [Addr.add] using h
      | succ j => simp at hj)
    simpa using this
  rw [run_convert_bytes_string W 115 9 5 _ 1 1 (by kernel_rfl) (by kernel_rfl) (by kernel_rfl), run_bytesToString W _ 1 1 [z] hl]
  rfl

end Go.Proofs.YtdnjfpmngnkcfaaGreatDoor
