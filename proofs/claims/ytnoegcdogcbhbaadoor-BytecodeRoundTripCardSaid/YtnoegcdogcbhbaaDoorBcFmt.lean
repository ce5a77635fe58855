/- What Format of package bytecode, and of its reference, computes. (Printed by wip/genbcfmt.py.) -/
import Derived.Test.YtnoegcdogcbhbaaDoorBcMnem
import Derived.Test.YtnoegcdogcbhbaaDoorBcRound
import Derived.Test.YtnoegcdogcbhbaaDoorBcM1
import Derived.Test.YtnoegcdogcbhbaaDoorBld
import Derived.Test.YtnoegcdogcbhbaaDoorNum
import Derived.Test.YtnoegcdogcbhbaaDoorRefParseC
namespace Go.Proofs.YtnoegcdogcbhbaaDoor
open Go.RowKit

theorem bld_kept {T e : TypeId} {B b : Nat} {l : List Value} {w w' : World} (h : Lib.IsBuilderF T e B b l w) (hk : Kept w w') : Lib.IsBuilderF T e B b l w' := by
  have key : ∀ p, Lib.BuilderAtF T e B b p l w → Lib.BuilderAtF T e B b p l w' := by
    rintro p ⟨hB, v, hb, hown, hne⟩
    have hlt : ∀ {g : Nat} {o : Obj}, w.heap[g]? = some o → g < w.heap.size := fun h => (Array.getElem?_eq_some_iff.1 h).1
    refine ⟨hB, v, (hk.block b (hlt hb)).trans hb, ⟨hown.1, ?_⟩, hne⟩
    rcases hown.2 with hn | ⟨g, cap, cur, fz, hv, hBg, hg, r⟩
    · exact .inl hn
    · exact .inr ⟨g, cap, cur, fz, hv, hBg, (hk.block g (hlt hg)).trans hg, r⟩
  exact h.elim (fun h => .inl (key _ h)) (fun h => .inr (key _ h))
theorem Kept.trans2 {a b c : World} (h : Kept a b) (k : Below a.heap.size b c) : Kept a c := Below.trans h k
theorem bytes_app (a b : List UInt8) : Lib.byteCells a ++ Lib.strCells (bs b) = Lib.byteCells (a ++ b) := by
  unfold Lib.byteCells Lib.strCells
  rw [List.map_append]; rfl
theorem bytes_len (a : List UInt8) : (Lib.byteCells a).length = a.length := by simp [Lib.byteCells]
theorem mn_len (op : Int) : (mnS op).length ≤ 12 := by
  unfold mnS
  split
  · cases hg : mnT[op.toNat]? with
    | none => simp
    | some l =>
      have h : (mnT.all fun l => decide (l.length ≤ 12)) = true := by decide +kernel
      rw [List.all_eq_true] at h
      have := h l (List.mem_of_getElem? hg)
      simpa using this
  · simp
theorem line_bs (x : Nd) : bs (mnS x.o) ++ ⟨#[32]⟩ ++ numS x.n ++ ⟨#[10]⟩ = bs (lineL x ++ [10]) := by
  rw [← L_inj]
  simp only [L_append, L_bs, lineL]
  show _ ++ [32] ++ _ ++ [10] = _
  simp
theorem fmtE_drop {xs : List Nd} {i : Nat} {x : Nd} (hx : xs[i]? = some x) : fmtE (xs.drop i) = if mnS x.o = [] then 2 else if inR x.n then fmtE (xs.drop (i + 1)) else 3 := by
  obtain ⟨hi, rfl⟩ := List.getElem?_eq_some_iff.1 hx
  rw [List.drop_eq_getElem_cons hi, fmtE]
theorem text_snoc {xs : List Nd} {i : Nat} {x : Nd} (hx : xs[i]? = some x) : textL ((xs.take (i + 1)).map lineL) = textL ((xs.take i).map lineL) ++ (lineL x ++ [10]) := by
  rw [List.take_add_one, hx]
  simp [textL]
theorem fmtC_bad {xs : List Nd} (h : ¬ 128 < xs.length) {c : Int} (hc : fmtE xs = c) (h0 : c ≠ 0) : fmtC xs = (⟨#[]⟩, c) := by
  rw [fmtC, if_neg h, if_neg (by rw [hc]; exact h0), hc]
theorem inR_iff {n : Int} : inR n = true ↔ -4611686018427387904 ≤ n ∧ n ≤ 4611686018427387904 := by simp [inR]
theorem bs_nil {l : List UInt8} : ((bs l).toList == []) = decide (l = []) := by
  rw [toList_L, L_bs]
  cases l <;> rfl
def fmtPost (xs : List Nd) (w : World) (r : Ending) (w' : World) : Prop := r = .returned (.tuple #[.string (fmtC xs).1, .int .i64 (fmtC xs).2]) ∧ Kept w w'

set_option maxRecDepth 100000 in
set_option maxHeartbeats 8000000 in
theorem format26_any (v : Value) (xs : List Nd) (w : World) (hN : Nds w v xs) (hn : xs.length ≤ 9223372036854775807) (hP : Pow w) : Calls Tryd.prog 18 #[v] w (fmtPost xs w) := by
  unfold fmtPost
  obtain ⟨A, cap, rfl, hA⟩ := hN.at_
  obtain ⟨n, hxn⟩ : ∃ n, n = xs.length := ⟨_, rfl⟩
  rw [← hxn] at hA hn ⊢
  have HX := Lib.hid hxn
  clear hxn hN
  by_cases hb : 128 < n
  · have hbi : (128 : Int) < n := by omega
    have HR := Lib.hid (show fmtC xs = (⟨#[]⟩, 4) by rw [fmtC, if_pos (by have := HX.out; omega)])
    rw [HR.out]
    go_enter Tryd.func18, Tryd.ntmps18
    go_wp2_with fail
    go_ret2
    exact ⟨rfl, Kept.refl _⟩
  have hp : ¬ ((128 : Int) < n) := by omega
  have hn128 : n ≤ 128 := by omega
  have HFB := Lib.hid (fun (c : Int) (hc : fmtE xs = c) (h0 : c ≠ 0) => fmtC_bad (xs := xs) (by have := HX.out; omega) hc h0)
  have hB0 : Lib.IsBuilderF 72 5 w.heap.size w.heap.size (Lib.byteCells []) (w.alloc (.cells #[.pointer none, .slice none 0 0] 72)) :=
    .inl ⟨Nat.le_refl _, _, heap_alloc_new w _, World.ownsRowF_nil _ _ _ _, by simp [Value.ownBlock]⟩
  have HB0 := Lib.hid hB0
  clear hB0 hb hn
  go_enter Tryd.func18, Tryd.ntmps18
  go_wp2_with fail
  go_loopw [13] (fun z wr => ∃ i : Nat, i ≤ n ∧ z = .int .i64 i ∧ fmtE (xs.drop i) = fmtE xs ∧ (textL ((xs.take i).map lineL)).length ≤ 64 * i ∧ Lib.IsBuilderF 72 5 w.heap.size w.heap.size (Lib.byteCells (textL ((xs.take i).map lineL))) wr ∧ Kept w wr ∧ w.heap.size < wr.heap.size) (fun z _ => (n - intOf z).toNat)
  case atStart => exact ⟨0, Nat.zero_le _, rfl, rfl, Nat.le_refl _, HB0.out, (Kept.refl _).alloc _, by simp⟩
  case round =>
    obtain ⟨i, hin, rfl, hfe, htl, hbd, hK, hlt⟩ := hrel
    by_cases hi : i < n
    · obtain ⟨b1, o1, rfl, hb1, hc1⟩ := hA (by omega)
      have hg : xs[i]? = some (xs[i]'(by have := HX.out; omega)) := List.getElem?_eq_getElem _
      obtain ⟨x0, x1⟩ := hc1 i _ hg
      rw [fmtE_drop hg] at hfe
      have hts := text_snoc hg
      clear hc1 hA hg
      generalize xs[i]'(by have := HX.out; omega) = T at *
      have hls := lineL_len (x := T)
      have hlb := line_bs T
      obtain ⟨op, N⟩ := T
      dsimp only at x0 x1 hfe hlb
      have X0 := hK.cell (p := ⟨b1, _, none⟩) hb1 x0
      have X1 := hK.cell (p := ⟨b1, _, none⟩) hb1 x1
      have hii : (i : Int) < n := by omega
      have HMN := Lib.hid (fun w => mnem_any op w)
      have hml := mn_len op
      have hms : (bs (mnS op)).size ≤ 12 := by rw [bs_size]; exact hml
      have hnil := bs_nil (l := mnS op)
      have HBD := Lib.hid hbd
      clear hbd x0 x1 hml
      by_cases hm : mnS op = []
      · rw [if_pos hm] at hfe
        have HR := Lib.hid (HFB.out 2 hfe.symm (by decide))
        rw [hm, show bs [] = (⟨#[]⟩ : ByteArray) from rfl] at HMN
        clear hfe hts hlb hls hms hnil hm HFB
        go_wp2_with (go_at_call 38; refine (HMN.out _).mono ?_; rintro e w1 ⟨rfl, rfl⟩)
        go_ret2
        rw [HR.out]
        exact ⟨rfl, hK.alloc _⟩
      · rw [if_neg hm] at hfe
        rw [decide_eq_false hm] at hnil
        by_cases hr : inR N = true
        · rw [if_pos hr] at hfe
          obtain ⟨r1, r2⟩ := inR_iff.1 hr
          have hll := hls hr
          have HLB := Lib.hid hlb
          have HTS := Lib.hid hts
          have HFE := Lib.hid hfe
          have HFI := Lib.hid (fun w hP => fmtInt_any N (by omega) (by omega) w hP)
          have hns := numS_size N (by omega) (by omega)
          clear hfe hts hlb hls hm hr HFB
          generalize bs (mnS op) = M at *
          generalize numS N = Z at *
          have hq1 : ¬ N < -4611686018427387904 := by omega
          have hq2 : ¬ 4611686018427387904 < N := by omega
          go_wp2_with (first
            | (go_at_call 38; refine (HMN.out _).mono ?_; rintro e w1 ⟨rfl, rfl⟩)
            | (go_at_call 40; refine (HFI.out _ (hP.kept (hK.alloc _))).mono ?_; rintro e w2 ⟨rfl, k2⟩))
          rw [HLB.out]
          have hK2 := (hK.alloc (.cells #[.int .i64 op, .int .i64 N] 34)).trans k2
          have HB2 := Lib.hid (bld_kept HBD.out (((Kept.refl wr).alloc (.cells #[.int .i64 op, .int .i64 N] 34)).trans k2))
          have hw2 : w.heap.size < w2.heap.size := by have := k2.size; simp at this; omega
          refine (wstring_k _ _ _ _ _ HB2.out (by rw [bytes_len, bs_size, List.length_append, List.length_singleton]; omega) (by omega)).mono ?_
          rintro e w4 ⟨rfl, hb4, hbl4, _⟩
          rw [bytes_app] at hb4
          have HB4 := Lib.hid (show Lib.IsBuilderF 72 5 w.heap.size w.heap.size _ w4 from .inr hb4)
          have HK4 := Lib.hid (hK2.trans2 hbl4)
          clear hb4
          go_wp2_with fail
          go_roundw
          case rel => exact ⟨i + 1, hi, by go_num, HFE.out, by rw [HTS.out, List.length_append, List.length_append, List.length_singleton]; omega, by rw [HTS.out]; exact HB4.out, HK4.out, by have := hbl4.size; omega⟩
          case measure => simp only [intOf]; omega
        · rw [if_neg hr] at hfe
          have HR := Lib.hid (HFB.out 3 hfe.symm (by decide))
          have hro : N < -4611686018427387904 ∨ 4611686018427387904 < N := by
            rcases Int.lt_or_le N (-4611686018427387904) with h | h
            · exact .inl h
            · rcases Int.lt_or_le 4611686018427387904 N with h2 | h2
              · exact .inr h2
              · exact absurd (inR_iff.2 ⟨h, h2⟩) hr
          clear hfe hts hlb hls hm hr HFB
          generalize bs (mnS op) = M at *
          rcases hro with h1 | h1
          · go_wp2_with (go_at_call 38; refine (HMN.out _).mono ?_; rintro e w1 ⟨rfl, rfl⟩)
            go_ret2
            rw [HR.out]
            exact ⟨rfl, hK.alloc _⟩
          · have h2 : ¬ N < -4611686018427387904 := by omega
            go_wp2_with (go_at_call 38; refine (HMN.out _).mono ?_; rintro e w1 ⟨rfl, rfl⟩)
            go_ret2
            rw [HR.out]
            exact ⟨rfl, hK.alloc _⟩
    · have hii : ¬ ((i : Int) < n) := by omega
      have hR : fmtC xs = (bs (textL (xs.map lineL)), 0) := by
        rw [List.drop_eq_nil_iff.2 (by have := HX.out; omega)] at hfe
        rw [fmtC, if_neg (by have := HX.out; omega), if_pos (show fmtE xs = 0 from hfe.symm)]
      rw [List.take_of_length_le (by have := HX.out; omega)] at hbd
      have HR := Lib.hid hR
      have HBD := Lib.hid hbd
      clear hR hbd hfe htl
      go_wp2_with (go_at_call 41; refine (Tryd.Builder_String_any_k _ _ _ _ HBD.out (by omega)).mono ?_; rintro e w5 ⟨rfl, hb5, hbl, _⟩)
      go_ret2
      rw [HR.out]
      exact ⟨rfl, hK.trans2 hbl⟩

/-! The reference -/
def nmC : Array Value := #[.string ⟨#[]⟩, .string ⟨#[98, 111, 111, 108]⟩, .string ⟨#[105, 110, 116]⟩, .string ⟨#[109, 111, 110, 101, 121]⟩, .string ⟨#[114, 97, 116, 101]⟩, .string ⟨#[100, 97, 116, 101]⟩, .string ⟨#[101, 110, 117, 109]⟩, .string ⟨#[105, 110, 112, 117, 116]⟩, .string ⟨#[100, 101, 102]⟩, .string ⟨#[99, 97, 115, 101, 100, 97, 116, 101]⟩, .string ⟨#[110, 101, 103]⟩, .string ⟨#[97, 100, 100]⟩, .string ⟨#[115, 117, 98]⟩, .string ⟨#[109, 117, 108]⟩, .string ⟨#[109, 117, 108, 114, 97, 116, 101]⟩, .string ⟨#[100, 105, 118]⟩, .string ⟨#[114, 111, 117, 110, 100, 116, 111]⟩, .string ⟨#[109, 105, 110]⟩, .string ⟨#[109, 97, 120]⟩, .string ⟨#[101, 113]⟩, .string ⟨#[110, 101]⟩, .string ⟨#[108, 116]⟩, .string ⟨#[108, 101]⟩, .string ⟨#[]⟩, .string ⟨#[]⟩, .string ⟨#[110, 111, 116]⟩, .string ⟨#[]⟩, .string ⟨#[97, 100, 100, 100, 97, 121, 115]⟩, .string ⟨#[97, 100, 100, 109, 111, 110, 116, 104, 115]⟩, .string ⟨#[100, 97, 121, 115, 98, 101, 116, 119, 101, 101, 110]⟩, .string ⟨#[121, 101, 97, 114, 115, 98, 101, 116, 119, 101, 101, 110]⟩, .string ⟨#[121, 101, 97, 114]⟩, .string ⟨#[109, 111, 110, 116, 104]⟩, .string ⟨#[108, 111, 111, 107, 117, 112]⟩, .string ⟨#[98, 114, 97, 99, 107, 101, 116, 115]⟩, .string ⟨#[99, 111, 117, 110, 116]⟩, .string ⟨#[115, 117, 109]⟩, .string ⟨#[97, 108, 108]⟩, .string ⟨#[97, 110, 121]⟩, .string ⟨#[109, 111, 115, 116]⟩]
def jmC : Array Value := #[.string ⟨#[106, 117, 109, 112, 102, 97, 108, 115, 101]⟩, .string ⟨#[106, 117, 109, 112]⟩, .string ⟨#[97, 110, 100, 106, 117, 109, 112]⟩, .string ⟨#[111, 114, 106, 117, 109, 112]⟩]
theorem nm_get : ∀ k : Nat, k < 40 → nmC[k]? = some (.string (bs (mnS k))) := by
  intro k hk
  rcases (show k = 0 ∨ k = 1 ∨ k = 2 ∨ k = 3 ∨ k = 4 ∨ k = 5 ∨ k = 6 ∨ k = 7 ∨ k = 8 ∨ k = 9 ∨ k = 10 ∨ k = 11 ∨ k = 12 ∨ k = 13 ∨ k = 14 ∨ k = 15 ∨ k = 16 ∨ k = 17 ∨ k = 18 ∨ k = 19 ∨ k = 20 ∨ k = 21 ∨ k = 22 ∨ k = 23 ∨ k = 24 ∨ k = 25 ∨ k = 26 ∨ k = 27 ∨ k = 28 ∨ k = 29 ∨ k = 30 ∨ k = 31 ∨ k = 32 ∨ k = 33 ∨ k = 34 ∨ k = 35 ∨ k = 36 ∨ k = 37 ∨ k = 38 ∨ k = 39 by omega) with rfl | rfl | rfl | rfl | rfl | rfl | rfl | rfl | rfl | rfl | rfl | rfl | rfl | rfl | rfl | rfl | rfl | rfl | rfl | rfl | rfl | rfl | rfl | rfl | rfl | rfl | rfl | rfl | rfl | rfl | rfl | rfl | rfl | rfl | rfl | rfl | rfl | rfl | rfl | rfl
  all_goals rfl
set_option maxRecDepth 100000 in
set_option maxHeartbeats 8000000 in
theorem rmnem_any (op : Int) (w : World) : Calls Tryd.prog 42 #[.int .i64 op] w fun e w' => e = .returned (.string (bs (mnS op))) ∧ Kept w w' := by
  have HJ := Lib.hid (fun w => rjmp_any op w)
  by_cases hj : 50 ≤ op ∧ op ≤ 53
  · rw [jmpB_iff.2 hj] at HJ
    rcases (show op = 50 ∨ op = 51 ∨ op = 52 ∨ op = 53 by omega) with rfl | rfl | rfl | rfl
    all_goals
      go_enter Tryd.func42, Tryd.ntmps42
      go_wp2_with (go_at_call 36; refine (HJ.out _).mono ?_; rintro e w1 ⟨rfl, rfl⟩)
      go_ret
      exact ⟨rfl, ((Kept.refl _).alloc _).alloc _⟩
  · rw [jmpB_no.2 hj] at HJ
    by_cases hn : op < 0
    · have HR := Lib.hid (mnS_out (op := op) (.inl hn))
      rw [HR.out]
      clear hj
      go_enter Tryd.func42, Tryd.ntmps42
      go_wp2_with (go_at_call 36; refine (HJ.out _).mono ?_; rintro e w1 ⟨rfl, rfl⟩)
      go_ret
      exact ⟨rfl, ((Kept.refl _).alloc _).alloc _⟩
    · by_cases h40 : 40 ≤ op
      · have hm : mnS op = [] := by
          rcases (show (op < 0 ∨ 53 < op) ∨ (op = 40 ∨ op = 41 ∨ op = 42 ∨ op = 43 ∨ op = 44 ∨ op = 45 ∨ op = 46 ∨ op = 47 ∨ op = 48 ∨ op = 49) by omega) with h | h
          · exact mnS_out h
          · rcases h with rfl | rfl | rfl | rfl | rfl | rfl | rfl | rfl | rfl | rfl <;> rfl
        rw [hm]
        clear hj hm
        go_enter Tryd.func42, Tryd.ntmps42
        go_wp2_with (go_at_call 36; refine (HJ.out _).mono ?_; rintro e w1 ⟨rfl, rfl⟩)
        go_ret
        exact ⟨rfl, ((Kept.refl _).alloc _).alloc _⟩
      · obtain ⟨k, rfl⟩ : ∃ k : Nat, op = k := ⟨op.toNat, by omega⟩
        have hk := nm_get k (by omega)
        have hk40 : (k : Int) < 40 := by omega
        have hc : ((w.alloc (.cells nmC 9)).alloc (.cells jmC 9)).cell? ⟨w.heap.size, k, none⟩ = some (.string (bs (mnS k))) := by
          rw [World.cell?_alloc_past _ _ _ (by simp), World.cell?_alloc_at _ _ _ k rfl]; exact hk
        unfold nmC jmC at hc
        unfold nmC at hk
        generalize bs (mnS k) = X at *
        clear hj hn h40
        go_enter Tryd.func42, Tryd.ntmps42
        go_wp2_with (go_at_call 36; refine (HJ.out _).mono ?_; rintro e w1 ⟨rfl, rfl⟩)
        go_ret
        exact ⟨rfl, ((Kept.refl _).alloc _).alloc _⟩
end Go.Proofs.YtnoegcdogcbhbaaDoor
