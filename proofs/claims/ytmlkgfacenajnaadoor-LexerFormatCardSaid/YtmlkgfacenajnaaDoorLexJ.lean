/- What Format of package lexer computes. -/
import Derived.Test.YtmlkgfacenajnaaDoorLexI
import Derived.Test.YtmlkgfacenajnaaDoorLaw08A
namespace Go.Proofs.YtmlkgfacenajnaaDoor
open Go.RowKit

def lastK (p : Option Int) (xs : List Tok) : Option Int := match xs.getLast? with
  | some t => some t.k
  | none => p
theorem joinF_snoc : ∀ (a : List Tok) (p : Option Int) (x : Tok), joinF p (a ++ [x]) = joinF p a ++ (sepL (lastK p a) x.k ++ srcL x.k x.t) := by
  intro a
  induction a with
  | nil => intro p x; simp [joinF, lastK]
  | cons y a ih =>
    intro p x
    have e : lastK (some y.k) a = lastK p (y :: a) := by
      cases a with
      | nil => rfl
      | cons z a => simp [lastK, List.getLast?_cons]
    rw [List.cons_append, joinF, ih, joinF, e]
    simp [List.append_assoc]
theorem joinF_le (M : Nat) : ∀ (xs : List Tok) (p : Option Int), (∀ t, t ∈ xs → t.t.length ≤ M) → (joinF p xs).length ≤ xs.length * (M + 3) := by
  intro xs
  induction xs with
  | nil => intro p _; simp [joinF]
  | cons t r ih =>
    intro p h
    have h1 := ih (some t.k) (fun x hx => h x (by simp [hx]))
    have h2 := h t (by simp)
    have h3 := srcL_len t.k t.t
    have h4 := sepL_len p t.k
    rw [joinF, List.length_append, List.length_append, List.length_cons, Nat.add_mul]
    omega
theorem lastK_take {xs : List Tok} {i : Nat} {y : Tok} (h0 : 0 < i) (hi : xs[i - 1]? = some y) : lastK none (xs.take i) = some y.k := by
  have hl := get_lt (l := xs.map (fun _ => (0 : UInt8))) (i := i - 1) (c := 0) (by rw [List.getElem?_map, hi]; rfl)
  rw [List.length_map] at hl
  unfold lastK
  rw [List.getLast?_take, if_neg (by omega)]
  rw [hi]; rfl
theorem bld_kept {T e : TypeId} {B b : Nat} {l : List Value} {w w' : World} (h : Lib.IsBuilderF T e B b l w) (hk : Kept w w') : Lib.IsBuilderF T e B b l w' := by
  have key : ∀ p, Lib.BuilderAtF T e B b p l w → Lib.BuilderAtF T e B b p l w' := by
    rintro p ⟨hB, v, hb, hown, hne⟩
    have hlt : ∀ {g : Nat} {o : Obj}, w.heap[g]? = some o → g < w.heap.size := fun h => (Array.getElem?_eq_some_iff.1 h).1
    refine ⟨hB, v, (hk.block b (hlt hb)).trans hb, ⟨hown.1, ?_⟩, hne⟩
    rcases hown.2 with hn | ⟨g, cap, cur, fz, hv, hBg, hg, r⟩
    · exact .inl hn
    · exact .inr ⟨g, cap, cur, fz, hv, hBg, (hk.block g (hlt hg)).trans hg, r⟩
  exact h.elim (fun h => .inl (key _ h)) (fun h => .inr (key _ h))
theorem Kept.trans2 {a b c : World} (h : Kept a b) (k : Below a.heap.size b c) : Kept a c := Below.trans h k
theorem bld_other {e : TypeId} {b g : Nat} {t : TypeId} {cs : Array Value} {w w' : World} (h : Lib.OthersKept e (some b) w w') (hb : Blk w g t cs) (hg : g ≠ b) (ht : t ≠ e) : Blk w' g t cs :=
  h g _ hb (fun x => hg (Option.some.inj x)) (fun c fz x => by cases x; exact ht rfl)
theorem bytes_app (a b : List UInt8) : Lib.byteCells a ++ Lib.strCells (bs b) = Lib.byteCells (a ++ b) := by
  unfold Lib.byteCells Lib.strCells
  rw [List.map_append]; rfl
theorem bytes_one (a : List UInt8) : Lib.byteCells a ++ [Value.int .u8 32] = Lib.byteCells (a ++ [32]) := by
  unfold Lib.byteCells
  rw [List.map_append]; rfl
theorem bytes_len (a : List UInt8) : (Lib.byteCells a).length = a.length := by simp [Lib.byteCells]
theorem fmtR_bad {xs : List Tok} {i : Nat} {x : Tok} (hx : xs[i]? = some x) (h : fmtB x = false) : fmtR xs = ([], 2) := by
  rw [fmtR, if_neg]
  intro e
  rw [List.all_eq_true.1 e x (List.mem_of_getElem? hx)] at h; cases h
theorem take_all {xs : List Tok} {i : Nat} {x : Tok} (hx : xs[i]? = some x) (h : fmtB x = true) (ha : (xs.take i).all fmtB = true) : (xs.take (i + 1)).all fmtB = true := by
  rw [List.take_add_one, hx, List.all_append, ha]; simp [h]
theorem take_snoc {xs : List Tok} {i : Nat} {x : Tok} (hx : xs[i]? = some x) : xs.take (i + 1) = xs.take i ++ [x] := by
  rw [List.take_add_one, hx]; rfl
theorem joinF_take {xs : List Tok} {i : Nat} {X : Tok} (h : xs[i]? = some X) : joinF none (xs.take (i + 1)) = joinF none (xs.take i) ++ (sepL (lastK none (xs.take i)) X.k ++ srcL X.k X.t) := by
  rw [take_snoc h]; exact joinF_snoc _ _ _
def fmtPost (xs : List Tok) (w : World) (e : Ending) (w' : World) : Prop := e = .returned (.tuple #[.string (bs (fmtR xs).1), .int .i64 (fmtR xs).2]) ∧ Kept w w'

set_option maxRecDepth 100000 in
set_option maxHeartbeats 8000000 in
theorem format08_any (v : Value) (xs : List Tok) (w : World) (hT : Toks w v xs) (hM : Mon w) (hn : xs.length ≤ 4000) (hl : ∀ t, t ∈ xs → t.t.length ≤ 4000) :
    Calls Tryd.prog 19 #[v] w (fmtPost xs w) := by
  unfold fmtPost
  obtain ⟨A, cap, rfl, hA⟩ := hT.at_
  obtain ⟨n, hxn⟩ : ∃ n, n = xs.length := ⟨_, rfl⟩
  rw [← hxn] at hA hn ⊢
  have HX := Lib.hid hxn
  clear hxn hT
  have hB0 : Lib.IsBuilderF 63 5 w.heap.size w.heap.size (Lib.byteCells []) (w.alloc (.cells #[.pointer none, .slice none 0 0] 63)) :=
    .inl ⟨Nat.le_refl _, _, heap_alloc_new w _, World.ownsRowF_nil _ _ _ _, by simp [Value.ownBlock]⟩
  have HB0 := Lib.hid hB0
  clear hB0
  go_enter Tryd.func19, Tryd.ntmps19
  go_wp2_with fail
  go_loopw [9] (fun z wr => ∃ i : Nat, i ≤ n ∧ z = .int .i64 i ∧ (xs.take i).all fmtB = true ∧ Lib.IsBuilderF 63 5 w.heap.size w.heap.size (Lib.byteCells (joinF none (xs.take i))) wr ∧ Kept w wr ∧ w.heap.size < wr.heap.size) (fun z _ => (n - intOf z).toNat)
  case atStart => exact ⟨0, Nat.zero_le _, rfl, rfl, HB0.out, (Kept.refl _).alloc _, by simp⟩
  case round =>
    obtain ⟨i, hin, rfl, hall, hbd, hK, hlt⟩ := hrel
    by_cases hi : i < n
    · obtain ⟨b1, o1, rfl, hb1, hc1⟩ := hA (by omega)
      have hg : xs[i]? = some (xs[i]'(by have := HX.out; omega)) := List.getElem?_eq_getElem _
      have hlx := hl _ (List.mem_of_getElem? hg)
      have hjl := joinF_le 4000 (xs.take i) none (fun t ht => hl t (List.mem_of_mem_take ht))
      have htl : (xs.take i).length ≤ 4000 := by rw [List.length_take]; omega
      have hjl2 : (joinF none (xs.take i)).length ≤ 16012000 := by have := Nat.mul_le_mul_right (4000 + 3) htl; omega
      obtain ⟨x0, x1, x2, x3⟩ := hc1 i _ hg
      have hprev : 0 < i → ∃ y : Tok, w.cell? ⟨b1, o1 + (i - 1) * 4, none⟩ = some (.int .i64 y.k) ∧ lastK none (xs.take i) = some y.k := fun h => by
        have hg2 : xs[i - 1]? = some (xs[i - 1]'(by have := HX.out; omega)) := List.getElem?_eq_getElem _
        exact ⟨_, (hc1 (i - 1) _ hg2).1, lastK_take h hg2⟩
      have hl0 : ¬ 0 < i → lastK none (xs.take i) = none := fun h => by
        obtain rfl : i = 0 := by omega
        rfl
      have HSN := Lib.hid (joinF_take hg)
      have HTA := Lib.hid (fun h => take_all hg h hall)
      have HBD := Lib.hid (fun h => fmtR_bad hg h)
      clear hc1 hjl htl
      generalize xs[i]'(by have := HX.out; omega) = T at *
      have HF := Lib.hid (fun w hM => formattable_any T (by omega) w hM)
      have HSR := Lib.hid (fun w => source_any T (by omega) w)
      have hsrl := srcL_len T.k T.t
      clear hg
      obtain ⟨k, t, nn, o⟩ := T
      unfold tokV at HF HSR
      dsimp only at HF HSR HSN x0 x1 x2 x3 hlx hsrl
      have X0 := hK.cell (p := ⟨b1, _, none⟩) hb1 x0
      have X1 := hK.cell (p := ⟨b1, _, none⟩) hb1 x1
      have X2 := hK.cell (p := ⟨b1, _, none⟩) hb1 x2
      have X3 := hK.cell (p := ⟨b1, _, none⟩) hb1 x3
      clear x0 x1 x2 x3 hA
      have hii : (i : Int) < n := by omega
      have HALL := Lib.hid hall
      have HBLD := Lib.hid hbd
      clear hall hbd
      cases hfb : fmtB ⟨k, t, nn, o⟩
      · have HR := Lib.hid (HBD.out hfb)
        have HFT := Lib.hid hfb
        clear hfb hprev hl0
        go_wp2_with fail
        refine (HF.out _ (hM.kept (hK.alloc _))).mono ?_
        rintro e w1 ⟨rfl, k1⟩
        rw [HFT.out]
        go_wp2_with fail
        go_ret2
        rw [HR.out]
        exact ⟨rfl, (hK.alloc _).trans k1⟩
      · have HTA2 := Lib.hid (HTA.out hfb)
        have HFT := Lib.hid hfb
        clear hfb HTA HBD
        by_cases h0 : 0 < i
        · obtain ⟨y, y0, hlk⟩ := hprev h0
          have h0i : (0 : Int) < i := by omega
          have s3 : ((i : Int) - 1).toNat = i - 1 := by omega
          have s5 : (1 : Int) ≤ (i : Int) := by omega
          by_cases hk8 : k = 8
          · have hk8b : (k == 8) = true := by rw [beq_iff_eq]; exact hk8
            have hk8c : (k != 8) = false := by rw [bne, hk8b]; rfl
            have HSN2 := Lib.hid (show joinF none (xs.take (i + 1)) = joinF none (xs.take i) ++ srcL k t by
              rw [HSN.out, hlk, sepL, if_neg (fun h => h.1 hk8)]; simp)
            clear hlk hk8 hprev hl0 HSN
            go_wp2_with fail
            refine (HF.out _ (hM.kept (hK.alloc _))).mono ?_
            rintro e w1 ⟨rfl, k1⟩
            rw [HFT.out]
            have BX := k1.blk1
            have HBK := Lib.hid (bld_kept HBLD.out (((Kept.refl wr).alloc _).trans k1))
            have hK1 := (hK.alloc _).trans k1
            have bx := BX.cell
            have lx := BX.lt
            have hw1 : w.heap.size < w1.heap.size := Nat.lt_of_lt_of_le hlt (Nat.le_trans (by simp) k1.size)
            have Y0 := hK1.cell (p := ⟨b1, _, none⟩) hb1 y0
            go_wp2_with fail
            refine (HSR.out _).mono ?_
            rintro e w3 ⟨rfl, k3⟩
            have HB3 := Lib.hid (bld_kept HBK.out k3)
            have hK3 := hK1.trans k3
            have hw3 : w.heap.size < w3.heap.size := Nat.lt_of_lt_of_le hw1 k3.size
            go_wp2_with fail
            refine (wstring_k _ _ _ _ _ HB3.out (by rw [bytes_len, bs_size]; omega) (by omega)).mono ?_
            rintro e w4 ⟨rfl, hb4, hbl4, _⟩
            rw [bytes_app] at hb4
            have HB4 := Lib.hid (show Lib.IsBuilderF 63 5 w.heap.size w.heap.size _ w4 from .inr hb4)
            have HK4 := Lib.hid (hK3.trans2 hbl4)
            clear hb4
            go_wp2_with fail
            go_roundw
            case rel => exact ⟨i + 1, hi, by go_num, HTA2.out, by rw [HSN2.out]; exact HB4.out, HK4.out, by have := hbl4.size; omega⟩
            case measure => simp only [intOf]; omega
          · have hk8b : (k == 8) = false := by rw [beq_eq_false_iff_ne]; exact hk8
            have hk8c : (k != 8) = true := by rw [bne, hk8b]; rfl
            by_cases hy8 : y.k = 8
            · have hy8b : (y.k == 8) = true := by rw [beq_iff_eq]; exact hy8
              have hy8c : (y.k != 8) = false := by rw [bne, hy8b]; rfl
              have HSN2 := Lib.hid (show joinF none (xs.take (i + 1)) = joinF none (xs.take i) ++ srcL k t by
                rw [HSN.out, hlk, sepL, if_neg (fun h => h.2 hy8)]; simp)
              clear hlk hk8 hy8 hprev hl0 HSN
              go_wp2_with fail
              refine (HF.out _ (hM.kept (hK.alloc _))).mono ?_
              rintro e w1 ⟨rfl, k1⟩
              rw [HFT.out]
              have BX := k1.blk1
              have HBK := Lib.hid (bld_kept HBLD.out (((Kept.refl wr).alloc _).trans k1))
              have hK1 := (hK.alloc _).trans k1
              have bx := BX.cell
              have lx := BX.lt
              have hw1 : w.heap.size < w1.heap.size := Nat.lt_of_lt_of_le hlt (Nat.le_trans (by simp) k1.size)
              have Y0 := hK1.cell (p := ⟨b1, _, none⟩) hb1 y0
              go_wp2_with fail
              refine (HSR.out _).mono ?_
              rintro e w3 ⟨rfl, k3⟩
              have HB3 := Lib.hid (bld_kept HBK.out k3)
              have hK3 := hK1.trans k3
              have hw3 : w.heap.size < w3.heap.size := Nat.lt_of_lt_of_le hw1 k3.size
              go_wp2_with fail
              refine (wstring_k _ _ _ _ _ HB3.out (by rw [bytes_len, bs_size]; omega) (by omega)).mono ?_
              rintro e w4 ⟨rfl, hb4, hbl4, _⟩
              rw [bytes_app] at hb4
              have HB4 := Lib.hid (show Lib.IsBuilderF 63 5 w.heap.size w.heap.size _ w4 from .inr hb4)
              have HK4 := Lib.hid (hK3.trans2 hbl4)
              clear hb4
              go_wp2_with fail
              go_roundw
              case rel => exact ⟨i + 1, hi, by go_num, HTA2.out, by rw [HSN2.out]; exact HB4.out, HK4.out, by have := hbl4.size; omega⟩
              case measure => simp only [intOf]; omega
            · have hy8b : (y.k == 8) = false := by rw [beq_eq_false_iff_ne]; exact hy8
              have hy8c : (y.k != 8) = true := by rw [bne, hy8b]; rfl
              have HSN2 := Lib.hid (show joinF none (xs.take (i + 1)) = joinF none (xs.take i) ++ ([32] ++ srcL k t) by
                rw [HSN.out, hlk, sepL, if_pos ⟨hk8, hy8⟩])
              clear hlk hk8 hy8 hprev hl0 HSN
              go_wp2_with fail
              refine (HF.out _ (hM.kept (hK.alloc _))).mono ?_
              rintro e w1 ⟨rfl, k1⟩
              rw [HFT.out]
              have BX := k1.blk1
              have HBK := Lib.hid (bld_kept HBLD.out (((Kept.refl wr).alloc _).trans k1))
              have hK1 := (hK.alloc _).trans k1
              have bx := BX.cell
              have lx := BX.lt
              have hw1 : w.heap.size < w1.heap.size := Nat.lt_of_lt_of_le hlt (Nat.le_trans (by simp) k1.size)
              have Y0 := hK1.cell (p := ⟨b1, _, none⟩) hb1 y0
              go_wp2_with fail
              refine (wbyte_k _ _ _ 32 _ HBK.out (by rw [bytes_len]; omega) (by omega)).mono ?_
              rintro e w2 ⟨rfl, hb2, hbl2, ho2⟩
              have hK2 : Kept w w2 := hK1.trans2 hbl2
              have BX2 := bld_other ho2 BX (by omega) (by decide)
              rw [bytes_one] at hb2
              have HB2 := Lib.hid (show Lib.IsBuilderF 63 5 w.heap.size w.heap.size _ w2 from .inr hb2)
              clear bx lx Y0
              have bx := BX2.cell
              have lx := BX2.lt
              go_wp2_with fail
              refine (HSR.out _).mono ?_
              rintro e w3 ⟨rfl, k3⟩
              have HB3 := Lib.hid (bld_kept HB2.out k3)
              have hK3 := hK2.trans k3
              have hw3 : w.heap.size < w3.heap.size := Nat.lt_of_lt_of_le hw1 (Nat.le_trans hbl2.size k3.size)
              go_wp2_with fail
              refine (wstring_k _ _ _ _ _ HB3.out (by rw [bytes_len, bs_size, List.length_append, List.length_singleton]; omega) (by omega)).mono ?_
              rintro e w4 ⟨rfl, hb4, hbl4, _⟩
              rw [bytes_app, List.append_assoc] at hb4
              have HB4 := Lib.hid (show Lib.IsBuilderF 63 5 w.heap.size w.heap.size _ w4 from .inr hb4)
              have HK4 := Lib.hid (hK3.trans2 hbl4)
              clear hb4 hb2
              go_wp2_with fail
              go_roundw
              case rel => exact ⟨i + 1, hi, by go_num, HTA2.out, by rw [HSN2.out]; exact HB4.out, HK4.out, by have := hbl4.size; omega⟩
              case measure => simp only [intOf]; omega
        · have h0i : ¬ ((0 : Int) < i) := by omega
          have hlk := hl0 h0
          have HSN2 := Lib.hid (show joinF none (xs.take (i + 1)) = joinF none (xs.take i) ++ srcL k t by
            rw [HSN.out, hlk, sepL]; simp)
          clear hlk hprev hl0 HSN
          go_wp2_with fail
          refine (HF.out _ (hM.kept (hK.alloc _))).mono ?_
          rintro e w1 ⟨rfl, k1⟩
          rw [HFT.out]
          have BX := k1.blk1
          have HBK := Lib.hid (bld_kept HBLD.out (((Kept.refl wr).alloc _).trans k1))
          have hK1 := (hK.alloc _).trans k1
          have bx := BX.cell
          have lx := BX.lt
          have hw1 : w.heap.size < w1.heap.size := Nat.lt_of_lt_of_le hlt (Nat.le_trans (by simp) k1.size)
          go_wp2_with fail
          refine (HSR.out _).mono ?_
          rintro e w3 ⟨rfl, k3⟩
          have HB3 := Lib.hid (bld_kept HBK.out k3)
          have hK3 := hK1.trans k3
          have hw3 : w.heap.size < w3.heap.size := Nat.lt_of_lt_of_le hw1 k3.size
          go_wp2_with fail
          refine (wstring_k _ _ _ _ _ HB3.out (by rw [bytes_len, bs_size]; omega) (by omega)).mono ?_
          rintro e w4 ⟨rfl, hb4, hbl4, _⟩
          rw [bytes_app] at hb4
          have HB4 := Lib.hid (show Lib.IsBuilderF 63 5 w.heap.size w.heap.size _ w4 from .inr hb4)
          have HK4 := Lib.hid (hK3.trans2 hbl4)
          clear hb4
          go_wp2_with fail
          go_roundw
          case rel => exact ⟨i + 1, hi, by go_num, HTA2.out, by rw [HSN2.out]; exact HB4.out, HK4.out, by have := hbl4.size; omega⟩
          case measure => simp only [intOf]; omega
    · have hii : ¬ ((i : Int) < n) := by omega
      have hR : fmtR xs = (joinF none xs, 0) := by
        rw [List.take_of_length_le (by have := HX.out; omega)] at hall
        rw [fmtR, if_pos hall]
      rw [List.take_of_length_le (by have := HX.out; omega)] at hbd
      have HR := Lib.hid hR
      have HBD := Lib.hid hbd
      clear hR hbd hall
      go_wp2_with (go_at_call 50; refine (Tryd.Builder_String_any_k _ _ _ _ HBD.out (by omega)).mono ?_; rintro e w5 ⟨rfl, hb5, hbl, _⟩)
      go_ret2
      rw [HR.out]
      exact ⟨rfl, hK.trans2 hbl⟩
end Go.Proofs.YtmlkgfacenajnaaDoor
