/- What structure of package expr computes. -/
import Derived.Test.YtdnjfpmngnkcfaaGreatDoorBcArity
import Derived.Deep.RegionLaw
import Derived.Deep.AppendLies
namespace Go.Proofs.YtdnjfpmngnkcfaaGreatDoor
open Go.RowKit

def natF (n : Nat) : List Value := [.int .i64 (n : Int)]
theorem natF_len (n : Nat) : (natF n).length = 1 := rfl
theorem natF_one (n : Nat) : ∀ u ∈ natF n, u.oneCell' = true := by
  intro u hu
  simp only [natF, List.mem_cons, List.not_mem_nil, or_false] at hu
  subst hu; rfl
theorem natF_flat : ∀ l : List Nat, l.flatMap natF = l.map fun n : Nat => Value.int .i64 (n : Int)
  | [] => rfl
  | _ :: r => by rw [List.flatMap_cons, natF_flat r]; rfl
/-- the cells of a block of natural numbers -/
def natC (l : List Nat) : Array Value := (l.map fun n : Nat => Value.int .i64 (n : Int)).toArray
theorem natC_size (l : List Nat) : (natC l).size = l.length := by simp [natC]
theorem natC_get {l : List Nat} {i n : Nat} (h : l[i]? = some n) : (natC l)[i]? = some (.int .i64 (n : Int)) := by simp [natC, h]
theorem natC_set (l : List Nat) (i n : Nat) : (natC l).setIfInBounds i (.int .i64 (n : Int)) = natC (l.set i n) := by
  unfold natC
  rw [List.setIfInBounds_toArray, List.map_set]
theorem natC_recs {w : World} {g : Nat} {t : TypeId} {l : List Nat} {cap : Nat} (h : Blk w g t (natC l)) : Recs w natF 1 (.slice (some ⟨g, 0, none⟩) l.length cap) l := by
  refine ⟨_, _, rfl, fun _ => ⟨g, 0, rfl, h.lt, fun j x hj i u hu => ?_⟩⟩
  have hi : i < 1 := (List.getElem?_eq_some_iff.1 hu).1
  obtain rfl : i = 0 := by omega
  rw [show 0 + j * 1 + 0 = j by omega, h.cell, natC_get hj]
  exact hu
theorem natC_of_row {w : World} {B : Nat} {e : TypeId} {g n cap : Nat} {l : List Nat} (hl : l.length = n) (h : w.ownsRow B e 1 (.slice (some ⟨g, 0, none⟩) n cap) n (l.map fun n : Nat => Value.int .i64 (n : Int))) (hc : cap = n) : Blk w g e (natC l) := by
  subst hc
  rcases h.2 with ⟨hv, _⟩ | ⟨g', cap', cur, hv, _, hg, _, _, h3, h4⟩
  · cases hv
  · simp only [Value.slice.injEq, Option.some.injEq, Addr.mk.injEq] at hv
    obtain ⟨⟨rfl, _⟩, _, rfl⟩ := hv
    rw [List.take_of_length_le (by rw [Array.length_toList, h3]; exact Nat.le_refl _)] at h4
    unfold Blk natC
    rw [← h4, Array.toArray_toList]
    exact hg
theorem zeros_row (n : Nat) : List.replicate n (Value.int .i64 0) = (List.replicate n 0).map fun n : Nat => Value.int .i64 (n : Int) := by simp
theorem starts_set (sts : List Nat) (k n : Nat) : (sts ++ List.replicate (k + 1) 0).set sts.length n = (sts ++ [n]) ++ List.replicate k 0 := by
  rw [List.set_append_right _ _ (Nat.le_refl _), Nat.sub_self, List.replicate_succ, List.set_cons_zero]; simp
theorem GathR.far {α : Type} {f : α → List Value} {k : Nat} {w : World} {B : Nat} {e : TypeId} {v : Value} {xs : List α} (h : GathR w B e f k v xs) {p : Addr} (hp : p.block < B) (u : Value) : GathR (w.setCell p u) B e f k v xs := by
  refine ⟨h.1, ?_⟩
  rcases h.2 with hn | ⟨g, cap, cur, hv, hb, hg, r⟩
  · exact .inl hn
  · exact .inr ⟨g, cap, cur, hv, hb, (Below.heap_setCell w p u g (by omega)).trans hg, r⟩
theorem GathR.alloc {α : Type} {f : α → List Value} {k : Nat} {w : World} {B : Nat} {e : TypeId} {v : Value} {xs : List α} (h : GathR w B e f k v xs) (o : Obj) : GathR (w.alloc o) B e f k v xs :=
  h.keptOwn ((Kept.refl w).alloc o)
theorem nat_new {W : World} {s : Nat} {t : TypeId} : ∀ j u, (natF s)[j]? = some u → (W.alloc (.cells #[.int .i64 (s : Int)] t)).cell? ((⟨W.heap.size, 0, none⟩ : Addr).add j) = some u :=
  blk_cells (l := natF s)
/-- the head of a row that holds something -/
theorem GathR.row {w : World} {B : Nat} {e : TypeId} {v : Value} {xs : List Nat} (h : GathR w B e natF 1 v xs) (hp : 0 < xs.length) :
    ∃ g cap, v = .slice (some ⟨g, 0, none⟩) xs.length cap ∧ B ≤ g ∧ g < w.heap.size ∧ ∀ (j x : Nat), xs[j]? = some x → w.cell? ⟨g, j, none⟩ = some (.int .i64 (x : Int)) := by
  have hr := h.recs natF_len
  rcases h.2 with ⟨_, h0⟩ | ⟨g, cap, cur, rfl, hB, hg, _⟩
  · omega
  · refine ⟨g, cap, rfl, hB, (Array.getElem?_eq_some_iff.1 hg).1, fun j x hj => ?_⟩
    obtain ⟨A, c, hv, hx⟩ := hr
    simp only [Value.slice.injEq] at hv
    obtain ⟨rfl, _, rfl⟩ := hv
    obtain ⟨b, off, hA, _, hc⟩ := hx hp
    simp only [Option.some.injEq, Addr.mk.injEq] at hA
    obtain ⟨rfl, rfl, _⟩ := hA
    have := hc j x hj 0 _ rfl
    rwa [show 0 + j * 1 + 0 = j by omega] at this
theorem Tryz.infoInt : (Tryz.prog.info? 3).map (fun i => (i.zero, i.size, i.bytes)) = some (some (.int .i64 0), 1, 8) := by kernel_rfl
/-- a node's cells -/
theorem Nds.at_ {w : World} {v : Value} {xs : List Nd} (h : Nds w v xs) : ∃ A cap, v = .slice A xs.length cap ∧ (0 < xs.length → ∃ b off, A = some ⟨b, off, none⟩ ∧ b < w.heap.size ∧
    ∀ j t, xs[j]? = some t → w.cell? ⟨b, off + j * 2, none⟩ = some (.int .i64 t.o) ∧ w.cell? ⟨b, off + j * 2 + 1, none⟩ = some (.int .i64 t.n)) := by
  obtain ⟨A, cap, hv, hx⟩ := h
  refine ⟨A, cap, hv, fun hp => ?_⟩
  obtain ⟨b, off, hA, hb, hc⟩ := hx hp
  exact ⟨b, off, hA, hb, fun j t hj => ⟨hc j t hj 0 _ rfl, hc j t hj 1 _ rfl⟩⟩
def strPost (xs : List Nd) (w : World) (e : Ending) (w' : World) : Prop := ∃ v, e = .returned (.tuple #[v, .int .i64 ((strS xs).2.1 : Nat), .int .i64 (strS xs).2.2]) ∧ Recs w' natF 1 v (strS xs).1 ∧ Kept w w'
theorem strF_nil {xs : List Nd} {i n : Nat} {stk sts : List Nat} (h : strF (xs.drop i) i stk sts = strS xs) (hi : ¬ i < n) (hn : n = xs.length) (hl : stk.length ≤ 1) : strS xs = (sts, 0, 0) := by
  rw [← h, List.drop_eq_nil_iff.2 (by omega), strF, if_neg (by omega)]
theorem strF_long {xs : List Nd} {i n : Nat} {stk sts : List Nat} (h : strF (xs.drop i) i stk sts = strS xs) (hi : ¬ i < n) (hn : n = xs.length) (hl : 1 < stk.length) : strS xs = ([], i, 4) := by
  rw [← h, List.drop_eq_nil_iff.2 (by omega), strF, if_pos hl]
theorem strF_form {xs : List Nd} {i : Nat} {x : Nd} {stk sts : List Nat} (h : strF (xs.drop i) i stk sts = strS xs) (hx : xs[i]? = some x) (ha : arS x.o < 0) : strS xs = ([], i, 2) := by
  obtain ⟨hi, rfl⟩ := List.getElem?_eq_some_iff.1 hx
  rw [← h, List.drop_eq_getElem_cons hi, strF, if_pos ha]
theorem strF_trunc {xs : List Nd} {i a : Nat} {x : Nd} {stk sts : List Nat} (h : strF (xs.drop i) i stk sts = strS xs) (hx : xs[i]? = some x) (ha : arS x.o = a) (hl : stk.length < a) : strS xs = ([], i, 5) := by
  obtain ⟨hi, rfl⟩ := List.getElem?_eq_some_iff.1 hx
  rw [← h, List.drop_eq_getElem_cons hi, strF, if_neg (by omega), if_pos (by omega)]
theorem strF_deep {xs : List Nd} {i a m : Nat} {x : Nd} {stk sts : List Nat} (h : strF (xs.drop i) i stk sts = strS xs) (hx : xs[i]? = some x) (ha : arS x.o = a) (hl : stk.length = m + a) (hd : 12 < m + 1) : strS xs = ([], i, 16) := by
  obtain ⟨hi, rfl⟩ := List.getElem?_eq_some_iff.1 hx
  rw [← h, List.drop_eq_getElem_cons hi, strF, if_neg (by omega), if_neg (by omega), if_pos (by rw [List.length_append, List.length_take, ha]; simp; omega)]
theorem strF_next {xs : List Nd} {i a m : Nat} {x : Nd} {stk sts : List Nat} (h : strF (xs.drop i) i stk sts = strS xs) (hx : xs[i]? = some x) (ha : arS x.o = a) (hl : stk.length = m + a) (hd : ¬ 12 < m + 1) :
    strF (xs.drop (i + 1)) (i + 1) (stk.take m ++ [frmS i a stk]) (sts ++ [frmS i a stk]) = strS xs := by
  obtain ⟨hi, rfl⟩ := List.getElem?_eq_some_iff.1 hx
  have e : stk.length - a = m := by omega
  rw [← h, List.drop_eq_getElem_cons hi, strF, if_neg (by omega), if_neg (by omega), if_neg (by rw [List.length_append, List.length_take, ha]; simp; omega), ha]
  simp only [Int.toNat_natCast, e]
theorem frmS_zero (i : Nat) (stk : List Nat) : frmS i 0 stk = i := rfl
theorem frmS_pos {i a m x : Nat} {stk : List Nat} (ha : 0 < a) (hl : stk.length = m + a) (hx : stk[m]? = some x) : frmS i a stk = x := by
  unfold frmS
  rw [if_neg (by omega), show stk.length - a = m by omega, hx]; rfl

set_option maxRecDepth 100000 in
set_option maxHeartbeats 8000000 in
theorem structure_any (v : Value) (xs : List Nd) (w : World) (hN : Nds w v xs) (hn : xs.length ≤ 9223372036854775807) : Calls Tryz.prog 23 #[v] w (strPost xs w) := by
  obtain ⟨A, cap, rfl, hA⟩ := hN.at_
  obtain ⟨n, hxn⟩ : ∃ n, n = xs.length := ⟨_, rfl⟩
  rw [← hxn] at hA hn ⊢
  have HX := Lib.hid hxn
  clear hxn hN
  unfold strPost
  by_cases hb : 48 < n
  · have hbi : (48 : Int) < n := by omega
    have HR := Lib.hid (show strS xs = ([], 0, 4) by rw [strS, if_pos (by have := HX.out; omega)])
    go_enter Tryz.func23, Tryz.ntmps23
    go_wp2_with fail
    go_ret3
    rw [HR.out]
    exact ⟨_, rfl, Recs.nil _ _ _, Kept.refl _⟩
  by_cases h0 : n = 0
  · subst h0
    have HR := Lib.hid (show strS xs = ([], 0, 5) by rw [strS, if_neg (by have := HX.out; omega), if_pos (by have := HX.out; omega)])
    go_enter Tryz.func23, Tryz.ntmps23
    go_wp2_with fail
    go_ret3
    rw [HR.out]
    exact ⟨_, rfl, Recs.nil _ _ _, Kept.refl _⟩
  have HR0 := Lib.hid (show strF (xs.drop 0) 0 [] [] = strS xs by rw [strS, if_neg (by have := HX.out; omega), if_neg (by have := HX.out; omega)]; rfl)
  obtain ⟨i0, hi, hz0, hz1, hz2⟩ := info_parts Tryz.infoInt
  obtain ⟨b1, o1, rfl, hb1, hc1⟩ := hA (by omega)
  have hp : ¬ ((48 : Int) < n) := by omega
  have hq : ((n : Int) == 0) = false := by simp; omega
  clear hA hn
  have HC1 := Lib.hid hc1
  clear hc1
  go_enter Tryz.func23, Tryz.ntmps23
  go_wp2_with (at_make; refine wpList_make_full _ rfl _ _ 43 rfl w.heap.size 3 i0 (.int .i64 0) 1 Tryz.underlying43 hi hz0 hz1 _ _ _ _ n rfl rfl rfl rfl (by rw [hz2]; omega) (by unfold maxLen; omega) (Nat.le_refl _) ?_; intro w1 hown hgrow)
  have hw1 : w.heap.size < w1.heap.size := by
    rcases hown.2 with ⟨hv, _⟩ | ⟨g, cap', cur, hv, _, hg, _⟩
    · cases hv
    · simp only [Value.slice.injEq, Option.some.injEq, Addr.mk.injEq] at hv
      obtain ⟨⟨rfl, _⟩, _⟩ := hv
      exact (Array.getElem?_eq_some_iff.1 hg).1
  have hK1 : Kept w w1 := ⟨hgrow.os, hgrow.tape, hgrow.output, hgrow.size, fun b hb => hgrow.block b hb (by simp)⟩
  have hB1 : Blk w1 w.heap.size 3 (natC (List.replicate n 0)) := natC_of_row (l := List.replicate n 0) (n := n) (by simp) (by
    rw [← zeros_row]
    have e := toList_madeCells_one (Value.int .i64 0) (n * 1)
    rw [Nat.mul_one] at e
    have h := hown
    rw [Nat.mul_one, show (Value.int IntKind.i64 0).cells = #[Value.int .i64 0] from rfl, e] at h
    exact h) rfl
  clear hown hgrow
  go_wp2_with fail
  have hs1 : w1.heap.size ≤ w1.heap.size := Nat.le_refl _
  obtain ⟨B0, hB0⟩ : ∃ B0, B0 = w1.heap.size := ⟨_, rfl⟩
  rw [← hB0] at hw1
  go_loopw [6, 21] (fun x y wr => ∃ (i : Nat) (stk sts : List Nat), y = .int .i64 i ∧ i ≤ n ∧ sts.length = i ∧ stk.length ≤ 12 ∧ Kept w wr ∧ B0 ≤ wr.heap.size ∧ GathR wr B0 3 natF 1 x stk ∧ Blk wr w.heap.size 3 (natC (sts ++ List.replicate (n - i) 0)) ∧ strF (xs.drop i) i stk sts = strS xs) (fun _ y _ => n - (intOf y).toNat)
  case atStart => exact ⟨0, [], [], rfl, Nat.zero_le _, rfl, by simp, hK1, by rw [hB0]; exact Nat.le_refl _, GathR.nil _ _ _, hB1, HR0.out⟩
  case round =>
    obtain ⟨i, stk, sts, rfl, hin, hsl, hst, hK, hB0w, hown, hB, hrun⟩ := hrel
    clear hK1 hB1 hs1 hB0
    by_cases hlt : i < n
    · have hg : xs[i]? = some (xs[i]'(by have := HX.out; omega)) := List.getElem?_eq_getElem _
      generalize xs[i]'(by have := HX.out; omega) = T at *
      obtain ⟨x0, x1⟩ := HC1.out i _ hg
      have X0 := hK.cell (p := ⟨b1, _, none⟩) hb1 x0
      have X1 := hK.cell (p := ⟨b1, _, none⟩) hb1 x1
      clear x0 x1
      have hii : (i : Int) < n := by omega
      have h48 : (i : Int) ≤ 48 := by omega
      have hwr : w.heap.size < wr.heap.size := Nat.lt_of_lt_of_le hw1 hB0w
      by_cases hneg : arS T.o < 0
      · have HR := Lib.hid (strF_form hrun hg hneg)
        have HAR := Lib.hid (fun w => arity_any T.o w)
        clear hB hown hrun hg
        go_wp2_with (go_at_call 16; refine (HAR.out _).mono ?_; rintro e w' ⟨rfl, rfl⟩)
        go_ret3
        rw [HR.out]
        exact ⟨_, rfl, Recs.nil _ _ _, hK.alloc _⟩
      · obtain ⟨a, ha⟩ : ∃ a : Nat, arS T.o = a := ⟨(arS T.o).toNat, by omega⟩
        have hab := (arS_bd T.o).2
        have HAR := Lib.hid (fun w => (by have := arity_any T.o w; rwa [ha] at this : Calls Tryz.prog 16 #[.int .i64 T.o] w fun e w' => e = .returned (.int .i64 (a : Int)) ∧ w = w'))
        have ha3 : a ≤ 3 := by omega
        have ha0 : ¬ ((a : Int) < 0) := by omega
        by_cases htr : stk.length < a
        · have HR := Lib.hid (strF_trunc hrun hg ha htr)
          obtain ⟨A, scap, hv, _, _⟩ := hown.form
          subst hv
          have htri : (stk.length : Int) < a := by omega
          clear hB hown hrun hg ha hab hneg
          go_wp2_with (go_at_call 16; refine (HAR.out _).mono ?_; rintro e w' ⟨rfl, rfl⟩)
          go_ret3
          rw [HR.out]
          exact ⟨_, rfl, Recs.nil _ _ _, hK.alloc _⟩
        · obtain ⟨m, hm⟩ : ∃ m, stk.length = m + a := ⟨stk.length - a, by omega⟩
          obtain ⟨A, scap, hv, hsc1, hsc2⟩ := hown.form
          rw [hm] at hv hsc1
          subst hv
          have htri : ¬ ((m : Int) + a < a) := by omega
          have hm12 : m ≤ 12 := by omega
          have hwp : IntKind.i64.wrap (m : Int) = m := by rw [IntKind.wrap_i64]; omega
          have hst2 : m + a ≤ 12 := by omega
          have c0 : wr.cell? ⟨w.heap.size, i, none⟩ = some (.int .i64 ((0 : Nat) : Int)) := by
            rw [hB.cell]
            exact natC_get (by rw [List.getElem?_append_right (by omega), hsl, Nat.sub_self, List.getElem?_replicate, if_pos (by omega)])
          have f := hB.frozen
          have HT := hown.take natF_len (show m ≤ m + a by omega)
          have hlm : (stk.take m).length = m := by rw [List.length_take]; omega
          -- behind the statements ahead of the append: starts holds s at i
          have hnx := fun hd => strF_next hrun hg ha hm hd
          have hdp := fun hd => strF_deep hrun hg ha hm hd
          obtain ⟨s, hfr⟩ : ∃ s, s = frmS i a stk := ⟨_, rfl⟩
          rw [← hfr] at hnx
          have hset : ∀ cs : Array Value, cs = natC (sts ++ List.replicate (n - i) 0) ∨ cs = (natC (sts ++ List.replicate (n - i) 0)).setIfInBounds i (.int .i64 (i : Int)) → cs.setIfInBounds i (.int .i64 (s : Int)) = natC ((sts ++ [s]) ++ List.replicate (n - (i + 1)) 0) := by
            intro cs hcs
            have e : (natC (sts ++ List.replicate (n - i) 0)).setIfInBounds i (.int .i64 (s : Int)) = natC ((sts ++ [s]) ++ List.replicate (n - (i + 1)) 0) := by
              rw [natC_set, show n - i = (n - (i + 1)) + 1 by omega, ← hsl, starts_set]
            rcases hcs with rfl | rfl
            · exact e
            · rw [natC_set, natC_set, List.set_set, ← natC_set]; exact e
          have HNX := Lib.hid hnx
          have HDP := Lib.hid hdp
          have HSET := Lib.hid hset
          have HB := Lib.hid hB
          have HTK := Lib.hid HT
          have HM := Lib.hid hm
          have HSL := Lib.hid hsl
          have HLM := Lib.hid hlm
          have HK := Lib.hid hK
          by_cases ha1 : a = 0
          · subst ha1
            obtain rfl : s = i := hfr.trans (frmS_zero i stk)
            clear hneg htr hrun hg ha hab hown hnx hdp hset hB HT hm hfr hsl hst hlm hK
            go_wp2_with (go_at_call 16; refine (HAR.out _).mono ?_; rintro e w' ⟨rfl, rfl⟩)
            have BN := (HB.out.set_ s (.int .i64 (s : Int))).alloc (.cells #[.int .i64 T.o, .int .i64 T.n] 41)
            rw [HSET.out _ (.inl rfl)] at BN
            have OW := (HTK.out.far (p := ⟨w.heap.size, s, none⟩) hw1 (.int .i64 (s : Int))).alloc (.cells #[.int .i64 T.o, .int .i64 T.n] 41)
            have KN := (HK.out.setCell (p := ⟨w.heap.size, s, none⟩) (Nat.le_refl _) (.int .i64 (s : Int))).alloc (.cells #[.int .i64 T.o, .int .i64 T.n] 41)
            have SZ : wr.heap.size ≤ ((wr.setCell ⟨w.heap.size, s, none⟩ (.int .i64 (s : Int))).alloc (.cells #[.int .i64 T.o, .int .i64 T.n] 41)).heap.size := by simp
            generalize (wr.setCell ⟨w.heap.size, s, none⟩ (.int .i64 (s : Int))).alloc (.cells #[.int .i64 T.o, .int .i64 T.n] 41) = W1 at *
            have d0 : W1.cell? ⟨w.heap.size, s, none⟩ = some (.int .i64 (s : Int)) := by
              rw [BN.cell]
              exact natC_get (by rw [List.getElem?_append_left (by rw [List.length_append, HSL.out]; simp), List.getElem?_append_right (by rw [HSL.out]; exact Nat.le_refl _), HSL.out]; simp)
            have HNEWS := Lib.hid (nat_new (W := W1.drew) (s := s) (t := 3))
            have HOW : Hid ((W1.drew.alloc (.cells #[.int .i64 (s : Int)] 3)).ownsRow B0 3 1 (.slice A m scap) m ((stk.take m).flatMap natF)) := Lib.hid (by
              have h := GathR.alloc (w := W1.drew) OW (.cells #[.int .i64 (s : Int)] 3)
              unfold GathR at h
              rwa [HLM.out] at h)
            have HBS : Hid (B0 ≤ (W1.drew.alloc (.cells #[.int .i64 (s : Int)] 3)).heap.size) := Lib.hid (by simp; omega)
            have HONE := Lib.hid (natF_one s)
            have hsi : (m : Int) ≤ scap := by omega
            have hmx : m + 1 ≤ maxLen := by unfold maxLen; omega
            have HOB := Lib.hid OW
            clear HTK OW
            by_cases hd : 12 < m + 1
            · have HR := Lib.hid (HDP.out hd)
              have hdi : (12 : Int) < m + 1 := by omega
              go_region_law (first | (refine step_append_lies _ rfl (.tmp 58) (.tmp 63) 43 rfl B0 3 i0 (.int .i64 0) 1 8 Tryz.underlying43 hi hz0 hz1 hz2 rfl (by decide) _ m ((stk.take m).flatMap natF) (by simp [Act.eval]) HOW.out ⟨W1.drew.heap.size, 0, none⟩ 1 1 (natF s) (by simp [Act.eval]) rfl HNEWS.out HONE.out (by decide) hmx (by omega) HBS.out _ rfl ?_; intro g' cap' w2 hown' hgrow _ _))
              all_goals
                go_wp2_with fail
                go_ret3
                rw [HR.out]
                exact ⟨_, rfl, Recs.nil _ _ _, ownGrown_kept (KN.drewN 1) HOB.out (Nat.le_of_lt hw1) hgrow⟩
            · have HN := Lib.hid (HNX.out hd)
              have hdi : ¬ ((12 : Int) < m + 1) := by omega
              go_region_law (first | (refine step_append_lies _ rfl (.tmp 58) (.tmp 63) 43 rfl B0 3 i0 (.int .i64 0) 1 8 Tryz.underlying43 hi hz0 hz1 hz2 rfl (by decide) _ m ((stk.take m).flatMap natF) (by simp [Act.eval]) HOW.out ⟨W1.drew.heap.size, 0, none⟩ 1 1 (natF s) (by simp [Act.eval]) rfl HNEWS.out HONE.out (by decide) hmx (by omega) HBS.out _ rfl ?_; intro g' cap' w2 hown' hgrow _ _))
              all_goals
                go_wp2_with fail
                go_roundw
                case rel =>
                  have hg2 : (W1.drew.alloc (.cells #[.int .i64 (s : Int)] 3)).grownBy w2 (Value.slice A m scap).ownBlock := hgrow
                  exact ⟨s + 1, stk.take m ++ [s], sts ++ [s], rfl, hlt, by rw [List.length_append, HSL.out]; rfl, by rw [List.length_append, HLM.out]; simp; omega, ownGrown_kept (KN.drewN 1) HOB.out (Nat.le_of_lt hw1) hg2, by have : W1.heap.size + 1 ≤ w2.heap.size := ownGrown_size (wr := W1.drew) hg2; omega, GathR.snoc (by rw [HLM.out]; exact hown'), (ownGrown_block (wr := W1.drew) HOB.out hg2 BN.lt hw1).trans BN, HN.out⟩
                case measure => simp [intOf]; omega
          · have hpos : 0 < a := by omega
            have hpi : (0 : Int) < a := by omega
            obtain ⟨g, cap2, hv, hgB, hgl, hgc⟩ := hown.row (by omega)
            simp only [Value.slice.injEq] at hv
            obtain ⟨rfl, hml, rfl⟩ := hv
            clear hml
            have hgx : stk[m]? = some (stk[m]'(by omega)) := List.getElem?_eq_getElem _
            have hsx : s = stk[m]'(by omega) := hfr.trans (frmS_pos hpos hm hgx)
            rw [← hsx] at hgx
            have e0 := hgc m s hgx
            have hne : g ≠ w.heap.size := by omega
            have hma : (m : Int) < m + a := by omega
            clear hneg htr hrun hg ha hab hown hnx hdp hset hB HT hm hfr hsl hst hlm hK hgx hsx hgc
            go_wp2_with (go_at_call 16; refine (HAR.out _).mono ?_; rintro e w' ⟨rfl, rfl⟩)
            have BN := ((HB.out.set_ i (.int .i64 (i : Int))).set_ i (.int .i64 (s : Int))).alloc (.cells #[.int .i64 T.o, .int .i64 T.n] 41)
            rw [HSET.out _ (.inr rfl)] at BN
            have OW := ((HTK.out.far (p := ⟨w.heap.size, i, none⟩) hw1 (.int .i64 (i : Int))).far (p := ⟨w.heap.size, i, none⟩) hw1 (.int .i64 (s : Int))).alloc (.cells #[.int .i64 T.o, .int .i64 T.n] 41)
            have KN := ((HK.out.setCell (p := ⟨w.heap.size, i, none⟩) (Nat.le_refl _) (.int .i64 (i : Int))).setCell (p := ⟨w.heap.size, i, none⟩) (Nat.le_refl _) (.int .i64 (s : Int))).alloc (.cells #[.int .i64 T.o, .int .i64 T.n] 41)
            have SZ : wr.heap.size ≤ (((wr.setCell ⟨w.heap.size, i, none⟩ (.int .i64 (i : Int))).setCell ⟨w.heap.size, i, none⟩ (.int .i64 (s : Int))).alloc (.cells #[.int .i64 T.o, .int .i64 T.n] 41)).heap.size := by simp
            generalize ((wr.setCell ⟨w.heap.size, i, none⟩ (.int .i64 (i : Int))).setCell ⟨w.heap.size, i, none⟩ (.int .i64 (s : Int))).alloc (.cells #[.int .i64 T.o, .int .i64 T.n] 41) = W1 at *
            have d0 : W1.cell? ⟨w.heap.size, i, none⟩ = some (.int .i64 (s : Int)) := by
              rw [BN.cell]
              exact natC_get (by rw [List.getElem?_append_left (by rw [List.length_append, HSL.out]; simp), List.getElem?_append_right (by rw [HSL.out]; exact Nat.le_refl _), HSL.out]; simp)
            have HNEWS := Lib.hid (nat_new (W := W1.drew) (s := s) (t := 3))
            have HOW : Hid ((W1.drew.alloc (.cells #[.int .i64 (s : Int)] 3)).ownsRow B0 3 1 (.slice (some ⟨g, 0, none⟩) m scap) m ((stk.take m).flatMap natF)) := Lib.hid (by
              have h := GathR.alloc (w := W1.drew) OW (.cells #[.int .i64 (s : Int)] 3)
              unfold GathR at h
              rwa [HLM.out] at h)
            have HBS : Hid (B0 ≤ (W1.drew.alloc (.cells #[.int .i64 (s : Int)] 3)).heap.size) := Lib.hid (by simp; omega)
            have HONE := Lib.hid (natF_one s)
            have hsi : (m : Int) ≤ scap := by omega
            have hmx : m + 1 ≤ maxLen := by unfold maxLen; omega
            have HOB := Lib.hid OW
            clear HTK OW
            by_cases hd : 12 < m + 1
            · have HR := Lib.hid (HDP.out hd)
              have hdi : (12 : Int) < m + 1 := by omega
              go_region_law (first | (refine step_append_lies _ rfl (.tmp 58) (.tmp 63) 43 rfl B0 3 i0 (.int .i64 0) 1 8 Tryz.underlying43 hi hz0 hz1 hz2 rfl (by decide) _ m ((stk.take m).flatMap natF) (by simp [Act.eval]) HOW.out ⟨W1.drew.heap.size, 0, none⟩ 1 1 (natF s) (by simp [Act.eval]) rfl HNEWS.out HONE.out (by decide) hmx (by omega) HBS.out _ rfl ?_; intro g' cap' w2 hown' hgrow _ _))
              all_goals
                go_wp2_with fail
                go_ret3
                rw [HR.out]
                exact ⟨_, rfl, Recs.nil _ _ _, ownGrown_kept (KN.drewN 1) HOB.out (Nat.le_of_lt hw1) hgrow⟩
            · have HN := Lib.hid (HNX.out hd)
              have hdi : ¬ ((12 : Int) < m + 1) := by omega
              go_region_law (first | (refine step_append_lies _ rfl (.tmp 58) (.tmp 63) 43 rfl B0 3 i0 (.int .i64 0) 1 8 Tryz.underlying43 hi hz0 hz1 hz2 rfl (by decide) _ m ((stk.take m).flatMap natF) (by simp [Act.eval]) HOW.out ⟨W1.drew.heap.size, 0, none⟩ 1 1 (natF s) (by simp [Act.eval]) rfl HNEWS.out HONE.out (by decide) hmx (by omega) HBS.out _ rfl ?_; intro g' cap' w2 hown' hgrow _ _))
              all_goals
                go_wp2_with fail
                go_roundw
                case rel =>
                  have hg2 : (W1.drew.alloc (.cells #[.int .i64 (s : Int)] 3)).grownBy w2 (Value.slice (some ⟨g, 0, none⟩) m scap).ownBlock := hgrow
                  exact ⟨i + 1, stk.take m ++ [s], sts ++ [s], rfl, hlt, by rw [List.length_append, HSL.out]; rfl, by rw [List.length_append, HLM.out]; simp; omega, ownGrown_kept (KN.drewN 1) HOB.out (Nat.le_of_lt hw1) hg2, by have : W1.heap.size + 1 ≤ w2.heap.size := ownGrown_size (wr := W1.drew) hg2; omega, GathR.snoc (by rw [HLM.out]; exact hown'), (ownGrown_block (wr := W1.drew) HOB.out hg2 BN.lt hw1).trans BN, HN.out⟩
                case measure => simp [intOf]; omega
    · obtain rfl : i = n := by omega
      have hlti : ¬ ((i : Int) < i) := by omega
      obtain ⟨A, scap, hv, hsc1, hsc2⟩ := hown.form
      subst hv
      have HK := Lib.hid hK
      by_cases hl : 1 < stk.length
      · have HR := Lib.hid (strF_long hrun hlt HX.out hl)
        have hli : (1 : Int) < stk.length := by omega
        clear hB hown hrun hsl hst hK hsc1 hsc2
        go_wp2_with fail
        go_ret3
        rw [HR.out]
        exact ⟨_, rfl, Recs.nil _ _ _, HK.out⟩
      · have HR := Lib.hid (strF_nil hrun hlt HX.out (by omega))
        have hli : ¬ ((1 : Int) < stk.length) := by omega
        have HRC : Hid (Recs wr natF 1 (.slice (some ⟨w.heap.size, 0, none⟩) i i) sts) := Lib.hid (by
          rw [Nat.sub_self, List.replicate_zero, List.append_nil] at hB
          have h := natC_recs (cap := i) hB
          rwa [hsl] at h)
        clear hB hown hrun hsl hst hK hsc1 hsc2
        go_wp2_with fail
        go_ret3
        rw [HR.out]
        exact ⟨_, rfl, HRC.out, HK.out⟩
end Go.Proofs.YtdnjfpmngnkcfaaGreatDoor
