/- enumError of the reference of package law: a law's enumeration without an error has distinct identifiers as members. -/
import Derived.Test.YtjeifmjcgemlgaaGreatDoorRgK
import Derived.Test.YtjeifmjcgemlgaaGreatDoorRgG
import Derived.Test.YtjeifmjcgemlgaaGreatDoorRgN
import Derived.Test.YtjeifmjcgemlgaaGreatDoorRgM
namespace Go.Proofs.YtjeifmjcgemlgaaGreatDoor
open Go.RowKit

/-- a law's error is returned; Q if its code is 0 -/
def LeP (Q : Prop) (w : World) (e : Ending) (w' : World) : Prop := ∃ c s i el : Int, e = .returned (.agg #[.int .i64 c, .int .i64 s, .int .i64 i, .int .i64 el]) ∧ Kept w w' ∧ (c = 0 → Q)
/-- distinct identifiers -/
def GoodL (l : List ByteArray) : Prop := ∀ (j : Nat) x, l[j]? = some x → idB (L x) = true ∧ ∀ (k : Nat) y, k < j → l[k]? = some y → (y.toList == x.toList) = false
/-- of the first n members each is an identifier, and none is twice -/
def GoodN (l : List ByteArray) (n : Nat) : Prop := ∀ (j : Nat) x, j < n → l[j]? = some x → idB (L x) = true ∧ ∀ (k : Nat) y, k < j → l[k]? = some y → (y.toList == x.toList) = false
theorem GoodN.zero (l : List ByteArray) : GoodN l 0 := fun j x h => absurd h (by omega)
theorem GoodN.succ {l : List ByteArray} {i : Nat} {X : ByteArray} (h : GoodN l i) (hg : l[i]? = some X) (hi : idB (L X) = true) (hno : ∀ (k' : Nat) y, k' < i → l[k']? = some y → (y.toList == X.toList) = false) : GoodN l (i + 1) := fun j x hj hx => by
  by_cases e : j = i
  · subst e
    rw [hg] at hx
    obtain rfl := Option.some.inj hx
    exact ⟨hi, hno⟩
  · exact h j x (by omega) hx
theorem GoodN.all {l : List ByteArray} {n : Nat} (h : GoodN l n) (hn : n = l.length) : GoodL l := fun j x hx => h j x (by have := (List.getElem?_eq_some_iff.1 hx).1; omega) hx
theorem enm_at {w : World} {A : Option Addr} {cE : Nat} {ms : List (List ByteArray)} {q : Nat} (hE : Enums w (.slice A ms.length cE) ms) (h0 : SlZ w 2 StrAt (.slice A ms.length cE)) (hq : q < ms.length) :
    ∃ b off nm Am n cm, A = some ⟨b, off, none⟩ ∧ b < w.heap.size ∧ w.cell? ⟨b, off + q * 2, none⟩ = some (.string nm) ∧ w.cell? ⟨b, off + q * 2 + 1, none⟩ = some (.slice Am n cm) ∧ n = (ms[q]).length ∧ n ≤ 9223372036854775807 ∧ Strs w (.slice Am n cm) ms[q] := by
  obtain ⟨A', c', hv, -, hx⟩ := hE
  simp only [Value.slice.injEq] at hv
  obtain ⟨rfl, -, rfl⟩ := hv
  obtain ⟨b, off, hA, hb, hc⟩ := hx (by omega)
  obtain ⟨-, hx0⟩ := h0.items
  obtain ⟨b', off', hA', -, hc'⟩ := hx0 (by omega)
  rw [hA] at hA'
  simp only [Option.some.injEq, Addr.mk.injEq] at hA'
  obtain ⟨rfl, rfl, -⟩ := hA'
  obtain ⟨nm, hnm⟩ := hc' q hq
  obtain ⟨hl, mv, hm, hS⟩ := hc q _ (List.getElem?_eq_getElem hq)
  obtain ⟨Am, cm, rfl, hS'⟩ := id hS
  exact ⟨b, off, nm, Am, _, cm, hA, hb, hnm, hm, rfl, hl, hS⟩
theorem Strs.at3Q {w : World} {A : Option Addr} {n cap : Nat} {xs : List ByteArray} (h : Strs w (.slice A n cap) xs) : n = xs.length ∧ (0 < n → ∃ b off, A = some ⟨b, off, none⟩ ∧ b < w.heap.size ∧ ∀ (j : Nat) x, xs[j]? = some x → w.cell? ⟨b, off + j, none⟩ = some (.string x)) := by
  obtain ⟨A', cap', hv, hx⟩ := h
  simp only [Value.slice.injEq] at hv
  obtain ⟨rfl, rfl, rfl⟩ := hv
  refine ⟨rfl, fun hp => ?_⟩
  obtain ⟨b, off, hA, hb, hc⟩ := hx hp
  refine ⟨b, off, hA, hb, fun j x hj => ?_⟩
  have := hc j (List.getElem?_eq_some_iff.1 hj).1
  rwa [hj] at this
set_option maxRecDepth 100000 in
set_option maxHeartbeats 16000000 in
theorem renumError_any (lv : Value) (ms : List (List ByteArray)) (nT nS q : Nat) (w : World) (hL : LawV w lv ms nT nS) (hq : q < ms.length) : Calls Tryz.prog 31 #[lv, .int .i64 q] w (LeP (GoodL ms[q]) w) := by
  have HTK := Lib.hid (fun s w1 (h : Kept w w1) => rtaken1_any lv ms.length nT nS q s w1 ((hL.kept h).lawN))
  unfold AnyB at HTK
  have HID := Lib.hid (fun s w1 => risId_any s w1)
  obtain ⟨AE, cE, AT, cT, AS, cS, rfl, hE, h0, h1, h2⟩ := hL
  obtain ⟨b, off, nm, Am, n, cm, rfl, hb, t0, t1, hn, hnl, hS⟩ := enm_at hE h0 hq
  obtain ⟨-, hxS⟩ := hS.at3Q
  generalize ms[q] = l at *
  have hqi : (q : Int) < ms.length := by omega
  have hq9 := h0.items.1
  generalize ms.length = nE at *
  have HN := Lib.hid hn
  have HXS := Lib.hid hxS
  have hq0 : (0 : Int) ≤ q := by omega
  have K0 := Lib.hid (((((Kept.refl w).alloc (.cells #[.slice (some ⟨b, off, none⟩) nE cE, .slice AT nT cT, .slice AS nS cS] 26)).alloc (.cells #[.int .i64 0, .int .i64 0, .int .i64 0, .int .i64 0] 57)).alloc (.cells #[.string nm, .slice Am n cm] 45)).alloc (.cells #[.int .i64 0, .int .i64 1, .int .i64 q, .int .i64 0] 57))
  clear hE h0 h1 h2 hn hxS hS
  go_enter Tryz.func31, Tryz.ntmps31
  go_upto_region 3 with fail
  obtain ⟨B1, B2, B3, B4⟩ := (Kept.refl ((((w.alloc (.cells #[.slice (some ⟨b, off, none⟩) nE cE, .slice AT nT cT, .slice AS nS cS] 26)).alloc (.cells #[.int .i64 0, .int .i64 0, .int .i64 0, .int .i64 0] 57)).alloc (.cells #[.string nm, .slice Am n cm] 45)).alloc (.cells #[.int .i64 0, .int .i64 1, .int .i64 q, .int .i64 0] 57))).blk4
  have KK := K0.out
  generalize ((((w.alloc (.cells #[.slice (some ⟨b, off, none⟩) nE cE, .slice AT nT cT, .slice AS nS cS] 26)).alloc (.cells #[.int .i64 0, .int .i64 0, .int .i64 0, .int .i64 0] 57)).alloc (.cells #[.string nm, .slice Am n cm] 45)).alloc (.cells #[.int .i64 0, .int .i64 1, .int .i64 q, .int .i64 0] 57)) = W at *
  have c1 := B1.cell
  have c2 := B2.cell
  have c3 := B3.cell
  have c4 := B4.cell
  have l1 := B1.lt
  have l2 := B2.lt
  have l3 := B3.lt
  have l4 := B4.lt
  have f2 := B2.frozen
  have f4 := B4.frozen
  have B3 : Blk W (w.heap.size + 1 + 1) 45 #[.string nm, .slice Am n cm] := B3
  have B4 : Blk W (w.heap.size + 1 + 1 + 1) 57 #[.int .i64 0, .int .i64 1, .int .i64 q, .int .i64 0] := B4
  have hsz : w.heap.size + 1 + 1 + 1 < W.heap.size := l4
  go_upto_region 9 with (first
    | (go_at_call 46; refine (HID.out nm _).mono ?_; rintro e w1 ⟨rfl, k1⟩; have C1 := B1.kept k1; have C2 := B2.kept k1; have C3 := B3.kept k1; have C4 := B4.kept k1; have c1z := C1.cell; have c2z := C2.cell; have c3z := C3.cell; have c4z := C4.cell; have m1z := C1.lt; have m2z := C2.lt; have m3z := C3.lt; have m4z := C4.lt; have f2z := C2.frozen; have f4z := C4.frozen; have K1 := KK.trans k1; generalize idB (L nm) = g1; cases g1)
    | (go_at_call 47; refine (HTK.out nm _ K1).mono ?_; rintro e w2 ⟨g2, rfl, k2⟩; have D1 := C1.kept k2; have D2 := C2.kept k2; have D3 := C3.kept k2; have D4 := C4.kept k2; have d1z := D1.cell; have d2z := D2.cell; have d3z := D3.cell; have d4z := D4.cell; have n1z := D1.lt; have n2z := D2.lt; have n3z := D3.lt; have n4z := D4.lt; have fd2 := D2.frozen; have fd4 := D4.frozen; have K2 := K1.trans k2; cases g2))
  · clear c1z c3z m1z m3z c1 c3 l1 l3 c2 c4 l2 l4 f2 f4
    have BW := (((((C2.far (p := ⟨w.heap.size + 1 + 1 + 1, 0, none⟩) (by simp only; omega) (.int .i64 2)).set_ 0 (.int .i64 2)).set_ 1 (.int .i64 1)).set_ 2 (.int .i64 q)).set_ 3 (.int .i64 0))
    have KF : Kept w ((((((w1.setCell ⟨w.heap.size + 1 + 1 + 1, 0, none⟩ (.int .i64 2))).setCell ⟨w.heap.size + 1, 0, none⟩ (.int .i64 2)).setCell ⟨w.heap.size + 1, 1, none⟩ (.int .i64 1)).setCell ⟨w.heap.size + 1, 2, none⟩ (.int .i64 q)).setCell ⟨w.heap.size + 1, 3, none⟩ (.int .i64 0)) := by
      repeat refine Kept.setCell ?_ (by simp only; omega) _
      exact K1
    generalize (((((w1.setCell ⟨w.heap.size + 1 + 1 + 1, 0, none⟩ (.int .i64 2))).setCell ⟨w.heap.size + 1, 0, none⟩ (.int .i64 2)).setCell ⟨w.heap.size + 1, 1, none⟩ (.int .i64 1)).setCell ⟨w.heap.size + 1, 2, none⟩ (.int .i64 q)).setCell ⟨w.heap.size + 1, 3, none⟩ (.int .i64 0) = WW at *
    have bw := BW.cell
    exact bodyPost_ret (v := .agg #[.int .i64 2, .int .i64 1, .int .i64 q, .int .i64 0]) (by simp [results, Tryz.results31, go_sem, bw]) rfl ⟨_, _, _, _, rfl, KF, fun h => absurd h (by decide)⟩
  · have HC1 := Lib.hid D1
    have HC2 := Lib.hid D2
    have HC3 := Lib.hid D3
    have HC4 := Lib.hid D4
    have HK2 := Lib.hid K2
    clear c1 c2 c3 c4 l1 l2 l3 l4 f2 f4 c1z c2z c3z c4z m1z m2z m3z m4z f2z f4z B1 B2 B3 B4 C1 C2 C3 C4 D1 D2 D3 D4 KK K1 K2 k1 k2 d1z n1z HTK
    by_cases hn0 : n = 0
    · subst hn0
      go_wp2_with fail
      have BW := (((((HC2.out.far (p := ⟨w.heap.size + 1 + 1 + 1, 0, none⟩) (by simp only; omega) (.int .i64 5)).set_ 0 (.int .i64 5)).set_ 1 (.int .i64 1)).set_ 2 (.int .i64 q)).set_ 3 (.int .i64 0))
      have KF : Kept w ((((((w2.setCell ⟨w.heap.size + 1 + 1 + 1, 0, none⟩ (.int .i64 5))).setCell ⟨w.heap.size + 1, 0, none⟩ (.int .i64 5)).setCell ⟨w.heap.size + 1, 1, none⟩ (.int .i64 1)).setCell ⟨w.heap.size + 1, 2, none⟩ (.int .i64 q)).setCell ⟨w.heap.size + 1, 3, none⟩ (.int .i64 0)) := by
        repeat refine Kept.setCell ?_ (by simp only; omega) _
        exact HK2.out
      generalize (((((w2.setCell ⟨w.heap.size + 1 + 1 + 1, 0, none⟩ (.int .i64 5))).setCell ⟨w.heap.size + 1, 0, none⟩ (.int .i64 5)).setCell ⟨w.heap.size + 1, 1, none⟩ (.int .i64 1)).setCell ⟨w.heap.size + 1, 2, none⟩ (.int .i64 q)).setCell ⟨w.heap.size + 1, 3, none⟩ (.int .i64 0) = WW at *
      have bw := BW.cell
      exact bodyPost_ret (v := .agg #[.int .i64 5, .int .i64 1, .int .i64 q, .int .i64 0]) (by simp [results, Tryz.results31, go_sem, bw]) rfl ⟨_, _, _, _, rfl, KF, fun h => absurd h (by decide)⟩
    have hn0b : ((n : Int) == 0) = false := by rw [beq_eq_false_iff_ne]; omega
    by_cases h16 : (16 : Int) < n
    · go_wp2_with fail
      have BW := ((((((HC2.out.far (p := ⟨w.heap.size + 1 + 1 + 1, 0, none⟩) (by simp only; omega) (.int .i64 4)).far (p := ⟨w.heap.size + 1 + 1 + 1, 3, none⟩) (by simp only; omega) (.int .i64 116)).set_ 0 (.int .i64 4)).set_ 1 (.int .i64 1)).set_ 2 (.int .i64 q)).set_ 3 (.int .i64 116))
      have KF : Kept w (((((((w2.setCell ⟨w.heap.size + 1 + 1 + 1, 0, none⟩ (.int .i64 4)).setCell ⟨w.heap.size + 1 + 1 + 1, 3, none⟩ (.int .i64 116))).setCell ⟨w.heap.size + 1, 0, none⟩ (.int .i64 4)).setCell ⟨w.heap.size + 1, 1, none⟩ (.int .i64 1)).setCell ⟨w.heap.size + 1, 2, none⟩ (.int .i64 q)).setCell ⟨w.heap.size + 1, 3, none⟩ (.int .i64 116)) := by
        repeat refine Kept.setCell ?_ (by simp only; omega) _
        exact HK2.out
      generalize ((((((w2.setCell ⟨w.heap.size + 1 + 1 + 1, 0, none⟩ (.int .i64 4)).setCell ⟨w.heap.size + 1 + 1 + 1, 3, none⟩ (.int .i64 116))).setCell ⟨w.heap.size + 1, 0, none⟩ (.int .i64 4)).setCell ⟨w.heap.size + 1, 1, none⟩ (.int .i64 1)).setCell ⟨w.heap.size + 1, 2, none⟩ (.int .i64 q)).setCell ⟨w.heap.size + 1, 3, none⟩ (.int .i64 116) = WW at *
      have bw := BW.cell
      exact bodyPost_ret (v := .agg #[.int .i64 4, .int .i64 1, .int .i64 q, .int .i64 116]) (by simp [results, Tryz.results31, go_sem, bw]) rfl ⟨_, _, _, _, rfl, KF, fun h => absurd h (by decide)⟩
    go_wp2_with fail
    clear d2z d3z d4z n2z n3z n4z fd2 fd4
    go_loopw [7] (fun z wr => ∃ (i : Nat) (el : Int), z = .int .i64 i ∧ i ≤ n ∧ Kept w wr ∧ Blk wr w.heap.size 26 #[.slice (some ⟨b, off, none⟩) nE cE, .slice AT nT cT, .slice AS nS cS] ∧ Blk wr (w.heap.size + 1) 57 #[.int .i64 0, .int .i64 0, .int .i64 0, .int .i64 0] ∧ Blk wr (w.heap.size + 1 + 1) 45 #[.string nm, .slice Am n cm] ∧ Blk wr (w.heap.size + 1 + 1 + 1) 57 #[.int .i64 0, .int .i64 1, .int .i64 q, .int .i64 el] ∧ GoodN l i) (fun z _ => n - (intOf z).toNat)
    case atStart => exact ⟨0, 0, rfl, Nat.zero_le _, HK2.out, HC1.out, HC2.out, HC3.out, HC4.out, GoodN.zero l⟩
    case round =>
      clear HC1 HC2 HC3 HC4 HK2 hsz
      obtain ⟨i, el, rfl, hin, hK, hB1, hB2, hB3, hB4, hgood⟩ := hrel
      have HGD := Lib.hid hgood
      clear hgood
      have c3 := hB3.cell
      have l3 := hB3.lt
      have hwr : w.heap.size + 1 + 1 + 1 < wr.heap.size := hB4.lt
      by_cases hlt : i < n
      · obtain ⟨b2, o2, rfl, hb2, hc2⟩ := HXS.out (by omega)
        have hg : l[i]? = some (l[i]'(by have := HN.out; omega)) := List.getElem?_eq_getElem _
        have x0 := hc2 i _ hg
        have HC2S := Lib.hid hc2
        generalize l[i]'(by have := HN.out; omega) = X at *
        have HG := Lib.hid hg
        have hii : (i : Int) < n := by omega
        have hb2r := Nat.lt_of_lt_of_le hb2 hK.size
        have hwe : IntKind.i64.wrap (100 + (i : Int)) = 100 + (i : Int) := by rw [IntKind.wrap_i64]; omega
        have c4 := hB4.cell
        have l4 := hB4.lt
        have f4 := hB4.frozen
        have x1 := hK.cell (p := ⟨b2, _, none⟩) hb2 x0
        clear hc2 hg
        go_upto_region 20 with fail
        have C1 := hB1.far (p := ⟨w.heap.size + 1 + 1 + 1, 3, none⟩) (by simp only; omega) (.int .i64 (100 + (i : Int)))
        have C2 := hB2.far (p := ⟨w.heap.size + 1 + 1 + 1, 3, none⟩) (by simp only; omega) (.int .i64 (100 + (i : Int)))
        have C3 := hB3.far (p := ⟨w.heap.size + 1 + 1 + 1, 3, none⟩) (by simp only; omega) (.int .i64 (100 + (i : Int)))
        have C4 : Blk _ _ _ #[.int .i64 0, .int .i64 1, .int .i64 q, .int .i64 (100 + (i : Int))] := hB4.set_ 3 (.int .i64 (100 + (i : Int)))
        have K3 : Kept w (wr.setCell ⟨w.heap.size + 1 + 1 + 1, 3, none⟩ (.int .i64 (100 + (i : Int)))) := hK.setCell (by simp only; omega) _
        clear c3 l3 c4 l4 f4 x1 hB1 hB2 hB3 hB4 hK
        generalize wr.setCell ⟨w.heap.size + 1 + 1 + 1, 3, none⟩ (.int .i64 (100 + (i : Int))) = W3 at *
        have c3 := C3.cell
        have l3 := C3.lt
        have x1 := K3.cell (p := ⟨b2, _, none⟩) hb2 x0
        have hb2r := Nat.lt_of_lt_of_le hb2 K3.size
        go_upto_region 23 with (go_at_call 46; refine (HID.out X _).mono ?_; rintro e w4 ⟨rfl, k4⟩; have D1 := C1.kept k4; have D2 := C2.kept k4; have D3 := C3.kept k4; have D4 := C4.kept k4; have d2z := D2.cell; have d4z := D4.cell; have n2z := D2.lt; have n4z := D4.lt; have fd2 := D2.frozen; have fd4 := D4.frozen; have K4 := K3.trans k4; cases hid : idB (L X))
        · clear hid
          have BW := (((((D2.far (p := ⟨w.heap.size + 1 + 1 + 1, 0, none⟩) (by simp only; omega) (.int .i64 2)).set_ 0 (.int .i64 2)).set_ 1 (.int .i64 1)).set_ 2 (.int .i64 q)).set_ 3 (.int .i64 (100 + (i : Int))))
          have KF : Kept w ((((((w4.setCell ⟨w.heap.size + 1 + 1 + 1, 0, none⟩ (.int .i64 2))).setCell ⟨w.heap.size + 1, 0, none⟩ (.int .i64 2)).setCell ⟨w.heap.size + 1, 1, none⟩ (.int .i64 1)).setCell ⟨w.heap.size + 1, 2, none⟩ (.int .i64 q)).setCell ⟨w.heap.size + 1, 3, none⟩ (.int .i64 (100 + (i : Int)))) := by
            repeat refine Kept.setCell ?_ (by simp only; omega) _
            exact K4
          generalize (((((w4.setCell ⟨w.heap.size + 1 + 1 + 1, 0, none⟩ (.int .i64 2))).setCell ⟨w.heap.size + 1, 0, none⟩ (.int .i64 2)).setCell ⟨w.heap.size + 1, 1, none⟩ (.int .i64 1)).setCell ⟨w.heap.size + 1, 2, none⟩ (.int .i64 q)).setCell ⟨w.heap.size + 1, 3, none⟩ (.int .i64 (100 + (i : Int))) = WW at *
          have bw := BW.cell
          exact bodyPost_ret (v := .agg #[.int .i64 2, .int .i64 1, .int .i64 q, .int .i64 (100 + (i : Int))]) (by simp [results, Tryz.results31, go_sem, bw]) rfl ⟨_, _, _, _, rfl, KF, fun h => absurd h (by decide)⟩
        · have HIDX := Lib.hid hid
          have HD1 := Lib.hid D1
          have HD2 := Lib.hid D2
          have HD3 := Lib.hid D3
          have HD4 := Lib.hid D4
          have HK4 := Lib.hid K4
          clear hid D1 D2 D3 D4 K4 k4 C1 C2 C3 C4 K3 c3 l3 x1 hb2r d2z d4z n2z n4z fd2 fd4
          go_wp2_with fail
          go_loopw [8] (fun z wq => ∃ (k : Nat), z = .int .i64 k ∧ k ≤ i ∧ Kept w4 wq ∧ ∀ k' y, k' < k → l[k']? = some y → (y.toList == X.toList) = false) (fun z _ => i - (intOf z).toNat)
          case atStart => exact ⟨0, rfl, Nat.zero_le _, Kept.refl _, fun _ _ h => absurd h (by omega)⟩
          case round =>
            obtain ⟨k, rfl, hki, hKq, hno⟩ := hrel
            have HNO := Lib.hid hno
            clear hno
            by_cases hkl : k < i
            · have hkk : (k : Int) < i := by omega
              have hkn : (k : Int) < n := by omega
              have hg : l[k]? = some (l[k]'(by have := HN.out; omega)) := List.getElem?_eq_getElem _
              have y0 := HC2S.out k _ hg
              generalize l[k]'(by have := HN.out; omega) = Y at *
              have HGY := Lib.hid hg
              have D3 := HD3.out.kept hKq
              have hb2q := Nat.lt_of_lt_of_le hb2 (HK4.out.trans hKq).size
              have y1 := KW.cell hb2q ((HK4.out.trans hKq).cell (p := ⟨b2, _, none⟩) hb2 y0)
              have x1 := KW.cell hb2q ((HK4.out.trans hKq).cell (p := ⟨b2, _, none⟩) hb2 x0)
              clear hg
              go_upto_region 26 with fail
              have z1 := KW.cell D3.lt (D3.cell 1)
              try simp only [List.getElem?_toArray, List.getElem?_cons_zero, List.getElem?_cons_succ] at z1
              refine wp_region_kept (by kernel_rfl) (by kernel_rfl) ?_
              repeat (go_big_quiet_step (fail))
              refine wpQuiet_nil ?_
              rintro w5 ⟨⟨wx, hx2⟩, hh⟩
              obtain rfl : w5 = wx := hh
              have HK5 := Lib.hid (hKq.trans hx2)
              clear z1 y1 x1 D3 hKq hx2
              cases he : (Y.toList == X.toList)
              · have HE := Lib.hid he
                go_wp2_with fail
                go_roundw
                case rel => exact ⟨k + 1, by go_num, by omega, HK5.out, fun k' y h hy => by
                  by_cases e : k' = k
                  · subst e
                    rw [HGY.out] at hy
                    obtain rfl := Option.some.inj hy
                    exact HE.out
                  · exact HNO.out k' y (by omega) hy⟩
                case measure => simp [intOf]; omega
              · have D2 := HD2.out.kept HK5.out
                have D4 := HD4.out.kept HK5.out
                have K5 := HK4.out.trans HK5.out
                have d2z := D2.cell
                have d4z := D4.cell
                have n2z := D2.lt
                have n4z := D4.lt
                have fd2 := D2.frozen
                have fd4 := D4.frozen
                go_wp2_with fail
                have BW := (((((D2.far (p := ⟨w.heap.size + 1 + 1 + 1, 0, none⟩) (by simp only; omega) (.int .i64 7)).set_ 0 (.int .i64 7)).set_ 1 (.int .i64 1)).set_ 2 (.int .i64 q)).set_ 3 (.int .i64 (100 + (i : Int))))
                have KF : Kept w ((((((w5.setCell ⟨w.heap.size + 1 + 1 + 1, 0, none⟩ (.int .i64 7))).setCell ⟨w.heap.size + 1, 0, none⟩ (.int .i64 7)).setCell ⟨w.heap.size + 1, 1, none⟩ (.int .i64 1)).setCell ⟨w.heap.size + 1, 2, none⟩ (.int .i64 q)).setCell ⟨w.heap.size + 1, 3, none⟩ (.int .i64 (100 + (i : Int)))) := by
                  repeat refine Kept.setCell ?_ (by simp only; omega) _
                  exact K5
                generalize (((((w5.setCell ⟨w.heap.size + 1 + 1 + 1, 0, none⟩ (.int .i64 7))).setCell ⟨w.heap.size + 1, 0, none⟩ (.int .i64 7)).setCell ⟨w.heap.size + 1, 1, none⟩ (.int .i64 1)).setCell ⟨w.heap.size + 1, 2, none⟩ (.int .i64 q)).setCell ⟨w.heap.size + 1, 3, none⟩ (.int .i64 (100 + (i : Int))) = WW at *
                have bw := BW.cell
                exact bodyPost_ret (v := .agg #[.int .i64 7, .int .i64 1, .int .i64 q, .int .i64 (100 + (i : Int))]) (by simp [results, Tryz.results31, go_sem, bw]) rfl ⟨_, _, _, _, rfl, KF, fun h => absurd h (by decide)⟩
            · obtain rfl : i = k := by omega
              have hkk : ¬ ((i : Int) < i) := by omega
              have HKQ := Lib.hid hKq
              clear hKq
              go_wp2_with fail
              go_roundw
              case rel => exact ⟨i + 1, 100 + i, by go_num, hlt, HK4.out.trans HKQ.out, HD1.out.kept HKQ.out, HD2.out.kept HKQ.out, HD3.out.kept HKQ.out, HD4.out.kept HKQ.out, HGD.out.succ HG.out HIDX.out HNO.out⟩
              case measure => simp [intOf]; omega
      · obtain rfl : n = i := by omega
        have hii : ¬ ((n : Int) < n) := by omega
        have c2 := hB2.cell
        have l2 := hB2.lt
        have f2 := hB2.frozen
        go_wp2_with fail
        have BW := ((((hB2.set_ 0 (.int .i64 0)).set_ 1 (.int .i64 0)).set_ 2 (.int .i64 0)).set_ 3 (.int .i64 0))
        have KF : Kept w (((((wr).setCell ⟨w.heap.size + 1, 0, none⟩ (.int .i64 0)).setCell ⟨w.heap.size + 1, 1, none⟩ (.int .i64 0)).setCell ⟨w.heap.size + 1, 2, none⟩ (.int .i64 0)).setCell ⟨w.heap.size + 1, 3, none⟩ (.int .i64 0)) := by
          repeat refine Kept.setCell ?_ (by simp only; omega) _
          exact hK
        generalize ((((wr).setCell ⟨w.heap.size + 1, 0, none⟩ (.int .i64 0)).setCell ⟨w.heap.size + 1, 1, none⟩ (.int .i64 0)).setCell ⟨w.heap.size + 1, 2, none⟩ (.int .i64 0)).setCell ⟨w.heap.size + 1, 3, none⟩ (.int .i64 0) = WW at *
        have bw := BW.cell
        exact bodyPost_ret (v := .agg #[.int .i64 0, .int .i64 0, .int .i64 0, .int .i64 0]) (by simp [results, Tryz.results31, go_sem, bw]) rfl ⟨_, _, _, _, rfl, KF, fun _ => HGD.out.all HN.out⟩
  · clear c1z c3z m1z m3z c1 c3 l1 l3 c2 c4 l2 l4 f2 f4 c2z c4z m2z m4z f2z f4z d1z d3z
    have BW := (((((D2.far (p := ⟨w.heap.size + 1 + 1 + 1, 0, none⟩) (by simp only; omega) (.int .i64 7)).set_ 0 (.int .i64 7)).set_ 1 (.int .i64 1)).set_ 2 (.int .i64 q)).set_ 3 (.int .i64 0))
    have KF : Kept w ((((((w2.setCell ⟨w.heap.size + 1 + 1 + 1, 0, none⟩ (.int .i64 7))).setCell ⟨w.heap.size + 1, 0, none⟩ (.int .i64 7)).setCell ⟨w.heap.size + 1, 1, none⟩ (.int .i64 1)).setCell ⟨w.heap.size + 1, 2, none⟩ (.int .i64 q)).setCell ⟨w.heap.size + 1, 3, none⟩ (.int .i64 0)) := by
      repeat refine Kept.setCell ?_ (by simp only; omega) _
      exact K2
    generalize (((((w2.setCell ⟨w.heap.size + 1 + 1 + 1, 0, none⟩ (.int .i64 7))).setCell ⟨w.heap.size + 1, 0, none⟩ (.int .i64 7)).setCell ⟨w.heap.size + 1, 1, none⟩ (.int .i64 1)).setCell ⟨w.heap.size + 1, 2, none⟩ (.int .i64 q)).setCell ⟨w.heap.size + 1, 3, none⟩ (.int .i64 0) = WW at *
    have bw := BW.cell
    exact bodyPost_ret (v := .agg #[.int .i64 7, .int .i64 1, .int .i64 q, .int .i64 0]) (by simp [results, Tryz.results31, go_sem, bw]) rfl ⟨_, _, _, _, rfl, KF, fun h => absurd h (by decide)⟩

end Go.Proofs.YtjeifmjcgemlgaaGreatDoor
/- tableError of the reference of package law: it ends. -/
namespace Go.Proofs.YtjeifmjcgemlgaaGreatDoor
open Go.RowKit

set_option maxRecDepth 100000 in
set_option maxHeartbeats 16000000 in
theorem rtableError_any (lv : Value) (ms : List (List ByteArray)) (nT nS q : Nat) (w : World) (hL : LawV w lv ms nT nS) (hq : q < nT) : Calls Tryz.prog 32 #[lv, .int .i64 q] w (LeP True w) := by
  have HTK := Lib.hid (fun s w1 (h : Kept w w1) => rtaken2_any lv ms.length nT nS q s w1 ((hL.kept h).lawN))
  unfold AnyB at HTK
  have HID := Lib.hid (fun s w1 => risId_any s w1)
  obtain ⟨AE, cE, AT, cT, AS, cS, rfl, hE, h0, h1, h2⟩ := hL
  obtain ⟨hq9, hxT⟩ := h1.items
  obtain ⟨b, off, rfl, hb, hc⟩ := hxT (by omega)
  obtain ⟨⟨nm, t0⟩, ⟨k1, t1⟩, ⟨e1, t2⟩, ⟨k2, t3⟩, ⟨e2, t4⟩, ⟨_, t5, ⟨AR, nR, cR, rfl, hRc, hRn, hRx⟩⟩⟩ := hc q hq
  have HV := Lib.hid (fun w1 (h : Kept w w1) => rtabval_k k1 e1 k2 e2 nm AR nR cR (.slice AE ms.length cE) ⟨_, _, _, rfl⟩ ms w1 (hE.kept h) (SlZ.kept RwP.kept ⟨AR, nR, cR, rfl, hRc, hRn, hRx⟩ h))
  unfold IntsP at HV
  have hqi : (q : Int) < nT := by omega
  generalize ms.length = nE at *
  have hq0 : (0 : Int) ≤ q := by omega
  have K0 := Lib.hid (((((Kept.refl w).alloc (.cells #[.slice AE nE cE, .slice (some ⟨b, off, none⟩) nT cT, .slice AS nS cS] 26)).alloc (.cells #[.int .i64 0, .int .i64 0, .int .i64 0, .int .i64 0] 57)).alloc (.cells #[.string nm, .int .i64 k1, .int .i64 e1, .int .i64 k2, .int .i64 e2, .slice AR nR cR] 50)).alloc (.cells #[.int .i64 0, .int .i64 2, .int .i64 q, .int .i64 0] 57))
  clear hE h0 h1 h2 hc hxT hRx
  go_enter Tryz.func32, Tryz.ntmps32
  go_upto_region 3 with fail
  obtain ⟨B1, B2, B3, B4⟩ := (Kept.refl ((((w.alloc (.cells #[.slice AE nE cE, .slice (some ⟨b, off, none⟩) nT cT, .slice AS nS cS] 26)).alloc (.cells #[.int .i64 0, .int .i64 0, .int .i64 0, .int .i64 0] 57)).alloc (.cells #[.string nm, .int .i64 k1, .int .i64 e1, .int .i64 k2, .int .i64 e2, .slice AR nR cR] 50)).alloc (.cells #[.int .i64 0, .int .i64 2, .int .i64 q, .int .i64 0] 57))).blk4
  have KK := K0.out
  generalize ((((w.alloc (.cells #[.slice AE nE cE, .slice (some ⟨b, off, none⟩) nT cT, .slice AS nS cS] 26)).alloc (.cells #[.int .i64 0, .int .i64 0, .int .i64 0, .int .i64 0] 57)).alloc (.cells #[.string nm, .int .i64 k1, .int .i64 e1, .int .i64 k2, .int .i64 e2, .slice AR nR cR] 50)).alloc (.cells #[.int .i64 0, .int .i64 2, .int .i64 q, .int .i64 0] 57)) = W at *
  have B3 : Blk W (w.heap.size + 1 + 1) 50 #[.string nm, .int .i64 k1, .int .i64 e1, .int .i64 k2, .int .i64 e2, .slice AR nR cR] := B3
  have B4 : Blk W (w.heap.size + 1 + 1 + 1) 57 #[.int .i64 0, .int .i64 2, .int .i64 q, .int .i64 0] := B4
  have c1 := B1.cell
  have c3 := B3.cell
  have l1 := B1.lt
  have l3 := B3.lt
  have hsz : w.heap.size + 1 + 1 + 1 < W.heap.size := B4.lt
  clear t0 t1 t2 t3 t4 t5
  go_upto_region 10 with (first
    | (go_at_call 46; refine (HID.out nm _).mono ?_; rintro e w1 ⟨rfl, k1⟩; have C1 := B1.kept k1; have cc1 := C1.cell; have cl1 := C1.lt; have C2 := B2.kept k1; have cc2 := C2.cell; have cl2 := C2.lt; have C3 := B3.kept k1; have cc3 := C3.cell; have cl3 := C3.lt; have C4 := B4.kept k1; have cc4 := C4.cell; have cl4 := C4.lt; have cf2 := C2.frozen; have cf4 := C4.frozen; have K1 := KK.trans k1; generalize idB (L nm) = g1; cases g1)
    | (go_at_call 47; refine (HTK.out nm _ K1).mono ?_; rintro e w2 ⟨g2, rfl, k2⟩; have D1 := C1.kept k2; have dc1 := D1.cell; have dl1 := D1.lt; have D2 := C2.kept k2; have dc2 := D2.cell; have dl2 := D2.lt; have D3 := C3.kept k2; have dc3 := D3.cell; have dl3 := D3.lt; have D4 := C4.kept k2; have dc4 := D4.cell; have dl4 := D4.lt; have df2 := D2.frozen; have df4 := D4.frozen; have K2 := K1.trans k2; cases g2)
    | (go_at_call 48; refine (HV.out _ K2).mono ?_; rintro e w3 ⟨row, code, rfl, ⟨hr1, hr2⟩, k3⟩; have E1 := D1.kept k3; have ec1 := E1.cell; have el1 := E1.lt; have E2 := D2.kept k3; have ec2 := E2.cell; have el2 := E2.lt; have E3 := D3.kept k3; have ec3 := E3.cell; have el3 := E3.lt; have E4 := D4.kept k3; have ec4 := E4.cell; have el4 := E4.lt; have ef2 := E2.frozen; have ef4 := E4.frozen; have K3 := K2.trans k3))
  · clear cc1 cc3 cl1 cl3 c1 l1 c3 l3
    have BW := (((((C2.far (p := ⟨w.heap.size + 1 + 1 + 1, 0, none⟩) (by simp only; omega) (.int .i64 2)).set_ 0 (.int .i64 2)).set_ 1 (.int .i64 2)).set_ 2 (.int .i64 q)).set_ 3 (.int .i64 0))
    have KF : Kept w ((((((w1.setCell ⟨w.heap.size + 1 + 1 + 1, 0, none⟩ (.int .i64 2))).setCell ⟨w.heap.size + 1, 0, none⟩ (.int .i64 2)).setCell ⟨w.heap.size + 1, 1, none⟩ (.int .i64 2)).setCell ⟨w.heap.size + 1, 2, none⟩ (.int .i64 q)).setCell ⟨w.heap.size + 1, 3, none⟩ (.int .i64 0)) := by
      repeat refine Kept.setCell ?_ (by simp only; omega) _
      exact K1
    generalize (((((w1.setCell ⟨w.heap.size + 1 + 1 + 1, 0, none⟩ (.int .i64 2))).setCell ⟨w.heap.size + 1, 0, none⟩ (.int .i64 2)).setCell ⟨w.heap.size + 1, 1, none⟩ (.int .i64 2)).setCell ⟨w.heap.size + 1, 2, none⟩ (.int .i64 q)).setCell ⟨w.heap.size + 1, 3, none⟩ (.int .i64 0) = WW at *
    have bw := BW.cell
    exact bodyPost_ret (v := .agg #[.int .i64 2, .int .i64 2, .int .i64 q, .int .i64 0]) (by simp [results, Tryz.results32, go_sem, bw]) rfl ⟨_, _, _, _, rfl, KF, fun _ => trivial⟩
  · have HE2 := Lib.hid E2
    have HK3 := Lib.hid K3
    clear c1 l1 c3 l3 cc1 cc2 cc3 cc4 cl1 cl2 cl3 cl4 cf2 cf4 dc1 dc2 dc3 dc4 dl1 dl2 dl3 dl4 df2 df4 B1 B2 B3 B4 C1 C2 C3 C4 D1 D2 D3 D4 E1 E2 E3 KK K1 K2 K3 k1 k2 k3 ec1 ec3 el1 el3
    by_cases h0 : code = 0
    · subst h0
      go_wp2_with fail
      have BW := ((((HE2.out.set_ 0 (.int .i64 0)).set_ 1 (.int .i64 0)).set_ 2 (.int .i64 0)).set_ 3 (.int .i64 0))
      have KF : Kept w (((((w3).setCell ⟨w.heap.size + 1, 0, none⟩ (.int .i64 0)).setCell ⟨w.heap.size + 1, 1, none⟩ (.int .i64 0)).setCell ⟨w.heap.size + 1, 2, none⟩ (.int .i64 0)).setCell ⟨w.heap.size + 1, 3, none⟩ (.int .i64 0)) := by
        repeat refine Kept.setCell ?_ (by simp only; omega) _
        exact HK3.out
      generalize ((((w3).setCell ⟨w.heap.size + 1, 0, none⟩ (.int .i64 0)).setCell ⟨w.heap.size + 1, 1, none⟩ (.int .i64 0)).setCell ⟨w.heap.size + 1, 2, none⟩ (.int .i64 0)).setCell ⟨w.heap.size + 1, 3, none⟩ (.int .i64 0) = WW at *
      have bw := BW.cell
      exact bodyPost_ret (v := .agg #[.int .i64 0, .int .i64 0, .int .i64 0, .int .i64 0]) (by simp [results, Tryz.results32, go_sem, bw]) rfl ⟨_, _, _, _, rfl, KF, fun _ => trivial⟩
    · have h0b : (code == 0) = false := by simpa using h0
      by_cases hr : 0 ≤ row
      · have hwe : IntKind.i64.wrap (100 + row) = 100 + row := by rw [IntKind.wrap_i64]; omega
        go_wp2_with fail
        have BW := ((((((HE2.out.far (p := ⟨w.heap.size + 1 + 1 + 1, 0, none⟩) (by simp only; omega) (.int .i64 code)).far (p := ⟨w.heap.size + 1 + 1 + 1, 3, none⟩) (by simp only; omega) (.int .i64 (100 + row))).set_ 0 (.int .i64 code)).set_ 1 (.int .i64 2)).set_ 2 (.int .i64 q)).set_ 3 (.int .i64 (100 + row)))
        have KF : Kept w (((((((w3.setCell ⟨w.heap.size + 1 + 1 + 1, 0, none⟩ (.int .i64 code)).setCell ⟨w.heap.size + 1 + 1 + 1, 3, none⟩ (.int .i64 (100 + row)))).setCell ⟨w.heap.size + 1, 0, none⟩ (.int .i64 code)).setCell ⟨w.heap.size + 1, 1, none⟩ (.int .i64 2)).setCell ⟨w.heap.size + 1, 2, none⟩ (.int .i64 q)).setCell ⟨w.heap.size + 1, 3, none⟩ (.int .i64 (100 + row))) := by
          repeat refine Kept.setCell ?_ (by simp only; omega) _
          exact HK3.out
        generalize ((((((w3.setCell ⟨w.heap.size + 1 + 1 + 1, 0, none⟩ (.int .i64 code)).setCell ⟨w.heap.size + 1 + 1 + 1, 3, none⟩ (.int .i64 (100 + row)))).setCell ⟨w.heap.size + 1, 0, none⟩ (.int .i64 code)).setCell ⟨w.heap.size + 1, 1, none⟩ (.int .i64 2)).setCell ⟨w.heap.size + 1, 2, none⟩ (.int .i64 q)).setCell ⟨w.heap.size + 1, 3, none⟩ (.int .i64 (100 + row)) = WW at *
        have bw := BW.cell
        exact bodyPost_ret (v := .agg #[.int .i64 code, .int .i64 2, .int .i64 q, .int .i64 (100 + row)]) (by simp [results, Tryz.results32, go_sem, bw]) rfl ⟨_, _, _, _, rfl, KF, fun _ => trivial⟩
      · go_wp2_with fail
        have BW := (((((HE2.out.far (p := ⟨w.heap.size + 1 + 1 + 1, 0, none⟩) (by simp only; omega) (.int .i64 code)).set_ 0 (.int .i64 code)).set_ 1 (.int .i64 2)).set_ 2 (.int .i64 q)).set_ 3 (.int .i64 0))
        have KF : Kept w ((((((w3.setCell ⟨w.heap.size + 1 + 1 + 1, 0, none⟩ (.int .i64 code))).setCell ⟨w.heap.size + 1, 0, none⟩ (.int .i64 code)).setCell ⟨w.heap.size + 1, 1, none⟩ (.int .i64 2)).setCell ⟨w.heap.size + 1, 2, none⟩ (.int .i64 q)).setCell ⟨w.heap.size + 1, 3, none⟩ (.int .i64 0)) := by
          repeat refine Kept.setCell ?_ (by simp only; omega) _
          exact HK3.out
        generalize (((((w3.setCell ⟨w.heap.size + 1 + 1 + 1, 0, none⟩ (.int .i64 code))).setCell ⟨w.heap.size + 1, 0, none⟩ (.int .i64 code)).setCell ⟨w.heap.size + 1, 1, none⟩ (.int .i64 2)).setCell ⟨w.heap.size + 1, 2, none⟩ (.int .i64 q)).setCell ⟨w.heap.size + 1, 3, none⟩ (.int .i64 0) = WW at *
        have bw := BW.cell
        exact bodyPost_ret (v := .agg #[.int .i64 code, .int .i64 2, .int .i64 q, .int .i64 0]) (by simp [results, Tryz.results32, go_sem, bw]) rfl ⟨_, _, _, _, rfl, KF, fun _ => trivial⟩
  · clear cc1 cc2 cc3 cc4 cl1 cl2 cl3 cl4 cf2 cf4 dc1 dc3 dl1 dl3 c1 l1 c3 l3
    have BW := (((((D2.far (p := ⟨w.heap.size + 1 + 1 + 1, 0, none⟩) (by simp only; omega) (.int .i64 7)).set_ 0 (.int .i64 7)).set_ 1 (.int .i64 2)).set_ 2 (.int .i64 q)).set_ 3 (.int .i64 0))
    have KF : Kept w ((((((w2.setCell ⟨w.heap.size + 1 + 1 + 1, 0, none⟩ (.int .i64 7))).setCell ⟨w.heap.size + 1, 0, none⟩ (.int .i64 7)).setCell ⟨w.heap.size + 1, 1, none⟩ (.int .i64 2)).setCell ⟨w.heap.size + 1, 2, none⟩ (.int .i64 q)).setCell ⟨w.heap.size + 1, 3, none⟩ (.int .i64 0)) := by
      repeat refine Kept.setCell ?_ (by simp only; omega) _
      exact K2
    generalize (((((w2.setCell ⟨w.heap.size + 1 + 1 + 1, 0, none⟩ (.int .i64 7))).setCell ⟨w.heap.size + 1, 0, none⟩ (.int .i64 7)).setCell ⟨w.heap.size + 1, 1, none⟩ (.int .i64 2)).setCell ⟨w.heap.size + 1, 2, none⟩ (.int .i64 q)).setCell ⟨w.heap.size + 1, 3, none⟩ (.int .i64 0) = WW at *
    have bw := BW.cell
    exact bodyPost_ret (v := .agg #[.int .i64 7, .int .i64 2, .int .i64 q, .int .i64 0]) (by simp [results, Tryz.results32, go_sem, bw]) rfl ⟨_, _, _, _, rfl, KF, fun _ => trivial⟩
end Go.Proofs.YtjeifmjcgemlgaaGreatDoor
/- fieldError of the reference of package law: it ends. -/
namespace Go.Proofs.YtjeifmjcgemlgaaGreatDoor
open Go.RowKit

/-- a slice of fields: names and types -/
def FdV (w : World) (A : Option Addr) (n : Nat) (fs : List (ByteArray × Int × Int)) : Prop :=
  n = fs.length ∧ (0 < n → ∃ b off, A = some ⟨b, off, none⟩ ∧ b < w.heap.size ∧ ∀ j x, fs[j]? = some x → w.cell? ⟨b, off + j * 3, none⟩ = some (.string x.1) ∧ w.cell? ⟨b, off + j * 3 + 1, none⟩ = some (.int .i64 x.2.1) ∧ w.cell? ⟨b, off + j * 3 + 2, none⟩ = some (.int .i64 x.2.2))
/-- with its bounds, as the test of names wants it -/
structure FdW (w : World) (A : Option Addr) (n cap : Nat) (fs : List (ByteArray × Int × Int)) : Prop where
  v : FdV w A n fs
  le : n ≤ 8796093022208
theorem FdW.names {w : World} {A : Option Addr} {n cap : Nat} {fs : List (ByteArray × Int × Int)} (h : FdW w A n cap fs) : FdN w (.slice A n cap) (fs.map (·.1)) := by
  obtain ⟨⟨hn, hx⟩, hle⟩ := h
  refine ⟨A, cap, by rw [List.length_map, ← hn], by rw [List.length_map]; omega, fun hp => ?_⟩
  rw [List.length_map, ← hn] at hp
  obtain ⟨b, off, hA, hb, hc⟩ := hx hp
  refine ⟨b, off, hA, hb, fun j x hj => ?_⟩
  rw [List.getElem?_map] at hj
  obtain ⟨y, hy, rfl⟩ := Option.map_eq_some_iff.1 hj
  exact (hc j y hy).1
theorem SlZ.flds {w : World} {A : Option Addr} {n cap : Nat} (h : SlZ w 3 FdP (.slice A n cap)) : ∃ fs : List (ByteArray × Int × Int), FdW w A n cap fs := by
  obtain ⟨hn, hx⟩ := h.items
  rcases Nat.eq_zero_or_pos n with h0 | hp
  · subst h0
    exact ⟨[], ⟨rfl, fun h => absurd h (by omega)⟩, by omega⟩
  obtain ⟨b, off, hA, hb, hc⟩ := hx hp
  obtain ⟨fs, hl, hfs⟩ := choose_list (p := fun i (x : ByteArray × Int × Int) => w.cell? ⟨b, off + i * 3, none⟩ = some (.string x.1) ∧ w.cell? ⟨b, off + i * 3 + 1, none⟩ = some (.int .i64 x.2.1) ∧ w.cell? ⟨b, off + i * 3 + 2, none⟩ = some (.int .i64 x.2.2)) n (fun i hi => by
    obtain ⟨⟨s, h0⟩, ⟨k, h1⟩, ⟨e, h2⟩⟩ := hc i hi
    exact ⟨(s, k, e), h0, h1, h2⟩)
  exact ⟨fs, ⟨hl.symm, fun _ => ⟨b, off, hA, hb, hfs⟩⟩, hn⟩
set_option maxRecDepth 100000 in
set_option maxHeartbeats 16000000 in
theorem rfieldError_any (lv : Value) (ms : List (List ByteArray)) (nT nS q : Nat) (w : World) (hL : LawV w lv ms nT nS) (hq : q < nS) : Calls Tryz.prog 49 #[lv, .int .i64 q] w (LeP True w) := by
  have HID := Lib.hid (fun s w1 => risId_any s w1)
  obtain ⟨AE, cE, AT, cT, AS, cS, rfl, hE, h0, h1, h2⟩ := hL
  have HVT := Lib.hid (fun k e w1 (h : Kept w w1) => rvtype_any k e _ ms w1 (hE.kept h))
  obtain ⟨hq9, hxS⟩ := h2.items
  obtain ⟨b, off, rfl, hb, hc⟩ := hxS (by omega)
  obtain ⟨⟨nm, t0⟩, ⟨mm, t1⟩, ⟨_, t2, hI⟩, ⟨_, t3, hD⟩, ⟨_, t4, hR⟩⟩ := hc q hq
  obtain ⟨AI, nI, cI, rfl, -, hnI, -⟩ := id hI
  obtain ⟨AD, nD, cD, rfl, -, hnD, -⟩ := id hD
  obtain ⟨AR, nR, cR, rfl, -, -, -⟩ := id hR
  obtain ⟨fsI, hfI⟩ := hI.flds
  obtain ⟨fsD, hfD⟩ := hD.flds
  have HFI := Lib.hid hfI
  have HFD := Lib.hid hfD
  have hqi : (q : Int) < nS := by omega
  generalize ms.length = nE at *
  have hq0 : (0 : Int) ≤ q := by omega
  have K0 := Lib.hid ((((Kept.refl w).alloc (.cells #[.slice AE nE cE, .slice AT nT cT, .slice (some ⟨b, off, none⟩) nS cS] 26)).alloc (.cells #[.int .i64 0, .int .i64 0, .int .i64 0, .int .i64 0] 57)).alloc (.cells #[.string nm, .int .i64 mm, .slice AI nI cI, .slice AD nD cD, .slice AR nR cR] 54))
  clear hE h0 h1 h2 hc hxS hI hD hR hfI hfD
  go_enter Tryz.func49, Tryz.ntmps49
  go_upto_region 2 with fail
  obtain ⟨B1, B2, B3⟩ := (Kept.refl (((w.alloc (.cells #[.slice AE nE cE, .slice AT nT cT, .slice (some ⟨b, off, none⟩) nS cS] 26)).alloc (.cells #[.int .i64 0, .int .i64 0, .int .i64 0, .int .i64 0] 57)).alloc (.cells #[.string nm, .int .i64 mm, .slice AI nI cI, .slice AD nD cD, .slice AR nR cR] 54))).blk3
  have KK := K0.out
  generalize (((w.alloc (.cells #[.slice AE nE cE, .slice AT nT cT, .slice (some ⟨b, off, none⟩) nS cS] 26)).alloc (.cells #[.int .i64 0, .int .i64 0, .int .i64 0, .int .i64 0] 57)).alloc (.cells #[.string nm, .int .i64 mm, .slice AI nI cI, .slice AD nD cD, .slice AR nR cR] 54)) = W at *
  have B3 : Blk W (w.heap.size + 1 + 1) 54 #[.string nm, .int .i64 mm, .slice AI nI cI, .slice AD nD cD, .slice AR nR cR] := B3
  have HKK := Lib.hid KK
  have HB1 := Lib.hid B1
  have HB2 := Lib.hid B2
  have HB3 := Lib.hid B3
  clear B1 B2 B3 KK t0 t1 t2 t3 t4
  go_wp2_with fail
  go_loopw [6] (fun z wr => ∃ (i : Nat), z = .int .i64 i ∧ i ≤ nI ∧ Kept w wr ∧ Blk wr w.heap.size 26 #[.slice AE nE cE, .slice AT nT cT, .slice (some ⟨b, off, none⟩) nS cS] ∧ Blk wr (w.heap.size + 1) 57 #[.int .i64 0, .int .i64 0, .int .i64 0, .int .i64 0] ∧ Blk wr (w.heap.size + 1 + 1) 54 #[.string nm, .int .i64 mm, .slice AI nI cI, .slice AD nD cD, .slice AR nR cR]) (fun z _ => nI - (intOf z).toNat)
  case atStart => exact ⟨0, rfl, Nat.zero_le _, HKK.out, HB1.out, HB2.out, HB3.out⟩
  case round =>
    clear HKK HB1 HB2 HB3
    obtain ⟨i, rfl, hin, hK, hB1, hB2, hB3⟩ := hrel
    have c3 := hB3.cell
    have l3 := hB3.lt
    by_cases hlt : i < nI
    · obtain ⟨b2, o2, hA2, hb2, hc2⟩ := HFI.out.v.2 (by omega)
      subst hA2
      have hg : fsI[i]? = some (fsI[i]'(by have := HFI.out.v.1; omega)) := List.getElem?_eq_getElem _
      obtain ⟨t0, t1, t2⟩ := hc2 i _ hg
      generalize fsI[i]'(by have := HFI.out.v.1; omega) = X at *
      have hii : (i : Int) < nI := by omega
      have hi43 : i ≤ 8796093022208 := by omega
      have hwe : IntKind.i64.wrap (100 + (i : Int)) = 100 + (i : Int) := by rw [IntKind.wrap_i64]; omega
      have hb2w := Nat.lt_of_lt_of_le hb2 hK.size
      obtain ⟨g1, hg1⟩ : ∃ g1, hasN (fsI.map (·.1)) i X.1 = g1 := ⟨_, rfl⟩
      have HH1 := Lib.hid (fun w1 (h : Kept w w1) => (by have := rhasField_any _ _ i X.1 w1 ((HFI.out.names.kept h)) hi43; rwa [hg1] at this : Calls Tryz.prog 70 #[.slice (some ⟨b2, o2, none⟩) nI cI, .int .i64 i, .string X.1] w1 fun e w' => e = .returned (.bool g1) ∧ w1 = w'))
      clear hg1
      have BF := Blk.new wr 57 #[.int .i64 0, .int .i64 3, .int .i64 q, .int .i64 (100 + (i : Int))]
      have C1 := hB1.alloc (.cells #[.int .i64 0, .int .i64 3, .int .i64 q, .int .i64 (100 + (i : Int))] 57)
      have C2 := hB2.alloc (.cells #[.int .i64 0, .int .i64 3, .int .i64 q, .int .i64 (100 + (i : Int))] 57)
      have C3 := hB3.alloc (.cells #[.int .i64 0, .int .i64 3, .int .i64 q, .int .i64 (100 + (i : Int))] 57)
      have K1 := hK.alloc (.cells #[.int .i64 0, .int .i64 3, .int .i64 q, .int .i64 (100 + (i : Int))] 57)
      have hgw : w.heap.size + 1 + 1 < wr.heap.size := l3
      clear hc2 hg
      go_upto_region 6 with fail
      clear c3 l3 hB1 hB2 hB3 hK
      generalize wr.alloc (.cells #[.int .i64 0, .int .i64 3, .int .i64 q, .int .i64 (100 + (i : Int))] 57) = W1 at *
      generalize wr.heap.size = g at *
      have x0 := K1.cell (p := ⟨b2, _, none⟩) hb2 t0
      have hb2W := Nat.lt_of_lt_of_le hb2 K1.size
      have c3 := C3.cell
      have l3 := C3.lt
      go_upto_if 33 with (go_at_call 46; refine (HID.out X.1 _).mono ?_; rintro e w2 ⟨rfl, k2⟩)
      have D1 := C1.kept k2
      have D2 := C2.kept k2
      have D3 := C3.kept k2
      have DF := BF.kept k2
      have K2 := K1.trans k2
      generalize idB (L X.1) = gi
      cases gi
      · have d2c := D2.cell
        have d2l := D2.lt
        have d2f := D2.frozen
        have dfc := DF.cell
        have dfl := DF.lt
        have dff := DF.frozen
        clear c3 l3 x0 C1 C2 C3 BF
        go_wp2_with fail
        have BW := (((((D2.far (p := ⟨g, 0, none⟩) (by simp only; omega) (.int .i64 2)).set_ 0 (.int .i64 2)).set_ 1 (.int .i64 3)).set_ 2 (.int .i64 q)).set_ 3 (.int .i64 (100 + (i : Int))))
        have KF : Kept w ((((((w2.setCell ⟨g, 0, none⟩ (.int .i64 2))).setCell ⟨w.heap.size + 1, 0, none⟩ (.int .i64 2)).setCell ⟨w.heap.size + 1, 1, none⟩ (.int .i64 3)).setCell ⟨w.heap.size + 1, 2, none⟩ (.int .i64 q)).setCell ⟨w.heap.size + 1, 3, none⟩ (.int .i64 (100 + (i : Int)))) := by
          repeat refine Kept.setCell ?_ (by simp only; omega) _
          exact K2
        generalize (((((w2.setCell ⟨g, 0, none⟩ (.int .i64 2))).setCell ⟨w.heap.size + 1, 0, none⟩ (.int .i64 2)).setCell ⟨w.heap.size + 1, 1, none⟩ (.int .i64 3)).setCell ⟨w.heap.size + 1, 2, none⟩ (.int .i64 q)).setCell ⟨w.heap.size + 1, 3, none⟩ (.int .i64 (100 + (i : Int))) = WW at *
        have bw := BW.cell
        exact bodyPost_ret (v := .agg #[.int .i64 2, .int .i64 3, .int .i64 q, .int .i64 (100 + (i : Int))]) (by simp [results, Tryz.results49, go_sem, bw]) rfl ⟨_, _, _, _, rfl, KF, fun _ => trivial⟩
      · clear c3 l3 x0 C1 C2 C3 BF K1 k2
        have HK2 := Lib.hid K2
        have HD1 := Lib.hid D1
        have HD2 := Lib.hid D2
        have HD3 := Lib.hid D3
        have HDF := Lib.hid DF
        have d3c := D3.cell
        have d3l := D3.lt
        go_upto_region 8 with fail
        clear d3c d3l
        have hb2q := Nat.lt_of_lt_of_le hb2 K2.size
        have x0 := KW.cell hb2q (K2.cell (p := ⟨b2, _, none⟩) hb2 t0)
        have z2 := KW.cell D3.lt (D3.cell 2)
        have z3 := KW.cell D3.lt (D3.cell 3)
        try simp only [List.getElem?_toArray, List.getElem?_cons_zero, List.getElem?_cons_succ] at z2 z3
        clear D1 D2 D3 DF K2
        cases g1
        · refine wp_region_kept (by kernel_rfl) (by kernel_rfl) ?_
          repeat (go_big_quiet_step ((go_at_call 70; with_reducible exact KW.pure (HH1.out _ (HK2.out.trans (KW.h _))))))
          refine wpQuiet_nil ?_
          rintro w3 ⟨⟨wx, hx2⟩, hh⟩
          obtain rfl : w3 = wx := hh
          have K3 := HK2.out.trans hx2
          have D1 := HD1.out.kept hx2
          have D2 := HD2.out.kept hx2
          have D3 := HD3.out.kept hx2
          have DF := HDF.out.kept hx2
          clear x0 z2 z3
          go_upto_region 10 with fail
          have HK3 := Lib.hid K3
          have E1 := Lib.hid D1
          have E2 := Lib.hid D2
          have E3 := Lib.hid D3
          have EF := Lib.hid DF
          have hb2q := Nat.lt_of_lt_of_le hb2 K3.size
          have x1 := KW.cell hb2q (K3.cell (p := ⟨b2, _, none⟩) hb2 t1)
          have x2 := KW.cell hb2q (K3.cell (p := ⟨b2, _, none⟩) hb2 t2)
          have z0 := KW.cell D1.lt (D1.cell 0)
          have z2 := KW.cell D3.lt (D3.cell 2)
          have z3 := KW.cell D3.lt (D3.cell 3)
          try simp only [List.getElem?_toArray, List.getElem?_cons_zero, List.getElem?_cons_succ] at z0 z2 z3
          obtain ⟨gv, hgv⟩ : ∃ gv, vtB X.2.1 X.2.2 ms = gv := ⟨_, rfl⟩
          have HVX := Lib.hid (fun w1 (h : Kept w w1) => (by have := HVT.out X.2.1 X.2.2 w1 h; rwa [hgv] at this : Calls Tryz.prog 67 #[.agg #[.int .i64 X.2.1, .int .i64 X.2.2], .slice AE nE cE] w1 fun r w' => r = .returned (.bool gv) ∧ Kept w1 w'))
          clear D1 D2 D3 DF K3 hgv hx2
          refine wp_region_kept (by kernel_rfl) (by kernel_rfl) ?_
          repeat (go_big_quiet_step ((go_at_call 67; with_reducible exact KW.call (HVX.out _ (HK3.out.trans (KW.h _))))))
          refine wpQuiet_nil ?_
          rintro w4 ⟨⟨wx, hx3⟩, hh⟩
          obtain rfl : w4 = wx := hh
          have K4 := HK3.out.trans hx3
          have F1 := E1.out.kept hx3
          have F2 := E2.out.kept hx3
          have F3 := E3.out.kept hx3
          have FF := EF.out.kept hx3
          have d2c := F2.cell
          have d2l := F2.lt
          have d2f := F2.frozen
          have dfc := FF.cell
          have dfl := FF.lt
          have dff := FF.frozen
          clear x1 x2 z0 z2 z3
          cases gv
          · go_wp2_with fail
            have BW := (((((F2.far (p := ⟨g, 0, none⟩) (by simp only; omega) (.int .i64 8)).set_ 0 (.int .i64 8)).set_ 1 (.int .i64 3)).set_ 2 (.int .i64 q)).set_ 3 (.int .i64 (100 + (i : Int))))
            have KF : Kept w ((((((w4.setCell ⟨g, 0, none⟩ (.int .i64 8))).setCell ⟨w.heap.size + 1, 0, none⟩ (.int .i64 8)).setCell ⟨w.heap.size + 1, 1, none⟩ (.int .i64 3)).setCell ⟨w.heap.size + 1, 2, none⟩ (.int .i64 q)).setCell ⟨w.heap.size + 1, 3, none⟩ (.int .i64 (100 + (i : Int)))) := by
              repeat refine Kept.setCell ?_ (by simp only; omega) _
              exact K4
            generalize (((((w4.setCell ⟨g, 0, none⟩ (.int .i64 8))).setCell ⟨w.heap.size + 1, 0, none⟩ (.int .i64 8)).setCell ⟨w.heap.size + 1, 1, none⟩ (.int .i64 3)).setCell ⟨w.heap.size + 1, 2, none⟩ (.int .i64 q)).setCell ⟨w.heap.size + 1, 3, none⟩ (.int .i64 (100 + (i : Int))) = WW at *
            have bw := BW.cell
            exact bodyPost_ret (v := .agg #[.int .i64 8, .int .i64 3, .int .i64 q, .int .i64 (100 + (i : Int))]) (by simp [results, Tryz.results49, go_sem, bw]) rfl ⟨_, _, _, _, rfl, KF, fun _ => trivial⟩
          · go_wp2_with fail
            go_roundw
            case rel => exact ⟨i + 1, by go_num, hlt, K4, F1, F2, F3⟩
            case measure => simp [intOf]; omega
        · refine wp_region_kept (by kernel_rfl) (by kernel_rfl) ?_
          repeat (go_big_quiet_step ((go_at_call 70; with_reducible exact KW.pure (HH1.out _ (HK2.out.trans (KW.h _))))))
          refine wpQuiet_nil ?_
          rintro w3 ⟨⟨wx, hx2⟩, hh⟩
          obtain rfl : w3 = wx := hh
          have K3 := HK2.out.trans hx2
          have D1 := HD1.out.kept hx2
          have D2 := HD2.out.kept hx2
          have D3 := HD3.out.kept hx2
          have DF := HDF.out.kept hx2
          clear x0 z2 z3
          have d2c := D2.cell
          have d2l := D2.lt
          have d2f := D2.frozen
          have dfc := DF.cell
          have dfl := DF.lt
          have dff := DF.frozen
          go_wp2_with fail
          have BW := (((((D2.far (p := ⟨g, 0, none⟩) (by simp only; omega) (.int .i64 7)).set_ 0 (.int .i64 7)).set_ 1 (.int .i64 3)).set_ 2 (.int .i64 q)).set_ 3 (.int .i64 (100 + (i : Int))))
          have KF : Kept w ((((((w3.setCell ⟨g, 0, none⟩ (.int .i64 7))).setCell ⟨w.heap.size + 1, 0, none⟩ (.int .i64 7)).setCell ⟨w.heap.size + 1, 1, none⟩ (.int .i64 3)).setCell ⟨w.heap.size + 1, 2, none⟩ (.int .i64 q)).setCell ⟨w.heap.size + 1, 3, none⟩ (.int .i64 (100 + (i : Int)))) := by
            repeat refine Kept.setCell ?_ (by simp only; omega) _
            exact K3
          generalize (((((w3.setCell ⟨g, 0, none⟩ (.int .i64 7))).setCell ⟨w.heap.size + 1, 0, none⟩ (.int .i64 7)).setCell ⟨w.heap.size + 1, 1, none⟩ (.int .i64 3)).setCell ⟨w.heap.size + 1, 2, none⟩ (.int .i64 q)).setCell ⟨w.heap.size + 1, 3, none⟩ (.int .i64 (100 + (i : Int))) = WW at *
          have bw := BW.cell
          exact bodyPost_ret (v := .agg #[.int .i64 7, .int .i64 3, .int .i64 q, .int .i64 (100 + (i : Int))]) (by simp [results, Tryz.results49, go_sem, bw]) rfl ⟨_, _, _, _, rfl, KF, fun _ => trivial⟩
    · obtain rfl : nI = i := by omega
      have hii : ¬ ((nI : Int) < nI) := by omega
      have HK0 := Lib.hid hK
      have HB1 := Lib.hid hB1
      have HB2 := Lib.hid hB2
      have HB3 := Lib.hid hB3
      go_wp2_with fail
      clear hK hB1 hB2 hB3 c3 l3
      go_loopw [8] (fun z wr => ∃ (i : Nat), z = .int .i64 i ∧ i ≤ nD ∧ Kept w wr ∧ Blk wr w.heap.size 26 #[.slice AE nE cE, .slice AT nT cT, .slice (some ⟨b, off, none⟩) nS cS] ∧ Blk wr (w.heap.size + 1) 57 #[.int .i64 0, .int .i64 0, .int .i64 0, .int .i64 0] ∧ Blk wr (w.heap.size + 1 + 1) 54 #[.string nm, .int .i64 mm, .slice AI nI cI, .slice AD nD cD, .slice AR nR cR]) (fun z _ => nD - (intOf z).toNat)
      case atStart => exact ⟨0, rfl, Nat.zero_le _, HK0.out, HB1.out, HB2.out, HB3.out⟩
      case round =>
        clear HK0 HB1 HB2 HB3
        obtain ⟨i, rfl, hin, hK, hB1, hB2, hB3⟩ := hrel
        have c3 := hB3.cell
        have l3 := hB3.lt
        by_cases hlt : i < nD
        · obtain ⟨b2, o2, hA2, hb2, hc2⟩ := HFD.out.v.2 (by omega)
          subst hA2
          have hg : fsD[i]? = some (fsD[i]'(by have := HFD.out.v.1; omega)) := List.getElem?_eq_getElem _
          obtain ⟨t0, t1, t2⟩ := hc2 i _ hg
          generalize fsD[i]'(by have := HFD.out.v.1; omega) = X at *
          have hii : (i : Int) < nD := by omega
          have hi43 : i ≤ 8796093022208 := by omega
          have hwe : IntKind.i64.wrap (200 + (i : Int)) = 200 + (i : Int) := by rw [IntKind.wrap_i64]; omega
          have hb2w := Nat.lt_of_lt_of_le hb2 hK.size
          obtain ⟨g1, hg1⟩ : ∃ g1, hasN (fsI.map (·.1)) nI X.1 = g1 := ⟨_, rfl⟩
          obtain ⟨g2, hg2⟩ : ∃ g2, hasN (fsD.map (·.1)) i X.1 = g2 := ⟨_, rfl⟩
          have HH1 := Lib.hid (fun w1 (h : Kept w w1) => (by have := rhasField_any _ _ nI X.1 w1 ((HFI.out.names.kept h)) hnI; rwa [hg1] at this : Calls Tryz.prog 70 #[.slice AI nI cI, .int .i64 nI, .string X.1] w1 fun e w' => e = .returned (.bool g1) ∧ w1 = w'))
          have HH2 := Lib.hid (fun w1 (h : Kept w w1) => (by have := rhasField_any _ _ i X.1 w1 ((HFD.out.names.kept h)) hi43; rwa [hg2] at this : Calls Tryz.prog 70 #[.slice (some ⟨b2, o2, none⟩) nD cD, .int .i64 i, .string X.1] w1 fun e w' => e = .returned (.bool g2) ∧ w1 = w'))
          clear hg1 hg2
          have BF := Blk.new wr 57 #[.int .i64 0, .int .i64 3, .int .i64 q, .int .i64 (200 + (i : Int))]
          have C1 := hB1.alloc (.cells #[.int .i64 0, .int .i64 3, .int .i64 q, .int .i64 (200 + (i : Int))] 57)
          have C2 := hB2.alloc (.cells #[.int .i64 0, .int .i64 3, .int .i64 q, .int .i64 (200 + (i : Int))] 57)
          have C3 := hB3.alloc (.cells #[.int .i64 0, .int .i64 3, .int .i64 q, .int .i64 (200 + (i : Int))] 57)
          have K1 := hK.alloc (.cells #[.int .i64 0, .int .i64 3, .int .i64 q, .int .i64 (200 + (i : Int))] 57)
          have hgw : w.heap.size + 1 + 1 < wr.heap.size := l3
          clear hc2 hg
          go_upto_region 18 with fail
          clear c3 l3 hB1 hB2 hB3 hK
          generalize wr.alloc (.cells #[.int .i64 0, .int .i64 3, .int .i64 q, .int .i64 (200 + (i : Int))] 57) = W1 at *
          generalize wr.heap.size = g at *
          have x0 := K1.cell (p := ⟨b2, _, none⟩) hb2 t0
          have hb2W := Nat.lt_of_lt_of_le hb2 K1.size
          have c3 := C3.cell
          have l3 := C3.lt
          go_upto_if 79 with (go_at_call 46; refine (HID.out X.1 _).mono ?_; rintro e w2 ⟨rfl, k2⟩)
          have D1 := C1.kept k2
          have D2 := C2.kept k2
          have D3 := C3.kept k2
          have DF := BF.kept k2
          have K2 := K1.trans k2
          generalize idB (L X.1) = gi
          cases gi
          · have d2c := D2.cell
            have d2l := D2.lt
            have d2f := D2.frozen
            have dfc := DF.cell
            have dfl := DF.lt
            have dff := DF.frozen
            clear c3 l3 x0 C1 C2 C3 BF
            go_wp2_with fail
            have BW := (((((D2.far (p := ⟨g, 0, none⟩) (by simp only; omega) (.int .i64 2)).set_ 0 (.int .i64 2)).set_ 1 (.int .i64 3)).set_ 2 (.int .i64 q)).set_ 3 (.int .i64 (200 + (i : Int))))
            have KF : Kept w ((((((w2.setCell ⟨g, 0, none⟩ (.int .i64 2))).setCell ⟨w.heap.size + 1, 0, none⟩ (.int .i64 2)).setCell ⟨w.heap.size + 1, 1, none⟩ (.int .i64 3)).setCell ⟨w.heap.size + 1, 2, none⟩ (.int .i64 q)).setCell ⟨w.heap.size + 1, 3, none⟩ (.int .i64 (200 + (i : Int)))) := by
              repeat refine Kept.setCell ?_ (by simp only; omega) _
              exact K2
            generalize (((((w2.setCell ⟨g, 0, none⟩ (.int .i64 2))).setCell ⟨w.heap.size + 1, 0, none⟩ (.int .i64 2)).setCell ⟨w.heap.size + 1, 1, none⟩ (.int .i64 3)).setCell ⟨w.heap.size + 1, 2, none⟩ (.int .i64 q)).setCell ⟨w.heap.size + 1, 3, none⟩ (.int .i64 (200 + (i : Int))) = WW at *
            have bw := BW.cell
            exact bodyPost_ret (v := .agg #[.int .i64 2, .int .i64 3, .int .i64 q, .int .i64 (200 + (i : Int))]) (by simp [results, Tryz.results49, go_sem, bw]) rfl ⟨_, _, _, _, rfl, KF, fun _ => trivial⟩
          · clear c3 l3 x0 C1 C2 C3 BF K1 k2
            have HK2 := Lib.hid K2
            have HD1 := Lib.hid D1
            have HD2 := Lib.hid D2
            have HD3 := Lib.hid D3
            have HDF := Lib.hid DF
            have d3c := D3.cell
            have d3l := D3.lt
            go_upto_region 20 with fail
            clear d3c d3l
            have hb2q := Nat.lt_of_lt_of_le hb2 K2.size
            have x0 := KW.cell hb2q (K2.cell (p := ⟨b2, _, none⟩) hb2 t0)
            have z2 := KW.cell D3.lt (D3.cell 2)
            have z3 := KW.cell D3.lt (D3.cell 3)
            try simp only [List.getElem?_toArray, List.getElem?_cons_zero, List.getElem?_cons_succ] at z2 z3
            clear D1 D2 D3 DF K2
            cases g1
            · cases g2
              · refine wp_region_kept (by kernel_rfl) (by kernel_rfl) ?_
                repeat (go_big_quiet_step ((first | (go_at_call 70; with_reducible exact KW.pure (HH1.out _ (HK2.out.trans (KW.h _)))) | (go_at_call 70; with_reducible exact KW.pure (HH2.out _ (HK2.out.trans (KW.h _)))))))
                refine wpQuiet_nil ?_
                rintro w3 ⟨⟨wx, hx2⟩, hh⟩
                obtain rfl : w3 = wx := hh
                have K3 := HK2.out.trans hx2
                have D1 := HD1.out.kept hx2
                have D2 := HD2.out.kept hx2
                have D3 := HD3.out.kept hx2
                have DF := HDF.out.kept hx2
                clear x0 z2 z3
                go_upto_region 22 with fail
                have HK3 := Lib.hid K3
                have E1 := Lib.hid D1
                have E2 := Lib.hid D2
                have E3 := Lib.hid D3
                have EF := Lib.hid DF
                have hb2q := Nat.lt_of_lt_of_le hb2 K3.size
                have x1 := KW.cell hb2q (K3.cell (p := ⟨b2, _, none⟩) hb2 t1)
                have x2 := KW.cell hb2q (K3.cell (p := ⟨b2, _, none⟩) hb2 t2)
                have z0 := KW.cell D1.lt (D1.cell 0)
                have z2 := KW.cell D3.lt (D3.cell 2)
                have z3 := KW.cell D3.lt (D3.cell 3)
                try simp only [List.getElem?_toArray, List.getElem?_cons_zero, List.getElem?_cons_succ] at z0 z2 z3
                obtain ⟨gv, hgv⟩ : ∃ gv, vtB X.2.1 X.2.2 ms = gv := ⟨_, rfl⟩
                have HVX := Lib.hid (fun w1 (h : Kept w w1) => (by have := HVT.out X.2.1 X.2.2 w1 h; rwa [hgv] at this : Calls Tryz.prog 67 #[.agg #[.int .i64 X.2.1, .int .i64 X.2.2], .slice AE nE cE] w1 fun r w' => r = .returned (.bool gv) ∧ Kept w1 w'))
                clear D1 D2 D3 DF K3 hgv hx2
                refine wp_region_kept (by kernel_rfl) (by kernel_rfl) ?_
                repeat (go_big_quiet_step ((go_at_call 67; with_reducible exact KW.call (HVX.out _ (HK3.out.trans (KW.h _))))))
                refine wpQuiet_nil ?_
                rintro w4 ⟨⟨wx, hx3⟩, hh⟩
                obtain rfl : w4 = wx := hh
                have K4 := HK3.out.trans hx3
                have F1 := E1.out.kept hx3
                have F2 := E2.out.kept hx3
                have F3 := E3.out.kept hx3
                have FF := EF.out.kept hx3
                have d2c := F2.cell
                have d2l := F2.lt
                have d2f := F2.frozen
                have dfc := FF.cell
                have dfl := FF.lt
                have dff := FF.frozen
                clear x1 x2 z0 z2 z3
                cases gv
                · go_wp2_with fail
                  have BW := (((((F2.far (p := ⟨g, 0, none⟩) (by simp only; omega) (.int .i64 8)).set_ 0 (.int .i64 8)).set_ 1 (.int .i64 3)).set_ 2 (.int .i64 q)).set_ 3 (.int .i64 (200 + (i : Int))))
                  have KF : Kept w ((((((w4.setCell ⟨g, 0, none⟩ (.int .i64 8))).setCell ⟨w.heap.size + 1, 0, none⟩ (.int .i64 8)).setCell ⟨w.heap.size + 1, 1, none⟩ (.int .i64 3)).setCell ⟨w.heap.size + 1, 2, none⟩ (.int .i64 q)).setCell ⟨w.heap.size + 1, 3, none⟩ (.int .i64 (200 + (i : Int)))) := by
                    repeat refine Kept.setCell ?_ (by simp only; omega) _
                    exact K4
                  generalize (((((w4.setCell ⟨g, 0, none⟩ (.int .i64 8))).setCell ⟨w.heap.size + 1, 0, none⟩ (.int .i64 8)).setCell ⟨w.heap.size + 1, 1, none⟩ (.int .i64 3)).setCell ⟨w.heap.size + 1, 2, none⟩ (.int .i64 q)).setCell ⟨w.heap.size + 1, 3, none⟩ (.int .i64 (200 + (i : Int))) = WW at *
                  have bw := BW.cell
                  exact bodyPost_ret (v := .agg #[.int .i64 8, .int .i64 3, .int .i64 q, .int .i64 (200 + (i : Int))]) (by simp [results, Tryz.results49, go_sem, bw]) rfl ⟨_, _, _, _, rfl, KF, fun _ => trivial⟩
                · go_wp2_with fail
                  go_roundw
                  case rel => exact ⟨i + 1, by go_num, hlt, K4, F1, F2, F3⟩
                  case measure => simp [intOf]; omega
              · refine wp_region_kept (by kernel_rfl) (by kernel_rfl) ?_
                repeat (go_big_quiet_step ((first | (go_at_call 70; with_reducible exact KW.pure (HH1.out _ (HK2.out.trans (KW.h _)))) | (go_at_call 70; with_reducible exact KW.pure (HH2.out _ (HK2.out.trans (KW.h _)))))))
                refine wpQuiet_nil ?_
                rintro w3 ⟨⟨wx, hx2⟩, hh⟩
                obtain rfl : w3 = wx := hh
                have K3 := HK2.out.trans hx2
                have D1 := HD1.out.kept hx2
                have D2 := HD2.out.kept hx2
                have D3 := HD3.out.kept hx2
                have DF := HDF.out.kept hx2
                clear x0 z2 z3
                have d2c := D2.cell
                have d2l := D2.lt
                have d2f := D2.frozen
                have dfc := DF.cell
                have dfl := DF.lt
                have dff := DF.frozen
                go_wp2_with fail
                have BW := (((((D2.far (p := ⟨g, 0, none⟩) (by simp only; omega) (.int .i64 7)).set_ 0 (.int .i64 7)).set_ 1 (.int .i64 3)).set_ 2 (.int .i64 q)).set_ 3 (.int .i64 (200 + (i : Int))))
                have KF : Kept w ((((((w3.setCell ⟨g, 0, none⟩ (.int .i64 7))).setCell ⟨w.heap.size + 1, 0, none⟩ (.int .i64 7)).setCell ⟨w.heap.size + 1, 1, none⟩ (.int .i64 3)).setCell ⟨w.heap.size + 1, 2, none⟩ (.int .i64 q)).setCell ⟨w.heap.size + 1, 3, none⟩ (.int .i64 (200 + (i : Int)))) := by
                  repeat refine Kept.setCell ?_ (by simp only; omega) _
                  exact K3
                generalize (((((w3.setCell ⟨g, 0, none⟩ (.int .i64 7))).setCell ⟨w.heap.size + 1, 0, none⟩ (.int .i64 7)).setCell ⟨w.heap.size + 1, 1, none⟩ (.int .i64 3)).setCell ⟨w.heap.size + 1, 2, none⟩ (.int .i64 q)).setCell ⟨w.heap.size + 1, 3, none⟩ (.int .i64 (200 + (i : Int))) = WW at *
                have bw := BW.cell
                exact bodyPost_ret (v := .agg #[.int .i64 7, .int .i64 3, .int .i64 q, .int .i64 (200 + (i : Int))]) (by simp [results, Tryz.results49, go_sem, bw]) rfl ⟨_, _, _, _, rfl, KF, fun _ => trivial⟩
            · clear HH2
              refine wp_region_kept (by kernel_rfl) (by kernel_rfl) ?_
              repeat (go_big_quiet_step ((go_at_call 70; with_reducible exact KW.pure (HH1.out _ (HK2.out.trans (KW.h _))))))
              refine wpQuiet_nil ?_
              rintro w3 ⟨⟨wx, hx2⟩, hh⟩
              obtain rfl : w3 = wx := hh
              have K3 := HK2.out.trans hx2
              have D1 := HD1.out.kept hx2
              have D2 := HD2.out.kept hx2
              have D3 := HD3.out.kept hx2
              have DF := HDF.out.kept hx2
              clear x0 z2 z3
              have d2c := D2.cell
              have d2l := D2.lt
              have d2f := D2.frozen
              have dfc := DF.cell
              have dfl := DF.lt
              have dff := DF.frozen
              go_wp2_with fail
              have BW := (((((D2.far (p := ⟨g, 0, none⟩) (by simp only; omega) (.int .i64 7)).set_ 0 (.int .i64 7)).set_ 1 (.int .i64 3)).set_ 2 (.int .i64 q)).set_ 3 (.int .i64 (200 + (i : Int))))
              have KF : Kept w ((((((w3.setCell ⟨g, 0, none⟩ (.int .i64 7))).setCell ⟨w.heap.size + 1, 0, none⟩ (.int .i64 7)).setCell ⟨w.heap.size + 1, 1, none⟩ (.int .i64 3)).setCell ⟨w.heap.size + 1, 2, none⟩ (.int .i64 q)).setCell ⟨w.heap.size + 1, 3, none⟩ (.int .i64 (200 + (i : Int)))) := by
                repeat refine Kept.setCell ?_ (by simp only; omega) _
                exact K3
              generalize (((((w3.setCell ⟨g, 0, none⟩ (.int .i64 7))).setCell ⟨w.heap.size + 1, 0, none⟩ (.int .i64 7)).setCell ⟨w.heap.size + 1, 1, none⟩ (.int .i64 3)).setCell ⟨w.heap.size + 1, 2, none⟩ (.int .i64 q)).setCell ⟨w.heap.size + 1, 3, none⟩ (.int .i64 (200 + (i : Int))) = WW at *
              have bw := BW.cell
              exact bodyPost_ret (v := .agg #[.int .i64 7, .int .i64 3, .int .i64 q, .int .i64 (200 + (i : Int))]) (by simp [results, Tryz.results49, go_sem, bw]) rfl ⟨_, _, _, _, rfl, KF, fun _ => trivial⟩
        · obtain rfl : nD = i := by omega
          have hii : ¬ ((nD : Int) < nD) := by omega
          have c2 := hB2.cell
          have l2 := hB2.lt
          have f2 := hB2.frozen
          go_wp2_with fail
          have BW := ((((hB2.set_ 0 (.int .i64 0)).set_ 1 (.int .i64 0)).set_ 2 (.int .i64 0)).set_ 3 (.int .i64 0))
          have KF : Kept w (((((wr).setCell ⟨w.heap.size + 1, 0, none⟩ (.int .i64 0)).setCell ⟨w.heap.size + 1, 1, none⟩ (.int .i64 0)).setCell ⟨w.heap.size + 1, 2, none⟩ (.int .i64 0)).setCell ⟨w.heap.size + 1, 3, none⟩ (.int .i64 0)) := by
            repeat refine Kept.setCell ?_ (by simp only; omega) _
            exact hK
          generalize ((((wr).setCell ⟨w.heap.size + 1, 0, none⟩ (.int .i64 0)).setCell ⟨w.heap.size + 1, 1, none⟩ (.int .i64 0)).setCell ⟨w.heap.size + 1, 2, none⟩ (.int .i64 0)).setCell ⟨w.heap.size + 1, 3, none⟩ (.int .i64 0) = WW at *
          have bw := BW.cell
          exact bodyPost_ret (v := .agg #[.int .i64 0, .int .i64 0, .int .i64 0, .int .i64 0]) (by simp [results, Tryz.results49, go_sem, bw]) rfl ⟨_, _, _, _, rfl, KF, fun _ => trivial⟩
end Go.Proofs.YtjeifmjcgemlgaaGreatDoor
/- ruleError of the reference of package law: it ends. -/
namespace Go.Proofs.YtjeifmjcgemlgaaGreatDoor
open Go.RowKit

set_option maxRecDepth 100000 in
set_option maxHeartbeats 16000000 in
theorem rruleError_any (lv : Value) (ms : List (List ByteArray)) (nT nS q k : Nat) (w : World) (hL : LawV w lv ms nT nS) (hq : q < nS)
    (hk : ∀ AE cE AT cT AS cS b off AR nR cR, lv = .agg #[.slice AE ms.length cE, .slice AT nT cT, .slice AS nS cS] → AS = some ⟨b, off, none⟩ → w.cell? ⟨b, off + q * 5 + 4, none⟩ = some (.slice AR nR cR) → k < nR) :
    Calls Tryz.prog 50 #[lv, .int .i64 q, .int .i64 k] w (AnyI w) := by
  have HSG := Lib.hid (fun w1 (h : Kept w w1) => rsig_any lv ms nT nS q w1 (hL.kept h) hq)
  unfold sigPost at HSG
  have HID := Lib.hid (fun s w1 => risId_any s w1)
  have HV := Lib.hid (fun a b w1 => rvalid05_k a b w1)
  unfold BoolK at HV
  have HPL := Lib.hid (fun s w1 h => rplain_any s w1 h)
  unfold AnyB at HPL
  obtain ⟨AE, cE, AT, cT, AS, cS, rfl, hE, h0, h1, h2⟩ := hL
  obtain ⟨hq9, hxS⟩ := h2.items
  obtain ⟨b, off, rfl, hb, hc⟩ := hxS (by omega)
  obtain ⟨⟨nm, t0⟩, ⟨mm, t1⟩, ⟨_, t2, hI⟩, ⟨_, t3, hD⟩, ⟨_, t4, hR⟩⟩ := hc q hq
  obtain ⟨AI, nI, cI, rfl, -, hnI, -⟩ := id hI
  obtain ⟨AD, nD, cD, rfl, -, hnD, hxD⟩ := id hD
  obtain ⟨AR, nR, cR, rfl, -, hnR, hxR⟩ := id hR
  have hkR := hk _ _ _ _ _ _ _ _ _ _ _ rfl rfl t4
  obtain ⟨b3, o3, rfl, hb3, hc3⟩ := hxR (by omega)
  obtain ⟨⟨rn, r0⟩, ⟨df, r1⟩, ⟨pa, r2⟩, ⟨pr, r3⟩, ⟨vf, r4⟩, ⟨vt, r5⟩, ⟨gv, gx, r6, gN, gl, gb⟩, ⟨vv, vx, r7, vN, vl, vb⟩, ⟨src, r8, hsrc⟩⟩ := hc3 k hkR
  have HXG := Lib.hid (fun sv k e nI nD nM w1 (h : Kept w w1) hS => rexprError_any gv gx sv k e ms nT nI nD nM w1 (gN.kept h) gl gb hS)
  have HXV0 := Lib.hid (fun sv k e nI nD nM w1 (h : Kept w w1) hS => rexprError_any vv vx sv k e ms nT nI nD nM w1 (vN.kept h) vl vb hS)
  unfold AnyI at HXG HXV0
  obtain ⟨Ag, cg, rfl, _⟩ := gN.at_
  obtain ⟨Av, cv, rfl, _⟩ := vN.at_
  obtain ⟨ng, hng⟩ : ∃ ng, ng = gx.length := ⟨_, rfl⟩
  obtain ⟨nv, hnv⟩ : ∃ nv, nv = vx.length := ⟨_, rfl⟩
  rw [← hng] at HXG r6
  rw [← hnv] at HXV0 r7
  have HC3 := Lib.hid hc3
  have HXD := Lib.hid hxD
  have hqi : (q : Int) < nS := by omega
  have hki : (k : Int) < nR := by omega
  have hk43 : k ≤ 8796093022208 := by omega
  obtain ⟨nE, hnE⟩ : ∃ nE, nE = ms.length := ⟨_, rfl⟩
  rw [← hnE] at HSG ⊢
  have hq0 : (0 : Int) ≤ q := by omega
  have K0 := Lib.hid ((((Kept.refl w).alloc (.cells #[.slice AE nE cE, .slice AT nT cT, .slice (some ⟨b, off, none⟩) nS cS] 26)).alloc (.cells #[.string nm, .int .i64 mm, .slice AI nI cI, .slice AD nD cD, .slice (some ⟨b3, o3, none⟩) nR cR] 54)).alloc (.cells #[.string rn, .int .i64 df, .int .i64 pa, .int .i64 pr, .int .i64 vf, .int .i64 vt, .slice Ag ng cg, .slice Av nv cv, .string src] 93))
  clear hk hE h0 h1 h2 hc hxS hI hD hR hxD hxR hc3 gN vN gb vb hng hnv hnE
  go_enter Tryz.func50, Tryz.ntmps50
  go_upto_region 3 with fail
  obtain ⟨B1, B2, B3⟩ := (Kept.refl (((w.alloc (.cells #[.slice AE nE cE, .slice AT nT cT, .slice (some ⟨b, off, none⟩) nS cS] 26)).alloc (.cells #[.string nm, .int .i64 mm, .slice AI nI cI, .slice AD nD cD, .slice (some ⟨b3, o3, none⟩) nR cR] 54)).alloc (.cells #[.string rn, .int .i64 df, .int .i64 pa, .int .i64 pr, .int .i64 vf, .int .i64 vt, .slice Ag ng cg, .slice Av nv cv, .string src] 93))).blk3
  have KK := K0.out
  generalize (((w.alloc (.cells #[.slice AE nE cE, .slice AT nT cT, .slice (some ⟨b, off, none⟩) nS cS] 26)).alloc (.cells #[.string nm, .int .i64 mm, .slice AI nI cI, .slice AD nD cD, .slice (some ⟨b3, o3, none⟩) nR cR] 54)).alloc (.cells #[.string rn, .int .i64 df, .int .i64 pa, .int .i64 pr, .int .i64 vf, .int .i64 vt, .slice Ag ng cg, .slice Av nv cv, .string src] 93)) = W at *
  have B3 : Blk W (w.heap.size + 1 + 1) 93 #[.string rn, .int .i64 df, .int .i64 pa, .int .i64 pr, .int .i64 vf, .int .i64 vt, .slice Ag ng cg, .slice Av nv cv, .string src] := B3
  have c3 := B3.cell
  have l3 := B3.lt
  clear t0 t1 t2 t3 t4 r0 r1 r2 r3 r4 r5 r6 r7 r8
  go_upto_region 5 with (go_at_call 46; refine (HID.out rn _).mono ?_; rintro e w1 ⟨rfl, k1⟩; have K1 := KK.trans k1; generalize idB (L rn) = g1; cases g1)
  · go_ret
    exact AnyI.mk _ K1
  have HK1 := Lib.hid K1
  have HB1 := Lib.hid (B1.kept k1)
  have HB2 := Lib.hid (B2.kept k1)
  have HB3 := Lib.hid (B3.kept k1)
  clear c3 l3 B1 B2 B3 KK K1 k1
  go_wp2_with fail
  go_loopw [9, 10] (fun y z wr => ∃ (i sb : Nat), z = .int .i64 i ∧ y = .int .i64 sb ∧ i ≤ k ∧ sb ≤ i ∧ Kept w wr ∧ Blk wr w.heap.size 26 #[.slice AE nE cE, .slice AT nT cT, .slice (some ⟨b, off, none⟩) nS cS] ∧ Blk wr (w.heap.size + 1) 54 #[.string nm, .int .i64 mm, .slice AI nI cI, .slice AD nD cD, .slice (some ⟨b3, o3, none⟩) nR cR] ∧ Blk wr (w.heap.size + 1 + 1) 93 #[.string rn, .int .i64 df, .int .i64 pa, .int .i64 pr, .int .i64 vf, .int .i64 vt, .slice Ag ng cg, .slice Av nv cv, .string src]) (fun _ z _ => k - (intOf z).toNat)
  case atStart => exact ⟨0, 0, rfl, rfl, Nat.zero_le _, Nat.le_refl _, HK1.out, HB1.out, HB2.out, HB3.out⟩
  case round =>
    clear HK1 HB1 HB2 HB3
    obtain ⟨i, sb, rfl, rfl, hin, hsb, hK, hB1, hB2, hB3⟩ := hrel
    have HK := Lib.hid hK
    have HB1 := Lib.hid hB1
    have HB2 := Lib.hid hB2
    have HB3 := Lib.hid hB3
    by_cases hlt : i < k
    · have hii : (i : Int) < k := by omega
      have hiR : (i : Int) < nR := by omega
      obtain ⟨⟨xn, u0⟩, ⟨xd, u1⟩, -⟩ := HC3.out i (by omega)
      have hb3w := Nat.lt_of_lt_of_le hb3 hK.size
      have x0 := KW.cell hb3w (hK.cell (p := ⟨b3, _, none⟩) hb3 u0)
      have z4 := KW.cell hB2.lt (hB2.cell 4)
      have y0 := KW.cell hB3.lt (hB3.cell 0)
      try simp only [List.getElem?_toArray, List.getElem?_cons_zero, List.getElem?_cons_succ] at z4 y0
      clear hK hB1 hB2 hB3
      go_upto_region 9 with fail
      refine wp_region_kept (by kernel_rfl) (by kernel_rfl) ?_
      repeat (go_big_quiet_step (fail))
      refine wpQuiet_nil ?_
      rintro w5 ⟨⟨wx, hx2⟩, hh⟩
      obtain rfl : w5 = wx := hh
      clear x0 z4 y0
      have HK5 := Lib.hid (HK.out.trans hx2)
      have HC1 := Lib.hid (HB1.out.kept hx2)
      have HC2 := Lib.hid (HB2.out.kept hx2)
      have HC3x := Lib.hid (HB3.out.kept hx2)
      clear HK HB1 HB2 HB3 hx2
      cases he : (xn.toList == rn.toList)
      · have x1 := KW.cell (Nat.lt_of_lt_of_le hb3 HK5.out.size) (HK5.out.cell (p := ⟨b3, _, none⟩) hb3 u1)
        have z4 := KW.cell HC2.out.lt (HC2.out.cell 4)
        have y1 := KW.cell HC3x.out.lt (HC3x.out.cell 1)
        try simp only [List.getElem?_toArray, List.getElem?_cons_zero, List.getElem?_cons_succ] at z4 y1
        go_upto_region 11 with fail
        refine wp_region_kept (by kernel_rfl) (by kernel_rfl) ?_
        repeat (go_big_quiet_step (fail))
        refine wpQuiet_nil ?_
        rintro w6 ⟨⟨wx, hx3⟩, hh⟩
        obtain rfl : w6 = wx := hh
        clear x1 z4 y1
        cases hd : (xd == df)
        · go_wp2_with fail
          go_roundw
          case rel => exact ⟨i + 1, sb, by go_num, rfl, hlt, by omega, HK5.out.trans hx3, HC1.out.kept hx3, HC2.out.kept hx3, HC3x.out.kept hx3⟩
          case measure => simp [intOf]; omega
        · go_wp2_with fail
          go_roundw
          case rel => exact ⟨i + 1, sb + 1, by go_num, by go_num, hlt, by omega, HK5.out.trans hx3, HC1.out.kept hx3, HC2.out.kept hx3, HC3x.out.kept hx3⟩
          case measure => simp [intOf]; omega
      · go_wp2_with fail
        go_ret
        exact AnyI.mk _ HK5.out
    · obtain rfl : k = i := by omega
      have hii : ¬ ((k : Int) < k) := by omega
      have c2 := hB2.cell
      have l2 := hB2.lt
      have c3 := hB3.cell
      have l3 := hB3.lt
      clear hK hB1 hB2 hB3
      by_cases hd0 : df < 0
      · go_wp2_with fail
        go_ret
        exact AnyI.mk _ HK.out
      by_cases hdn : (nD : Int) ≤ df
      · go_wp2_with fail
        go_ret
        exact AnyI.mk _ HK.out
      obtain ⟨D, rfl⟩ : ∃ D : Nat, df = D := ⟨df.toNat, by omega⟩
      have hDn : D < nD := by omega
      have hDi : (D : Int) < nD := by omega
      obtain ⟨b4, o4, rfl, hb4, hc4⟩ := HXD.out (by omega)
      obtain ⟨-, ⟨dk, u1⟩, ⟨de, u2⟩⟩ := hc4 D hDn
      have HXV := Lib.hid (fun sv nI nD nM w1 (h : Kept w w1) hS => HXV0.out sv dk de nI nD nM w1 h hS)
      clear hc4 HXD HXV0
      go_upto_region 15 with fail
      clear c2 l2 c3 l3
      go_cut [88] (fun vb wx => ∃ bb : Bool, vb = .bool bb ∧ Kept w wx ∧ Blk wx w.heap.size 26 #[.slice AE nE cE, .slice AT nT cT, .slice (some ⟨b, off, none⟩) nS cS] ∧ Blk wx (w.heap.size + 1) 54 #[.string nm, .int .i64 mm, .slice AI nI cI, .slice (some ⟨b4, o4, none⟩) nD cD, .slice (some ⟨b3, o3, none⟩) nR cR] ∧ Blk wx (w.heap.size + 1 + 1) 93 #[.string rn, .int .i64 D, .int .i64 pa, .int .i64 pr, .int .i64 vf, .int .i64 vt, .slice Ag ng cg, .slice Av nv cv, .string src])
      case first =>
        have y1 := KW.cell HB3.out.lt (HB3.out.cell 1)
        have y2 := KW.cell HB3.out.lt (HB3.out.cell 2)
        have z4 := KW.cell HB2.out.lt (HB2.out.cell 4)
        try simp only [List.getElem?_toArray, List.getElem?_cons_zero, List.getElem?_cons_succ] at y1 y2 z4
        by_cases hp1 : pa = -1
        · subst hp1
          refine wp_region_kept (by kernel_rfl) (by kernel_rfl) ?_
          repeat (go_big_quiet_step (fail))
          refine wpQuiet_nil ?_
          rintro w5 ⟨⟨wx, hx2⟩, hh⟩
          obtain rfl : w5 = wx := hh
          have HK5 := Lib.hid (HK.out.trans hx2)
          clear y1 y2 z4
          go_wp2_with fail
          go_meet
          exact ⟨false, rfl, HK5.out, HB1.out.kept hx2, HB2.out.kept hx2, HB3.out.kept hx2⟩
        have e1 : (pa == -1) = false := by simpa using hp1
        have e2 : (pa != -1) = true := by simpa using hp1
        clear hp1
        by_cases hp0 : pa < 0
        · refine wp_region_kept (by kernel_rfl) (by kernel_rfl) ?_
          repeat (go_big_quiet_step (fail))
          refine wpQuiet_nil ?_
          rintro w5 ⟨⟨wx, hx2⟩, hh⟩
          obtain rfl : w5 = wx := hh
          have HK5 := Lib.hid (HK.out.trans hx2)
          clear y1 y2 z4
          go_wp2_with fail
          go_meet
          exact ⟨true, rfl, HK5.out, HB1.out.kept hx2, HB2.out.kept hx2, HB3.out.kept hx2⟩
        by_cases hpk : (k : Int) ≤ pa
        · refine wp_region_kept (by kernel_rfl) (by kernel_rfl) ?_
          repeat (go_big_quiet_step (fail))
          refine wpQuiet_nil ?_
          rintro w5 ⟨⟨wx, hx2⟩, hh⟩
          obtain rfl : w5 = wx := hh
          have HK5 := Lib.hid (HK.out.trans hx2)
          clear y1 y2 z4
          go_wp2_with fail
          go_meet
          exact ⟨true, rfl, HK5.out, HB1.out.kept hx2, HB2.out.kept hx2, HB3.out.kept hx2⟩
        obtain ⟨P, rfl⟩ : ∃ P : Nat, pa = P := ⟨pa.toNat, by omega⟩
        have hPi : (P : Int) < nR := by omega
        have hP0 : (0 : Int) ≤ P := by omega
        obtain ⟨-, ⟨pd, v1⟩, -⟩ := HC3.out P (by omega)
        have x1 := KW.cell (Nat.lt_of_lt_of_le hb3 HK.out.size) (HK.out.cell (p := ⟨b3, _, none⟩) hb3 v1)
        clear v1
        cases hpd : (pd == (D : Int))
        · have hpd2 : (pd != (D : Int)) = true := by unfold bne; rw [hpd]; rfl
          refine wp_region_kept (by kernel_rfl) (by kernel_rfl) ?_
          repeat (go_big_quiet_step (fail))
          refine wpQuiet_nil ?_
          rintro w5 ⟨⟨wx, hx2⟩, hh⟩
          obtain rfl : w5 = wx := hh
          have HK5 := Lib.hid (HK.out.trans hx2)
          clear y1 y2 z4 x1
          go_wp2_with fail
          go_meet
          exact ⟨true, rfl, HK5.out, HB1.out.kept hx2, HB2.out.kept hx2, HB3.out.kept hx2⟩
        · have hpd2 : (pd != (D : Int)) = false := by unfold bne; rw [hpd]; rfl
          refine wp_region_kept (by kernel_rfl) (by kernel_rfl) ?_
          repeat (go_big_quiet_step (fail))
          refine wpQuiet_nil ?_
          rintro w5 ⟨⟨wx, hx2⟩, hh⟩
          obtain rfl : w5 = wx := hh
          have HK5 := Lib.hid (HK.out.trans hx2)
          clear y1 y2 z4 x1
          go_wp2_with fail
          go_meet
          exact ⟨false, rfl, HK5.out, HB1.out.kept hx2, HB2.out.kept hx2, HB3.out.kept hx2⟩
      case rest =>
        obtain ⟨bb, rfl, KC, C1, C2, C3⟩ := hcut
        clear HB1 HB2 HB3 HK HC3
        cases bb
        case true =>
          go_wp2_with fail
          go_ret
          exact AnyI.mk _ KC
        have c3 := C3.cell
        have l3 := C3.lt
        by_cases hp0 : pr < 0
        · go_wp2_with fail
          go_ret
          exact AnyI.mk _ KC
        by_cases hp9 : 9 < pr
        · go_wp2_with fail
          go_ret
          exact AnyI.mk _ KC
        have HC1 := Lib.hid C1
        have HC2 := Lib.hid C2
        have HC3 := Lib.hid C3
        have HKC := Lib.hid KC
        cases hvv : (vf == vt)
        case true =>
          go_wp2_with (go_at_call 71; refine (HV.out vf vt _).mono ?_; rintro e w6 ⟨g6, rfl, k6⟩; have D3 := C3.kept k6; have d3c := D3.cell; have d3l := D3.lt; cases g6)
          all_goals
            go_ret
            exact AnyI.mk _ (HKC.out.trans k6)
        go_upto_region 19 with (go_at_call 71; refine (HV.out vf vt _).mono ?_; rintro e w6 ⟨g6, rfl, k6⟩; have D3 := C3.kept k6; have d3c := D3.cell; have d3l := D3.lt; cases g6)
        · go_ret
          exact AnyI.mk _ (HKC.out.trans k6)
        have HD1 := Lib.hid (HC1.out.kept k6)
        have HD2 := Lib.hid (HC2.out.kept k6)
        have HD3 := Lib.hid (HC3.out.kept k6)
        have HK6 := Lib.hid (HKC.out.trans k6)
        clear C1 C2 C3 KC c3 l3 HC1 HC2 HC3 HKC D3 k6
        by_cases h8 : (8 : Int) ≤ sb
        · go_wp2_with fail
          go_ret
          exact AnyI.mk _ HK6.out
        go_upto_region 23 with (go_at_call 72; refine (HPL.out src _ (by omega)).mono ?_; rintro e w7 ⟨g7, rfl, k7⟩; cases g7)
        · go_ret
          exact AnyI.mk _ (HK6.out.trans k7)
        have HE1 := Lib.hid (HD1.out.kept k7)
        have HE2 := Lib.hid (HD2.out.kept k7)
        have HE3 := Lib.hid (HD3.out.kept k7)
        have HK7 := Lib.hid (HK6.out.trans k7)
        have K7 := HK7.out
        have c1 := HE1.out.cell
        have l1 := HE1.out.lt
        clear d3c d3l HD1 HD2 HD3 HK6 k7
        go_upto_region 24 with (go_at_call 73; refine (HSG.out _ K7).mono ?_; rintro e w8 ⟨sv, sI, sD, sM, rfl, hSD, k8⟩; obtain ⟨xE, yE, xT, yT, xI, yI, xD, yD, xM, yM, shm, rfl, -⟩ := id hSD)
        have HES := Lib.hid (Blk.new w8 137 #[.slice xE ms.length yE, .slice xT nT yT, .slice xI sI yI, .slice xD sD yD, .slice xM sM yM, .bool shm])
        have HSX := Lib.hid (hSD.kept ((Kept.refl w8).alloc (.cells #[.slice xE ms.length yE, .slice xT nT yT, .slice xI sI yI, .slice xD sD yD, .slice xM sM yM, .bool shm] 137)))
        have HF2 := Lib.hid ((HE2.out.kept k8).alloc (.cells #[.slice xE ms.length yE, .slice xT nT yT, .slice xI sI yI, .slice xD sD yD, .slice xM sM yM, .bool shm] 137))
        have HF3 := Lib.hid ((HE3.out.kept k8).alloc (.cells #[.slice xE ms.length yE, .slice xT nT yT, .slice xI sI yI, .slice xD sD yD, .slice xM sM yM, .bool shm] 137))
        have HKX := Lib.hid ((K7.trans k8).alloc (.cells #[.slice xE ms.length yE, .slice xT nT yT, .slice xI sI yI, .slice xD sD yD, .slice xM sM yM, .bool shm] 137))
        clear c1 l1 k8 K7 HE1 HE2 HE3 hSD HK7 HSG
        generalize w8.alloc (.cells #[.slice xE ms.length yE, .slice xT nT yT, .slice xI sI yI, .slice xD sD yD, .slice xM sM yM, .bool shm] 137) = W9 at *
        generalize w8.heap.size = gs at *
        generalize ms.length = nX at *
        by_cases hg0 : 0 < ng
        · have hgi : (0 : Int) < ng := by omega
          have KX := HKX.out
          have c3 := HF3.out.cell
          have l3 := HF3.out.lt
          have cs := HES.out.cell
          have ls := HES.out.lt
          go_upto_region 26 with (go_at_call 74; refine (HXG.out _ _ _ _ _ _ _ KX HSX.out).mono ?_; rintro e w10 ⟨c2, rfl, k10⟩)
          clear c3 l3 cs ls KX
          by_cases hc2 : c2 = 0
          · subst hc2
            go_upto_region 28 with fail
            have HKX := Lib.hid (HKX.out.trans k10)
            have HE2 := Lib.hid (HF2.out.kept k10)
            have HE3 := Lib.hid (HF3.out.kept k10)
            have HES := Lib.hid (HES.out.kept k10)
            have HSX := Lib.hid (HSX.out.kept k10)
            clear k10 HF2 HF3
            have KX := HKX.out
            have E2x := HE2.out
            have E3x := HE3.out
            have ESx := HES.out
            have z3 := KW.cell E2x.lt (E2x.cell 3)
            have y1 := KW.cell E3x.lt (E3x.cell 1)
            have y7 := KW.cell E3x.lt (E3x.cell 7)
            have s0 := KW.cell ESx.lt (ESx.cell 0)
            have s1 := KW.cell ESx.lt (ESx.cell 1)
            have s2 := KW.cell ESx.lt (ESx.cell 2)
            have s3 := KW.cell ESx.lt (ESx.cell 3)
            have s4 := KW.cell ESx.lt (ESx.cell 4)
            have s5 := KW.cell ESx.lt (ESx.cell 5)
            have hb4w := Nat.lt_of_lt_of_le hb4 KX.size
            have d1 := KW.cell hb4w (KX.cell (p := ⟨b4, _, none⟩) hb4 u1)
            have d2 := KW.cell hb4w (KX.cell (p := ⟨b4, _, none⟩) hb4 u2)
            try simp only [List.getElem?_toArray, List.getElem?_cons_zero, List.getElem?_cons_succ] at z3 y1 y7 s0 s1 s2 s3 s4 s5
            clear KX E2x E3x ESx
            refine wp_region_kept_tail 10 (by kernel_rfl) (by kernel_rfl) ?_
            simp only [List.take_succ_cons, List.take_zero, List.drop_succ_cons, List.drop_zero]
            repeat (go_big_quiet_step (fail))
            refine wpQuiet_nil ?_
            rintro wz ⟨⟨wx, hx2⟩, hh⟩
            obtain rfl : wz = wx := hh
            clear z3 y1 y7 s0 s1 s2 s3 s4 s5 d1 d2
            go_wp2_with (go_at_call 74; refine (HXV.out _ _ _ _ _ (HKX.out.trans hx2) (HSX.out.kept hx2)).mono ?_; rintro e wy ⟨c2, rfl, ky⟩)
            go_ret
            exact AnyI.mk _ ((HKX.out.trans hx2).trans ky)
          · have hc2b : (c2 != 0) = true := by simpa using hc2
            go_wp2_with fail
            go_ret
            exact AnyI.mk _ (HKX.out.trans k10)
        · have hgi : ¬ ((0 : Int) < ng) := by omega
          have c3 := HF3.out.cell
          have l3 := HF3.out.lt
          go_upto_region 28 with fail
          have HE2 := HF2
          have HE3 := HF3
          clear c3 l3 HF2 HF3
          have KX := HKX.out
          have E2x := HE2.out
          have E3x := HE3.out
          have ESx := HES.out
          have z3 := KW.cell E2x.lt (E2x.cell 3)
          have y1 := KW.cell E3x.lt (E3x.cell 1)
          have y7 := KW.cell E3x.lt (E3x.cell 7)
          have s0 := KW.cell ESx.lt (ESx.cell 0)
          have s1 := KW.cell ESx.lt (ESx.cell 1)
          have s2 := KW.cell ESx.lt (ESx.cell 2)
          have s3 := KW.cell ESx.lt (ESx.cell 3)
          have s4 := KW.cell ESx.lt (ESx.cell 4)
          have s5 := KW.cell ESx.lt (ESx.cell 5)
          have hb4w := Nat.lt_of_lt_of_le hb4 KX.size
          have d1 := KW.cell hb4w (KX.cell (p := ⟨b4, _, none⟩) hb4 u1)
          have d2 := KW.cell hb4w (KX.cell (p := ⟨b4, _, none⟩) hb4 u2)
          try simp only [List.getElem?_toArray, List.getElem?_cons_zero, List.getElem?_cons_succ] at z3 y1 y7 s0 s1 s2 s3 s4 s5
          clear KX E2x E3x ESx
          refine wp_region_kept_tail 10 (by kernel_rfl) (by kernel_rfl) ?_
          simp only [List.take_succ_cons, List.take_zero, List.drop_succ_cons, List.drop_zero]
          repeat (go_big_quiet_step (fail))
          refine wpQuiet_nil ?_
          rintro wz ⟨⟨wx, hx2⟩, hh⟩
          obtain rfl : wz = wx := hh
          clear z3 y1 y7 s0 s1 s2 s3 s4 s5 d1 d2
          go_wp2_with (go_at_call 74; refine (HXV.out _ _ _ _ _ (HKX.out.trans hx2) (HSX.out.kept hx2)).mono ?_; rintro e wy ⟨c2, rfl, ky⟩)
          go_ret
          exact AnyI.mk _ ((HKX.out.trans hx2).trans ky)
end Go.Proofs.YtjeifmjcgemlgaaGreatDoor
/- scopeError of the reference of package law: it ends. -/
namespace Go.Proofs.YtjeifmjcgemlgaaGreatDoor
open Go.RowKit

set_option maxRecDepth 100000 in
set_option maxHeartbeats 16000000 in
theorem rscopeError_any (lv : Value) (ms : List (List ByteArray)) (nT nS q : Nat) (w : World) (hL : LawV w lv ms nT nS) (hq : q < nS) : Calls Tryz.prog 33 #[lv, .int .i64 q] w (LeP True w) := by
  have HTK := Lib.hid (fun s w1 (h : Kept w w1) => rtaken3_any lv ms.length nT nS q s w1 ((hL.kept h).lawN))
  unfold AnyB at HTK
  have HFE := Lib.hid (fun w1 (h : Kept w w1) => rfieldError_any lv ms nT nS q w1 (hL.kept h) hq)
  unfold LeP at HFE
  have HRE0 := Lib.hid (fun k w1 (h : Kept w w1) hk => rruleError_any lv ms nT nS q k w1 (hL.kept h) hq hk)
  unfold AnyI at HRE0
  have HID := Lib.hid (fun s w1 => risId_any s w1)
  obtain ⟨AE, cE, AT, cT, AS, cS, rfl, hE, h0, h1, h2⟩ := hL
  obtain ⟨hq9, hxS⟩ := h2.items
  obtain ⟨b, off, rfl, hb, hc⟩ := hxS (by omega)
  obtain ⟨⟨nm, t0⟩, ⟨mm, t1⟩, ⟨_, t2, hI⟩, ⟨_, t3, hD⟩, ⟨_, t4, hR⟩⟩ := hc q hq
  obtain ⟨AI, nI, cI, rfl, -, hnI, -⟩ := id hI
  obtain ⟨AD, nD, cD, rfl, -, hnD, -⟩ := id hD
  obtain ⟨AR, nR, cR, rfl, -, hnR, -⟩ := id hR
  have HRE := Lib.hid (fun k (hkR : k < nR) w1 (h : Kept w w1) => HRE0.out k w1 h (fun AE' cE' AT' cT' AS' cS' b' off' AR' nR' cR' e1 e2 e3 => by
    simp only [Value.agg.injEq, Array.mk.injEq, List.cons.injEq, Value.slice.injEq] at e1
    obtain ⟨-, -, ⟨e4, -, -⟩, -⟩ := e1
    rw [← e4] at e2
    simp only [Option.some.injEq, Addr.mk.injEq] at e2
    obtain ⟨rfl, rfl, -⟩ := e2
    have e5 := h.cell (p := ⟨b, _, none⟩) hb t4
    rw [e5] at e3
    simp only [Option.some.injEq, Value.slice.injEq] at e3
    omega))
  have HTR := Lib.hid (fun d w1 (h : Kept w w1) => rtrans_any (.agg #[.string nm, .int .i64 mm, .slice AI nI cI, .slice AD nD cD, .slice AR nR cR]) nD d w1 ⟨nm, mm, AI, nI, cI, AD, cD, AR, nR, cR, rfl, SlZ.kept FdP.kept hI h, SlZ.kept FdP.kept hD h, SlZ.kept RlP.kept hR h⟩)
  unfold dirPost at HTR
  have HC := Lib.hid hc
  have hqi : (q : Int) < nS := by omega
  generalize ms.length = nE at *
  have hq0 : (0 : Int) ≤ q := by omega
  have K0 := Lib.hid (((((Kept.refl w).alloc (.cells #[.slice AE nE cE, .slice AT nT cT, .slice (some ⟨b, off, none⟩) nS cS] 26)).alloc (.cells #[.int .i64 0, .int .i64 0, .int .i64 0, .int .i64 0] 57)).alloc (.cells #[.string nm, .int .i64 mm, .slice AI nI cI, .slice AD nD cD, .slice AR nR cR] 54)).alloc (.cells #[.int .i64 0, .int .i64 3, .int .i64 q, .int .i64 0] 57))
  clear hE h0 h1 h2 hc hxS hI hD hR HRE0
  go_enter Tryz.func33, Tryz.ntmps33
  go_upto_region 3 with fail
  obtain ⟨B1, B2, B3, B4⟩ := (Kept.refl ((((w.alloc (.cells #[.slice AE nE cE, .slice AT nT cT, .slice (some ⟨b, off, none⟩) nS cS] 26)).alloc (.cells #[.int .i64 0, .int .i64 0, .int .i64 0, .int .i64 0] 57)).alloc (.cells #[.string nm, .int .i64 mm, .slice AI nI cI, .slice AD nD cD, .slice AR nR cR] 54)).alloc (.cells #[.int .i64 0, .int .i64 3, .int .i64 q, .int .i64 0] 57))).blk4
  have KK := K0.out
  generalize ((((w.alloc (.cells #[.slice AE nE cE, .slice AT nT cT, .slice (some ⟨b, off, none⟩) nS cS] 26)).alloc (.cells #[.int .i64 0, .int .i64 0, .int .i64 0, .int .i64 0] 57)).alloc (.cells #[.string nm, .int .i64 mm, .slice AI nI cI, .slice AD nD cD, .slice AR nR cR] 54)).alloc (.cells #[.int .i64 0, .int .i64 3, .int .i64 q, .int .i64 0] 57)) = W at *
  have B3 : Blk W (w.heap.size + 1 + 1) 54 #[.string nm, .int .i64 mm, .slice AI nI cI, .slice AD nD cD, .slice AR nR cR] := B3
  have B4 : Blk W (w.heap.size + 1 + 1 + 1) 57 #[.int .i64 0, .int .i64 3, .int .i64 q, .int .i64 0] := B4
  have c1 := B1.cell
  have c3 := B3.cell
  have l1 := B1.lt
  have l3 := B3.lt
  have hsz : w.heap.size + 1 + 1 + 1 < W.heap.size := B4.lt
  clear t0 t1 t2 t3 t4
  go_upto_region 9 with (first
    | (go_at_call 46; refine (HID.out nm _).mono ?_; rintro e w1 ⟨rfl, k1⟩; have C1 := B1.kept k1; have cc1 := C1.cell; have cl1 := C1.lt; have C2 := B2.kept k1; have cc2 := C2.cell; have cl2 := C2.lt; have C3 := B3.kept k1; have cc3 := C3.cell; have cl3 := C3.lt; have C4 := B4.kept k1; have cc4 := C4.cell; have cl4 := C4.lt; have cf2 := C2.frozen; have cf4 := C4.frozen; have K1 := KK.trans k1; generalize idB (L nm) = g1; cases g1)
    | (go_at_call 47; refine (HTK.out nm _ K1).mono ?_; rintro e w2 ⟨g2, rfl, k2⟩; have D1 := C1.kept k2; have dc1 := D1.cell; have dl1 := D1.lt; have D2 := C2.kept k2; have dc2 := D2.cell; have dl2 := D2.lt; have D3 := C3.kept k2; have dc3 := D3.cell; have dl3 := D3.lt; have D4 := C4.kept k2; have dc4 := D4.cell; have dl4 := D4.lt; have df2 := D2.frozen; have df4 := D4.frozen; have K2 := K1.trans k2; cases g2))
  · clear cc1 cc3 cl1 cl3 c1 l1 c3 l3
    have BW := (((((C2.far (p := ⟨w.heap.size + 1 + 1 + 1, 0, none⟩) (by simp only; omega) (.int .i64 2)).set_ 0 (.int .i64 2)).set_ 1 (.int .i64 3)).set_ 2 (.int .i64 q)).set_ 3 (.int .i64 0))
    have KF : Kept w ((((((w1.setCell ⟨w.heap.size + 1 + 1 + 1, 0, none⟩ (.int .i64 2))).setCell ⟨w.heap.size + 1, 0, none⟩ (.int .i64 2)).setCell ⟨w.heap.size + 1, 1, none⟩ (.int .i64 3)).setCell ⟨w.heap.size + 1, 2, none⟩ (.int .i64 q)).setCell ⟨w.heap.size + 1, 3, none⟩ (.int .i64 0)) := by
      repeat refine Kept.setCell ?_ (by simp only; omega) _
      exact K1
    generalize (((((w1.setCell ⟨w.heap.size + 1 + 1 + 1, 0, none⟩ (.int .i64 2))).setCell ⟨w.heap.size + 1, 0, none⟩ (.int .i64 2)).setCell ⟨w.heap.size + 1, 1, none⟩ (.int .i64 3)).setCell ⟨w.heap.size + 1, 2, none⟩ (.int .i64 q)).setCell ⟨w.heap.size + 1, 3, none⟩ (.int .i64 0) = WW at *
    have bw := BW.cell
    exact bodyPost_ret (v := .agg #[.int .i64 2, .int .i64 3, .int .i64 q, .int .i64 0]) (by simp [results, Tryz.results33, go_sem, bw]) rfl ⟨_, _, _, _, rfl, KF, fun _ => trivial⟩
  · have HD1 := Lib.hid D1
    have HD2 := Lib.hid D2
    have HD3 := Lib.hid D3
    have HD4 := Lib.hid D4
    have HK2 := Lib.hid K2
    clear c1 l1 c3 l3 cc1 cc2 cc3 cc4 cl1 cl2 cl3 cl4 cf2 cf4 B1 B2 B3 B4 C1 C2 C3 C4 D1 D2 D3 D4 KK K1 K2 k1 k2 HTK
    have hcases : (mm = -1) ∨ (mm ≠ -1 ∧ mm < 0) ∨ (mm ≠ -1 ∧ 0 ≤ mm ∧ (q : Int) ≤ mm) ∨ ∃ M : Nat, mm = M ∧ M < q := by
      by_cases h1 : mm = -1
      · exact .inl h1
      · by_cases h2 : mm < 0
        · exact .inr (.inl ⟨h1, h2⟩)
        · by_cases h3 : (q : Int) ≤ mm
          · exact .inr (.inr (.inl ⟨h1, by omega, h3⟩))
          · exact .inr (.inr (.inr ⟨mm.toNat, by omega, by omega⟩))
    go_cut [56] (fun vb wx => ∃ bb : Bool, vb = .bool bb ∧ wx = w2)
    case first =>
      rcases hcases with rfl | ⟨h1, h2⟩ | ⟨h1, h2, h3⟩ | ⟨M, rfl, hM⟩
      · go_wp2_with fail
        go_meet
        exact ⟨false, rfl, rfl⟩
      · have e1 : (mm == -1) = false := by simpa using h1
        have e2 : (mm != -1) = true := by simpa using h1
        clear h1
        go_wp2_with fail
        go_meet
        exact ⟨true, rfl, rfl⟩
      · have e1 : (mm == -1) = false := by simpa using h1
        have e2 : (mm != -1) = true := by simpa using h1
        have h4 : ¬ mm < 0 := by omega
        clear h1
        go_wp2_with fail
        go_meet
        exact ⟨true, rfl, rfl⟩
      · obtain ⟨-, ⟨mv, u1⟩, -⟩ := HC.out M (by omega)
        have x1 := HK2.out.cell (p := ⟨b, _, none⟩) hb u1
        have hbw := Nat.lt_of_lt_of_le hb HK2.out.size
        have h4 : ¬ ((M : Int) < 0) := by omega
        have h5 : (M : Int) < nS := by omega
        have h6 : ¬ ((q : Int) ≤ M) := by omega
        have h7 : (0 : Int) ≤ M := by omega
        have e1 : ((M : Int) == -1) = false := by rw [beq_eq_false_iff_ne]; omega
        have e2 : ((M : Int) != -1) = true := by rw [bne_iff_ne]; omega
        clear u1
        cases hmv : (mv == -1)
        · have hm2 : (mv != -1) = true := by unfold bne; rw [hmv]; rfl
          go_wp2_with fail
          go_meet
          exact ⟨true, rfl, rfl⟩
        · have hm2 : (mv != -1) = false := by unfold bne; rw [hmv]; rfl
          go_wp2_with fail
          go_meet
          exact ⟨false, rfl, rfl⟩
    case rest =>
      obtain ⟨bb, rfl, hwc⟩ := hcut
      subst hwc
      clear hcases HC
      cases bb
      case true =>
        go_wp2_with fail
        have BW := (((((HD2.out.far (p := ⟨w.heap.size + 1 + 1 + 1, 0, none⟩) (by simp only; omega) (.int .i64 6)).set_ 0 (.int .i64 6)).set_ 1 (.int .i64 3)).set_ 2 (.int .i64 q)).set_ 3 (.int .i64 0))
        have KF : Kept w ((((((wc.setCell ⟨w.heap.size + 1 + 1 + 1, 0, none⟩ (.int .i64 6))).setCell ⟨w.heap.size + 1, 0, none⟩ (.int .i64 6)).setCell ⟨w.heap.size + 1, 1, none⟩ (.int .i64 3)).setCell ⟨w.heap.size + 1, 2, none⟩ (.int .i64 q)).setCell ⟨w.heap.size + 1, 3, none⟩ (.int .i64 0)) := by
          repeat refine Kept.setCell ?_ (by simp only; omega) _
          exact HK2.out
        generalize (((((wc.setCell ⟨w.heap.size + 1 + 1 + 1, 0, none⟩ (.int .i64 6))).setCell ⟨w.heap.size + 1, 0, none⟩ (.int .i64 6)).setCell ⟨w.heap.size + 1, 1, none⟩ (.int .i64 3)).setCell ⟨w.heap.size + 1, 2, none⟩ (.int .i64 q)).setCell ⟨w.heap.size + 1, 3, none⟩ (.int .i64 0) = WW at *
        have bw := BW.cell
        exact bodyPost_ret (v := .agg #[.int .i64 6, .int .i64 3, .int .i64 q, .int .i64 0]) (by simp [results, Tryz.results33, go_sem, bw]) rfl ⟨_, _, _, _, rfl, KF, fun _ => trivial⟩
      by_cases hi12 : (12 : Int) < nI
      · go_wp2_with fail
        have BW := ((((((HD2.out.far (p := ⟨w.heap.size + 1 + 1 + 1, 0, none⟩) (by simp only; omega) (.int .i64 4)).far (p := ⟨w.heap.size + 1 + 1 + 1, 3, none⟩) (by simp only; omega) (.int .i64 112)).set_ 0 (.int .i64 4)).set_ 1 (.int .i64 3)).set_ 2 (.int .i64 q)).set_ 3 (.int .i64 112))
        have KF : Kept w (((((((wc.setCell ⟨w.heap.size + 1 + 1 + 1, 0, none⟩ (.int .i64 4)).setCell ⟨w.heap.size + 1 + 1 + 1, 3, none⟩ (.int .i64 112))).setCell ⟨w.heap.size + 1, 0, none⟩ (.int .i64 4)).setCell ⟨w.heap.size + 1, 1, none⟩ (.int .i64 3)).setCell ⟨w.heap.size + 1, 2, none⟩ (.int .i64 q)).setCell ⟨w.heap.size + 1, 3, none⟩ (.int .i64 112)) := by
          repeat refine Kept.setCell ?_ (by simp only; omega) _
          exact HK2.out
        generalize ((((((wc.setCell ⟨w.heap.size + 1 + 1 + 1, 0, none⟩ (.int .i64 4)).setCell ⟨w.heap.size + 1 + 1 + 1, 3, none⟩ (.int .i64 112))).setCell ⟨w.heap.size + 1, 0, none⟩ (.int .i64 4)).setCell ⟨w.heap.size + 1, 1, none⟩ (.int .i64 3)).setCell ⟨w.heap.size + 1, 2, none⟩ (.int .i64 q)).setCell ⟨w.heap.size + 1, 3, none⟩ (.int .i64 112) = WW at *
        have bw := BW.cell
        exact bodyPost_ret (v := .agg #[.int .i64 4, .int .i64 3, .int .i64 q, .int .i64 112]) (by simp [results, Tryz.results33, go_sem, bw]) rfl ⟨_, _, _, _, rfl, KF, fun _ => trivial⟩
      by_cases hd12 : (12 : Int) < nD
      · go_wp2_with fail
        have BW := ((((((HD2.out.far (p := ⟨w.heap.size + 1 + 1 + 1, 0, none⟩) (by simp only; omega) (.int .i64 4)).far (p := ⟨w.heap.size + 1 + 1 + 1, 3, none⟩) (by simp only; omega) (.int .i64 212)).set_ 0 (.int .i64 4)).set_ 1 (.int .i64 3)).set_ 2 (.int .i64 q)).set_ 3 (.int .i64 212))
        have KF : Kept w (((((((wc.setCell ⟨w.heap.size + 1 + 1 + 1, 0, none⟩ (.int .i64 4)).setCell ⟨w.heap.size + 1 + 1 + 1, 3, none⟩ (.int .i64 212))).setCell ⟨w.heap.size + 1, 0, none⟩ (.int .i64 4)).setCell ⟨w.heap.size + 1, 1, none⟩ (.int .i64 3)).setCell ⟨w.heap.size + 1, 2, none⟩ (.int .i64 q)).setCell ⟨w.heap.size + 1, 3, none⟩ (.int .i64 212)) := by
          repeat refine Kept.setCell ?_ (by simp only; omega) _
          exact HK2.out
        generalize ((((((wc.setCell ⟨w.heap.size + 1 + 1 + 1, 0, none⟩ (.int .i64 4)).setCell ⟨w.heap.size + 1 + 1 + 1, 3, none⟩ (.int .i64 212))).setCell ⟨w.heap.size + 1, 0, none⟩ (.int .i64 4)).setCell ⟨w.heap.size + 1, 1, none⟩ (.int .i64 3)).setCell ⟨w.heap.size + 1, 2, none⟩ (.int .i64 q)).setCell ⟨w.heap.size + 1, 3, none⟩ (.int .i64 212) = WW at *
        have bw := BW.cell
        exact bodyPost_ret (v := .agg #[.int .i64 4, .int .i64 3, .int .i64 q, .int .i64 212]) (by simp [results, Tryz.results33, go_sem, bw]) rfl ⟨_, _, _, _, rfl, KF, fun _ => trivial⟩
      have K2 := HK2.out
      clear dc2 dc4 dl2 dl4 df2 df4
      go_upto_region 21 with (go_at_call 49; refine (HFE.out _ K2).mono ?_; rintro e w3 ⟨fc, fs, fi, fe, rfl, k3, -⟩)
      have HE1 := Lib.hid ((HD1.out.kept k3).alloc (.cells #[.int .i64 fc, .int .i64 fs, .int .i64 fi, .int .i64 fe] 57))
      have HE2 := Lib.hid ((HD2.out.kept k3).alloc (.cells #[.int .i64 fc, .int .i64 fs, .int .i64 fi, .int .i64 fe] 57))
      have HE3 := Lib.hid ((HD3.out.kept k3).alloc (.cells #[.int .i64 fc, .int .i64 fs, .int .i64 fi, .int .i64 fe] 57))
      have HEF := Lib.hid (Blk.new w3 57 #[.int .i64 fc, .int .i64 fs, .int .i64 fi, .int .i64 fe])
      have HK3 := Lib.hid ((K2.trans k3).alloc (.cells #[.int .i64 fc, .int .i64 fs, .int .i64 fi, .int .i64 fe] 57))
      have hg3 : w.heap.size + 1 + 1 < w3.heap.size := (HD3.out.kept k3).lt
      clear dc1 dc3 dl1 dl3 HD1 HD2 HD3 HD4 HK2 K2 k3
      generalize w3.alloc (.cells #[.int .i64 fc, .int .i64 fs, .int .i64 fi, .int .i64 fe] 57) = W4 at *
      generalize w3.heap.size = g at *
      have cf := HEF.out.cell
      have lf := HEF.out.lt
      by_cases hfc : fc = 0
      case neg =>
        have hfb : (fc != 0) = true := by simpa using hfc
        have c2 := HE2.out.cell
        have l2 := HE2.out.lt
        have f2 := HE2.out.frozen
        go_wp2_with fail
        have BW := ((((HE2.out.set_ 0 (.int .i64 fc)).set_ 1 (.int .i64 fs)).set_ 2 (.int .i64 fi)).set_ 3 (.int .i64 fe))
        have KF : Kept w (((((W4).setCell ⟨w.heap.size + 1, 0, none⟩ (.int .i64 fc)).setCell ⟨w.heap.size + 1, 1, none⟩ (.int .i64 fs)).setCell ⟨w.heap.size + 1, 2, none⟩ (.int .i64 fi)).setCell ⟨w.heap.size + 1, 3, none⟩ (.int .i64 fe)) := by
          repeat refine Kept.setCell ?_ (by simp only; omega) _
          exact HK3.out
        generalize ((((W4).setCell ⟨w.heap.size + 1, 0, none⟩ (.int .i64 fc)).setCell ⟨w.heap.size + 1, 1, none⟩ (.int .i64 fs)).setCell ⟨w.heap.size + 1, 2, none⟩ (.int .i64 fi)).setCell ⟨w.heap.size + 1, 3, none⟩ (.int .i64 fe) = WW at *
        have bw := BW.cell
        exact bodyPost_ret (v := .agg #[.int .i64 fc, .int .i64 fs, .int .i64 fi, .int .i64 fe]) (by simp [results, Tryz.results33, go_sem, bw]) rfl ⟨_, _, _, _, rfl, KF, fun _ => trivial⟩
      subst hfc
      go_wp2_with fail
      clear cf lf HEF hg3
      go_loopw [8] (fun z wr => ∃ (k : Nat), z = .int .i64 k ∧ k ≤ nR ∧ Kept w wr ∧ Blk wr w.heap.size 26 #[.slice AE nE cE, .slice AT nT cT, .slice (some ⟨b, off, none⟩) nS cS] ∧ Blk wr (w.heap.size + 1) 57 #[.int .i64 0, .int .i64 0, .int .i64 0, .int .i64 0] ∧ Blk wr (w.heap.size + 1 + 1) 54 #[.string nm, .int .i64 mm, .slice AI nI cI, .slice AD nD cD, .slice AR nR cR]) (fun z _ => nR - (intOf z).toNat)
      case atStart => exact ⟨0, rfl, Nat.zero_le _, HK3.out, HE1.out, HE2.out, HE3.out⟩
      case round =>
        clear HE1 HE2 HE3 HK3
        obtain ⟨k, rfl, hkn, hK, hB1, hB2, hB3⟩ := hrel
        have c1 := hB1.cell
        have l1 := hB1.lt
        have c3 := hB3.cell
        have l3 := hB3.lt
        by_cases hlt : k < nR
        · have hki : (k : Int) < nR := by omega
          have hwe : IntKind.i64.wrap (300 + (k : Int)) = 300 + (k : Int) := by rw [IntKind.wrap_i64]; omega
          go_upto_region 27 with (go_at_call 50; refine (HRE.out k hlt _ hK).mono ?_; rintro e w5 ⟨rc, rfl, k5⟩)
          have D1 := hB1.kept k5
          have D2 := hB2.kept k5
          have D3 := hB3.kept k5
          have K5 := hK.trans k5
          clear c1 l1 c3 l3 hB1 hB2 hB3 hK k5
          by_cases hrc : rc = 0
          · subst hrc
            have HD1 := Lib.hid D1
            have HD2 := Lib.hid D2
            have HD3 := Lib.hid D3
            have HK5 := Lib.hid K5
            clear D1 D2 D3 K5
            go_wp2_with fail
            go_roundw
            case rel => exact ⟨k + 1, by go_num, hlt, HK5.out, HD1.out, HD2.out, HD3.out⟩
            case measure => simp [intOf]; omega
          · have hrb : (rc != 0) = true := by simpa using hrc
            have c2 := D2.cell
            have l2 := D2.lt
            have f2 := D2.frozen
            go_wp2_with fail
            have BW := ((((D2.set_ 0 (.int .i64 rc)).set_ 1 (.int .i64 3)).set_ 2 (.int .i64 q)).set_ 3 (.int .i64 (300 + (k : Int))))
            have KF : Kept w (((((w5).setCell ⟨w.heap.size + 1, 0, none⟩ (.int .i64 rc)).setCell ⟨w.heap.size + 1, 1, none⟩ (.int .i64 3)).setCell ⟨w.heap.size + 1, 2, none⟩ (.int .i64 q)).setCell ⟨w.heap.size + 1, 3, none⟩ (.int .i64 (300 + (k : Int)))) := by
              repeat refine Kept.setCell ?_ (by simp only; omega) _
              exact K5
            generalize ((((w5).setCell ⟨w.heap.size + 1, 0, none⟩ (.int .i64 rc)).setCell ⟨w.heap.size + 1, 1, none⟩ (.int .i64 3)).setCell ⟨w.heap.size + 1, 2, none⟩ (.int .i64 q)).setCell ⟨w.heap.size + 1, 3, none⟩ (.int .i64 (300 + (k : Int))) = WW at *
            have bw := BW.cell
            exact bodyPost_ret (v := .agg #[.int .i64 rc, .int .i64 3, .int .i64 q, .int .i64 (300 + (k : Int))]) (by simp [results, Tryz.results33, go_sem, bw]) rfl ⟨_, _, _, _, rfl, KF, fun _ => trivial⟩
        · obtain rfl : nR = k := by omega
          have hki : ¬ ((nR : Int) < nR) := by omega
          have HB1 := Lib.hid hB1
          have HB2 := Lib.hid hB2
          have HB3 := Lib.hid hB3
          have HK := Lib.hid hK
          clear hB1 hB2 hB3 hK
          go_wp2_with fail
          clear c1 l1 c3 l3
          go_loopw [10] (fun z wq => ∃ (d : Nat), z = .int .i64 d ∧ d ≤ nD ∧ Kept w wq ∧ Blk wq w.heap.size 26 #[.slice AE nE cE, .slice AT nT cT, .slice (some ⟨b, off, none⟩) nS cS] ∧ Blk wq (w.heap.size + 1) 57 #[.int .i64 0, .int .i64 0, .int .i64 0, .int .i64 0] ∧ Blk wq (w.heap.size + 1 + 1) 54 #[.string nm, .int .i64 mm, .slice AI nI cI, .slice AD nD cD, .slice AR nR cR]) (fun z _ => nD - (intOf z).toNat)
          case atStart => exact ⟨0, rfl, Nat.zero_le _, HK.out, HB1.out, HB2.out, HB3.out⟩
          case round =>
            clear HB1 HB2 HB3 HK
            obtain ⟨d, rfl, hdn, hK, hB1, hB2, hB3⟩ := hrel
            have c3 := hB3.cell
            have l3 := hB3.lt
            by_cases hdl : d < nD
            · have hdi : (d : Int) < nD := by omega
              have hwe : IntKind.i64.wrap (200 + (d : Int)) = 200 + (d : Int) := by rw [IntKind.wrap_i64]; omega
              go_upto_region 33 with (go_at_call 51; refine (HTR.out _ _ hK).mono ?_; rintro e w6 ⟨u, ld, rfl, hrd, hid, k6⟩)
              obtain ⟨Ad, cd, rfl, hxd⟩ := inR_at hrd
              obtain ⟨nd, hnd⟩ : ∃ nd, nd = ld.length := ⟨_, rfl⟩
              rw [← hnd]
              have hnd2 : nd ≤ nD := by have := hid.len; omega
              have HND := Lib.hid hnd
              have HXD := Lib.hid hxd
              have HD1 := Lib.hid (hB1.kept k6)
              have HD2 := Lib.hid (hB2.kept k6)
              have HD3 := Lib.hid (hB3.kept k6)
              have HK6 := Lib.hid (hK.trans k6)
              clear hxd hnd hrd hid k6 c3 l3 hB1 hB2 hB3 hK
              go_wp2_with fail
              go_loop [12] (fun z => ∃ (m : Nat), z = .int .i64 m ∧ m ≤ nd) (fun z => nd - (intOf z).toNat)
              case atStart => exact ⟨0, rfl, Nat.zero_le _⟩
              case round =>
                obtain ⟨m, rfl, hmn⟩ := hrel
                by_cases hml : m < nd
                · obtain ⟨b5, o5, rfl, hb5, hc5⟩ := HXD.out (by rw [← HND.out]; omega)
                  have hg : ld[m]? = some (ld[m]'(by have := HND.out; omega)) := List.getElem?_eq_getElem _
                  have y0 := hc5 m _ hg
                  generalize ld[m]'(by have := HND.out; omega) = Y at *
                  have hmm : (m : Int) < nd := by omega
                  clear hc5 hg
                  cases hY : (Y == (d : Int))
                  · go_wp2_with fail
                    go_round
                    case rel => exact ⟨m + 1, by go_num, by omega⟩
                    case measure => simp [intOf]; omega
                  · have c2 := HD2.out.cell
                    have l2 := HD2.out.lt
                    have f2 := HD2.out.frozen
                    go_wp2_with fail
                    have BW := ((((HD2.out.set_ 0 (.int .i64 9)).set_ 1 (.int .i64 3)).set_ 2 (.int .i64 q)).set_ 3 (.int .i64 (200 + (d : Int))))
                    have KF : Kept w (((((w6).setCell ⟨w.heap.size + 1, 0, none⟩ (.int .i64 9)).setCell ⟨w.heap.size + 1, 1, none⟩ (.int .i64 3)).setCell ⟨w.heap.size + 1, 2, none⟩ (.int .i64 q)).setCell ⟨w.heap.size + 1, 3, none⟩ (.int .i64 (200 + (d : Int)))) := by
                      repeat refine Kept.setCell ?_ (by simp only; omega) _
                      exact HK6.out
                    generalize ((((w6).setCell ⟨w.heap.size + 1, 0, none⟩ (.int .i64 9)).setCell ⟨w.heap.size + 1, 1, none⟩ (.int .i64 3)).setCell ⟨w.heap.size + 1, 2, none⟩ (.int .i64 q)).setCell ⟨w.heap.size + 1, 3, none⟩ (.int .i64 (200 + (d : Int))) = WW at *
                    have bw := BW.cell
                    exact bodyPost_ret (v := .agg #[.int .i64 9, .int .i64 3, .int .i64 q, .int .i64 (200 + (d : Int))]) (by simp [results, Tryz.results33, go_sem, bw]) rfl ⟨_, _, _, _, rfl, KF, fun _ => trivial⟩
                · obtain rfl : nd = m := by omega
                  have hmm : ¬ ((nd : Int) < nd) := by omega
                  go_wp2_with fail
                  go_roundw
                  case rel => exact ⟨d + 1, by go_num, hdl, HK6.out, HD1.out, HD2.out, HD3.out⟩
                  case measure => simp [intOf]; omega
            · obtain rfl : nD = d := by omega
              have hdi : ¬ ((nD : Int) < nD) := by omega
              have c2 := hB2.cell
              have l2 := hB2.lt
              have f2 := hB2.frozen
              go_wp2_with fail
              have BW := ((((hB2.set_ 0 (.int .i64 0)).set_ 1 (.int .i64 0)).set_ 2 (.int .i64 0)).set_ 3 (.int .i64 0))
              have KF : Kept w (((((wr).setCell ⟨w.heap.size + 1, 0, none⟩ (.int .i64 0)).setCell ⟨w.heap.size + 1, 1, none⟩ (.int .i64 0)).setCell ⟨w.heap.size + 1, 2, none⟩ (.int .i64 0)).setCell ⟨w.heap.size + 1, 3, none⟩ (.int .i64 0)) := by
                repeat refine Kept.setCell ?_ (by simp only; omega) _
                exact hK
              generalize ((((wr).setCell ⟨w.heap.size + 1, 0, none⟩ (.int .i64 0)).setCell ⟨w.heap.size + 1, 1, none⟩ (.int .i64 0)).setCell ⟨w.heap.size + 1, 2, none⟩ (.int .i64 0)).setCell ⟨w.heap.size + 1, 3, none⟩ (.int .i64 0) = WW at *
              have bw := BW.cell
              exact bodyPost_ret (v := .agg #[.int .i64 0, .int .i64 0, .int .i64 0, .int .i64 0]) (by simp [results, Tryz.results33, go_sem, bw]) rfl ⟨_, _, _, _, rfl, KF, fun _ => trivial⟩
  · clear cc1 cc2 cc3 cc4 cl1 cl2 cl3 cl4 cf2 cf4 dc1 dc3 dl1 dl3 c1 l1 c3 l3
    have BW := (((((D2.far (p := ⟨w.heap.size + 1 + 1 + 1, 0, none⟩) (by simp only; omega) (.int .i64 7)).set_ 0 (.int .i64 7)).set_ 1 (.int .i64 3)).set_ 2 (.int .i64 q)).set_ 3 (.int .i64 0))
    have KF : Kept w ((((((w2.setCell ⟨w.heap.size + 1 + 1 + 1, 0, none⟩ (.int .i64 7))).setCell ⟨w.heap.size + 1, 0, none⟩ (.int .i64 7)).setCell ⟨w.heap.size + 1, 1, none⟩ (.int .i64 3)).setCell ⟨w.heap.size + 1, 2, none⟩ (.int .i64 q)).setCell ⟨w.heap.size + 1, 3, none⟩ (.int .i64 0)) := by
      repeat refine Kept.setCell ?_ (by simp only; omega) _
      exact K2
    generalize (((((w2.setCell ⟨w.heap.size + 1 + 1 + 1, 0, none⟩ (.int .i64 7))).setCell ⟨w.heap.size + 1, 0, none⟩ (.int .i64 7)).setCell ⟨w.heap.size + 1, 1, none⟩ (.int .i64 3)).setCell ⟨w.heap.size + 1, 2, none⟩ (.int .i64 q)).setCell ⟨w.heap.size + 1, 3, none⟩ (.int .i64 0) = WW at *
    have bw := BW.cell
    exact bodyPost_ret (v := .agg #[.int .i64 7, .int .i64 3, .int .i64 q, .int .i64 0]) (by simp [results, Tryz.results33, go_sem, bw]) rfl ⟨_, _, _, _, rfl, KF, fun _ => trivial⟩
end Go.Proofs.YtjeifmjcgemlgaaGreatDoor
/- Validate and IsValid of the reference of package law: of a valid law the enumerations have distinct identifiers as members. -/
namespace Go.Proofs.YtjeifmjcgemlgaaGreatDoor
open Go.RowKit

theorem LeP.mono {Q Q' : Prop} {w w' : World} {e : Ending} (h : LeP Q w e w') (f : Q → Q') : LeP Q' w e w' := by
  obtain ⟨c, s, i, el, h1, h2, h3⟩ := h
  exact ⟨c, s, i, el, h1, h2, fun hc => f (h3 hc)⟩
set_option maxRecDepth 100000 in
set_option maxHeartbeats 16000000 in
theorem rlawError_any (lv : Value) (ms : List (List ByteArray)) (nT nS : Nat) (w : World) (hL : LawV w lv ms nT nS) : Calls Tryz.prog 14 #[lv] w (LeP (∀ l ∈ ms, GoodL l) w) := by
  have HEE := Lib.hid (fun (q : Nat) (hq : q < ms.length) w1 (h : Kept w w1) => (Calls.mono (renumError_any lv ms nT nS q w1 (hL.kept h) hq) (fun e w' hx => LeP.mono hx (fun hg l hl => by
    rw [List.getElem?_eq_getElem hq] at hl
    obtain rfl := Option.some.inj hl
    exact hg)) : Calls Tryz.prog 31 #[lv, .int .i64 q] w1 (LeP (∀ l, ms[q]? = some l → GoodL l) w1)))
  have HTE := Lib.hid (fun q hq w1 (h : Kept w w1) => rtableError_any lv ms nT nS q w1 (hL.kept h) hq)
  have HSE := Lib.hid (fun q hq w1 (h : Kept w w1) => rscopeError_any lv ms nT nS q w1 (hL.kept h) hq)
  unfold LeP at HTE HSE
  obtain ⟨AE, cE, AT, cT, AS, cS, rfl, hE, h0, h1, h2⟩ := hL
  have hnE := h0.items.1
  have hnT := h1.items.1
  have hnS := h2.items.1
  unfold LeP at HEE
  obtain ⟨nE, hne⟩ : ∃ nE, nE = ms.length := ⟨_, rfl⟩
  rw [← hne] at HEE HTE HSE hnE ⊢
  have HNE := Lib.hid hne
  have K0 := Lib.hid (((Kept.refl w).alloc (.cells #[.slice AE nE cE, .slice AT nT cT, .slice AS nS cS] 26)).alloc (.cells #[.int .i64 0, .int .i64 0, .int .i64 0, .int .i64 0] 57))
  clear hE h0 h1 h2 hne
  go_enter Tryz.func14, Tryz.ntmps14
  go_upto_region 1 with fail
  obtain ⟨hB1, hB2⟩ := (Kept.refl ((w.alloc (.cells #[.slice AE nE cE, .slice AT nT cT, .slice AS nS cS] 26)).alloc (.cells #[.int .i64 0, .int .i64 0, .int .i64 0, .int .i64 0] 57))).blk2
  have hK := K0.out
  generalize hwr : ((w.alloc (.cells #[.slice AE nE cE, .slice AT nT cT, .slice AS nS cS] 26)).alloc (.cells #[.int .i64 0, .int .i64 0, .int .i64 0, .int .i64 0] 57)) = wr at *
  clear hwr
  have c1 := hB1.cell
  have l1 := hB1.lt
  by_cases hbig : (8 : Int) < nE
  · have c2 := hB2.cell
    have l2 := hB2.lt
    have f2 := hB2.frozen
    go_wp2_with fail
    have BW := ((((hB2.set_ 0 (.int .i64 4)).set_ 1 (.int .i64 1)).set_ 2 (.int .i64 8)).set_ 3 (.int .i64 0))
    have KF : Kept w (((((wr).setCell ⟨w.heap.size + 1, 0, none⟩ (.int .i64 4)).setCell ⟨w.heap.size + 1, 1, none⟩ (.int .i64 1)).setCell ⟨w.heap.size + 1, 2, none⟩ (.int .i64 8)).setCell ⟨w.heap.size + 1, 3, none⟩ (.int .i64 0)) := by
      repeat refine Kept.setCell ?_ (by simp only; omega) _
      exact hK
    generalize ((((wr).setCell ⟨w.heap.size + 1, 0, none⟩ (.int .i64 4)).setCell ⟨w.heap.size + 1, 1, none⟩ (.int .i64 1)).setCell ⟨w.heap.size + 1, 2, none⟩ (.int .i64 8)).setCell ⟨w.heap.size + 1, 3, none⟩ (.int .i64 0) = WW at *
    have bw := BW.cell
    exact bodyPost_ret (v := .agg #[.int .i64 4, .int .i64 1, .int .i64 8, .int .i64 0]) (by simp [results, Tryz.results14, go_sem, bw]) rfl ⟨_, _, _, _, rfl, KF, fun h => absurd h (by decide)⟩
  have HK := Lib.hid hK
  have HB1 := Lib.hid hB1
  have HB2 := Lib.hid hB2
  clear hK hB1 hB2
  go_wp2_with fail
  clear c1 l1
  go_loopw [3] (fun z wr => ∃ (k : Nat), z = .int .i64 k ∧ k ≤ nE ∧ (∀ (j : Nat) l, j < k → ms[j]? = some l → GoodL l) ∧ Kept w wr ∧ Blk wr w.heap.size 26 #[.slice AE nE cE, .slice AT nT cT, .slice AS nS cS] ∧ Blk wr (w.heap.size + 1) 57 #[.int .i64 0, .int .i64 0, .int .i64 0, .int .i64 0]) (fun z _ => nE - (intOf z).toNat)
  case atStart => exact ⟨0, rfl, Nat.zero_le _, fun _ _ h => absurd h (by omega), HK.out, HB1.out, HB2.out⟩
  case round =>
    clear HK HB1 HB2
    obtain ⟨k, rfl, hkn, hok, hK, hB1, hB2⟩ := hrel
    have HOK := Lib.hid hok
    clear hok
    have c1 := hB1.cell
    have l1 := hB1.lt
    by_cases hlt : k < nE
    · have hki : (k : Int) < nE := by omega
      go_upto_region 7 with (go_at_call 31; refine (HEE.out k hlt _ hK).mono ?_; rintro e w3 ⟨fc, fs, fi, fe, rfl, k3, hgo⟩)
      have E1 := (hB1.kept k3).alloc (.cells #[.int .i64 fc, .int .i64 fs, .int .i64 fi, .int .i64 fe] 57)
      have E2 := (hB2.kept k3).alloc (.cells #[.int .i64 fc, .int .i64 fs, .int .i64 fi, .int .i64 fe] 57)
      have EF := Blk.new w3 57 #[.int .i64 fc, .int .i64 fs, .int .i64 fi, .int .i64 fe]
      have K3 := (hK.trans k3).alloc (.cells #[.int .i64 fc, .int .i64 fs, .int .i64 fi, .int .i64 fe] 57)
      have hg3 : w.heap.size + 1 < w3.heap.size := (hB2.kept k3).lt
      have HE1 := Lib.hid E1
      have HE2 := Lib.hid E2
      have HK3 := Lib.hid K3
      have cf := EF.cell
      have lf := EF.lt
      clear c1 l1 hB1 hB2 hK k3 E1 K3
      generalize w3.alloc (.cells #[.int .i64 fc, .int .i64 fs, .int .i64 fi, .int .i64 fe] 57) = W4 at *
      generalize w3.heap.size = g at *
      by_cases hfc : fc = 0
      · subst hfc
        have HGO := Lib.hid (hgo rfl)
        clear hgo
        clear E2
        go_wp2_with fail
        go_roundw
        case rel => exact ⟨k + 1, by go_num, hlt, fun j l hj hl => (by
          by_cases e : j = k
          · subst e
            exact HGO.out l hl
          · exact HOK.out j l (by omega) hl), HK3.out, HE1.out, HE2.out⟩
        case measure => simp [intOf]; omega
      · have hfb : (fc != 0) = true := by simpa using hfc
        have HFC := Lib.hid hfc
        clear hfc
        have c2 := E2.cell
        have l2 := E2.lt
        have f2 := E2.frozen
        go_wp2_with fail
        have BW := ((((HE2.out.set_ 0 (.int .i64 fc)).set_ 1 (.int .i64 fs)).set_ 2 (.int .i64 fi)).set_ 3 (.int .i64 fe))
        have KF : Kept w (((((W4).setCell ⟨w.heap.size + 1, 0, none⟩ (.int .i64 fc)).setCell ⟨w.heap.size + 1, 1, none⟩ (.int .i64 fs)).setCell ⟨w.heap.size + 1, 2, none⟩ (.int .i64 fi)).setCell ⟨w.heap.size + 1, 3, none⟩ (.int .i64 fe)) := by
          repeat refine Kept.setCell ?_ (by simp only; omega) _
          exact HK3.out
        generalize ((((W4).setCell ⟨w.heap.size + 1, 0, none⟩ (.int .i64 fc)).setCell ⟨w.heap.size + 1, 1, none⟩ (.int .i64 fs)).setCell ⟨w.heap.size + 1, 2, none⟩ (.int .i64 fi)).setCell ⟨w.heap.size + 1, 3, none⟩ (.int .i64 fe) = WW at *
        have bw := BW.cell
        exact bodyPost_ret (v := .agg #[.int .i64 fc, .int .i64 fs, .int .i64 fi, .int .i64 fe]) (by simp [results, Tryz.results14, go_sem, bw]) rfl ⟨_, _, _, _, rfl, KF, fun h => absurd h HFC.out⟩
    · obtain rfl : nE = k := by omega
      have hki : ¬ ((nE : Int) < nE) := by omega
      have HQ := Lib.hid (show ∀ l ∈ ms, GoodL l from fun l hl => by
        obtain ⟨j, hj⟩ := List.getElem?_of_mem hl
        exact HOK.out j l (by have := (List.getElem?_eq_some_iff.1 hj).1; have := HNE.out; omega) hj)
      by_cases hbig : (8 : Int) < nT
      · have c2 := hB2.cell
        have l2 := hB2.lt
        have f2 := hB2.frozen
        go_wp2_with fail
        have BW := ((((hB2.set_ 0 (.int .i64 4)).set_ 1 (.int .i64 2)).set_ 2 (.int .i64 8)).set_ 3 (.int .i64 0))
        have KF : Kept w (((((wr).setCell ⟨w.heap.size + 1, 0, none⟩ (.int .i64 4)).setCell ⟨w.heap.size + 1, 1, none⟩ (.int .i64 2)).setCell ⟨w.heap.size + 1, 2, none⟩ (.int .i64 8)).setCell ⟨w.heap.size + 1, 3, none⟩ (.int .i64 0)) := by
          repeat refine Kept.setCell ?_ (by simp only; omega) _
          exact hK
        generalize ((((wr).setCell ⟨w.heap.size + 1, 0, none⟩ (.int .i64 4)).setCell ⟨w.heap.size + 1, 1, none⟩ (.int .i64 2)).setCell ⟨w.heap.size + 1, 2, none⟩ (.int .i64 8)).setCell ⟨w.heap.size + 1, 3, none⟩ (.int .i64 0) = WW at *
        have bw := BW.cell
        exact bodyPost_ret (v := .agg #[.int .i64 4, .int .i64 2, .int .i64 8, .int .i64 0]) (by simp [results, Tryz.results14, go_sem, bw]) rfl ⟨_, _, _, _, rfl, KF, fun h => absurd h (by decide)⟩
      have HK := Lib.hid hK
      have HB1 := Lib.hid hB1
      have HB2 := Lib.hid hB2
      clear hK hB1 hB2
      go_wp2_with fail
      clear c1 l1
      go_loopw [5] (fun z wr => ∃ (k : Nat), z = .int .i64 k ∧ k ≤ nT ∧ Kept w wr ∧ Blk wr w.heap.size 26 #[.slice AE nE cE, .slice AT nT cT, .slice AS nS cS] ∧ Blk wr (w.heap.size + 1) 57 #[.int .i64 0, .int .i64 0, .int .i64 0, .int .i64 0]) (fun z _ => nT - (intOf z).toNat)
      case atStart => exact ⟨0, rfl, Nat.zero_le _, HK.out, HB1.out, HB2.out⟩
      case round =>
        clear HK HB1 HB2
        obtain ⟨k, rfl, hkn, hK, hB1, hB2⟩ := hrel
        have c1 := hB1.cell
        have l1 := hB1.lt
        by_cases hlt : k < nT
        · have hki : (k : Int) < nT := by omega
          go_upto_region 15 with (go_at_call 32; refine (HTE.out k hlt _ hK).mono ?_; rintro e w3 ⟨fc, fs, fi, fe, rfl, k3, -⟩)
          have E1 := (hB1.kept k3).alloc (.cells #[.int .i64 fc, .int .i64 fs, .int .i64 fi, .int .i64 fe] 57)
          have E2 := (hB2.kept k3).alloc (.cells #[.int .i64 fc, .int .i64 fs, .int .i64 fi, .int .i64 fe] 57)
          have EF := Blk.new w3 57 #[.int .i64 fc, .int .i64 fs, .int .i64 fi, .int .i64 fe]
          have K3 := (hK.trans k3).alloc (.cells #[.int .i64 fc, .int .i64 fs, .int .i64 fi, .int .i64 fe] 57)
          have hg3 : w.heap.size + 1 < w3.heap.size := (hB2.kept k3).lt
          have HE1 := Lib.hid E1
          have HE2 := Lib.hid E2
          have HK3 := Lib.hid K3
          have cf := EF.cell
          have lf := EF.lt
          clear c1 l1 hB1 hB2 hK k3 E1 K3
          generalize w3.alloc (.cells #[.int .i64 fc, .int .i64 fs, .int .i64 fi, .int .i64 fe] 57) = W4 at *
          generalize w3.heap.size = g at *
          by_cases hfc : fc = 0
          · subst hfc
            clear E2
            go_wp2_with fail
            go_roundw
            case rel => exact ⟨k + 1, by go_num, hlt, HK3.out, HE1.out, HE2.out⟩
            case measure => simp [intOf]; omega
          · have hfb : (fc != 0) = true := by simpa using hfc
            have HFC := Lib.hid hfc
            clear hfc
            have c2 := E2.cell
            have l2 := E2.lt
            have f2 := E2.frozen
            go_wp2_with fail
            have BW := ((((HE2.out.set_ 0 (.int .i64 fc)).set_ 1 (.int .i64 fs)).set_ 2 (.int .i64 fi)).set_ 3 (.int .i64 fe))
            have KF : Kept w (((((W4).setCell ⟨w.heap.size + 1, 0, none⟩ (.int .i64 fc)).setCell ⟨w.heap.size + 1, 1, none⟩ (.int .i64 fs)).setCell ⟨w.heap.size + 1, 2, none⟩ (.int .i64 fi)).setCell ⟨w.heap.size + 1, 3, none⟩ (.int .i64 fe)) := by
              repeat refine Kept.setCell ?_ (by simp only; omega) _
              exact HK3.out
            generalize ((((W4).setCell ⟨w.heap.size + 1, 0, none⟩ (.int .i64 fc)).setCell ⟨w.heap.size + 1, 1, none⟩ (.int .i64 fs)).setCell ⟨w.heap.size + 1, 2, none⟩ (.int .i64 fi)).setCell ⟨w.heap.size + 1, 3, none⟩ (.int .i64 fe) = WW at *
            have bw := BW.cell
            exact bodyPost_ret (v := .agg #[.int .i64 fc, .int .i64 fs, .int .i64 fi, .int .i64 fe]) (by simp [results, Tryz.results14, go_sem, bw]) rfl ⟨_, _, _, _, rfl, KF, fun h => absurd h HFC.out⟩
        · obtain rfl : nT = k := by omega
          have hki : ¬ ((nT : Int) < nT) := by omega
          by_cases hbig : (4 : Int) < nS
          · have c2 := hB2.cell
            have l2 := hB2.lt
            have f2 := hB2.frozen
            go_wp2_with fail
            have BW := ((((hB2.set_ 0 (.int .i64 4)).set_ 1 (.int .i64 3)).set_ 2 (.int .i64 4)).set_ 3 (.int .i64 0))
            have KF : Kept w (((((wr).setCell ⟨w.heap.size + 1, 0, none⟩ (.int .i64 4)).setCell ⟨w.heap.size + 1, 1, none⟩ (.int .i64 3)).setCell ⟨w.heap.size + 1, 2, none⟩ (.int .i64 4)).setCell ⟨w.heap.size + 1, 3, none⟩ (.int .i64 0)) := by
              repeat refine Kept.setCell ?_ (by simp only; omega) _
              exact hK
            generalize ((((wr).setCell ⟨w.heap.size + 1, 0, none⟩ (.int .i64 4)).setCell ⟨w.heap.size + 1, 1, none⟩ (.int .i64 3)).setCell ⟨w.heap.size + 1, 2, none⟩ (.int .i64 4)).setCell ⟨w.heap.size + 1, 3, none⟩ (.int .i64 0) = WW at *
            have bw := BW.cell
            exact bodyPost_ret (v := .agg #[.int .i64 4, .int .i64 3, .int .i64 4, .int .i64 0]) (by simp [results, Tryz.results14, go_sem, bw]) rfl ⟨_, _, _, _, rfl, KF, fun h => absurd h (by decide)⟩
          have HK := Lib.hid hK
          have HB1 := Lib.hid hB1
          have HB2 := Lib.hid hB2
          clear hK hB1 hB2
          go_wp2_with fail
          clear c1 l1
          go_loopw [7] (fun z wr => ∃ (k : Nat), z = .int .i64 k ∧ k ≤ nS ∧ Kept w wr ∧ Blk wr w.heap.size 26 #[.slice AE nE cE, .slice AT nT cT, .slice AS nS cS] ∧ Blk wr (w.heap.size + 1) 57 #[.int .i64 0, .int .i64 0, .int .i64 0, .int .i64 0]) (fun z _ => nS - (intOf z).toNat)
          case atStart => exact ⟨0, rfl, Nat.zero_le _, HK.out, HB1.out, HB2.out⟩
          case round =>
            clear HK HB1 HB2
            obtain ⟨k, rfl, hkn, hK, hB1, hB2⟩ := hrel
            have c1 := hB1.cell
            have l1 := hB1.lt
            by_cases hlt : k < nS
            · have hki : (k : Int) < nS := by omega
              go_upto_region 23 with (go_at_call 33; refine (HSE.out k hlt _ hK).mono ?_; rintro e w3 ⟨fc, fs, fi, fe, rfl, k3, -⟩)
              have E1 := (hB1.kept k3).alloc (.cells #[.int .i64 fc, .int .i64 fs, .int .i64 fi, .int .i64 fe] 57)
              have E2 := (hB2.kept k3).alloc (.cells #[.int .i64 fc, .int .i64 fs, .int .i64 fi, .int .i64 fe] 57)
              have EF := Blk.new w3 57 #[.int .i64 fc, .int .i64 fs, .int .i64 fi, .int .i64 fe]
              have K3 := (hK.trans k3).alloc (.cells #[.int .i64 fc, .int .i64 fs, .int .i64 fi, .int .i64 fe] 57)
              have hg3 : w.heap.size + 1 < w3.heap.size := (hB2.kept k3).lt
              have HE1 := Lib.hid E1
              have HE2 := Lib.hid E2
              have HK3 := Lib.hid K3
              have cf := EF.cell
              have lf := EF.lt
              clear c1 l1 hB1 hB2 hK k3 E1 K3
              generalize w3.alloc (.cells #[.int .i64 fc, .int .i64 fs, .int .i64 fi, .int .i64 fe] 57) = W4 at *
              generalize w3.heap.size = g at *
              by_cases hfc : fc = 0
              · subst hfc
                clear E2
                go_wp2_with fail
                go_roundw
                case rel => exact ⟨k + 1, by go_num, hlt, HK3.out, HE1.out, HE2.out⟩
                case measure => simp [intOf]; omega
              · have hfb : (fc != 0) = true := by simpa using hfc
                have HFC := Lib.hid hfc
                clear hfc
                have c2 := E2.cell
                have l2 := E2.lt
                have f2 := E2.frozen
                go_wp2_with fail
                have BW := ((((HE2.out.set_ 0 (.int .i64 fc)).set_ 1 (.int .i64 fs)).set_ 2 (.int .i64 fi)).set_ 3 (.int .i64 fe))
                have KF : Kept w (((((W4).setCell ⟨w.heap.size + 1, 0, none⟩ (.int .i64 fc)).setCell ⟨w.heap.size + 1, 1, none⟩ (.int .i64 fs)).setCell ⟨w.heap.size + 1, 2, none⟩ (.int .i64 fi)).setCell ⟨w.heap.size + 1, 3, none⟩ (.int .i64 fe)) := by
                  repeat refine Kept.setCell ?_ (by simp only; omega) _
                  exact HK3.out
                generalize ((((W4).setCell ⟨w.heap.size + 1, 0, none⟩ (.int .i64 fc)).setCell ⟨w.heap.size + 1, 1, none⟩ (.int .i64 fs)).setCell ⟨w.heap.size + 1, 2, none⟩ (.int .i64 fi)).setCell ⟨w.heap.size + 1, 3, none⟩ (.int .i64 fe) = WW at *
                have bw := BW.cell
                exact bodyPost_ret (v := .agg #[.int .i64 fc, .int .i64 fs, .int .i64 fi, .int .i64 fe]) (by simp [results, Tryz.results14, go_sem, bw]) rfl ⟨_, _, _, _, rfl, KF, fun h => absurd h HFC.out⟩
            · obtain rfl : nS = k := by omega
              have hki : ¬ ((nS : Int) < nS) := by omega
              have c2 := hB2.cell
              have l2 := hB2.lt
              have f2 := hB2.frozen
              go_wp2_with fail
              have BW := ((((hB2.set_ 0 (.int .i64 0)).set_ 1 (.int .i64 0)).set_ 2 (.int .i64 0)).set_ 3 (.int .i64 0))
              have KF : Kept w (((((wr).setCell ⟨w.heap.size + 1, 0, none⟩ (.int .i64 0)).setCell ⟨w.heap.size + 1, 1, none⟩ (.int .i64 0)).setCell ⟨w.heap.size + 1, 2, none⟩ (.int .i64 0)).setCell ⟨w.heap.size + 1, 3, none⟩ (.int .i64 0)) := by
                repeat refine Kept.setCell ?_ (by simp only; omega) _
                exact hK
              generalize ((((wr).setCell ⟨w.heap.size + 1, 0, none⟩ (.int .i64 0)).setCell ⟨w.heap.size + 1, 1, none⟩ (.int .i64 0)).setCell ⟨w.heap.size + 1, 2, none⟩ (.int .i64 0)).setCell ⟨w.heap.size + 1, 3, none⟩ (.int .i64 0) = WW at *
              have bw := BW.cell
              exact bodyPost_ret (v := .agg #[.int .i64 0, .int .i64 0, .int .i64 0, .int .i64 0]) (by simp [results, Tryz.results14, go_sem, bw]) rfl ⟨_, _, _, _, rfl, KF, fun _ => HQ.out⟩

/-- of a valid law -/
def ValidP (ms : List (List ByteArray)) : Prop := ∀ l ∈ ms, GoodL l
set_option maxRecDepth 100000 in
set_option maxHeartbeats 4000000 in
theorem risValid_any (lv : Value) (ms : List (List ByteArray)) (nT nS : Nat) (w : World) (hL : LawV w lv ms nT nS) : Calls Tryz.prog 6 #[lv] w (SmallB (ValidP ms) w) := by
  have HV := Lib.hid (fun w1 (h : Kept w w1) => rlawError_any lv ms nT nS w1 (hL.kept h))
  unfold LeP at HV
  have HVP := Lib.hid (show (∀ l ∈ ms, GoodL l) → ValidP ms from fun h => h)
  obtain ⟨AE, cE, AT, cT, AS, cS, rfl, -, -, -, -⟩ := hL
  generalize ms.length = nE at *
  have K0 := Lib.hid ((Kept.refl w).alloc (.cells #[.slice AE nE cE, .slice AT nT cT, .slice AS nS cS] 26))
  go_enter Tryz.func6, Tryz.ntmps6
  go_upto_region 1 with fail
  have B := Blk.new w 26 #[.slice AE nE cE, .slice AT nT cT, .slice AS nS cS]
  have KK := K0.out
  generalize w.alloc (.cells #[.slice AE nE cE, .slice AT nT cT, .slice AS nS cS] 26) = W at *
  have c1 := B.cell
  have l1 := B.lt
  have hfd : ∀ (fc fs fi fe : Int) (w : World), (Instr.field 57 (.agg #[.int .i64 fc, .int .i64 fs, .int .i64 fi, .int .i64 fe]) 0).run Tryz.prog w = .ok (.int .i64 fc) w := fun _ _ _ _ _ => by kernel_rfl
  go_wp2_with (go_at_call 14; refine (HV.out _ KK).mono ?_; rintro e w3 ⟨fc, fs, fi, fe, rfl, k3, hgo⟩; have HGO := Lib.hid hgo; clear hgo)
  go_ret
  exact ⟨_, rfl, KK.trans k3, fun h => HVP.out (HGO.out (by simpa using h))⟩
end Go.Proofs.YtjeifmjcgemlgaaGreatDoor
