/- The type of an expression: TypeOf of the reference of chapter 10, exprError of the reference of package law. -/
import Derived.Test.YtjeifmjcgemlgaaGreatDoorRgK
import Derived.Test.YtjeifmjcgemlgaaGreatDoorRtF
import Derived.Deep.RegionLaw
import Derived.Deep.DeepCutAuto
import Derived.Test.YtjeifmjcgemlgaaGreatDoorRgA
namespace Go.Proofs.YtjeifmjcgemlgaaGreatDoor
open Go.RowKit

/-- a type, a place and a code -/
def TyC (w : World) (r : Ending) (w' : World) : Prop := ∃ (k e i c : Int), r = .returned (.tuple #[.agg #[.int .i64 k, .int .i64 e], .int .i64 i, .int .i64 c]) ∧ Kept w w'
theorem GathR.rowT {w : World} {B : Nat} {e : TypeId} {v : Value} {xs : List (Int × Int)} (h : GathR w B e tyF 2 v xs) : (v = .slice none 0 0 ∧ xs = []) ∨
    ∃ g cap, v = .slice (some ⟨g, 0, none⟩) xs.length cap ∧ xs.length ≤ cap ∧ cap ≤ maxLen ∧ B ≤ g ∧ g < w.heap.size ∧ ∀ (j : Nat) (x : Int × Int), xs[j]? = some x → w.cell? ⟨g, j * 2, none⟩ = some (.int .i64 x.1) ∧ w.cell? ⟨g, j * 2 + 1, none⟩ = some (.int .i64 x.2) := by
  obtain ⟨A, cap, hv, hc1, hc2⟩ := h.form
  obtain ⟨A', cap', hv', hx⟩ := h.recs tyF_len
  rcases h.2 with ⟨rfl, hn⟩ | ⟨g, cp, cur, rfl, hB, hg, hq⟩
  · exact .inl ⟨rfl, List.length_eq_zero_iff.1 hn⟩
  · refine .inr ⟨g, cp, rfl, ?_, ?_, hB, (Array.getElem?_eq_some_iff.1 hg).1, fun j x hj => ?_⟩
    · simp only [Value.slice.injEq] at hv; omega
    · simp only [Value.slice.injEq] at hv; omega
    · have hp : 0 < xs.length := by have := (List.getElem?_eq_some_iff.1 hj).1; omega
      obtain ⟨b, off, hA, hb, hc⟩ := hx hp
      simp only [Value.slice.injEq] at hv'
      rw [hA] at hv'
      simp only [Option.some.injEq, Addr.mk.injEq] at hv'
      obtain ⟨⟨rfl, rfl, -⟩, -, -⟩ := hv'
      have e0 := hc j x hj 0 _ rfl
      have e1 := hc j x hj 1 _ rfl
      rw [Nat.zero_add] at e0 e1
      exact ⟨e0, e1⟩
set_option maxRecDepth 100000 in
set_option maxHeartbeats 16000000 in
theorem rtypeOf_any (v : Value) (xs : List Nd) (sv : Value) (ms : List (List ByteArray)) (nT nI nD nM : Nat) (w : World) (hN : Nds w v xs) (hl : xs.length ≤ 8796093022208) (hnb : ∀ x ∈ xs, -9223372036854775808 ≤ x.n ∧ x.n ≤ 9223372036854775807) (hS : SigD w sv ms nT nI nD nM) :
    Calls Tryz.prog 95 #[v, sv] w (TyC w) := by
  have HST := Lib.hid (fun w1 (h : Kept w w1) => rstructure_any v xs w1 (hN.kept h) (by omega))
  unfold strPost at HST
  have HRS0 := Lib.hid (fun op N A n cap w1 (h : Kept w w1) hL hop h0 h9 => rresult_k op N A n cap sv ms nT nI nD nM w1 (hS.kept h) hL hop h0 h9)
  unfold TyI at HRS0
  have HAR := Lib.hid (fun op w1 => rarity_any op w1)
  obtain ⟨AE, ce, AT, cT, AI, cI, AD, cD, AM, cM, hm, rfl, -⟩ := id hS
  obtain ⟨A, cap, rfl, hA⟩ := hN.at_
  obtain ⟨n, hxn⟩ : ∃ n, n = xs.length := ⟨_, rfl⟩
  rw [← hxn] at hA hl HST ⊢
  have HX := Lib.hid hxn
  generalize hnE : ms.length = nE at *
  clear hnE
  have HNB := Lib.hid hnb
  have K0 := Lib.hid (((Kept.refl w).alloc (.cells #[.slice AE nE ce, .slice AT nT cT, .slice AI nI cI, .slice AD nD cD, .slice AM nM cM, .bool hm] 137)).alloc (.cells #[.int .i64 0, .int .i64 0] 47))
  obtain ⟨i0, hi, hz0, hz1, hz2⟩ := info_parts infoTyp
  have HH := Lib.hid (fun h => (strS_ht (e := xs) h))
  obtain ⟨sc, hsc⟩ : ∃ sc, (strS xs).2.2 = sc := ⟨_, rfl⟩
  obtain ⟨sa, hsa⟩ : ∃ sa, (strS xs).2.1 = sa := ⟨_, rfl⟩
  rw [hsc, hsa] at HST
  have HSC := Lib.hid hsc
  clear hsc hsa hS hN hxn hnb
  go_enter Tryz.func95, Tryz.ntmps95
  go_upto_region 1 with fail
  obtain ⟨B1, B2⟩ := (Kept.refl ((w.alloc (.cells #[.slice AE nE ce, .slice AT nT cT, .slice AI nI cI, .slice AD nD cD, .slice AM nM cM, .bool hm] 137)).alloc (.cells #[.int .i64 0, .int .i64 0] 47))).blk2
  have KK := K0.out
  generalize (w.alloc (.cells #[.slice AE nE ce, .slice AT nT cT, .slice AI nI cI, .slice AD nD cD, .slice AM nM cM, .bool hm] 137)).alloc (.cells #[.int .i64 0, .int .i64 0] 47) = W at *
  go_upto_region 2 with (go_at_call 109; refine (HST.out _ KK).mono ?_; rintro e w1 ⟨u, rfl, -, k1⟩)
  have C1 := B1.kept k1
  have C2 := B2.kept k1
  have K1 := KK.trans k1
  clear B1 B2 KK k1
  by_cases h0 : sc = 0
  · subst h0
    obtain ⟨hp, h48, hht⟩ := HH.out HSC.out
    rw [← HX.out] at hp h48
    have HC1 := Lib.hid C1
    have HC2 := Lib.hid C2
    have HK1 := Lib.hid K1
    have HHT := Lib.hid hht
    clear C1 C2 K1 hht
    go_wp2_with fail
    go_loopw [10, 11] (fun z y wr => ∃ (i : Nat) (ts : List (Int × Int)), y = .int .i64 i ∧ i ≤ n ∧ HtOK (xs.drop i) ts.length ∧ Kept w wr ∧ Blk wr w.heap.size 137 #[.slice AE nE ce, .slice AT nT cT, .slice AI nI cI, .slice AD nD cD, .slice AM nM cM, .bool hm] ∧ Blk wr (w.heap.size + 1) 47 #[.int .i64 0, .int .i64 0] ∧ GathR wr (w.heap.size + 2) 47 tyF 2 z ts ∧ ts.length ≤ i) (fun _ y _ => n - (intOf y).toNat)
    case atStart => exact ⟨0, [], rfl, Nat.zero_le _, HHT.out, HK1.out, HC1.out, HC2.out, GathR.nil _ _ _, Nat.le_refl _⟩
    case round =>
      obtain ⟨i, ts, rfl, hin, hht, hK, hC1, hC2, hO, htl⟩ := hrel
      clear HC1 HC2 HK1 HHT
      by_cases hlt : i < n
      · obtain ⟨b1, o1, rfl, hb1, hcc⟩ := hA (by omega)
        have hg : xs[i]? = some (xs[i]'(by have := HX.out; omega)) := List.getElem?_eq_getElem _
        obtain ⟨a, har, hah, hmx12, hnx⟩ := hht.at_ hg
        obtain ⟨x0, x1⟩ := hcc i _ hg
        have hnn := HNB.out _ (List.mem_of_getElem? hg)
        generalize xs[i]'(by have := HX.out; omega) = X at *
        obtain ⟨op, N⟩ := X
        dsimp only at x0 x1 har hnn
        obtain ⟨m, hm1⟩ : ∃ m, ts.length = m + a := ⟨ts.length - a, by omega⟩
        have hAR1 := Lib.hid (fun w1 => (by have := HAR.out op w1; rwa [har] at this : Calls Tryz.prog 110 #[.int .i64 op] w1 fun e w' => e = .returned (.int .i64 (a : Int)) ∧ w1 = w'))
        have HRS := Lib.hid (fun A2 n2 c2 w1 (h : Kept w w1) (hL : SlZ w1 2 TyP (.slice A2 n2 c2)) => fun (hn2 : n2 = a) => HRS0.out op N A2 n2 c2 w1 h hL (by rw [hn2]; exact har) hnn.1 hnn.2)
        have HARR := Lib.hid har
        have X0 := hK.cell (p := ⟨b1, _, none⟩) hb1 x0
        have X1 := hK.cell (p := ⟨b1, _, none⟩) hb1 x1
        have hii : (i : Int) < n := by omega
        have hb1w := Nat.lt_of_lt_of_le hb1 hK.size
        have HK := Lib.hid hK
        have HCA := Lib.hid hC1
        have HCB := Lib.hid hC2
        have HO := Lib.hid hO
        have HNX := Lib.hid hnx
        have HML := Lib.hid hm1
        have hrow := hO.rowT
        obtain ⟨A2, co, hz, hco1, hco2⟩ := hO.form
        have hm11 : m ≤ 11 := by omega
        have ha3 : a ≤ 3 := by have := (arS_bd op).2; omega
        rw [show ts.length - a + 1 = m + 1 by omega] at hnx
        rw [hm1] at hz hco1
        subst hz
        have hmi : m ≤ i := by omega
        have HNX := Lib.hid hnx
        have HO := Lib.hid hO
        have HROW := Lib.hid hrow
        have HML := Lib.hid hm1
        have hwp : IntKind.i64.wrap (m : Int) = m := by rw [IntKind.wrap_i64]; omega
        have hsi : (m : Int) ≤ co := by omega
        have hmm : (m : Int) ≤ m + a := by omega
        have bc := hC1.cell
        have bl := hC1.lt
        clear hcc hg hnx x0 x1 har hht hnn HAR HRS0 HH HST hA hK hO hrow hm1 hmx12
        go_upto_region 9 with (go_at_call 110; refine (hAR1.out _).mono ?_; rintro e w' ⟨rfl, rfl⟩)
        go_cut [13, 14] (fun p c wx => ∃ (gt : Nat) (tk te tc : Int), p = .pointer (some ⟨gt, 0, none⟩) ∧ c = .int .i64 tc ∧ Kept wr wx ∧ wr.heap.size ≤ gt ∧ Blk wx gt 47 #[.int .i64 tk, .int .i64 te])
        case first =>
          have HALL := Lib.hid (show ∀ X, Kept wr X → (Kept wr X ∧ X.cell? ⟨w.heap.size, 0, none⟩ = some (.slice AE nE ce) ∧ X.cell? ⟨w.heap.size, 1, none⟩ = some (.slice AT nT cT) ∧ X.cell? ⟨w.heap.size, 2, none⟩ = some (.slice AI nI cI) ∧ X.cell? ⟨w.heap.size, 3, none⟩ = some (.slice AD nD cD) ∧ X.cell? ⟨w.heap.size, 4, none⟩ = some (.slice AM nM cM) ∧ X.cell? ⟨w.heap.size, 5, none⟩ = some (.bool hm) ∧ X.cell? ⟨b1, o1 + i * 2, none⟩ = some (.int .i64 op) ∧ X.cell? ⟨b1, o1 + i * 2 + 1, none⟩ = some (.int .i64 N)) from fun X h => ⟨h, (hC1.kept h).cell 0, (hC1.kept h).cell 1, (hC1.kept h).cell 2, (hC1.kept h).cell 3, (hC1.kept h).cell 4, (hC1.kept h).cell 5, h.cell (p := ⟨b1, _, none⟩) hb1w X0, h.cell (p := ⟨b1, _, none⟩) hb1w X1⟩)
          obtain ⟨-, z0, z1, z2, z3, z4, z5, -, -⟩ := HALL.out wr (Kept.refl _)
          clear hC1 hC2 bc bl
          rcases HROW.out with ⟨hz, ht⟩ | ⟨g, cp, hz, hcp1, hcp2, hB, hgl, hgc⟩
          · simp only [Value.slice.injEq] at hz
            obtain ⟨rfl, hma, rfl⟩ := hz
            obtain rfl : m = 0 := by omega
            obtain rfl : a = 0 := by omega
            clear hma ht hsi hmm
            have HSL := Lib.hid (fun X (h : Kept wr X) => slZ_none X 2 TyP)
            go_region_held3 (fun X => Kept wr X ∧ X.cell? ⟨w.heap.size, 0, none⟩ = some (.slice AE nE ce) ∧ X.cell? ⟨w.heap.size, 1, none⟩ = some (.slice AT nT cT) ∧ X.cell? ⟨w.heap.size, 2, none⟩ = some (.slice AI nI cI) ∧ X.cell? ⟨w.heap.size, 3, none⟩ = some (.slice AD nD cD) ∧ X.cell? ⟨w.heap.size, 4, none⟩ = some (.slice AM nM cM) ∧ X.cell? ⟨w.heap.size, 5, none⟩ = some (.bool hm) ∧ X.cell? ⟨b1, o1 + i * 2, none⟩ = some (.int .i64 op) ∧ X.cell? ⟨b1, o1 + i * 2 + 1, none⟩ = some (.int .i64 N))
              ((refine HALL.out _ ?_; (repeat (first | with_reducible exact Kept.refl _ | with_reducible assumption | with_reducible refine Kept.drew ?_ | with_reducible refine Kept.alloc ?_ _ | with_reducible refine Kept.setCell ?_ (by simp only; omega) _ | with_reducible refine Kept.trans ?_ ‹Kept _ _›))))
              ((go_at_call 111; refine (HRS.out none 0 0 _ ?_ ?_ rfl).mono ?_; (· refine Kept.trans HK.out ?_; (repeat (first | with_reducible exact Kept.refl _ | with_reducible assumption | with_reducible refine Kept.drew ?_ | with_reducible refine Kept.alloc ?_ _ | with_reducible refine Kept.setCell ?_ (by simp only; omega) _ | with_reducible refine Kept.trans ?_ ‹Kept _ _›))); (· refine HSL.out _ ?_; (repeat (first | with_reducible exact Kept.refl _ | with_reducible assumption | with_reducible refine Kept.drew ?_ | with_reducible refine Kept.alloc ?_ _ | with_reducible refine Kept.setCell ?_ (by simp only; omega) _ | with_reducible refine Kept.trans ?_ ‹Kept _ _›))); rintro e w5 ⟨tk, te, tc, rfl, k5⟩; have KV5 : Kept wr w5 := (by (repeat (first | with_reducible exact Kept.refl _ | with_reducible assumption | with_reducible refine Kept.drew ?_ | with_reducible refine Kept.alloc ?_ _ | with_reducible refine Kept.setCell ?_ (by simp only; omega) _ | with_reducible refine Kept.trans ?_ ‹Kept _ _›))); have s5 := KV5.size; (try (have M5 := (Blk.drew (Blk.new _ 47 #[.int .i64 0, .int .i64 0])).kept k5; have m5c := M5.cell; have m5l := M5.lt; have m5f := M5.frozen)); (try (have M5 := (Blk.new _ 47 #[.int .i64 0, .int .i64 0]).kept k5; have m5c := M5.cell; have m5l := M5.lt; have m5f := M5.frozen))))
            · rename_i hHeld
              clear hHeld
              go_wp2_with fail
              go_meet
              exact ⟨w5.heap.size, tk, te, tc, rfl, rfl, KV5.alloc _, s5, Blk.new _ _ _⟩
            · rename_i hHeld
              clear hHeld
              go_wp2_with fail
              go_meet
              refine ⟨wr.heap.size, tk, te, tc, rfl, rfl, ?_, Nat.le_refl _, ?_⟩
              · repeat refine Kept.setCell ?_ (by simp only; omega) _
                exact KV5
              · exact (M5.set_ 0 (.int .i64 tk)).set_ 1 (.int .i64 te)
          · simp only [Value.slice.injEq] at hz
            obtain ⟨rfl, -, rfl⟩ := hz
            by_cases hmc : m = co
            · obtain rfl : a = 0 := by omega
              subst hmc
              have HSL := Lib.hid (fun X (h : Kept wr X) => (⟨_, _, _, rfl, by omega, by omega, fun h => absurd h (by omega)⟩ : SlZ X 2 TyP (.slice (some ⟨g, 0, none⟩) 0 0)))
              clear hgc hcp1 hcp2 hco1
              go_region_held3 (fun X => Kept wr X ∧ X.cell? ⟨w.heap.size, 0, none⟩ = some (.slice AE nE ce) ∧ X.cell? ⟨w.heap.size, 1, none⟩ = some (.slice AT nT cT) ∧ X.cell? ⟨w.heap.size, 2, none⟩ = some (.slice AI nI cI) ∧ X.cell? ⟨w.heap.size, 3, none⟩ = some (.slice AD nD cD) ∧ X.cell? ⟨w.heap.size, 4, none⟩ = some (.slice AM nM cM) ∧ X.cell? ⟨w.heap.size, 5, none⟩ = some (.bool hm) ∧ X.cell? ⟨b1, o1 + i * 2, none⟩ = some (.int .i64 op) ∧ X.cell? ⟨b1, o1 + i * 2 + 1, none⟩ = some (.int .i64 N))
                ((refine HALL.out _ ?_; (repeat (first | with_reducible exact Kept.refl _ | with_reducible assumption | with_reducible refine Kept.drew ?_ | with_reducible refine Kept.alloc ?_ _ | with_reducible refine Kept.setCell ?_ (by simp only; omega) _ | with_reducible refine Kept.trans ?_ ‹Kept _ _›))))
                ((go_at_call 111; refine (HRS.out (some ⟨g, 0, none⟩) 0 0 _ ?_ ?_ rfl).mono ?_; (· refine Kept.trans HK.out ?_; (repeat (first | with_reducible exact Kept.refl _ | with_reducible assumption | with_reducible refine Kept.drew ?_ | with_reducible refine Kept.alloc ?_ _ | with_reducible refine Kept.setCell ?_ (by simp only; omega) _ | with_reducible refine Kept.trans ?_ ‹Kept _ _›))); (· refine HSL.out _ ?_; (repeat (first | with_reducible exact Kept.refl _ | with_reducible assumption | with_reducible refine Kept.drew ?_ | with_reducible refine Kept.alloc ?_ _ | with_reducible refine Kept.setCell ?_ (by simp only; omega) _ | with_reducible refine Kept.trans ?_ ‹Kept _ _›))); rintro e w5 ⟨tk, te, tc, rfl, k5⟩; have KV5 : Kept wr w5 := (by (repeat (first | with_reducible exact Kept.refl _ | with_reducible assumption | with_reducible refine Kept.drew ?_ | with_reducible refine Kept.alloc ?_ _ | with_reducible refine Kept.setCell ?_ (by simp only; omega) _ | with_reducible refine Kept.trans ?_ ‹Kept _ _›))); have s5 := KV5.size; (try (have M5 := (Blk.drew (Blk.new _ 47 #[.int .i64 0, .int .i64 0])).kept k5; have m5c := M5.cell; have m5l := M5.lt; have m5f := M5.frozen)); (try (have M5 := (Blk.new _ 47 #[.int .i64 0, .int .i64 0]).kept k5; have m5c := M5.cell; have m5l := M5.lt; have m5f := M5.frozen))))
              · rename_i hHeld
                clear hHeld
                go_wp2_with fail
                go_meet
                exact ⟨w5.heap.size, tk, te, tc, rfl, rfl, KV5.alloc _, s5, Blk.new _ _ _⟩
              · rename_i hHeld
                clear hHeld
                go_wp2_with fail
                go_meet
                refine ⟨wr.heap.size, tk, te, tc, rfl, rfl, ?_, Nat.le_refl _, ?_⟩
                · repeat refine Kept.setCell ?_ (by simp only; omega) _
                  exact KV5
                · exact (M5.set_ 0 (.int .i64 tk)).set_ 1 (.int .i64 te)
            · have HSL := Lib.hid (show ∀ X, Kept wr X → SlZ X 2 TyP (.slice (some ⟨g, m * 2, none⟩) a (co - m)) from fun X h => ⟨_, _, _, rfl, by omega, by omega, fun hp => ⟨g, m * 2, rfl, Nat.lt_of_lt_of_le hgl h.size, fun j hj => by
                have hgx : ts[m + j]? = some (ts[m + j]'(by have := HML.out; omega)) := List.getElem?_eq_getElem _
                obtain ⟨e0, e1⟩ := hgc (m + j) _ hgx
                have e0' := h.cell (p := ⟨g, _, none⟩) hgl e0
                have e1' := h.cell (p := ⟨g, _, none⟩) hgl e1
                rw [Nat.add_mul] at e0' e1'
                exact ⟨⟨_, e0'⟩, ⟨_, e1'⟩⟩⟩⟩)
              have hmc2 : m < co := by omega
              have hcm : ¬ (co = m) := by omega
              clear hgc hcp1 hcp2
              go_region_held3 (fun X => Kept wr X ∧ X.cell? ⟨w.heap.size, 0, none⟩ = some (.slice AE nE ce) ∧ X.cell? ⟨w.heap.size, 1, none⟩ = some (.slice AT nT cT) ∧ X.cell? ⟨w.heap.size, 2, none⟩ = some (.slice AI nI cI) ∧ X.cell? ⟨w.heap.size, 3, none⟩ = some (.slice AD nD cD) ∧ X.cell? ⟨w.heap.size, 4, none⟩ = some (.slice AM nM cM) ∧ X.cell? ⟨w.heap.size, 5, none⟩ = some (.bool hm) ∧ X.cell? ⟨b1, o1 + i * 2, none⟩ = some (.int .i64 op) ∧ X.cell? ⟨b1, o1 + i * 2 + 1, none⟩ = some (.int .i64 N))
                ((refine HALL.out _ ?_; (repeat (first | with_reducible exact Kept.refl _ | with_reducible assumption | with_reducible refine Kept.drew ?_ | with_reducible refine Kept.alloc ?_ _ | with_reducible refine Kept.setCell ?_ (by simp only; omega) _ | with_reducible refine Kept.trans ?_ ‹Kept _ _›))))
                ((go_at_call 111; refine (HRS.out (some ⟨g, m * 2, none⟩) a (co - m) _ ?_ ?_ rfl).mono ?_; (· refine Kept.trans HK.out ?_; (repeat (first | with_reducible exact Kept.refl _ | with_reducible assumption | with_reducible refine Kept.drew ?_ | with_reducible refine Kept.alloc ?_ _ | with_reducible refine Kept.setCell ?_ (by simp only; omega) _ | with_reducible refine Kept.trans ?_ ‹Kept _ _›))); (· refine HSL.out _ ?_; (repeat (first | with_reducible exact Kept.refl _ | with_reducible assumption | with_reducible refine Kept.drew ?_ | with_reducible refine Kept.alloc ?_ _ | with_reducible refine Kept.setCell ?_ (by simp only; omega) _ | with_reducible refine Kept.trans ?_ ‹Kept _ _›))); rintro e w5 ⟨tk, te, tc, rfl, k5⟩; have KV5 : Kept wr w5 := (by (repeat (first | with_reducible exact Kept.refl _ | with_reducible assumption | with_reducible refine Kept.drew ?_ | with_reducible refine Kept.alloc ?_ _ | with_reducible refine Kept.setCell ?_ (by simp only; omega) _ | with_reducible refine Kept.trans ?_ ‹Kept _ _›))); have s5 := KV5.size; (try (have M5 := (Blk.drew (Blk.new _ 47 #[.int .i64 0, .int .i64 0])).kept k5; have m5c := M5.cell; have m5l := M5.lt; have m5f := M5.frozen)); (try (have M5 := (Blk.new _ 47 #[.int .i64 0, .int .i64 0]).kept k5; have m5c := M5.cell; have m5l := M5.lt; have m5f := M5.frozen))))
              · rename_i hHeld
                clear hHeld
                go_wp2_with fail
                go_meet
                exact ⟨w5.heap.size, tk, te, tc, rfl, rfl, KV5.alloc _, s5, Blk.new _ _ _⟩
              · rename_i hHeld
                clear hHeld
                go_wp2_with fail
                go_meet
                refine ⟨wr.heap.size, tk, te, tc, rfl, rfl, ?_, Nat.le_refl _, ?_⟩
                · repeat refine Kept.setCell ?_ (by simp only; omega) _
                  exact KV5
                · exact (M5.set_ 0 (.int .i64 tk)).set_ 1 (.int .i64 te)
        case rest =>
          obtain ⟨gt, tk, te, tc, rfl, rfl, kc, hgt, BT⟩ := hcut
          have C1 := hC1.kept kc
          have C2 := hC2.kept kc
          have KC := HK.out.trans kc
          have hgs : w.heap.size + 1 < wr.heap.size := hC2.lt
          by_cases htc : tc = 0
          · subst htc
            have bt := BT.cell
            have btl := BT.lt
            have HT := (HO.out.keptOwn kc).take tyF_len (show m ≤ m + a by omega)
            have hlm : (ts.take m).length = m := by rw [List.length_take, HML.out]; omega
            have HLM := Lib.hid hlm
            have HNEWS := Lib.hid (ty_new (W := wc.drew) (k := tk) (e := te) (t := 47))
            have HONE := Lib.hid (tyF_one (tk, te))
            have HOW : Hid ((wc.drew.alloc (.cells #[.int .i64 tk, .int .i64 te] 47)).ownsRow (w.heap.size + 2) 47 2 (.slice A2 m co) m ((ts.take m).flatMap tyF)) := Lib.hid (by
              have h := GathR.alloc (w := wc.drew) HT (.cells #[.int .i64 tk, .int .i64 te] 47)
              unfold GathR at h
              rwa [hlm] at h)
            have hgw := KC.size
            have hcs : wr.heap.size ≤ wc.heap.size := kc.size
            have HBS : Hid (w.heap.size + 2 ≤ (wc.drew.alloc (.cells #[.int .i64 tk, .int .i64 te] 47)).heap.size) := Lib.hid (by simp; omega)
            have hmx : m + 1 ≤ maxLen := by unfold maxLen; omega
            have HT2 := Lib.hid HT
            have HKC := Lib.hid KC
            have HC1c := Lib.hid C1
            have HC2c := Lib.hid C2
            clear hlm HT KC C1 C2 hC1 hC2 bc bl kc BT
            go_upto_region 12 with fail
            go_region_law (first | (refine step_append_lies _ rfl (.tmp 60) (.tmp 62) 135 rfl (w.heap.size + 2) 47 i0 (.agg #[.int .i64 0, .int .i64 0]) 2 16 Tryz.underlying135 hi hz0 hz1 hz2 rfl (by decide) _ m ((ts.take m).flatMap tyF) (by simp [Act.eval]) HOW.out ⟨wc.drew.heap.size, 0, none⟩ 1 1 (tyF (tk, te)) (by simp [Act.eval]) rfl HNEWS.out HONE.out (by decide) hmx (by omega) HBS.out _ rfl ?_; intro g' cap' w2 hown' hgrow _ _))
            all_goals
              have hg2 : (wc.drew.alloc (.cells #[.int .i64 tk, .int .i64 te] 47)).grownBy w2 (Value.slice A2 m co).ownBlock := hgrow
              clear hgrow
              have HG2 := Lib.hid hg2
              have HOWN := Lib.hid hown'
              clear hg2 hown'
              go_wp2_with fail
              go_roundw
              case rel => exact ⟨i + 1, ts.take m ++ [(tk, te)], by go_num, hlt, by rw [List.length_append, HLM.out]; exact HNX.out, ownGrown_kept (HKC.out.drewN 1) HT2.out (by omega) HG2.out, (ownGrown_block (wr := wc.drew) HT2.out HG2.out HC1c.out.lt (by omega)).trans HC1c.out, (ownGrown_block (wr := wc.drew) HT2.out HG2.out HC2c.out.lt (by omega)).trans HC2c.out, GathR.snoc (by rw [HLM.out]; exact HOWN.out), by rw [List.length_append, HLM.out]; simp; omega⟩
              case measure => simp [intOf]; omega
          · have htn : (tc != 0) = true := by simpa using htc
            have c2 := C2.cell
            have l2 := C2.lt
            have f2 := C2.frozen
            clear hC1 hC2 bc bl BT C1
            go_wp2_with fail
            have BW := (C2.set_ 0 (.int .i64 0)).set_ 1 (.int .i64 0)
            have KF : Kept w ((wc.setCell ⟨w.heap.size + 1, 0, none⟩ (.int .i64 0)).setCell ⟨w.heap.size + 1, 1, none⟩ (.int .i64 0)) := by
              repeat refine Kept.setCell ?_ (by simp only; omega) _
              exact KC
            generalize (wc.setCell ⟨w.heap.size + 1, 0, none⟩ (.int .i64 0)).setCell ⟨w.heap.size + 1, 1, none⟩ (.int .i64 0) = WW at *
            have bw := BW.cell
            exact bodyPost_ret (v := .tuple #[.agg #[.int .i64 0, .int .i64 0], .int .i64 i, .int .i64 tc]) (by simp [results, Tryz.results95, go_sem, bw]) rfl ⟨_, _, _, _, rfl, KF⟩
      · obtain rfl : n = i := by omega
        have hii : ¬ ((n : Int) < n) := by omega
        have h1 := hht.end_ (by have := HX.out; omega)
        have hgx : ts[0]? = some (ts[0]'(by omega)) := List.getElem?_eq_getElem _
        rcases hO.rowT with ⟨-, ht⟩ | ⟨g, cp, rfl, hcp1, hcp2, hB, hgl, hgc⟩
        · subst ht
          exact absurd h1 (by simp)
        obtain ⟨e0, e1⟩ := hgc 0 _ hgx
        generalize ts[0]'(by omega) = T at *
        obtain ⟨tk, te⟩ := T
        dsimp only at e0 e1
        rw [h1]
        have c2 := hC2.cell
        have l2 := hC2.lt
        have f2 := hC2.frozen
        have hgs : w.heap.size + 1 < wr.heap.size := hC2.lt
        rw [Nat.zero_mul] at e0 e1
        clear hgc hgx hA hht hC1 hO HAR HRS0 HH HST
        go_wp2_with fail
        have BW := (hC2.set_ 0 (.int .i64 tk)).set_ 1 (.int .i64 te)
        have KF : Kept w ((wr.setCell ⟨w.heap.size + 1, 0, none⟩ (.int .i64 tk)).setCell ⟨w.heap.size + 1, 1, none⟩ (.int .i64 te)) := by
          repeat refine Kept.setCell ?_ (by simp only; omega) _
          exact hK
        generalize (wr.setCell ⟨w.heap.size + 1, 0, none⟩ (.int .i64 tk)).setCell ⟨w.heap.size + 1, 1, none⟩ (.int .i64 te) = WW at *
        have bw := BW.cell
        exact bodyPost_ret (v := .tuple #[.agg #[.int .i64 tk, .int .i64 te], .int .i64 0, .int .i64 0]) (by simp [results, Tryz.results95, go_sem, bw]) rfl ⟨_, _, _, _, rfl, KF⟩
  · have htn : (sc != 0) = true := by simpa using h0
    have c2 := C2.cell
    have l2 := C2.lt
    have f2 := C2.frozen
    clear h0 HH C1
    go_wp2_with fail
    have BW := (C2.set_ 0 (.int .i64 0)).set_ 1 (.int .i64 0)
    have KF : Kept w ((w1.setCell ⟨w.heap.size + 1, 0, none⟩ (.int .i64 0)).setCell ⟨w.heap.size + 1, 1, none⟩ (.int .i64 0)) := by
      repeat refine Kept.setCell ?_ (by simp only; omega) _
      exact K1
    generalize (w1.setCell ⟨w.heap.size + 1, 0, none⟩ (.int .i64 0)).setCell ⟨w.heap.size + 1, 1, none⟩ (.int .i64 0) = WW at *
    have bw := BW.cell
    exact bodyPost_ret (v := .tuple #[.agg #[.int .i64 0, .int .i64 0], .int .i64 sa, .int .i64 sc]) (by simp [results, Tryz.results95, go_sem, bw]) rfl ⟨_, _, _, _, rfl, KF⟩
end Go.Proofs.YtjeifmjcgemlgaaGreatDoor
/- The reference of package table: Validate ends with a place and a code. -/
namespace Go.Proofs.YtjeifmjcgemlgaaGreatDoor
open Go.RowKit

/-- a range and a bool -/
def RgB (w : World) (r : Ending) (w' : World) : Prop := ∃ (a b : Int) (c : Bool), r = .returned (.tuple #[.agg #[.int .i64 a, .int .i64 b], .bool c]) ∧ Kept w w'
set_option maxRecDepth 100000 in
set_option maxHeartbeats 4000000 in
theorem rintersect_k (a b c d : Int) (w : World) : Calls Tryz.prog 93 #[.agg #[.int .i64 a, .int .i64 b], .agg #[.int .i64 c, .int .i64 d]] w (RgB w) := by
  have HV := Lib.hid (fun a b w1 => rvalid05_k a b w1)
  unfold BoolK at HV
  have K0 := Lib.hid ((((Kept.refl w).alloc (.cells #[.int .i64 a, .int .i64 b] 90)).alloc (.cells #[.int .i64 c, .int .i64 d] 90)).alloc (.cells #[.int .i64 0, .int .i64 0] 90))
  go_enter Tryz.func93, Tryz.ntmps93
  go_upto_region 1 with fail
  obtain ⟨B1, B2, B3⟩ := (Kept.refl (((w.alloc (.cells #[.int .i64 a, .int .i64 b] 90)).alloc (.cells #[.int .i64 c, .int .i64 d] 90)).alloc (.cells #[.int .i64 0, .int .i64 0] 90))).blk3
  have KK := K0.out
  generalize ((w.alloc (.cells #[.int .i64 a, .int .i64 b] 90)).alloc (.cells #[.int .i64 c, .int .i64 d] 90)).alloc (.cells #[.int .i64 0, .int .i64 0] 90) = W at *
  have c1 := B1.cell
  have c2 := B2.cell
  have c3 := B3.cell
  have l1 := B1.lt
  have l2 := B2.lt
  have l3 := B3.lt
  have f3 := B3.frozen
  go_wp2_with (first
    | (go_at_call_of 71 (Value.int IntKind.i64 a); refine (HV.out a b _).mono ?_; rintro e w1 ⟨x1, rfl, k1⟩; have C1 := B1.kept k1; have C2 := B2.kept k1; have C3 := B3.kept k1; have c1z := C1.cell; have c2z := C2.cell; have c3z := C3.cell; have l1z := C1.lt; have l2z := C2.lt; have l3z := C3.lt; have f3z := C3.frozen; have K1 := KK.trans k1; cases x1)
    | (go_at_call_of 71 (Value.int IntKind.i64 c); refine (HV.out c d _).mono ?_; rintro e w2 ⟨x2, rfl, k2⟩; have D1 := C1.kept k2; have D2 := C2.kept k2; have D3 := C3.kept k2; have d1z := D1.cell; have d2z := D2.cell; have d3z := D3.cell; have m1z := D1.lt; have m2z := D2.lt; have m3z := D3.lt; have g3z := D3.frozen; have K2 := K1.trans k2; cases x2))
  · have BW := (C3.set_ 0 (.int .i64 0)).set_ 1 (.int .i64 0)
    have KF : Kept w ((w1.setCell ⟨w.heap.size + 1 + 1, 0, none⟩ (.int .i64 0)).setCell ⟨w.heap.size + 1 + 1, 1, none⟩ (.int .i64 0)) := by
      repeat refine Kept.setCell ?_ (by simp only; omega) _
      exact K1
    generalize (w1.setCell ⟨w.heap.size + 1 + 1, 0, none⟩ (.int .i64 0)).setCell ⟨w.heap.size + 1 + 1, 1, none⟩ (.int .i64 0) = WW at *
    have bw := BW.cell
    exact bodyPost_ret (v := .tuple #[.agg #[.int .i64 0, .int .i64 0], .bool false]) (by simp [results, Tryz.results93, go_sem, bw]) rfl ⟨_, _, _, rfl, KF⟩
  · have BW := (D3.set_ 0 (.int .i64 0)).set_ 1 (.int .i64 0)
    have KF : Kept w ((w2.setCell ⟨w.heap.size + 1 + 1, 0, none⟩ (.int .i64 0)).setCell ⟨w.heap.size + 1 + 1, 1, none⟩ (.int .i64 0)) := by
      repeat refine Kept.setCell ?_ (by simp only; omega) _
      exact K2
    generalize (w2.setCell ⟨w.heap.size + 1 + 1, 0, none⟩ (.int .i64 0)).setCell ⟨w.heap.size + 1 + 1, 1, none⟩ (.int .i64 0) = WW at *
    have bw := BW.cell
    exact bodyPost_ret (v := .tuple #[.agg #[.int .i64 0, .int .i64 0], .bool false]) (by simp [results, Tryz.results93, go_sem, bw]) rfl ⟨_, _, _, rfl, KF⟩
  · have BW := ((D3.set_ 0 (.int .i64 0)).set_ 1 (.int .i64 0)).alloc (.cells #[.int .i64 (max a c), .int .i64 (min b d)] 90)
    have KF : Kept w (((w2.setCell ⟨w.heap.size + 1 + 1, 0, none⟩ (.int .i64 0)).setCell ⟨w.heap.size + 1 + 1, 1, none⟩ (.int .i64 0)).alloc (.cells #[.int .i64 (max a c), .int .i64 (min b d)] 90)) := by
      refine Kept.alloc ?_ _
      repeat refine Kept.setCell ?_ (by simp only; omega) _
      exact K2
    generalize ((w2.setCell ⟨w.heap.size + 1 + 1, 0, none⟩ (.int .i64 0)).setCell ⟨w.heap.size + 1 + 1, 1, none⟩ (.int .i64 0)).alloc (.cells #[.int .i64 (max a c), .int .i64 (min b d)] 90) = WW at *
    have bw := BW.cell
    exact bodyPost_ret (v := .tuple #[.agg #[.int .i64 0, .int .i64 0], .bool false]) (by simp [results, Tryz.results93, go_sem, bw]) rfl ⟨_, _, _, rfl, KF⟩
  · have BW := ((D3.set_ 0 (.int .i64 (max a c))).set_ 1 (.int .i64 (min b d))).alloc (.cells #[.int .i64 (max a c), .int .i64 (min b d)] 90)
    have KF : Kept w (((w2.setCell ⟨w.heap.size + 1 + 1, 0, none⟩ (.int .i64 (max a c))).setCell ⟨w.heap.size + 1 + 1, 1, none⟩ (.int .i64 (min b d))).alloc (.cells #[.int .i64 (max a c), .int .i64 (min b d)] 90)) := by
      refine Kept.alloc ?_ _
      repeat refine Kept.setCell ?_ (by simp only; omega) _
      exact K2
    generalize ((w2.setCell ⟨w.heap.size + 1 + 1, 0, none⟩ (.int .i64 (max a c))).setCell ⟨w.heap.size + 1 + 1, 1, none⟩ (.int .i64 (min b d))).alloc (.cells #[.int .i64 (max a c), .int .i64 (min b d)] 90) = WW at *
    have bw := BW.cell
    exact bodyPost_ret (v := .tuple #[.agg #[.int .i64 (max a c), .int .i64 (min b d)], .bool true]) (by simp [results, Tryz.results93, go_sem, bw]) rfl ⟨_, _, _, rfl, KF⟩
set_option maxRecDepth 100000 in
set_option maxHeartbeats 4000000 in
theorem rconflict_k (a b lo hi n a2 b2 lo2 hi2 n2 : Int) (w : World) : Calls Tryz.prog 69 #[.agg #[.int .i64 a, .int .i64 b, .int .i64 lo, .int .i64 hi, .int .i64 n], .agg #[.int .i64 a2, .int .i64 b2, .int .i64 lo2, .int .i64 hi2, .int .i64 n2]] w (BoolK w) := by
  have HI := Lib.hid (fun w1 => rintersect_k a b a2 b2 w1)
  unfold RgB at HI
  have K0 := Lib.hid (((Kept.refl w).alloc (.cells #[.int .i64 a, .int .i64 b, .int .i64 lo, .int .i64 hi, .int .i64 n] 131)).alloc (.cells #[.int .i64 a2, .int .i64 b2, .int .i64 lo2, .int .i64 hi2, .int .i64 n2] 131))
  go_enter Tryz.func69, Tryz.ntmps69
  go_upto_region 1 with fail
  obtain ⟨B1, B2⟩ := (Kept.refl ((w.alloc (.cells #[.int .i64 a, .int .i64 b, .int .i64 lo, .int .i64 hi, .int .i64 n] 131)).alloc (.cells #[.int .i64 a2, .int .i64 b2, .int .i64 lo2, .int .i64 hi2, .int .i64 n2] 131))).blk2
  have KK := K0.out
  generalize (w.alloc (.cells #[.int .i64 a, .int .i64 b, .int .i64 lo, .int .i64 hi, .int .i64 n] 131)).alloc (.cells #[.int .i64 a2, .int .i64 b2, .int .i64 lo2, .int .i64 hi2, .int .i64 n2] 131) = W at *
  have c1 := B1.cell
  have c2 := B2.cell
  have l1 := B1.lt
  have l2 := B2.lt
  go_wp2_with (go_at_call 93; refine (HI.out _).mono ?_; rintro e w1 ⟨x, y, ok, rfl, k1⟩; have C1 := B1.kept k1; have C2 := B2.kept k1; have c1z := C1.cell; have c2z := C2.cell; have l1z := C1.lt; have l2z := C2.lt; have K1 := KK.trans k1; cases ok)
  all_goals
    go_ret
    exact ⟨_, rfl, K1.alloc _⟩
set_option maxRecDepth 100000 in
set_option maxHeartbeats 8000000 in
theorem rwrong_k (a b lo hi n k1 e1 k2 e2 : Int) (nm : ByteArray) (rv ev : Value) (hrv : ∃ A m c, rv = .slice A m c) (hev : ∃ A m c, ev = .slice A m c) (ms : List (List ByteArray)) (w : World) (hE : Enums w ev ms) :
    Calls Tryz.prog 68 #[.agg #[.int .i64 a, .int .i64 b, .int .i64 lo, .int .i64 hi, .int .i64 n], .agg #[.string nm, .int .i64 k1, .int .i64 e1, .int .i64 k2, .int .i64 e2, rv], ev] w (BoolK w) := by
  have HV := Lib.hid (fun w1 => rvalid05_k a b w1)
  unfold BoolK at HV
  obtain ⟨A, m, c, rfl⟩ := hrv
  obtain ⟨A', m', c', rfl⟩ := hev
  have HIN := Lib.hid (fun n k e w1 (h : Kept w w1) => rin_any n k e _ ms w1 (hE.kept h))
  have K0 := Lib.hid (((Kept.refl w).alloc (.cells #[.int .i64 a, .int .i64 b, .int .i64 lo, .int .i64 hi, .int .i64 n] 131)).alloc (.cells #[.string nm, .int .i64 k1, .int .i64 e1, .int .i64 k2, .int .i64 e2, .slice A m c] 50))
  clear hE
  go_enter Tryz.func68, Tryz.ntmps68
  go_upto_region 1 with fail
  obtain ⟨B1, B2⟩ := (Kept.refl ((w.alloc (.cells #[.int .i64 a, .int .i64 b, .int .i64 lo, .int .i64 hi, .int .i64 n] 131)).alloc (.cells #[.string nm, .int .i64 k1, .int .i64 e1, .int .i64 k2, .int .i64 e2, .slice A m c] 50))).blk2
  have KK := K0.out
  generalize (w.alloc (.cells #[.int .i64 a, .int .i64 b, .int .i64 lo, .int .i64 hi, .int .i64 n] 131)).alloc (.cells #[.string nm, .int .i64 k1, .int .i64 e1, .int .i64 k2, .int .i64 e2, .slice A m c] 50) = W at *
  have c1 := B1.cell
  have c2 := B2.cell
  have l1 := B1.lt
  have l2 := B2.lt
  obtain ⟨H1, hH1⟩ : ∃ H1, wrap64 (hi - 1) = H1 := ⟨_, rfl⟩
  go_wp2_with (first
    | (go_at_call 71; refine (HV.out _).mono ?_; rintro e w1 ⟨x1, rfl, q1⟩; have C1 := B1.kept q1; have C2 := B2.kept q1; have c1z := C1.cell; have c2z := C2.cell; have l1z := C1.lt; have l2z := C2.lt; have K1 := KK.trans q1; cases x1)
    | (go_at_call_of 92 (Value.int IntKind.i64 lo); refine (HIN.out lo k1 e1 _ K1).mono ?_; rintro e w2 ⟨rfl, q2⟩; have D1 := C1.kept q2; have D2 := C2.kept q2; have d1z := D1.cell; have d2z := D2.cell; have m1z := D1.lt; have m2z := D2.lt; have K2 := K1.trans q2; generalize inB lo k1 e1 ms = y1; cases y1)
    | (go_at_call_of 92 (Value.int IntKind.i64 n); refine (HIN.out n k2 e2 _ K3).mono ?_; rintro e w4 ⟨rfl, q4⟩; have K4 := K3.trans q4; generalize inB n k2 e2 ms = y3; cases y3)
    | (go_at_call 92; refine (HIN.out _ k1 e1 _ K2).mono ?_; rintro e w3 ⟨rfl, q3⟩; have F1 := D1.kept q3; have F2 := D2.kept q3; have f1z := F1.cell; have f2z := F2.cell; have n1z := F1.lt; have n2z := F2.lt; have K3 := K2.trans q3; generalize inB _ k1 e1 ms = y2; cases y2))
  all_goals
    go_ret
    first | exact ⟨_, rfl, K4⟩ | exact ⟨_, rfl, K3⟩ | exact ⟨_, rfl, K2⟩ | exact ⟨_, rfl, K1⟩
/-- a place and a code -/
def IntsP (w : World) (r : Ending) (w' : World) : Prop := ∃ (a b : Int), r = .returned (.tuple #[.int .i64 a, .int .i64 b]) ∧ (-1 ≤ a ∧ a ≤ 8796093022208) ∧ Kept w w'
set_option maxRecDepth 100000 in
set_option maxHeartbeats 8000000 in
theorem rtabval_k (k1 e1 k2 e2 : Int) (nm : ByteArray) (A : Option Addr) (n cap : Nat) (ev : Value) (hev : ∃ A m c, ev = .slice A m c) (ms : List (List ByteArray)) (w : World) (hE : Enums w ev ms) (hR : SlZ w 5 RwP (.slice A n cap)) :
    Calls Tryz.prog 48 #[.agg #[.string nm, .int .i64 k1, .int .i64 e1, .int .i64 k2, .int .i64 e2, .slice A n cap], ev] w (IntsP w) := by
  obtain ⟨A', m', c', rfl⟩ := hev
  obtain ⟨hn, hA⟩ := hR.items
  have HW := Lib.hid (fun a b lo hi n' w1 (h : Kept w w1) => rwrong_k a b lo hi n' k1 e1 k2 e2 nm (.slice A n cap) (.slice A' m' c') ⟨_, _, _, rfl⟩ ⟨_, _, _, rfl⟩ ms w1 (hE.kept h))
  have HC := Lib.hid (fun a b lo hi n' a2 b2 lo2 hi2 n2 w1 => rconflict_k a b lo hi n' a2 b2 lo2 hi2 n2 w1)
  unfold BoolK at HW HC
  have HVT := Lib.hid (fun k e w1 (h : Kept w w1) => rvtype_any k e _ ms w1 (hE.kept h))
  have HXA := Lib.hid hA
  have K0 := Lib.hid ((Kept.refl w).alloc (.cells #[.string nm, .int .i64 k1, .int .i64 e1, .int .i64 k2, .int .i64 e2, .slice A n cap] 50))
  clear hE hR hA
  go_enter Tryz.func48, Tryz.ntmps48
  go_upto_region 1 with fail
  have B := Blk.new w 50 #[.string nm, .int .i64 k1, .int .i64 e1, .int .i64 k2, .int .i64 e2, .slice A n cap]
  have KK := K0.out
  generalize w.alloc (.cells #[.string nm, .int .i64 k1, .int .i64 e1, .int .i64 k2, .int .i64 e2, .slice A n cap] 50) = W at *
  have c1 := B.cell
  have l1 := B.lt
  have HKK := Lib.hid KK
  by_cases h64 : (64 : Int) < n
  · go_wp2_with fail
    go_ret2
    exact ⟨_, _, rfl, by omega, HKK.out⟩
  go_upto_region 5 with (first
    | (go_at_call_of 67 (Value.int IntKind.i64 k1); refine (HVT.out k1 e1 _ KK).mono ?_; rintro e w1 ⟨rfl, q1⟩; have C1 := B.kept q1; have c1z := C1.cell; have l1z := C1.lt; have K1 := KK.trans q1; generalize vtB k1 e1 ms = y1; cases y1)
    | (go_at_call_of 67 (Value.int IntKind.i64 k2); refine (HVT.out k2 e2 _ K1).mono ?_; rintro e w2 ⟨rfl, q2⟩; have D1 := C1.kept q2; have d1z := D1.cell; have m1z := D1.lt; have K2 := K1.trans q2; generalize vtB k2 e2 ms = y2; cases y2))
  · go_ret2
    exact ⟨_, _, rfl, by omega, K1⟩
  · go_ret2
    exact ⟨_, _, rfl, by omega, K2⟩
  have HD1 := Lib.hid D1
  have HK2 := Lib.hid K2
  clear c1 l1 c1z l1z d1z m1z C1 D1 B KK K1 K2 q1 q2 HVT HKK K0
  go_wp2_with fail
  go_loopw [6] (fun z wr => ∃ (i : Nat), z = .int .i64 i ∧ i ≤ n ∧ Kept w wr ∧ Blk wr w.heap.size 50 #[.string nm, .int .i64 k1, .int .i64 e1, .int .i64 k2, .int .i64 e2, .slice A n cap]) (fun z _ => n - (intOf z).toNat)
  case atStart => exact ⟨0, rfl, Nat.zero_le _, HK2.out, HD1.out⟩
  case round =>
    obtain ⟨i, rfl, hin, hK, hB⟩ := hrel
    clear HD1 HK2
    by_cases hlt : i < n
    · obtain ⟨b, o, rfl, hb, hc⟩ := HXA.out (by omega)
      have hii : (i : Int) < n := by omega
      obtain ⟨⟨a0, t0⟩, ⟨a1, t1⟩, ⟨a2, t2⟩, ⟨a3, t3⟩, ⟨a4, t4⟩⟩ := hc i hlt
      have HC2 := Lib.hid hc
      have hbW := Nat.lt_of_lt_of_le hb hK.size
      have x0 := KW.cell hbW (hK.cell (p := ⟨b, _, none⟩) hb t0)
      have x1 := KW.cell hbW (hK.cell (p := ⟨b, _, none⟩) hb t1)
      have x2 := KW.cell hbW (hK.cell (p := ⟨b, _, none⟩) hb t2)
      have x3 := KW.cell hbW (hK.cell (p := ⟨b, _, none⟩) hb t3)
      have x4 := KW.cell hbW (hK.cell (p := ⟨b, _, none⟩) hb t4)
      have bc := hB.cell
      have bl := hB.lt
      clear t0 t1 t2 t3 t4 hc
      go_upto_region 8 with fail
      have z0 := KW.cell hB.lt (hB.cell 0)
      have z1 := KW.cell hB.lt (hB.cell 1)
      have z2 := KW.cell hB.lt (hB.cell 2)
      have z3 := KW.cell hB.lt (hB.cell 3)
      have z4 := KW.cell hB.lt (hB.cell 4)
      have z5 := KW.cell hB.lt (hB.cell 5)
      try simp only [List.getElem?_toArray, List.getElem?_cons_zero, List.getElem?_cons_succ] at z0 z1 z2 z3 z4 z5
      clear bc bl
      refine wp_region_kept_tail 7 (by kernel_rfl) (by kernel_rfl) ?_
      simp only [List.take_succ_cons, List.take_zero, List.drop_succ_cons, List.drop_zero]
      repeat (go_big_quiet_step (fail))
      refine wpQuiet_nil ?_
      rintro w5 ⟨⟨wx, hx2⟩, hh⟩
      obtain rfl : w5 = wx := hh
      have HK5 := Lib.hid (hK.trans hx2)
      have HB5 := Lib.hid (hB.kept hx2)
      clear x0 x1 x2 x3 x4 z0 z1 z2 z3 z4 z5 hK hB hx2
      go_upto_region 10 with (go_at_call 68; refine (HW.out _ _ _ _ _ _ HK5.out).mono ?_; rintro e w6 ⟨x1, rfl, q6⟩; cases x1)
      · have HK6 := Lib.hid (HK5.out.trans q6)
        have HB6 := Lib.hid (HB5.out.kept q6)
        clear q6
        go_wp2_with fail
        go_loopw [7] (fun z wq => ∃ (k : Nat), z = .int .i64 k ∧ k ≤ i ∧ Kept w wq ∧ Blk wq w.heap.size 50 #[.string nm, .int .i64 k1, .int .i64 e1, .int .i64 k2, .int .i64 e2, .slice (some ⟨b, o, none⟩) n cap]) (fun z _ => i - (intOf z).toNat)
        case atStart => exact ⟨0, rfl, Nat.zero_le _, HK6.out, HB6.out⟩
        case round =>
          obtain ⟨k, rfl, hki, hKq, hBq⟩ := hrel
          clear HK5 HB5 HK6 HB6
          by_cases hkl : k < i
          · have hkk : (k : Int) < i := by omega
            have hkn : (k : Int) < n := by omega
            obtain ⟨⟨a0, t0⟩, ⟨a1, t1⟩, ⟨a2, t2⟩, ⟨a3, t3⟩, ⟨a4, t4⟩⟩ := HC2.out i hlt
            obtain ⟨⟨b0, u0⟩, ⟨b1, u1⟩, ⟨b2, u2⟩, ⟨b3, u3⟩, ⟨b4, u4⟩⟩ := HC2.out k (by omega)
            have hbW := Nat.lt_of_lt_of_le hb hKq.size
            have x0 := KW.cell hbW (hKq.cell (p := ⟨b, _, none⟩) hb t0)
            have x1 := KW.cell hbW (hKq.cell (p := ⟨b, _, none⟩) hb t1)
            have x2 := KW.cell hbW (hKq.cell (p := ⟨b, _, none⟩) hb t2)
            have x3 := KW.cell hbW (hKq.cell (p := ⟨b, _, none⟩) hb t3)
            have x4 := KW.cell hbW (hKq.cell (p := ⟨b, _, none⟩) hb t4)
            have y0 := KW.cell hbW (hKq.cell (p := ⟨b, _, none⟩) hb u0)
            have y1 := KW.cell hbW (hKq.cell (p := ⟨b, _, none⟩) hb u1)
            have y2 := KW.cell hbW (hKq.cell (p := ⟨b, _, none⟩) hb u2)
            have y3 := KW.cell hbW (hKq.cell (p := ⟨b, _, none⟩) hb u3)
            have y4 := KW.cell hbW (hKq.cell (p := ⟨b, _, none⟩) hb u4)
            clear t0 t1 t2 t3 t4 u0 u1 u2 u3 u4
            go_upto_region 13 with fail
            have z5 := KW.cell hBq.lt (hBq.cell 5)
            try simp only [List.getElem?_toArray, List.getElem?_cons_zero, List.getElem?_cons_succ] at z5
            refine wp_region_kept_tail 10 (by kernel_rfl) (by kernel_rfl) ?_
            simp only [List.take_succ_cons, List.take_zero, List.drop_succ_cons, List.drop_zero]
            repeat (go_big_quiet_step (fail))
            refine wpQuiet_nil ?_
            rintro w7 ⟨⟨wx, hx2⟩, hh⟩
            obtain rfl : w7 = wx := hh
            have HK7 := Lib.hid (hKq.trans hx2)
            have HB7 := Lib.hid (hBq.kept hx2)
            clear x0 x1 x2 x3 x4 y0 y1 y2 y3 y4 z5 hKq hBq hx2
            go_wp2_with (go_at_call 69; refine (HC.out _ _ _ _ _ _ _ _ _ _ _).mono ?_; rintro e w8 ⟨x1, rfl, q8⟩; cases x1)
            · go_roundw
              case rel => exact ⟨k + 1, by go_num, by omega, HK7.out.trans q8, HB7.out.kept q8⟩
              case measure => simp [intOf]; omega
            · go_ret2
              exact ⟨_, _, rfl, by omega, HK7.out.trans q8⟩
          · obtain rfl : i = k := by omega
            have hkk : ¬ ((i : Int) < i) := by omega
            have HKQ := Lib.hid hKq
            have HBQ := Lib.hid hBq
            clear hKq hBq
            go_wp2_with fail
            go_roundw
            case rel => exact ⟨i + 1, by go_num, hlt, HKQ.out, HBQ.out⟩
            case measure => simp [intOf]; omega
      · go_wp2_with fail
        go_ret2
        exact ⟨_, _, rfl, by omega, HK5.out.trans q6⟩
    · obtain rfl : n = i := by omega
      have hii : ¬ ((n : Int) < n) := by omega
      have bc := hB.cell
      have bl := hB.lt
      have HKQ := Lib.hid hK
      clear hK hB
      go_wp2_with fail
      go_ret2
      exact ⟨_, _, rfl, by omega, HKQ.out⟩
end Go.Proofs.YtjeifmjcgemlgaaGreatDoor
/- exprError of the reference of package law. -/
namespace Go.Proofs.YtjeifmjcgemlgaaGreatDoor
open Go.RowKit

/-- a code is returned -/
def AnyI (w : World) (e : Ending) (w' : World) : Prop := ∃ c : Int, e = .returned (.int .i64 c) ∧ Kept w w'
theorem AnyI.mk {w w' : World} (c : Int) (h : Kept w w') : AnyI w (.returned (.int .i64 c)) w' := ⟨c, rfl, h⟩
set_option maxRecDepth 100000 in
set_option maxHeartbeats 8000000 in
theorem rexprError_any (v : Value) (xs : List Nd) (sv : Value) (k e : Int) (ms : List (List ByteArray)) (nT nI nD nM : Nat) (w : World) (hN : Nds w v xs) (hl : xs.length ≤ 8796093022208) (hnb : ∀ x ∈ xs, -9223372036854775808 ≤ x.n ∧ x.n ≤ 9223372036854775807) (hS : SigD w sv ms nT nI nD nM) :
    Calls Tryz.prog 74 #[v, sv, .agg #[.int .i64 k, .int .i64 e]] w (AnyI w) := by
  have HTO := Lib.hid (fun w1 (h : Kept w w1) => rtypeOf_any v xs sv ms nT nI nD nM w1 (hN.kept h) hl hnb (hS.kept h))
  unfold TyC at HTO
  obtain ⟨AE, ce, AT, cT, AI, cI, AD, cD, AM, cM, hm, rfl, -⟩ := id hS
  obtain ⟨A, cap, rfl, -⟩ := hN.at_
  obtain ⟨n, hxn⟩ : ∃ n, n = xs.length := ⟨_, rfl⟩
  rw [← hxn] at HTO ⊢
  generalize hnE : ms.length = nE at *
  have K0 := Lib.hid (((Kept.refl w).alloc (.cells #[.slice AE nE ce, .slice AT nT cT, .slice AI nI cI, .slice AD nD cD, .slice AM nM cM, .bool hm] 137)).alloc (.cells #[.int .i64 k, .int .i64 e] 47))
  clear hnE hxn hN hS hnb hl
  go_enter Tryz.func74, Tryz.ntmps74
  go_upto_region 1 with fail
  obtain ⟨B1, B2⟩ := (Kept.refl ((w.alloc (.cells #[.slice AE nE ce, .slice AT nT cT, .slice AI nI cI, .slice AD nD cD, .slice AM nM cM, .bool hm] 137)).alloc (.cells #[.int .i64 k, .int .i64 e] 47))).blk2
  have KK := K0.out
  generalize (w.alloc (.cells #[.slice AE nE ce, .slice AT nT cT, .slice AI nI cI, .slice AD nD cD, .slice AM nM cM, .bool hm] 137)).alloc (.cells #[.int .i64 k, .int .i64 e] 47) = W at *
  have c1 := B1.cell
  have c2 := B2.cell
  have l1 := B1.lt
  have l2 := B2.lt
  go_upto_region 2 with (go_at_call 95; refine (HTO.out _ KK).mono ?_; rintro r w1 ⟨tk, te, ti, tc, rfl, k1⟩; have C2 := B2.kept k1; have c2z := C2.cell; have l2z := C2.lt; have K1 := KK.trans k1)
  have HK1 := Lib.hid (K1.alloc (.cells #[.int .i64 tk, .int .i64 te] 47))
  clear B1 B2 C2 K1 KK k1 c1 c2 l1 l2
  by_cases htc : tc = 0
  · subst htc
    cases h1 : (tk == k)
    all_goals
      cases h2 : (te == e)
      all_goals
        go_wp2_with fail
        go_ret
        exact AnyI.mk _ HK1.out
  · have htn : (tc != 0) = true := by simpa using htc
    go_wp2_with fail
    go_ret
    exact AnyI.mk _ HK1.out
end Go.Proofs.YtjeifmjcgemlgaaGreatDoor
