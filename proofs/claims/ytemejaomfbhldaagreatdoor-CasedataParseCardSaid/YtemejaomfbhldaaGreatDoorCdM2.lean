/- The fixed examples of the chapter on cases, in plain Lean. -/
import Derived.Test.YtemejaomfbhldaaGreatDoorCdM1
import Derived.Test.YtemejaomfbhldaaGreatDoorBlks
import Derived.Test.YtemejaomfbhldaaGreatDoorOpenVal
import Derived.Test.YtemejaomfbhldaaGreatDoorValC
import Derived.Test.YtemejaomfbhldaaGreatDoorRefLines
import Derived.Test.YtemejaomfbhldaaGreatDoorRefDateB
import Derived.Test.YtemejaomfbhldaaGreatDoorFrame
import Derived.Test.YtemejaomfbhldaaGreatDoorFrameL
import Derived.Stop.LaidErr
import Derived.Shelf.Vars
namespace Go.Proofs.YtemejaomfbhldaaGreatDoor
open Go.RowKit

def exI : List Ty := [⟨3, 0⟩, ⟨1, 0⟩]
def exS : List Sc := [⟨-1, exI⟩]
def exV : List Vl := [⟨3, 0, 1250⟩, ⟨1, 0, 1⟩]
def exT : ByteArray := ⟨#[100, 97, 116, 101, 32, 50, 48, 48, 48, 45, 48, 49, 45, 48, 49, 10, 105, 110, 32, 49, 50, 46, 53, 48, 32, 116, 114, 117, 101, 10]⟩
def exU : ByteArray := ⟨#[100, 97, 116, 101, 32, 50, 48, 48, 48, 45, 48, 49, 45, 48, 49, 10, 105, 110, 32, 49, 50, 46, 53, 32, 116, 114, 117, 101, 10]⟩
def exL0 : List UInt8 := [100, 97, 116, 101, 32, 50, 48, 48, 48, 45, 48, 49, 45, 48, 49]
def exL1 : List UInt8 := [105, 110, 32, 49, 50, 46, 53, 48, 32, 116, 114, 117, 101]
def exL2 : List UInt8 := [105, 110, 32, 49, 50, 46, 53, 32, 116, 114, 117, 101]
theorem ex19_lt : linR exT = ([bs exL0, bs exL1], 0) := by rfl
theorem ex19_lu : linR exU = ([bs exL0, bs exL2], 0) := by rfl
theorem ex19_d : dparS ⟨#[50, 48, 48, 48, 45, 48, 49, 45, 48, 49]⟩ = (36524, 0) := by
  have e : dparB ⟨#[50, 48, 48, 48, 45, 48, 49, 45, 48, 49]⟩ = true := by
    unfold dparB
    rw [L_extract, L_extract, L_extract]
    decide
  rw [dparS_yes e, L_extract, L_extract, L_extract]
  decide
theorem ex19_v1 : vparS (bs [49, 50, 46, 53, 48]) 3 0 [] = (3, 0, 1250, 0) := by
  have h1 : vnumS (bs [49, 50, 46, 53, 48]) 3 0 [] = (1250, 0) := show refP (L (bs [49, 50, 46, 53, 48])) 2 = _ by decide
  rw [vparS, h1]; rfl
theorem ex19_v2 : vparS (bs [49, 50, 46, 53]) 3 0 [] = (0, 0, 0, 2) := by
  have h1 : vnumS (bs [49, 50, 46, 53]) 3 0 [] = (0, 2) := show refP (L (bs [49, 50, 46, 53])) 2 = _ by decide
  rw [vparS, h1]; rfl
theorem ex19_v3 : vparS (bs [116, 114, 117, 101]) 1 0 [] = (1, 0, 1, 0) := by
  have h1 : vnumS (bs [116, 114, 117, 101]) 1 0 [] = (1, 0) := by
    rw [vnumS, if_pos rfl, if_neg (fun h => absurd (congrArg L h) (by decide)), if_pos (show bs [116, 114, 117, 101] = ⟨#[116, 114, 117, 101]⟩ from rfl)]
  rw [vparS, h1]; rfl
theorem ex19_i : parI [] [105, 110] exI exL1 = (exV, 0) := by
  have hs : spl [] exL1 = [[105, 110], [49, 50, 46, 53, 48], [116, 114, 117, 101]] := by decide
  rw [parI, hs, if_neg (by decide), if_neg (by decide), if_neg (by decide)]
  show parV [] [⟨3, 0⟩, ⟨1, 0⟩] [[49, 50, 46, 53, 48], [116, 114, 117, 101]] [] = _
  rw [parV]
  dsimp only
  rw [ex19_v1, if_pos rfl, parV]
  dsimp only
  rw [ex19_v3, if_pos rfl]
  simp [parV, exV]
theorem ex19_j : parI [] [105, 110] exI exL2 = ([], 2) := by
  have hs : spl [] exL2 = [[105, 110], [49, 50, 46, 53], [116, 114, 117, 101]] := by decide
  rw [parI, hs, if_neg (by decide), if_neg (by decide), if_neg (by decide)]
  show parV [] [⟨3, 0⟩, ⟨1, 0⟩] [[49, 50, 46, 53], [116, 114, 117, 101]] [] = _
  rw [parV]
  dsimp only
  rw [ex19_v2, if_neg (by decide)]
theorem ex19_p : parCs [] exS 0 exT = (⟨36524, exV, []⟩, 0, 0) := by
  rw [parCs, if_neg (by decide), ex19_lt, if_neg (by decide)]
  show (if exL0.take 5 ≠ datW then _ else _) = _
  rw [if_neg (by decide)]
  show (if (dparS ⟨#[50, 48, 48, 48, 45, 48, 49, 45, 48, 49]⟩).2 ≠ 0 then _ else _) = _
  rw [ex19_d, if_neg (by decide)]
  show (if (parI [] [105, 110] exI exL1).2 ≠ 0 then _ else _) = _
  rw [ex19_i, if_neg (by decide)]
  show (if (0 : Int) ≠ 0 then _ else ((⟨(dparS ⟨#[50, 48, 48, 48, 45, 48, 49, 45, 48, 49]⟩).1, (parI [] [105, 110] exI exL1).1, []⟩, 0, 0) : Cs × Nat × Int)) = _
  rw [ex19_d, ex19_i, if_neg (by decide)]
theorem ex19_u : parCs [] exS 0 exU = (cs0, 1, 2) := by
  rw [parCs, if_neg (by decide), ex19_lu, if_neg (by decide)]
  show (if exL0.take 5 ≠ datW then _ else _) = _
  rw [if_neg (by decide)]
  show (if (dparS ⟨#[50, 48, 48, 48, 45, 48, 49, 45, 48, 49]⟩).2 ≠ 0 then _ else _) = _
  rw [ex19_d, if_neg (by decide)]
  show (if (parI [] [105, 110] exI exL2).2 ≠ 0 then (cs0, 1, (parI [] [105, 110] exI exL2).2) else _) = _
  rw [ex19_j, if_pos (by decide)]
theorem ex19_c : valC [] exS 0 36524 exV [] = (0, 0, 0) := by
  have := (cs_canon (ms := []) (scs := exS) (sc := 0) (s := exT) (by rw [ex19_p])).1
  rwa [ex19_p] at this
theorem ex19_t : bs (textL (caseT [] 36524 exV [])) = exT := by
  have := (cs_canon (ms := []) (scs := exS) (sc := 0) (s := exT) (by rw [ex19_p])).2
  rwa [ex19_p] at this
theorem ex19_f : fmtCs [] exS 0 36524 exV [] = (exT, 0) := by
  rw [fmtCs, ex19_c, if_pos rfl, ex19_t]
theorem ex19_m : valC [] exS 0 36524 exV [[]] = (0, -1, 4) := by
  have h := ex19_c
  unfold valC at h ⊢
  rw [if_neg (by decide), if_neg (by decide)] at h ⊢
  have hx : exS[(0 : Int).toNat]?.getD ⟨0, []⟩ = ⟨-1, exI⟩ := rfl
  rw [hx] at h ⊢
  dsimp only at h ⊢
  by_cases hc : (chkV [] exI exV).2 = 0
  · rw [if_pos hc]; rfl
  · rw [if_neg hc] at h
    exact absurd (congrArg (fun p : Int × Int × Int => p.1) h) (by decide)
end Go.Proofs.YtemejaomfbhldaaGreatDoor
/- What guerdonsame.Values, ValueLists and Case compute. -/
namespace Go.Proofs.YtemejaomfbhldaaGreatDoor
open Go.RowKit

def vlB (x y : Vl) : Bool := decide (x.k = y.k) && (decide (x.e = y.e) && decide (x.n = y.n))
def vlsB : List Vl → List Vl → Bool
  | [], [] => true
  | x :: xs, y :: ys => vlB x y && vlsB xs ys
  | _, _ => false
def memB : List (List Vl) → List (List Vl) → Bool
  | [], [] => true
  | x :: xs, y :: ys => vlsB x y && memB xs ys
  | _, _ => false
def csB (d : Int) (a : List Vl) (m : List (List Vl)) (d' : Int) (a' : List Vl) (m' : List (List Vl)) : Bool := decide (d = d') && (vlsB a a' && memB m m')
theorem vlB_iff {x y : Vl} : vlB x y = true ↔ x = y := by
  obtain ⟨a, b, c⟩ := x
  obtain ⟨a', b', c'⟩ := y
  simp [vlB]
theorem vlsB_self : ∀ xs, vlsB xs xs = true
  | [] => rfl
  | x :: xs => by rw [vlsB, vlB_iff.2 rfl, vlsB_self xs]; rfl
theorem memB_self : ∀ xs, memB xs xs = true
  | [] => rfl
  | x :: xs => by rw [memB, vlsB_self, memB_self xs]; rfl
theorem vlB_comm (x y : Vl) : vlB x y = vlB y x := by
  unfold vlB
  rw [decide_eq_decide.2 (eq_comm (a := x.k)), decide_eq_decide.2 (eq_comm (a := x.e)), decide_eq_decide.2 (eq_comm (a := x.n))]
theorem vlsB_comm : ∀ xs ys, vlsB xs ys = vlsB ys xs
  | [], [] => rfl
  | [], _ :: _ => rfl
  | _ :: _, [] => rfl
  | x :: xs, y :: ys => by rw [vlsB, vlsB, vlB_comm, vlsB_comm xs ys]
theorem memB_comm : ∀ xs ys, memB xs ys = memB ys xs
  | [], [] => rfl
  | [], _ :: _ => rfl
  | _ :: _, [] => rfl
  | x :: xs, y :: ys => by rw [memB, memB, vlsB_comm, memB_comm xs ys]
theorem csB_comm (d : Int) (a : List Vl) (m : List (List Vl)) (d' : Int) (a' : List Vl) (m' : List (List Vl)) : csB d a m d' a' m' = csB d' a' m' d a m := by
  unfold csB
  rw [decide_eq_decide.2 (eq_comm (a := d)), vlsB_comm, memB_comm]
theorem csB_self (d : Int) (a : List Vl) (m : List (List Vl)) : csB d a m d a m = true := by
  unfold csB
  rw [decide_eq_true rfl, vlsB_self, memB_self]; rfl
theorem vlsB_len : ∀ xs ys, xs.length ≠ ys.length → vlsB xs ys = false
  | [], [], h => absurd rfl h
  | [], _ :: _, _ => rfl
  | _ :: _, [], _ => rfl
  | x :: xs, y :: ys, h => by rw [vlsB, vlsB_len xs ys (by simpa using h), Bool.and_false]
theorem memB_len : ∀ xs ys, xs.length ≠ ys.length → memB xs ys = false
  | [], [], h => absurd rfl h
  | [], _ :: _, _ => rfl
  | _ :: _, [], _ => rfl
  | x :: xs, y :: ys, h => by rw [memB, memB_len xs ys (by simpa using h), Bool.and_false]
theorem vlsB_at {xs ys : List Vl} {i : Nat} {x y : Vl} (h1 : xs[i]? = some x) (h2 : ys[i]? = some y) : vlsB (xs.drop i) (ys.drop i) = (vlB x y && vlsB (xs.drop (i + 1)) (ys.drop (i + 1))) := by
  obtain ⟨hi, rfl⟩ := List.getElem?_eq_some_iff.1 h1
  obtain ⟨hj, rfl⟩ := List.getElem?_eq_some_iff.1 h2
  rw [List.drop_eq_getElem_cons hi, List.drop_eq_getElem_cons hj, vlsB]
theorem memB_at {xs ys : List (List Vl)} {i : Nat} {x y : List Vl} (h1 : xs[i]? = some x) (h2 : ys[i]? = some y) : memB (xs.drop i) (ys.drop i) = (vlsB x y && memB (xs.drop (i + 1)) (ys.drop (i + 1))) := by
  obtain ⟨hi, rfl⟩ := List.getElem?_eq_some_iff.1 h1
  obtain ⟨hj, rfl⟩ := List.getElem?_eq_some_iff.1 h2
  rw [List.drop_eq_getElem_cons hi, List.drop_eq_getElem_cons hj, memB]
theorem bne_noS {a b : Int} (h : a ≠ b) : (a != b) = true := by simpa using h
theorem beq_noS {a b : Int} (h : a ≠ b) : (a == b) = false := by simpa using h
def smPost (r : Bool) (w : World) (e : Ending) (w' : World) : Prop := e = .returned (.bool r) ∧ Kept w w'
theorem vlB_ways (x y : Vl) : (vlB x y = true ∧ x = y) ∨ (vlB x y = false ∧ ((x.k ≠ y.k) ∨ (x.k = y.k ∧ x.e ≠ y.e) ∨ (x.k = y.k ∧ x.e = y.e ∧ x.n ≠ y.n))) := by
  cases h : vlB x y
  · right
    refine ⟨rfl, ?_⟩
    by_cases h1 : x.k = y.k
    · by_cases h2 : x.e = y.e
      · by_cases h3 : x.n = y.n
        · rw [vlB, decide_eq_true h1, decide_eq_true h2, decide_eq_true h3] at h; cases h
        · exact .inr (.inr ⟨h1, h2, h3⟩)
      · exact .inr (.inl ⟨h1, h2⟩)
    · exact .inl h1
  · exact .inl ⟨rfl, vlB_iff.1 h⟩
set_option maxRecDepth 100000 in
set_option maxHeartbeats 4000000 in
theorem sameVals_any (va vb : Value) (xs ys : List Vl) (w : World) (ha : Vals w va xs) (hb : Vals w vb ys) (hx : xs.length ≤ 9223372036854775807) (_hy : ys.length ≤ 9223372036854775807) :
    Calls Tryz.prog 32 #[va, vb] w (smPost (vlsB xs ys) w) := by
  unfold smPost
  obtain ⟨A, ca, rfl, hA⟩ := ha.at_
  obtain ⟨B, cb, rfl, hB⟩ := hb.at_
  by_cases hl : xs.length = ys.length
  · obtain ⟨n, hxn⟩ : ∃ n, n = xs.length := ⟨_, rfl⟩
    have hyn : n = ys.length := hxn.trans hl
    rw [← hxn] at hA hx ⊢
    rw [← hyn] at hB ⊢
    have HX := Lib.hid hxn
    have HY := Lib.hid hyn
    clear hxn hyn ha hb hl
    go_enter Tryz.func32, Tryz.ntmps32
    go_wp2_with fail
    go_loopw [5] (fun z wr => ∃ i : Nat, i ≤ n ∧ z = .int .i64 i ∧ Kept w wr ∧ vlsB (xs.drop i) (ys.drop i) = vlsB xs ys) (fun z _ => (n - intOf z).toNat)
    case atStart => exact ⟨0, Nat.zero_le _, rfl, Kept.refl _, rfl⟩
    case round =>
      obtain ⟨i, hin, rfl, hK, hrun⟩ := hrel
      by_cases hp : i < n
      · obtain ⟨b1, o1, rfl, hb1, hc1⟩ := hA (by omega)
        obtain ⟨b2, o2, rfl, hb2, hc2⟩ := hB (by omega)
        have hg1 : xs[i]? = some (xs[i]'(by have := HX.out; omega)) := List.getElem?_eq_getElem _
        have hg2 : ys[i]? = some (ys[i]'(by have := HY.out; omega)) := List.getElem?_eq_getElem _
        obtain ⟨x0, x1, x2⟩ := hc1 i _ hg1
        obtain ⟨y0, y1, y2⟩ := hc2 i _ hg2
        rw [vlsB_at hg1 hg2] at hrun
        clear hc1 hc2 hA hB hg1 hg2
        generalize xs[i]'(by have := HX.out; omega) = X at *
        generalize ys[i]'(by have := HY.out; omega) = Y at *
        have hw1 := Nat.lt_of_lt_of_le hb1 hK.size
        have hw2 := Nat.lt_of_lt_of_le hb2 hK.size
        have k0 := KW.cell hw1 (hK.cell (p := ⟨b1, _, none⟩) hb1 x0)
        have k1 := KW.cell hw1 (hK.cell (p := ⟨b1, _, none⟩) hb1 x1)
        have k2 := KW.cell hw1 (hK.cell (p := ⟨b1, _, none⟩) hb1 x2)
        have m0 := KW.cell hw2 (hK.cell (p := ⟨b2, _, none⟩) hb2 y0)
        have m1 := KW.cell hw2 (hK.cell (p := ⟨b2, _, none⟩) hb2 y1)
        have m2 := KW.cell hw2 (hK.cell (p := ⟨b2, _, none⟩) hb2 y2)
        clear x0 x1 x2 y0 y1 y2
        have hpi : (i : Int) < n := by omega
        obtain ⟨xk, xe, xn⟩ := X
        obtain ⟨yk, ye, yn⟩ := Y
        dsimp only at k0 k1 k2 m0 m1 m2
        rcases vlB_ways ⟨xk, xe, xn⟩ ⟨yk, ye, yn⟩ with ⟨hv, he⟩ | ⟨hv, he⟩
        · rw [hv, Bool.true_and] at hrun
          obtain ⟨rfl, rfl, rfl⟩ : xk = yk ∧ xe = ye ∧ xn = yn := by simpa using he
          have HR := Lib.hid hrun
          clear hrun he hv
          go_wp2_with fail
          refine wp_region_kept (by kernel_rfl) (by kernel_rfl) ?_
          repeat (go_big_quiet_step (fail))
          refine wpQuiet_nil ?_
          rintro _ ⟨⟨wx, hx2⟩, rfl⟩
          go_wp2_with fail
          go_roundw
          case rel => exact ⟨i + 1, hp, by go_num, hK.trans hx2, HR.out⟩
          case measure => simp only [intOf]; omega
        · rw [hv, Bool.false_and] at hrun
          have HR := Lib.hid hrun
          dsimp only at he
          clear hrun hv
          rcases he with h | ⟨h1, h⟩ | ⟨h1, h2, h⟩
          all_goals
            have hne := beq_noS h
            have hne2 := bne_noS h
            (try subst h1)
            (try subst h2)
            clear h
            go_wp2_with fail
            refine wp_region_kept (by kernel_rfl) (by kernel_rfl) ?_
            repeat (go_big_quiet_step (fail))
            refine wpQuiet_nil ?_
            rintro _ ⟨⟨wx, hx2⟩, rfl⟩
            go_wp2_with fail
            go_ret
            rw [← HR.out]
            exact ⟨rfl, hK.trans hx2⟩
      · have hpi : ¬ ((i : Int) < n) := by omega
        have hr : vlsB xs ys = true := by
          rw [← hrun, List.drop_eq_nil_iff.2 (by have := HX.out; omega), List.drop_eq_nil_iff.2 (by have := HY.out; omega)]; rfl
        have HR := Lib.hid hr
        clear hrun hr
        go_wp2_with fail
        go_ret
        rw [HR.out]
        exact ⟨rfl, hK⟩
  · have HR := Lib.hid (vlsB_len xs ys hl)
    have hli : ((xs.length : Int) != ys.length) = true := bne_noS (by omega)
    rw [HR.out]
    clear hl ha hb hA hB
    go_enter Tryz.func32, Tryz.ntmps32
    go_wp2_with fail
    go_ret
    exact ⟨rfl, Kept.refl _⟩
set_option maxRecDepth 100000 in
set_option maxHeartbeats 4000000 in
theorem sameLists_any (va vb : Value) (xs ys : List (List Vl)) (w : World) (ha : Mems w va xs) (hb : Mems w vb ys) :
    Calls Tryz.prog 33 #[va, vb] w (smPost (memB xs ys) w) := by
  unfold smPost
  obtain ⟨A, ca, rfl, hx, hA⟩ := ha.at_
  obtain ⟨B, cb, rfl, hy, hB⟩ := hb.at_
  by_cases hl : xs.length = ys.length
  · obtain ⟨n, hxn⟩ : ∃ n, n = xs.length := ⟨_, rfl⟩
    have hyn : n = ys.length := hxn.trans hl
    rw [← hxn] at hA hx ⊢
    rw [← hyn] at hB ⊢
    have HX := Lib.hid hxn
    have HY := Lib.hid hyn
    clear hxn hyn ha hb hl
    go_enter Tryz.func33, Tryz.ntmps33
    go_wp2_with fail
    go_loopw [5] (fun z wr => ∃ i : Nat, i ≤ n ∧ z = .int .i64 i ∧ Kept w wr ∧ memB (xs.drop i) (ys.drop i) = memB xs ys) (fun z _ => (n - intOf z).toNat)
    case atStart => exact ⟨0, Nat.zero_le _, rfl, Kept.refl _, rfl⟩
    case round =>
      obtain ⟨i, hin, rfl, hK, hrun⟩ := hrel
      by_cases hp : i < n
      · obtain ⟨b1, o1, rfl, hb1, hc1⟩ := hA (by omega)
        obtain ⟨b2, o2, rfl, hb2, hc2⟩ := hB (by omega)
        have hg1 : xs[i]? = some (xs[i]'(by have := HX.out; omega)) := List.getElem?_eq_getElem _
        have hg2 : ys[i]? = some (ys[i]'(by have := HY.out; omega)) := List.getElem?_eq_getElem _
        obtain ⟨hl1, A1, e1, x0, hv1⟩ := hc1 i _ hg1
        obtain ⟨hl2, A2, e2, y0, hv2⟩ := hc2 i _ hg2
        rw [memB_at hg1 hg2] at hrun
        clear hc1 hc2 hA hB hg1 hg2
        generalize xs[i]'(by have := HX.out; omega) = X at *
        generalize ys[i]'(by have := HY.out; omega) = Y at *
        have hw1 := Nat.lt_of_lt_of_le hb1 hK.size
        have hw2 := Nat.lt_of_lt_of_le hb2 hK.size
        have k0 := KW.cell hw1 (hK.cell (p := ⟨b1, _, none⟩) hb1 x0)
        have m0 := KW.cell hw2 (hK.cell (p := ⟨b2, _, none⟩) hb2 y0)
        have HV := Lib.hid (fun (x : KW wr) => sameVals_any _ _ X Y x.W (hv1.kept (hK.trans x.h)) (hv2.kept (hK.trans x.h)) hl1 hl2)
        unfold smPost at HV
        clear x0 y0 hv1 hv2 hl1 hl2
        have hpi : (i : Int) < n := by omega
        generalize vlsB X Y = r at *
        cases r
        · rw [Bool.false_and] at hrun
          have HR := Lib.hid hrun
          clear hrun
          go_wp2_with fail
          refine wp_region_kept (by kernel_rfl) (by kernel_rfl) ?_
          repeat (go_big_quiet_step (first | (go_at_call 32; exact KW.call (HV.out _))))
          refine wpQuiet_nil ?_
          rintro _ ⟨⟨wx, hx2⟩, rfl⟩
          go_wp2_with fail
          go_ret
          rw [← HR.out]
          exact ⟨rfl, hK.trans hx2⟩
        · rw [Bool.true_and] at hrun
          have HR := Lib.hid hrun
          clear hrun
          go_wp2_with fail
          refine wp_region_kept (by kernel_rfl) (by kernel_rfl) ?_
          repeat (go_big_quiet_step (first | (go_at_call 32; exact KW.call (HV.out _))))
          refine wpQuiet_nil ?_
          rintro _ ⟨⟨wx, hx2⟩, rfl⟩
          go_wp2_with fail
          go_roundw
          case rel => exact ⟨i + 1, hp, by go_num, hK.trans hx2, HR.out⟩
          case measure => simp only [intOf]; omega
      · have hpi : ¬ ((i : Int) < n) := by omega
        have hr : memB xs ys = true := by
          rw [← hrun, List.drop_eq_nil_iff.2 (by have := HX.out; omega), List.drop_eq_nil_iff.2 (by have := HY.out; omega)]; rfl
        have HR := Lib.hid hr
        clear hrun hr
        go_wp2_with fail
        go_ret
        rw [HR.out]
        exact ⟨rfl, hK⟩
  · have HR := Lib.hid (memB_len xs ys hl)
    have hli : ((xs.length : Int) != ys.length) = true := bne_noS (by omega)
    rw [HR.out]
    clear hl ha hb hA hB
    go_enter Tryz.func33, Tryz.ntmps33
    go_wp2_with fail
    go_ret
    exact ⟨rfl, Kept.refl _⟩
theorem Vals.form {w : World} {v : Value} {xs : List Vl} (h : Vals w v xs) : ∃ A cap, v = .slice A xs.length cap := by
  obtain ⟨A, cap, hv, _⟩ := h
  exact ⟨A, cap, hv⟩
set_option maxRecDepth 100000 in
set_option maxHeartbeats 4000000 in
theorem sameCase_any (d d' : Int) (iv mv iv' mv' : Value) (ins ins' : List Vl) (mem mem' : List (List Vl)) (w : World) (hI : Vals w iv ins) (hM : Mems w mv mem) (hI' : Vals w iv' ins') (hM' : Mems w mv' mem')
    (hl : ins.length ≤ 9223372036854775807) (hl' : ins'.length ≤ 9223372036854775807) :
    Calls Tryz.prog 12 #[.agg #[.int .i64 d, iv, mv], .agg #[.int .i64 d', iv', mv']] w (smPost (csB d ins mem d' ins' mem') w) := by
  unfold smPost
  obtain ⟨A1, c1, rfl⟩ := hI.form
  obtain ⟨A1', c1', rfl⟩ := hI'.form
  obtain ⟨A2, c2, rfl, _⟩ := id hM
  obtain ⟨A2', c2', rfl, _⟩ := id hM'
  have HV := Lib.hid (fun w1 (h : Kept w w1) => sameVals_any _ _ ins ins' w1 (hI.kept h) (hI'.kept h) hl hl')
  have HL := Lib.hid (fun w1 (h : Kept w w1) => sameLists_any _ _ mem mem' w1 (hM.kept h) (hM'.kept h))
  unfold smPost at HV HL
  have K0 := Lib.hid (((Kept.refl w).alloc (.cells #[.int .i64 d, .slice A1 ins.length c1, .slice A2 mem.length c2] 30)).alloc (.cells #[.int .i64 d', .slice A1' ins'.length c1', .slice A2' mem'.length c2'] 30))
  have hcs : csB d ins mem d' ins' mem' = (decide (d = d') && (vlsB ins ins' && memB mem mem')) := rfl
  generalize csB d ins mem d' ins' mem' = R at *
  generalize vlsB ins ins' = r1 at *
  generalize memB mem mem' = r2 at *
  clear hI hI' hM hM' hl hl'
  by_cases hd : d = d'
  · subst hd
    rw [decide_eq_true rfl, Bool.true_and] at hcs
    have hself : (d == d) = true := by simp
    cases r1
    · have HR := Lib.hid hcs
      clear hcs
      go_enter Tryz.func12, Tryz.ntmps12
      go_wp2_with (go_at_call 32; refine (HV.out _ K0.out).mono ?_; rintro e w1 ⟨rfl, k1⟩)
      go_ret
      rw [HR.out]
      exact ⟨rfl, K0.out.trans k1⟩
    · rw [Bool.true_and] at hcs
      have HR := Lib.hid hcs
      clear hcs
      go_enter Tryz.func12, Tryz.ntmps12
      go_wp2_with (first
        | (go_at_call 32; refine (HV.out _ K0.out).mono ?_; rintro e w1 ⟨rfl, k1⟩; have K1 := K0.out.trans k1; obtain ⟨B1, B2⟩ := k1.blk2; have b1 := B1.cell 2; have b2 := B2.cell 2; have l1 := B1.lt; have l2 := B2.lt)
        | (go_at_call 33; refine (HL.out _ K1).mono ?_; rintro e w2 ⟨rfl, k2⟩))
      go_ret
      rw [HR.out]
      exact ⟨rfl, K1.trans k2⟩
  · rw [decide_eq_false hd, Bool.false_and] at hcs
    have hne := beq_noS hd
    have HR := Lib.hid hcs
    clear hcs hd
    go_enter Tryz.func12, Tryz.ntmps12
    go_wp2_with fail
    go_ret
    rw [HR.out]
    exact ⟨rfl, K0.out⟩
end Go.Proofs.YtemejaomfbhldaaGreatDoor
/- The chapter's examples on cases hold. -/
namespace Go.Proofs.YtemejaomfbhldaaGreatDoor
open Go.RowKit

def exPost (w : World) (e : Ending) (w' : World) : Prop := ∃ A, e = .returned (.agg #[.slice none 0 0, .slice none 0 0, .slice A 1 1]) ∧ LawM w' (.agg #[.slice none 0 0, .slice none 0 0, .slice A 1 1]) [] exS ∧ Kept w w'
theorem ex_law {W : World} {g2 g3 t2 t3 : Nat} {s a b : ByteArray} (B2 : Blk W g2 t2 #[.string a, .int .i64 3, .int .i64 0, .string b, .int .i64 1, .int .i64 0])
    (B3 : Blk W g3 t3 #[.string s, .int .i64 (-1), .slice (some ⟨g2, 0, none⟩) 2 2, .slice none 0 0, .slice none 0 0]) :
    LawM W (.agg #[.slice none 0 0, .slice none 0 0, .slice (some ⟨g3, 0, none⟩) 1 1]) [] exS := by
  refine ⟨_, none, 0, 0, _, rfl, Enums.nil _, ⟨some ⟨g3, 0, none⟩, 1, rfl, by decide, fun _ => ⟨g3, 0, rfl, B3.lt, fun j sc hj => ?_⟩⟩⟩
  match j, hj with
  | 0, hj =>
    obtain rfl := Option.some.inj hj
    refine ⟨by decide, B3.cell 1, _, B3.cell 2, ⟨_, 2, rfl, fun _ => ⟨g2, 0, rfl, B2.lt, fun j t hj => ?_⟩⟩⟩
    match j, hj with
    | 0, hj => obtain rfl := Option.some.inj hj; exact ⟨B2.cell 1, B2.cell 2⟩
    | 1, hj => obtain rfl := Option.some.inj hj; exact ⟨B2.cell 4, B2.cell 5⟩
set_option maxRecDepth 100000 in
set_option maxHeartbeats 4000000 in
theorem example19_any (w : World) : Calls Tryz.prog 14 #[] w (exPost w) := by
  unfold exPost
  go_enter Tryz.func14, Tryz.ntmps14
  go_wp2_with fail
  have B1 := ((Blk.new w 26 #[.slice none 0 0, .slice none 0 0, .slice (some ⟨w.heap.size + 1 + 1, 0, none⟩) 1 1]).alloc (.cells #[.string ⟨#[97]⟩, .int .i64 3, .int .i64 0, .string ⟨#[98]⟩, .int .i64 1, .int .i64 0] 87)).alloc (.cells #[.string ⟨#[115]⟩, .int .i64 (-1), .slice (some ⟨w.heap.size + 1, 0, none⟩) 2 2, .slice none 0 0, .slice none 0 0] 53)
  have B2 := (Blk.new (w.alloc (.cells #[.slice none 0 0, .slice none 0 0, .slice (some ⟨w.heap.size + 1 + 1, 0, none⟩) 1 1] 26)) 87 #[.string ⟨#[97]⟩, .int .i64 3, .int .i64 0, .string ⟨#[98]⟩, .int .i64 1, .int .i64 0]).alloc (.cells #[.string ⟨#[115]⟩, .int .i64 (-1), .slice (some ⟨w.heap.size + 1, 0, none⟩) 2 2, .slice none 0 0, .slice none 0 0] 53)
  have B3 := Blk.new ((w.alloc (.cells #[.slice none 0 0, .slice none 0 0, .slice (some ⟨w.heap.size + 1 + 1, 0, none⟩) 1 1] 26)).alloc (.cells #[.string ⟨#[97]⟩, .int .i64 3, .int .i64 0, .string ⟨#[98]⟩, .int .i64 1, .int .i64 0] 87)) 53 #[.string ⟨#[115]⟩, .int .i64 (-1), .slice (some ⟨w.heap.size + 1, 0, none⟩) 2 2, .slice none 0 0, .slice none 0 0]
  have hK := (((Kept.refl w).alloc (.cells #[.slice none 0 0, .slice none 0 0, .slice (some ⟨w.heap.size + 1 + 1, 0, none⟩) 1 1] 26)).alloc (.cells #[.string ⟨#[97]⟩, .int .i64 3, .int .i64 0, .string ⟨#[98]⟩, .int .i64 1, .int .i64 0] 87)).alloc (.cells #[.string ⟨#[115]⟩, .int .i64 (-1), .slice (some ⟨w.heap.size + 1, 0, none⟩) 2 2, .slice none 0 0, .slice none 0 0] 53)
  rw [World.size_alloc] at B2 B3
  rw [World.size_alloc] at B3
  generalize ((w.alloc (.cells #[.slice none 0 0, .slice none 0 0, .slice (some ⟨w.heap.size + 1 + 1, 0, none⟩) 1 1] 26)).alloc (.cells #[.string ⟨#[97]⟩, .int .i64 3, .int .i64 0, .string ⟨#[98]⟩, .int .i64 1, .int .i64 0] 87)).alloc (.cells #[.string ⟨#[115]⟩, .int .i64 (-1), .slice (some ⟨w.heap.size + 1, 0, none⟩) 2 2, .slice none 0 0, .slice none 0 0] 53) = W at *
  have b10 := B1.cell 0
  have b11 := B1.cell 1
  have b12 := B1.cell 2
  refine bodyPost_ret (v := .agg #[.slice none 0 0, .slice none 0 0, .slice (some ⟨w.heap.size + 1 + 1, 0, none⟩) 1 1]) (by simp [results, Tryz.results14, go_sem, b10, b11, b12]) rfl ⟨_, rfl, ex_law B2 B3, hK⟩
theorem p19_any (lv : Value) (w : World) (hL : LawM w lv [] exS) (hX : MaxV w) (hMo : Mon w) :
    Calls Tryz.prog 10 #[lv, .int .i64 0, .string ⟨#[100, 97, 116, 101, 32, 50, 48, 48, 48, 45, 48, 49, 45, 48, 49, 10, 105, 110, 32, 49, 50, 46, 53, 48, 32, 116, 114, 117, 101, 10]⟩] w fun e w' =>
      ∃ iv mv, e = .returned (.tuple #[.agg #[.int .i64 36524, iv, mv], .int .i64 0, .int .i64 0]) ∧ Vals w' iv exV ∧ Mems w' mv [] ∧ Kept w w' := by
  have := cparse_any lv [] exS 0 exT w hL (by decide) hX hMo
  rw [ex19_p] at this
  exact this
theorem u19_any (lv : Value) (w : World) (hL : LawM w lv [] exS) (hX : MaxV w) (hMo : Mon w) :
    Calls Tryz.prog 10 #[lv, .int .i64 0, .string ⟨#[100, 97, 116, 101, 32, 50, 48, 48, 48, 45, 48, 49, 45, 48, 49, 10, 105, 110, 32, 49, 50, 46, 53, 32, 116, 114, 117, 101, 10]⟩] w fun e w' =>
      ∃ iv mv, e = .returned (.tuple #[.agg #[.int .i64 0, iv, mv], .int .i64 1, .int .i64 2]) ∧ Vals w' iv [] ∧ Mems w' mv [] ∧ Kept w w' := by
  have := cparse_any lv [] exS 0 exU w hL (by decide) hX hMo
  rw [ex19_u] at this
  exact this
theorem f19_any (lv iv mv : Value) (w : World) (hL : LawM w lv [] exS) (hI : Vals w iv exV) (hM : Mems w mv []) (hMo : Mon w) (hP : Pow w) :
    Calls Tryz.prog 8 #[lv, .int .i64 0, .agg #[.int .i64 36524, iv, mv]] w fun e w' =>
      e = .returned (.tuple #[.string ⟨#[100, 97, 116, 101, 32, 50, 48, 48, 48, 45, 48, 49, 45, 48, 49, 10, 105, 110, 32, 49, 50, 46, 53, 48, 32, 116, 114, 117, 101, 10]⟩, .int .i64 0]) ∧ Kept w w' := by
  have hb : (textL (caseT [] 36524 exV [])).length ≤ 1000000000 := by rw [← bs_size, ex19_t]; decide
  have := cformat_any lv iv mv [] exS 0 36524 exV [] w hL hI (by decide) hM (fun _ => hb) hMo hP
  rw [ex19_f] at this
  exact this
theorem v19_any (lv iv mv : Value) (w : World) (hL : LawM w lv [] exS) (hI : Vals w iv exV) (hM : Mems w mv [[]]) :
    Calls Tryz.prog 15 #[lv, .int .i64 0, .agg #[.int .i64 36524, iv, mv]] w fun e w' =>
      e = .returned (.tuple #[.int .i64 0, .int .i64 (-1), .int .i64 4]) ∧ Kept w w' := by
  have := validate_any lv iv mv [] exS 0 36524 exV [[]] w hL hI (by decide) hM
  rw [ex19_m] at this
  exact this
set_option maxRecDepth 100000 in
set_option maxHeartbeats 8000000 in
theorem awake19_any (w : World) (hMo : Mon w) (hP : Pow w) (hX : MaxV w) :
    Calls Tryz.prog 7 #[] w fun e w' => e = .returned (.bool true) ∧ Kept w w' := by
  go_enter Tryz.func7, Tryz.ntmps7
  go_wp2_with fail
  refine (example19_any w).mono ?_
  rintro e w1 ⟨AS, rfl, hL1, k1⟩
  go_wp2_with fail
  have K1 := k1.alloc (.cells #[.slice none 0 0, .slice none 0 0, .slice AS 1 1] 26)
  have L1 := hL1.kept ((Kept.refl w1).alloc (.cells #[.slice none 0 0, .slice none 0 0, .slice AS 1 1] 26))
  refine (p19_any _ _ L1 (hX.kept K1) (hMo.kept K1)).mono ?_
  rintro r w2 ⟨iv, mv, rfl, hI2, hM2, k2⟩
  obtain ⟨AI, ci, hiv⟩ : ∃ A c, iv = .slice A 2 c := hI2.form
  obtain ⟨AM, cm, hmv, _⟩ : ∃ A c, mv = .slice A 0 c ∧ _ := hM2
  subst hiv hmv
  have B1 := k2.blk1
  have K2 := K1.trans k2
  have L2 := L1.kept k2
  have k12 : Kept w1 w2 := ((Kept.refl w1).alloc _).trans k2
  have HL1 := Lib.hid hL1
  have HI2 := Lib.hid hI2
  have b10 := B1.cell 0
  have b11 := B1.cell 1
  have b12 := B1.cell 2
  have b1l := B1.lt
  clear k2 K1 L1 hL1 k1
  go_wp2_with fail
  have K3 := K2.alloc (.cells #[.int .i64 36524, .slice AI 2 ci, .slice AM 0 cm] 30)
  have L3 := L2.kept ((Kept.refl w2).alloc (.cells #[.int .i64 36524, .slice AI 2 ci, .slice AM 0 cm] 30))
  have I3 := hI2.kept ((Kept.refl w2).alloc (.cells #[.int .i64 36524, .slice AI 2 ci, .slice AM 0 cm] 30))
  refine (f19_any _ _ _ _ L3 I3 ⟨AM, cm, rfl, by decide, fun h => absurd h (by decide)⟩ (hMo.kept K3) (hP.kept K3)).mono ?_
  rintro r w3 ⟨rfl, k3⟩
  have C1 := (B1.alloc (.cells #[.int .i64 36524, .slice AI 2 ci, .slice AM 0 cm] 30)).kept k3
  have C2 := k3.blk1
  have K4 := K3.trans k3
  have k23 : Kept w2 w3 := ((Kept.refl w2).alloc _).trans k3
  have K2h := Lib.hid K2
  have L4 := L3.kept k3
  have I4 := I3.kept k3
  have hg2 : w1.heap.size < w2.heap.size := B1.lt
  clear b10 b11 b12 b1l B1 k3 K3 L3 I3 K2 L2 hI2
  have b10 := C1.cell 0
  have b11 := C1.cell 1
  have b12 := C1.cell 2
  have b1l := C1.lt
  go_wp2_with fail
  refine (u19_any _ _ L4 (hX.kept K4) (hMo.kept K4)).mono ?_
  rintro r w4 ⟨iv2, mv2, rfl, hi2, hm2, k4⟩
  obtain ⟨AI2, ci2, hiv⟩ : ∃ A c, iv2 = .slice A 0 c := hi2.form
  obtain ⟨AM2, cm2, hmv, _⟩ : ∃ A c, mv2 = .slice A 0 c ∧ _ := hm2
  subst hiv hmv
  have k24 := k23.trans k4
  have D1 := C1.kept k4
  have D2 := C2.kept k4
  have K5 := K4.trans k4
  have L5 := L4.kept k4
  have I5 := I4.kept k4
  clear b10 b11 b12 b1l C1 C2 k4 K4 L4 I4 hi2
  have b10 := D1.cell 0
  have b11 := D1.cell 1
  have b12 := D1.cell 2
  have b1l := D1.lt
  have b20 := D2.cell 0
  have b21 := D2.cell 1
  have b22 := D2.cell 2
  have b2l := D2.lt
  have b2f := D2.frozen
  clear L5 I5 K5
  go_wp2_with fail
  have E2 : Blk (w4.setCell ⟨w2.heap.size, 2, none⟩ (.slice (some ⟨w4.heap.size + 1, 0, none⟩) 1 1)) w2.heap.size 30 #[.int .i64 36524, .slice AI 2 ci, .slice (some ⟨w4.heap.size + 1, 0, none⟩) 1 1] := D2.set_ 2 (.slice (some ⟨w4.heap.size + 1, 0, none⟩) 1 1)
  have hsz : (w4.setCell ⟨w2.heap.size, 2, none⟩ (.slice (some ⟨w4.heap.size + 1, 0, none⟩) 1 1)).heap.size = w4.heap.size := by simp
  have k25 := k24.setCell (p := ⟨w2.heap.size, 2, none⟩) (Nat.le_refl _) (.slice (some ⟨w4.heap.size + 1, 0, none⟩) 1 1)
  clear b10 b11 b12 b1l b20 b21 b22 b2l b2f D1 D2 k24
  generalize w4.setCell ⟨w2.heap.size, 2, none⟩ (.slice (some ⟨w4.heap.size + 1, 0, none⟩) 1 1) = V at *
  have N := Blk.new (V.alloc (.cells #[.int .i64 0, .slice AI2 0 ci2, .slice AM2 0 cm2] 30)) 27 #[.slice none 0 0]
  rw [World.size_alloc, hsz] at N
  have E3 := (E2.alloc (.cells #[.int .i64 0, .slice AI2 0 ci2, .slice AM2 0 cm2] 30)).alloc (.cells #[.slice none 0 0] 27)
  have k26 := (k25.alloc (.cells #[.int .i64 0, .slice AI2 0 ci2, .slice AM2 0 cm2] 30)).alloc (.cells #[.slice none 0 0] 27)
  have M5 : Mems ((V.alloc (.cells #[.int .i64 0, .slice AI2 0 ci2, .slice AM2 0 cm2] 30)).alloc (.cells #[.slice none 0 0] 27)) (.slice (some ⟨w4.heap.size + 1, 0, none⟩) 1 1) [[]] := by
    refine ⟨_, 1, rfl, by decide, fun _ => ⟨w4.heap.size + 1, 0, rfl, N.lt, fun j l hj => ?_⟩⟩
    match j, hj with
    | 0, hj =>
      obtain rfl := Option.some.inj hj
      exact ⟨by decide, _, N.cell 0, Recs.nil _ _ _⟩
  refine (v19_any _ _ _ _ (HL1.out.kept (k12.trans k26)) (HI2.out.kept k26) M5).mono ?_
  rintro r w5 ⟨rfl, k5⟩
  have E5 := E3.kept k5
  have k27 := k26.trans k5
  have I5 := HI2.out.kept k27
  obtain ⟨A, c, hv, hx⟩ := Vals.at_ I5
  simp only [Value.slice.injEq] at hv
  obtain ⟨rfl, h2, rfl⟩ := hv
  clear h2
  obtain ⟨b, off, rfl, hb, hc⟩ := hx (by decide)
  have x2 := (hc 0 _ rfl).2.2
  rw [Nat.zero_mul, Nat.add_zero] at x2
  dsimp only at x2
  have b20 := E5.cell 0
  have b21 := E5.cell 1
  have b2l := E5.lt
  have KK := K2h.out.trans k27
  clear hx hc k25 k26 E2 E3 N M5 E5 hsz I5 k27 k12 k23
  go_wp2_with fail
  go_ret
  exact ⟨rfl, KK⟩
end Go.Proofs.YtemejaomfbhldaaGreatDoor
/- Laws and cases that came in, opened: what package casedata, its reference and the size tests read of them. -/
namespace Go.Proofs.YtemejaomfbhldaaGreatDoor
open Go.ChangeShapes Go.WideShapes Go.ChangeAt Go.RowKit Go.Joins Go.Deep

theorem choose_list {α : Type} {p : Nat → α → Prop} : ∀ (n : Nat), (∀ i, i < n → ∃ x, p i x) → ∃ xs : List α, xs.length = n ∧ ∀ (i : Nat) x, xs[i]? = some x → p i x
  | 0, _ => ⟨[], rfl, fun i x h => by simp at h⟩
  | n + 1, h => by
    obtain ⟨xs, hl, hx⟩ := choose_list n (fun i hi => h i (by omega))
    obtain ⟨y, hy⟩ := h n (by omega)
    refine ⟨xs ++ [y], by simp [hl], fun i x hi => ?_⟩
    by_cases hlt : i < xs.length
    · rw [List.getElem?_append_left hlt] at hi
      exact hx i x hi
    · have hin : i = n := by
        have := (List.getElem?_eq_some_iff.1 hi).1
        rw [List.length_append, List.length_singleton] at this
        omega
      subst hin
      rw [List.getElem?_append_right (by omega), hl, Nat.sub_self] at hi
      obtain rfl : y = x := Option.some.inj hi
      exact hy
/-- a slice whose every element, of k cells, is as p says -/
def SlW (w : World) (k : Nat) (p : World → Nat → Nat → Prop) (v : Value) : Prop :=
  ∃ A n cap, v = .slice A n cap ∧ n ≤ 9223372036854775807 ∧ (0 < n → ∃ b off, A = some ⟨b, off, none⟩ ∧ b < w.heap.size ∧ ∀ j, j < n → p w b (off + j * k))
def KeptP (p : World → Nat → Nat → Prop) : Prop := ∀ w w' b o, Kept w w' → b < w.heap.size → p w b o → p w' b o
theorem SlW.kept {w w' : World} {k : Nat} {p : World → Nat → Nat → Prop} {v : Value} (hp : KeptP p) (h : SlW w k p v) (hk : Kept w w') : SlW w' k p v := by
  obtain ⟨A, n, cap, hv, hn, hx⟩ := h
  refine ⟨A, n, cap, hv, hn, fun h0 => ?_⟩
  obtain ⟨b, off, hA, hb, hc⟩ := hx h0
  exact ⟨b, off, hA, Nat.lt_of_lt_of_le hb hk.size, fun j hj => hp _ _ _ _ hk hb (hc j hj)⟩
/-- a string, an int, a slice in a cell -/
def StrAt (w : World) (b o : Nat) : Prop := ∃ s, w.cell? ⟨b, o, none⟩ = some (.string s)
def IntAt (w : World) (b o : Nat) : Prop := ∃ n, w.cell? ⟨b, o, none⟩ = some (.int .i64 n)
def SlAt (w : World) (b o : Nat) : Prop := ∃ A n c, w.cell? ⟨b, o, none⟩ = some (.slice A n c) ∧ n ≤ 9223372036854775807
theorem StrAt.kept : KeptP StrAt := fun _ _ b o hk hb ⟨s, h⟩ => ⟨s, hk.cell (p := ⟨b, o, none⟩) hb h⟩
theorem IntAt.kept : KeptP IntAt := fun _ _ b o hk hb ⟨s, h⟩ => ⟨s, hk.cell (p := ⟨b, o, none⟩) hb h⟩
theorem SlAt.kept : KeptP SlAt := fun _ _ b o hk hb ⟨A, n, c, h, hn⟩ => ⟨A, n, c, hk.cell (p := ⟨b, o, none⟩) hb h, hn⟩
/-- a rule; a scope; a table -/
def RuP (w : World) (b o : Nat) : Prop := StrAt w b o ∧ IntAt w b (o + 1) ∧ IntAt w b (o + 2) ∧ IntAt w b (o + 3) ∧ IntAt w b (o + 4) ∧ IntAt w b (o + 5) ∧ SlAt w b (o + 6) ∧ SlAt w b (o + 7) ∧ StrAt w b (o + 8)
theorem RuP.kept : KeptP RuP := fun _ _ _ _ hk hb ⟨h0, h1, h2, h3, h4, h5, h6, h7, h8⟩ =>
  ⟨StrAt.kept _ _ _ _ hk hb h0, IntAt.kept _ _ _ _ hk hb h1, IntAt.kept _ _ _ _ hk hb h2, IntAt.kept _ _ _ _ hk hb h3, IntAt.kept _ _ _ _ hk hb h4, IntAt.kept _ _ _ _ hk hb h5, SlAt.kept _ _ _ _ hk hb h6, SlAt.kept _ _ _ _ hk hb h7, StrAt.kept _ _ _ _ hk hb h8⟩
def ScP (w : World) (b o : Nat) : Prop := StrAt w b o ∧ IntAt w b (o + 1) ∧ (∃ v, w.cell? ⟨b, o + 2, none⟩ = some v ∧ SlW w 3 StrAt v) ∧ (∃ v, w.cell? ⟨b, o + 3, none⟩ = some v ∧ SlW w 3 StrAt v) ∧ ∃ v, w.cell? ⟨b, o + 4, none⟩ = some v ∧ SlW w 9 RuP v
theorem ScP.kept : KeptP ScP := fun _ _ b o hk hb ⟨h0, h1, ⟨v2, h2, g2⟩, ⟨v3, h3, g3⟩, ⟨v4, h4, g4⟩⟩ =>
  ⟨StrAt.kept _ _ _ _ hk hb h0, IntAt.kept _ _ _ _ hk hb h1, ⟨v2, hk.cell (p := ⟨b, o + 2, none⟩) hb h2, g2.kept StrAt.kept hk⟩, ⟨v3, hk.cell (p := ⟨b, o + 3, none⟩) hb h3, g3.kept StrAt.kept hk⟩, ⟨v4, hk.cell (p := ⟨b, o + 4, none⟩) hb h4, g4.kept RuP.kept hk⟩⟩
def TbP (w : World) (b o : Nat) : Prop := StrAt w b o ∧ SlAt w b (o + 5)
theorem TbP.kept : KeptP TbP := fun _ _ _ _ hk hb ⟨h0, h1⟩ => ⟨StrAt.kept _ _ _ _ hk hb h0, SlAt.kept _ _ _ _ hk hb h1⟩
/-- a law, as far as the size tests read it -/
def LawR (w : World) (v : Value) : Prop := ∃ ev tv sv, v = .agg #[ev, tv, sv] ∧ SlW w 2 StrAt ev ∧ SlW w 6 TbP tv ∧ SlW w 5 ScP sv
theorem LawR.kept {w w' : World} {v : Value} (h : LawR w v) (hk : Kept w w') : LawR w' v := by
  obtain ⟨ev, tv, sv, hv, h0, h1, h2⟩ := h
  exact ⟨ev, tv, sv, hv, h0.kept StrAt.kept hk, h1.kept TbP.kept hk, h2.kept ScP.kept hk⟩

section
variable {H : Type} {enc : TypeId × Value → H} {w : World}
theorem addr_none (b o q : Nat) : (⟨b, o, none⟩ : Addr).add q = ⟨b, o + q, none⟩ := by
  unfold Addr.add
  by_cases e : q = 0
  · subst e; rfl
  · simp [e]
/-- a slice, element by element -/
theorem Reads.slice {t e : TypeId} {k : Nat} {v : Value} (ht : Tryz.prog.underlying t = some (.slice e)) (hC : Tryz.prog.cellsOf e = k) (hk : 0 < k) (hlen : ∀ cs, Reads enc w e cs → cs.length = k) (h : Reads enc w t [v]) :
    ∃ A n cap, v = .slice A n cap ∧ n ≤ 9223372036854775807 ∧ (n = 0 → A = none ∨ True) ∧ (0 < n → ∃ b off, A = some ⟨b, off, none⟩ ∧ b < w.heap.size ∧
      ∀ i, i < n → ∃ cs, cs.length = k ∧ (∀ j, j < k → w.cell? ⟨b, off + i * k + j, none⟩ = cs[j]?) ∧ Reads enc w e cs) := by
  obtain ⟨fuel, x, h⟩ := h
  rcases open_slice ht h with ⟨hcs, _⟩ | ⟨a, len, cap, m, n, D, Pl, hcs, hb, hl, hm, hmm, hx, hi⟩
  · simp only [List.cons.injEq, and_true] at hcs
    exact ⟨none, 0, 0, hcs, by omega, fun _ => .inl rfl, fun h => absurd h (by decide)⟩
  · simp only [if_true] at hmm
    subst hmm
    simp only [List.cons.injEq, and_true] at hcs
    unfold maxLen at hm
    refine ⟨some a, len, _, hcs, by omega, fun _ => .inr trivial, fun hp => ?_⟩
    have hex : ∀ i, i < len → ∃ cs, cs.length = k ∧ (∀ j, j < k → w.cell? ((a.add (i * k)).add j) = cs[j]?) ∧ Reads enc w e cs := by
      intro i hil
      obtain ⟨cs', hc, ht'⟩ := hi i (by omega)
      rw [hC] at hc
      obtain ⟨_, hcl, hat⟩ := World.cells?_some hc
      have hr : Reads enc w e cs' := ⟨_, _, ht'⟩
      exact ⟨cs', hlen _ hr, fun j hj => hat j hj, hr⟩
    obtain ⟨cs0, hl0, hc0, _⟩ := hex 0 hp
    have c0 : w.cell? ((a.add (0 * k)).add 0) = some (cs0[0]'(by omega)) := by rw [hc0 0 hk, List.getElem?_eq_getElem]
    have hb := cell_lt c0
    rw [block_of_add, block_of_add] at hb
    obtain ⟨b, o, sp⟩ := a
    have hsn : sp = none := by
      have := World.cell?_spot c0
      simpa [Addr.add] using this
    subst hsn
    refine ⟨b, o, rfl, hb, fun i hil => ?_⟩
    obtain ⟨cs, q0, q1, q2⟩ := hex i hil
    refine ⟨cs, q0, fun j hj => ?_, q2⟩
    rw [← q1 j hj, addr_none, addr_none]
/-- a field of one cell -/
theorem Reads.oneAt {t : TypeId} {fs : Array Field} {cs : List Value} (ht : Tryz.prog.underlying t = some (.struct fs)) (h : Reads enc w t cs) (i o : Nat) (T : TypeId) (f : Field) (hf : fs[i]? = some f) (ho : f.offset = o) (hT : f.type = T) (hk : Tryz.prog.cellsOf T = 1) (hlt : o < cs.length) :
    ∃ u, cs[o]? = some u ∧ Reads enc w T [u] := by
  have h1 := h.sub ht i o 1 T f hf ho hT hk
  refine ⟨cs[o], List.getElem?_eq_getElem hlt, ?_⟩
  rw [List.drop_eq_getElem_cons hlt] at h1
  exact h1
theorem Reads.str1 {u : Value} (h : Reads enc w 9 [u]) : ∃ s : ByteArray, u = .string s := by
  obtain ⟨fuel, x, h⟩ := h
  obtain ⟨s, e1, _, _⟩ := DataW.trod_string Tryz.underlying9 h
  simp only [List.cons.injEq, and_true] at e1
  exact ⟨s, e1⟩
theorem Reads.int1 {u : Value} (h : Reads enc w 3 [u]) : ∃ n : Int, u = .int .i64 n := by
  obtain ⟨n, e, _⟩ := h.int
  simp only [List.cons.injEq, and_true] at e
  exact ⟨n, e⟩
theorem Reads.lenS {t : TypeId} {fs : Array Field} {k : Nat} (ht : Tryz.prog.underlying t = some (.struct fs)) (hC : Tryz.prog.cellsOf t = k) {cs : List Value} (h : Reads enc w t cs) : cs.length = k := (h.length ht).trans hC
theorem cStr : Tryz.prog.cellsOf 9 = 1 := by kernel_rfl
theorem cTyp : Tryz.prog.cellsOf 46 = 2 := by kernel_rfl
theorem cFld : Tryz.prog.cellsOf 87 = 3 := by kernel_rfl
theorem cVal : Tryz.prog.cellsOf 59 = 3 := by kernel_rfl
theorem cRul : Tryz.prog.cellsOf 92 = 9 := by kernel_rfl
theorem cScp : Tryz.prog.cellsOf 53 = 5 := by kernel_rfl
theorem cTab : Tryz.prog.cellsOf 49 = 6 := by kernel_rfl
theorem cEnm : Tryz.prog.cellsOf 44 = 2 := by kernel_rfl
theorem cNod : Tryz.prog.cellsOf 181 = 2 := by kernel_rfl
theorem cRow : Tryz.prog.cellsOf 179 = 5 := by kernel_rfl
theorem cSlV : Tryz.prog.cellsOf 27 = 1 := by kernel_rfl
theorem uStrs : Tryz.prog.underlying 42 = some (.slice 9) := by kernel_rfl
theorem uFlds : Tryz.prog.underlying 50 = some (.slice 87) := by kernel_rfl
theorem uVals : Tryz.prog.underlying 27 = some (.slice 59) := by kernel_rfl
theorem uMems : Tryz.prog.underlying 28 = some (.slice 27) := by kernel_rfl
theorem uRuls : Tryz.prog.underlying 51 = some (.slice 92) := by kernel_rfl
theorem uScps : Tryz.prog.underlying 24 = some (.slice 53) := by kernel_rfl
theorem uTabs : Tryz.prog.underlying 23 = some (.slice 49) := by kernel_rfl
theorem uEnms : Tryz.prog.underlying 22 = some (.slice 44) := by kernel_rfl
theorem uNods : Tryz.prog.underlying 90 = some (.slice 181) := by kernel_rfl
theorem uRows : Tryz.prog.underlying 47 = some (.slice 179) := by kernel_rfl
/-- the lists of values -/
theorem open_vals {v : Value} (h : Reads enc w 27 [v]) : ∃ xs : List Vl, Vals w v xs ∧ xs.length ≤ 9223372036854775807 := by
  obtain ⟨A, n, cap, rfl, hn, _, hx⟩ := h.slice uVals cVal (by decide) (fun cs h => h.lenS Tryz.underlying59 cVal)
  rcases Nat.eq_zero_or_pos n with h0 | hp
  · subst h0
    exact ⟨[], ⟨A, cap, rfl, fun h => absurd h (by simp)⟩, by simp⟩
  obtain ⟨b, off, rfl, hb, hc⟩ := hx hp
  obtain ⟨xs, hl, hxs⟩ := choose_list (p := fun i (x : Vl) => ∀ j u, (vlF x)[j]? = some u → w.cell? ⟨b, off + i * 3 + j, none⟩ = some u) n (fun i hi => by
    obtain ⟨cs, hcl, hcc, hr⟩ := hc i hi
    obtain ⟨x0, e0, _⟩ := hr.intAt Tryz.underlying59 0 0 _ rfl rfl rfl
    obtain ⟨x1, e1, _⟩ := hr.intAt Tryz.underlying59 1 1 _ rfl rfl rfl
    obtain ⟨x2, e2, _⟩ := hr.intAt Tryz.underlying59 2 2 _ rfl rfl rfl
    refine ⟨⟨x0, x1, x2⟩, fun j u hu => ?_⟩
    match j, hu with
    | 0, hu => obtain rfl := Option.some.inj hu; rw [hcc 0 (by decide), e0]
    | 1, hu => obtain rfl := Option.some.inj hu; rw [hcc 1 (by decide), e1]
    | 2, hu => obtain rfl := Option.some.inj hu; rw [hcc 2 (by decide), e2]
    | j + 3, hu => simp [vlF] at hu)
  subst hl
  exact ⟨xs, ⟨_, cap, rfl, fun _ => ⟨b, off, rfl, hb, fun j x hj i u hu => hxs j x hj i u hu⟩⟩, hn⟩
theorem open_mems {v : Value} (h : Reads enc w 28 [v]) : ∃ mem : List (List Vl), Mems w v mem := by
  obtain ⟨A, n, cap, rfl, hn, _, hx⟩ := h.slice uMems cSlV (by decide) (fun cs h => by
    obtain ⟨fuel, x, h⟩ := h
    rcases open_slice uVals h with ⟨hcs, _⟩ | ⟨a, len, cap, m, n, D, Pl, hcs, _⟩ <;> rw [hcs] <;> rfl)
  rcases Nat.eq_zero_or_pos n with h0 | hp
  · subst h0
    exact ⟨[], ⟨A, cap, rfl, by simp, fun h => absurd h (by simp)⟩⟩
  obtain ⟨b, off, rfl, hb, hc⟩ := hx hp
  obtain ⟨xs, hl, hxs⟩ := choose_list (p := fun i (l : List Vl) => l.length ≤ 9223372036854775807 ∧ ∃ lv, w.cell? ⟨b, off + i, none⟩ = some lv ∧ Vals w lv l) n (fun i hi => by
    obtain ⟨cs, hcl, hcc, hr⟩ := hc i hi
    match cs, hcl with
    | [u], _ =>
      obtain ⟨l, h1, h2⟩ := open_vals hr
      have := hcc 0 (by decide)
      exact ⟨l, h2, u, by rw [show off + i = off + i * 1 + 0 by omega, this]; rfl, h1⟩)
  subst hl
  exact ⟨xs, ⟨_, cap, rfl, hn, fun _ => ⟨b, off, rfl, hb, hxs⟩⟩⟩
theorem open_fds {v : Value} (h : Reads enc w 50 [v]) : ∃ ts : List Ty, Fds w v ts ∧ ts.length ≤ 9223372036854775807 ∧ SlW w 3 StrAt v := by
  obtain ⟨A, n, cap, rfl, hn, _, hx⟩ := h.slice uFlds cFld (by decide) (fun cs h => h.lenS Tryz.underlying87 cFld)
  rcases Nat.eq_zero_or_pos n with h0 | hp
  · subst h0
    exact ⟨[], ⟨A, cap, rfl, fun h => absurd h (by simp)⟩, by simp, ⟨A, 0, cap, rfl, by omega, fun h => absurd h (by simp)⟩⟩
  obtain ⟨b, off, rfl, hb, hc⟩ := hx hp
  obtain ⟨xs, hl, hxs⟩ := choose_list (p := fun i (x : Ty) => w.cell? ⟨b, off + i * 3 + 1, none⟩ = some (.int .i64 x.k) ∧ w.cell? ⟨b, off + i * 3 + 2, none⟩ = some (.int .i64 x.e)) n (fun i hi => by
    obtain ⟨cs, hcl, hcc, hr⟩ := hc i hi
    have h1 := hr.sub Tryz.underlying87 1 1 2 46 _ rfl rfl rfl cTyp
    obtain ⟨x0, e0, _⟩ := h1.intAt Tryz.underlying46 0 0 _ rfl rfl rfl
    obtain ⟨x1, e1, _⟩ := h1.intAt Tryz.underlying46 1 1 _ rfl rfl rfl
    match cs, hcl with
    | [u0, u1, u2], _ =>
      simp at e0 e1
      subst e0 e1
      exact ⟨⟨x0, x1⟩, hcc 1 (by decide), hcc 2 (by decide)⟩)
  subst hl
  refine ⟨xs, ⟨_, cap, rfl, fun _ => ⟨b, off, rfl, hb, hxs⟩⟩, hn, ⟨_, _, cap, rfl, hn, fun _ => ⟨b, off, rfl, hb, fun i hi => ?_⟩⟩⟩
  obtain ⟨cs, hcl, hcc, hr⟩ := hc i hi
  obtain ⟨u, hu, hr0⟩ := hr.oneAt Tryz.underlying87 0 0 9 _ rfl rfl rfl cStr (by omega)
  obtain ⟨s, rfl⟩ := hr0.str1
  exact ⟨s, by rw [← hu]; exact hcc 0 (by decide)⟩
theorem open_nods {v : Value} (h : Reads enc w 90 [v]) : ∃ A n c, v = .slice A n c ∧ n ≤ 9223372036854775807 := by
  obtain ⟨A, n, cap, rfl, hn, _⟩ := h.slice uNods cNod (by decide) (fun cs h => h.lenS Tryz.underlying181 cNod)
  exact ⟨A, n, cap, rfl, hn⟩
theorem open_rows {v : Value} (h : Reads enc w 47 [v]) : ∃ A n c, v = .slice A n c ∧ n ≤ 9223372036854775807 := by
  obtain ⟨A, n, cap, rfl, hn, _⟩ := h.slice uRows cRow (by decide) (fun cs h => h.lenS Tryz.underlying179 cRow)
  exact ⟨A, n, cap, rfl, hn⟩
theorem open_rules {v : Value} (h : Reads enc w 51 [v]) : SlW w 9 RuP v := by
  obtain ⟨A, n, cap, rfl, hn, _, hx⟩ := h.slice uRuls cRul (by decide) (fun cs h => h.lenS Tryz.underlying92 cRul)
  refine ⟨A, n, cap, rfl, hn, fun hp => ?_⟩
  obtain ⟨b, off, rfl, hb, hc⟩ := hx hp
  refine ⟨b, off, rfl, hb, fun i hi => ?_⟩
  obtain ⟨cs, hcl, hcc, hr⟩ := hc i hi
  obtain ⟨u0, g0, r0⟩ := hr.oneAt Tryz.underlying92 0 0 9 _ rfl rfl rfl cStr (by omega)
  obtain ⟨s0, rfl⟩ := r0.str1
  obtain ⟨n1, g1, _⟩ := hr.intAt Tryz.underlying92 1 1 _ rfl rfl rfl
  obtain ⟨n2, g2, _⟩ := hr.intAt Tryz.underlying92 2 2 _ rfl rfl rfl
  obtain ⟨n3, g3, _⟩ := hr.intAt Tryz.underlying92 3 3 _ rfl rfl rfl
  have h4 := hr.sub Tryz.underlying92 4 4 2 89 _ rfl rfl rfl (by kernel_rfl)
  obtain ⟨n4, g4, _⟩ := h4.intAt Tryz.underlying89 0 0 _ rfl rfl rfl
  obtain ⟨n5, g5, _⟩ := h4.intAt Tryz.underlying89 1 1 _ rfl rfl rfl
  obtain ⟨u6, g6, r6⟩ := hr.oneAt Tryz.underlying92 5 6 90 _ rfl rfl rfl (by kernel_rfl) (by omega)
  obtain ⟨A6, n6, c6, rfl, l6⟩ := open_nods r6
  obtain ⟨u7, g7, r7⟩ := hr.oneAt Tryz.underlying92 6 7 90 _ rfl rfl rfl (by kernel_rfl) (by omega)
  obtain ⟨A7, n7, c7, rfl, l7⟩ := open_nods r7
  obtain ⟨u8, g8, r8⟩ := hr.oneAt Tryz.underlying92 7 8 9 _ rfl rfl rfl cStr (by omega)
  obtain ⟨s8, rfl⟩ := r8.str1
  match cs, hcl with
  | [v0, v1, v2, v3, v4, v5, v6, v7, v8], _ =>
    simp at g0 g1 g2 g3 g4 g5 g6 g7 g8
    subst g0 g1 g2 g3 g4 g5 g6 g7 g8
    exact ⟨⟨s0, hcc 0 (by decide)⟩, ⟨n1, hcc 1 (by decide)⟩, ⟨n2, hcc 2 (by decide)⟩, ⟨n3, hcc 3 (by decide)⟩, ⟨n4, hcc 4 (by decide)⟩, ⟨n5, hcc 5 (by decide)⟩, ⟨A6, n6, c6, hcc 6 (by decide), l6⟩, ⟨A7, n7, c7, hcc 7 (by decide), l7⟩, ⟨s8, hcc 8 (by decide)⟩⟩
theorem open_tabs {v : Value} (h : Reads enc w 23 [v]) : SlW w 6 TbP v := by
  obtain ⟨A, n, cap, rfl, hn, _, hx⟩ := h.slice uTabs cTab (by decide) (fun cs h => h.lenS Tryz.underlying49 cTab)
  refine ⟨A, n, cap, rfl, hn, fun hp => ?_⟩
  obtain ⟨b, off, rfl, hb, hc⟩ := hx hp
  refine ⟨b, off, rfl, hb, fun i hi => ?_⟩
  obtain ⟨cs, hcl, hcc, hr⟩ := hc i hi
  obtain ⟨u0, g0, r0⟩ := hr.oneAt Tryz.underlying49 0 0 9 _ rfl rfl rfl cStr (by omega)
  obtain ⟨s0, rfl⟩ := r0.str1
  obtain ⟨u5, g5, r5⟩ := hr.oneAt Tryz.underlying49 3 5 47 _ rfl rfl rfl (by kernel_rfl) (by omega)
  obtain ⟨A5, n5, c5, rfl, l5⟩ := open_rows r5
  exact ⟨⟨s0, by rw [← g0]; exact hcc 0 (by decide)⟩, ⟨A5, n5, c5, by rw [← g5]; exact hcc 5 (by decide), l5⟩⟩
theorem open_scs {v : Value} (h : Reads enc w 24 [v]) : ∃ scs : List Sc, Scs w v scs ∧ SlW w 5 ScP v := by
  obtain ⟨A, n, cap, rfl, hn, _, hx⟩ := h.slice uScps cScp (by decide) (fun cs h => h.lenS Tryz.underlying53 cScp)
  rcases Nat.eq_zero_or_pos n with h0 | hp
  · subst h0
    exact ⟨[], ⟨A, cap, rfl, by simp, fun h => absurd h (by simp)⟩, ⟨A, 0, cap, rfl, by omega, fun h => absurd h (by simp)⟩⟩
  obtain ⟨b, off, rfl, hb, hc⟩ := hx hp
  have hex : ∀ i, i < n → ∃ s : Sc, (s.ins.length ≤ 9223372036854775807 ∧ w.cell? ⟨b, off + i * 5 + 1, none⟩ = some (.int .i64 s.m) ∧ ∃ iv, w.cell? ⟨b, off + i * 5 + 2, none⟩ = some iv ∧ Fds w iv s.ins) ∧ ScP w b (off + i * 5) := by
    intro i hi
    obtain ⟨cs, hcl, hcc, hr⟩ := hc i hi
    obtain ⟨u0, g0, r0⟩ := hr.oneAt Tryz.underlying53 0 0 9 _ rfl rfl rfl cStr (by omega)
    obtain ⟨s0, rfl⟩ := r0.str1
    obtain ⟨n1, g1, _⟩ := hr.intAt Tryz.underlying53 1 1 _ rfl rfl rfl
    obtain ⟨u2, g2, r2⟩ := hr.oneAt Tryz.underlying53 2 2 50 _ rfl rfl rfl (by kernel_rfl) (by omega)
    obtain ⟨ts, q1, q2, q3⟩ := open_fds r2
    obtain ⟨u3, g3, r3⟩ := hr.oneAt Tryz.underlying53 3 3 50 _ rfl rfl rfl (by kernel_rfl) (by omega)
    obtain ⟨_, _, _, q4⟩ := open_fds r3
    obtain ⟨u4, g4, r4⟩ := hr.oneAt Tryz.underlying53 4 4 51 _ rfl rfl rfl (by kernel_rfl) (by omega)
    have q5 := open_rules r4
    have c0 := (hcc 0 (by decide)).trans g0
    have c1 := (hcc 1 (by decide)).trans g1
    have c2 := (hcc 2 (by decide)).trans g2
    have c3 := (hcc 3 (by decide)).trans g3
    have c4 := (hcc 4 (by decide)).trans g4
    exact ⟨⟨n1, ts⟩, ⟨q2, c1, u2, c2, q1⟩, ⟨s0, c0⟩, ⟨n1, c1⟩, ⟨u2, c2, q3⟩, ⟨u3, c3, q4⟩, u4, c4, q5⟩
  obtain ⟨xs, hl, hxs⟩ := choose_list n (fun i hi => (hex i hi).imp fun _ h => h.1)
  subst hl
  exact ⟨xs, ⟨_, cap, rfl, hn, fun _ => ⟨b, off, rfl, hb, hxs⟩⟩, ⟨_, _, cap, rfl, hn, fun _ => ⟨b, off, rfl, hb, fun i hi => (hex i hi).elim fun _ h => h.2⟩⟩⟩
theorem open_enm {v : Value} (h : Reads enc w 22 [v]) : ∃ ms : List (List ByteArray), Enums w v ms ∧ SlW w 2 StrAt v := by
  obtain ⟨A, n, cap, rfl, hn, _, hx⟩ := h.slice uEnms cEnm (by decide) (fun cs h => h.lenS Tryz.underlying44 cEnm)
  rcases Nat.eq_zero_or_pos n with h0 | hp
  · subst h0
    exact ⟨[], ⟨A, cap, rfl, by simp, fun h => absurd h (by simp)⟩, ⟨A, 0, cap, rfl, by omega, fun h => absurd h (by simp)⟩⟩
  obtain ⟨b, off, rfl, hb, hc⟩ := hx hp
  have hex : ∀ i, i < n → ∃ l : List ByteArray, (l.length ≤ 9223372036854775807 ∧ ∃ mv, w.cell? ⟨b, off + i * 2 + 1, none⟩ = some mv ∧ Strs w mv l) ∧ StrAt w b (off + i * 2) := by
    intro i hi
    obtain ⟨cs, hcl, hcc, hr⟩ := hc i hi
    obtain ⟨u0, g0, r0⟩ := hr.oneAt Tryz.underlying44 0 0 9 _ rfl rfl rfl cStr (by omega)
    obtain ⟨s0, rfl⟩ := r0.str1
    obtain ⟨u1, g1, r1⟩ := hr.oneAt Tryz.underlying44 1 1 42 _ rfl rfl rfl (by kernel_rfl) (by omega)
    obtain ⟨f, x, r1⟩ := r1
    obtain ⟨mv, l, e1, hs, hle⟩ := open_strs uStrs Tryz.underlying9 cStr r1
    simp only [List.cons.injEq, and_true] at e1
    subst e1
    unfold maxLen at hle
    exact ⟨l, ⟨hle, u1, (hcc 1 (by decide)).trans g1, hs⟩, s0, (hcc 0 (by decide)).trans g0⟩
  obtain ⟨xs, hl, hxs⟩ := choose_list n (fun i hi => (hex i hi).imp fun _ h => h.1)
  subst hl
  exact ⟨xs, ⟨_, cap, rfl, hn, fun _ => ⟨b, off, rfl, hb, hxs⟩⟩, ⟨_, _, cap, rfl, hn, fun _ => ⟨b, off, rfl, hb, fun i hi => (hex i hi).elim fun _ h => h.2⟩⟩⟩
set_option maxRecDepth 100000 in
theorem open_law {base : Nat} {v : Value} {d : DataW H} {p : List MemPlace} (hv : Value.okWide Tryz.prog w .any base 26 v) (h : DataW.Trod enc Tryz.prog w 0 (fun _ => true) true 26 v d p) :
    ∃ (ms : List (List ByteArray)) (scs : List Sc), LawM w v ms scs ∧ LawR w v := by
  obtain ⟨⟨cs⟩, rfl, hsz⟩ := okWide_struct Tryz.underlying26 hv
  rw [show Tryz.prog.cellsOf 26 = 3 by kernel_rfl] at hsz
  have hr := Reads.of h
  have hsl : cs.length = 3 := hsz
  obtain ⟨u0, g0, r0⟩ := hr.oneAt Tryz.underlying26 0 0 22 _ rfl rfl rfl (by kernel_rfl) (show 0 < cs.length by omega)
  obtain ⟨u1, g1, r1⟩ := hr.oneAt Tryz.underlying26 1 1 23 _ rfl rfl rfl (by kernel_rfl) (show 1 < cs.length by omega)
  obtain ⟨u2, g2, r2⟩ := hr.oneAt Tryz.underlying26 2 2 24 _ rfl rfl rfl (by kernel_rfl) (show 2 < cs.length by omega)
  obtain ⟨ms, e1, e2⟩ := open_enm r0
  have t1 := open_tabs r1
  obtain ⟨scs, s1, s2⟩ := open_scs r2
  obtain ⟨At, nt, ct, rfl, _⟩ := id t1
  match cs, hsl with
  | [c0, c1, c2], _ =>
    simp at g0 g1 g2
    subst g0 g1 g2
    exact ⟨ms, scs, ⟨_, At, nt, ct, _, rfl, e1, s1⟩, ⟨_, _, _, rfl, e2, t1, s2⟩⟩
set_option maxRecDepth 100000 in
theorem open_case {base : Nat} {v : Value} {d : DataW H} {p : List MemPlace} (hv : Value.okWide Tryz.prog w .any base 30 v) (h : DataW.Trod enc Tryz.prog w 0 (fun _ => true) true 30 v d p) :
    ∃ (dt : Int) (iv mv : Value) (ins : List Vl) (mem : List (List Vl)), v = .agg #[.int .i64 dt, iv, mv] ∧ Vals w iv ins ∧ ins.length ≤ 9223372036854775807 ∧ Mems w mv mem := by
  obtain ⟨⟨cs⟩, rfl, hsz⟩ := okWide_struct Tryz.underlying30 hv
  rw [show Tryz.prog.cellsOf 30 = 3 by kernel_rfl] at hsz
  have hr := Reads.of h
  have hsl : cs.length = 3 := hsz
  obtain ⟨dt, g0, _⟩ := hr.intAt Tryz.underlying30 0 0 _ rfl rfl rfl
  obtain ⟨u1, g1, r1⟩ := hr.oneAt Tryz.underlying30 1 1 27 _ rfl rfl rfl (by kernel_rfl) (show 1 < cs.length by omega)
  obtain ⟨u2, g2, r2⟩ := hr.oneAt Tryz.underlying30 2 2 28 _ rfl rfl rfl (by kernel_rfl) (show 2 < cs.length by omega)
  obtain ⟨ins, i1, i2⟩ := open_vals r1
  obtain ⟨mem, m1⟩ := open_mems r2
  match cs, hsl with
  | [c0, c1, c2], _ =>
    simp at g0 g1 g2
    subst g0 g1 g2
    exact ⟨dt, _, _, ins, mem, rfl, i1, i2, m1⟩
end
end Go.Proofs.YtemejaomfbhldaaGreatDoor
/- What the size tests of guerdonsame tell of laws and cases. -/
namespace Go.Proofs.YtemejaomfbhldaaGreatDoor
open Go.RowKit

theorem SlW.at_ {w : World} {k : Nat} {p : World → Nat → Nat → Prop} {v : Value} (h : SlW w k p v) : ∃ A n cap, v = .slice A n cap ∧ n ≤ 9223372036854775807 ∧ (0 < n → ∃ b off, A = some ⟨b, off, none⟩ ∧ b < w.heap.size ∧ ∀ j, j < n → p w b (off + j * k)) := h
def SmallB (Q : Prop) (w : World) (r : Ending) (w' : World) : Prop := ∃ b : Bool, r = .returned (.bool b) ∧ Kept w w' ∧ (b = true → Q)
set_option maxRecDepth 100000 in
set_option maxHeartbeats 8000000 in
theorem smallScope_any (nm : ByteArray) (m : Int) (iv dv rv : Value) (w : World) (hI : SlW w 3 StrAt iv) (hD : SlW w 3 StrAt dv) (hR : SlW w 9 RuP rv) :
    Calls Tryz.prog 13 #[.agg #[.string nm, .int .i64 m, iv, dv, rv]] w (SmallB True w) := by
  obtain ⟨A1, n1, c1, rfl, hn1, hx1⟩ := hI.at_
  obtain ⟨A2, n2, c2, rfl, hn2, hx2⟩ := hD.at_
  obtain ⟨A3, n3, c3, rfl, hn3, hx3⟩ := hR.at_
  have K0 := Lib.hid ((Kept.refl w).alloc (.cells #[.string nm, .int .i64 m, .slice A1 n1 c1, .slice A2 n2 c2, .slice A3 n3 c3] 53))
  clear hI hD hR
  rcases (show 80 < (nm.size : Int) ∨ (¬ 80 < (nm.size : Int) ∧ 14 < (n1 : Int)) ∨ (¬ 80 < (nm.size : Int) ∧ ¬ 14 < (n1 : Int) ∧ 14 < (n2 : Int)) ∨ (¬ 80 < (nm.size : Int) ∧ ¬ 14 < (n1 : Int) ∧ ¬ 14 < (n2 : Int) ∧ 60 < (n3 : Int)) ∨ (¬ 80 < (nm.size : Int) ∧ ¬ 14 < (n1 : Int) ∧ ¬ 14 < (n2 : Int) ∧ ¬ 60 < (n3 : Int)) by omega) with h | ⟨h, h1⟩ | ⟨h, h1, h2⟩ | ⟨h, h1, h2, h3⟩ | ⟨h, h1, h2, h3⟩
  iterate 4
    clear hx1 hx2 hx3
    go_enter Tryz.func13, Tryz.ntmps13
    go_wp2_with fail
    go_ret
    exact ⟨_, rfl, K0.out, fun h => trivial⟩
  go_enter Tryz.func13, Tryz.ntmps13
  go_wp2_with fail
  have B := Blk.new w 53 #[.string nm, .int .i64 m, .slice A1 n1 c1, .slice A2 n2 c2, .slice A3 n3 c3]
  have KK := K0.out
  generalize w.alloc (.cells #[.string nm, .int .i64 m, .slice A1 n1 c1, .slice A2 n2 c2, .slice A3 n3 c3] 53) = W at *
  have c0 := B.cell 2
  have c1' := B.cell 3
  have c2' := B.cell 4
  have cl := B.lt
  go_loopw [3] (fun y wr => ∃ i : Nat, y = .int .i64 i ∧ i ≤ n1 ∧ wr = W) (fun y _ => n1 - (intOf y).toNat)
  case atStart => exact ⟨0, rfl, Nat.zero_le _, rfl⟩
  case round =>
    obtain ⟨i, rfl, hin, rfl⟩ := hrel
    by_cases hlt : i < n1
    · obtain ⟨b, off, rfl, hb, hc⟩ := hx1 (by omega)
      obtain ⟨s, hs⟩ := hc i hlt
      have X0 := KK.cell (p := ⟨b, _, none⟩) hb hs
      have hb2 := Nat.lt_of_lt_of_le hb KK.size
      have hii : (i : Int) < n1 := by omega
      clear hc hs hx1 hx2 hx3
      by_cases h8 : 80 < (s.size : Int)
      · go_wp2_with fail
        go_ret
        exact ⟨_, rfl, KK, fun h => trivial⟩
      · go_wp2_with fail
        go_roundw
        case rel => exact ⟨i + 1, rfl, hlt, trivial⟩
        case measure => simp [intOf]; omega
    · have hii : ¬ ((i : Int) < n1) := by omega
      go_wp2_with fail
      go_loopw [4] (fun y wr' => ∃ i : Nat, y = .int .i64 i ∧ i ≤ n2 ∧ wr' = wr) (fun y _ => n2 - (intOf y).toNat)
      case atStart => exact ⟨0, rfl, Nat.zero_le _, rfl⟩
      case round =>
        obtain ⟨j, rfl, hjn, rfl⟩ := hrel
        by_cases hlt2 : j < n2
        · obtain ⟨b, off, rfl, hb, hc⟩ := hx2 (by omega)
          obtain ⟨s, hs⟩ := hc j hlt2
          have X0 := KK.cell (p := ⟨b, _, none⟩) hb hs
          have hb2 := Nat.lt_of_lt_of_le hb KK.size
          have hjj : (j : Int) < n2 := by omega
          clear hc hs hx1 hx2 hx3
          by_cases h8 : 80 < (s.size : Int)
          · go_wp2_with fail
            go_ret
            exact ⟨_, rfl, KK, fun h => trivial⟩
          · go_wp2_with fail
            go_roundw
            case rel => exact ⟨j + 1, rfl, hlt2, trivial⟩
            case measure => simp [intOf]; omega
        · have hjj : ¬ ((j : Int) < n2) := by omega
          go_wp2_with fail
          go_loopw [5] (fun y wr' => ∃ i : Nat, y = .int .i64 i ∧ i ≤ n3 ∧ Kept wr wr') (fun y _ => n3 - (intOf y).toNat)
          case atStart => exact ⟨0, rfl, Nat.zero_le _, Kept.refl _⟩
          case round =>
            obtain ⟨q, rfl, hqn, hK⟩ := hrel
            have B2 := B.kept hK
            have d2 := B2.cell 4
            have dl := B2.lt
            by_cases hlt3 : q < n3
            · obtain ⟨b, off, rfl, hb, hc⟩ := hx3 (by omega)
              have hru := RuP.kept _ _ _ _ (KK.trans hK) hb (hc q hlt3)
              obtain ⟨⟨s0, g0⟩, ⟨z1, g1⟩, ⟨z2, g2⟩, ⟨z3, g3⟩, ⟨z4, g4⟩, ⟨z5, g5⟩, ⟨A6, n6, c6, g6, l6⟩, ⟨A7, n7, c7, g7, l7⟩, ⟨s8, g8⟩⟩ := hru
              have hb2 := Nat.lt_of_lt_of_le hb (KK.trans hK).size
              have hqq : (q : Int) < n3 := by omega
              clear hc hx1 hx2 hx3 h h1 h2 h3
              rcases (show 80 < (s0.size : Int) ∨ (¬ 80 < (s0.size : Int) ∧ 80 < (s8.size : Int)) ∨ (¬ 80 < (s0.size : Int) ∧ ¬ 80 < (s8.size : Int) ∧ 50 < (n6 : Int)) ∨ (¬ 80 < (s0.size : Int) ∧ ¬ 80 < (s8.size : Int) ∧ ¬ 50 < (n6 : Int) ∧ 50 < (n7 : Int)) ∨ (¬ 80 < (s0.size : Int) ∧ ¬ 80 < (s8.size : Int) ∧ ¬ 50 < (n6 : Int) ∧ ¬ 50 < (n7 : Int)) by omega) with h | ⟨h, h1⟩ | ⟨h, h1, h2⟩ | ⟨h, h1, h2, h3⟩ | ⟨h, h1, h2, h3⟩
              iterate 4
                go_wp2_with fail
                go_ret
                exact ⟨_, rfl, (KK.trans hK).alloc _, fun h => trivial⟩
              go_wp2_with fail
              go_roundw
              case rel => exact ⟨q + 1, rfl, hlt3, hK.alloc _⟩
              case measure => simp [intOf]; omega
            · have hqq : ¬ ((q : Int) < n3) := by omega
              go_wp2_with fail
              go_ret
              exact ⟨_, rfl, KK.trans hK, fun h => trivial⟩
set_option maxRecDepth 100000 in
set_option maxHeartbeats 8000000 in
theorem smallCase_any (d : Int) (iv mv : Value) (ins : List Vl) (mem : List (List Vl)) (w : World) (hI : Vals w iv ins) (hM : Mems w mv mem) :
    Calls Tryz.prog 6 #[.agg #[.int .i64 d, iv, mv]] w (SmallB (ins.length ≤ 14 ∧ mem.length ≤ 10 ∧ ∀ l ∈ mem, l.length ≤ 14) w) := by
  obtain ⟨A1, c1, rfl, _⟩ := hI
  obtain ⟨A2, c2, rfl, hml, hx⟩ := hM.at_
  obtain ⟨n1, hn1⟩ : ∃ n, n = ins.length := ⟨_, rfl⟩
  obtain ⟨n2, hn2⟩ : ∃ n, n = mem.length := ⟨_, rfl⟩
  rw [← hn2] at hx hml
  rw [← hn1, ← hn2]
  obtain ⟨Q, hQ⟩ : ∃ Q, (n1 ≤ 14 ∧ n2 ≤ 10 ∧ ∀ l ∈ mem, l.length ≤ 14) = Q := ⟨_, rfl⟩
  rw [hQ]
  have HQ := Lib.hid (fun h => hQ ▸ h : (n1 ≤ 14 ∧ n2 ≤ 10 ∧ ∀ l ∈ mem, l.length ≤ 14) → Q)
  have HN := Lib.hid hn2
  clear hn1 hn2 hM hQ
  have K0 := Lib.hid ((Kept.refl w).alloc (.cells #[.int .i64 d, .slice A1 n1 c1, .slice A2 n2 c2] 30))
  rcases (show 14 < (n1 : Int) ∨ (¬ 14 < (n1 : Int) ∧ 10 < (n2 : Int)) ∨ (¬ 14 < (n1 : Int) ∧ ¬ 10 < (n2 : Int)) by omega) with h | ⟨h, h1⟩ | ⟨h, h1⟩
  iterate 2
    clear hx
    go_enter Tryz.func6, Tryz.ntmps6
    go_wp2_with fail
    go_ret
    exact ⟨_, rfl, K0.out, fun h => by cases h⟩
  have hh : n1 ≤ 14 ∧ n2 ≤ 10 := by omega
  have HH := Lib.hid hh
  go_enter Tryz.func6, Tryz.ntmps6
  go_wp2_with fail
  have B := Blk.new w 30 #[.int .i64 d, .slice A1 n1 c1, .slice A2 n2 c2]
  have KK := K0.out
  generalize w.alloc (.cells #[.int .i64 d, .slice A1 n1 c1, .slice A2 n2 c2] 30) = W at *
  have c2' := B.cell 2
  have cl := B.lt
  go_loopw [3] (fun y wr => ∃ i : Nat, y = .int .i64 i ∧ i ≤ n2 ∧ wr = W ∧ ∀ (j : Nat) l, j < i → mem[j]? = some l → l.length ≤ 14) (fun y _ => n2 - (intOf y).toNat)
  case atStart => exact ⟨0, rfl, Nat.zero_le _, rfl, fun _ _ h => absurd h (Nat.not_lt_zero _)⟩
  case round =>
    obtain ⟨i, rfl, hin, rfl, hall⟩ := hrel
    have HALL := Lib.hid hall
    clear hall
    by_cases hlt : i < n2
    · obtain ⟨b, off, rfl, hb, hc⟩ := hx (by omega)
      have hg : mem[i]? = some (mem[i]'(by have := HN.out; omega)) := List.getElem?_eq_getElem _
      obtain ⟨hll, Al, cl', y0, _⟩ := hc i _ hg
      have HG := Lib.hid hg
      generalize mem[i]'(by have := HN.out; omega) = l at *
      have Y0 := KK.cell (p := ⟨b, _, none⟩) hb y0
      have hb2 := Nat.lt_of_lt_of_le hb KK.size
      have hii : (i : Int) < n2 := by omega
      clear hc y0 hx hg
      by_cases h8 : 14 < (l.length : Int)
      · go_wp2_with fail
        go_ret
        exact ⟨_, rfl, KK, fun h => by cases h⟩
      · go_wp2_with fail
        go_roundw
        case rel =>
          refine ⟨i + 1, rfl, hlt, trivial, fun j l' hj hl' => ?_⟩
          by_cases hji : j = i
          · subst hji
            rw [HG.out] at hl'
            obtain rfl := Option.some.inj hl'
            omega
          · exact HALL.out j l' (by omega) hl'
        case measure => simp [intOf]; omega
    · have hii : ¬ ((i : Int) < n2) := by omega
      go_wp2_with fail
      go_ret
      refine ⟨_, rfl, KK, fun _ => HQ.out ⟨HH.out.1, HH.out.2, fun l hl => ?_⟩⟩
      obtain ⟨j, hj⟩ := List.getElem?_of_mem hl
      have hjl := (List.getElem?_eq_some_iff.1 hj).1
      exact HALL.out j l (by have := HN.out; omega) hj
theorem wrap_any (x : Int) : -9223372036854775808 ≤ wrap64 x ∧ wrap64 x ≤ 9223372036854775807 := by
  unfold wrap64
  omega
set_option maxRecDepth 100000 in
set_option maxHeartbeats 8000000 in
theorem smallLaw_any (lv : Value) (ms : List (List ByteArray)) (scs : List Sc) (w : World) (hL : LawM w lv ms scs) (hR : LawR w lv) :
    Calls Tryz.prog 5 #[lv] w (SmallB (∀ l ∈ ms, l.length ≤ 20 ∧ ∀ x ∈ l, x.size ≤ 80) w) := by
  obtain ⟨ev, At, nt, ct, sv, rfl, hE, hS⟩ := hL
  obtain ⟨ev', tv', sv', hv, rE, rT, rS⟩ := hR
  simp only [Value.agg.injEq, Array.mk.injEq, List.cons.injEq, and_true] at hv
  obtain ⟨rfl, rfl, rfl⟩ := hv
  obtain ⟨AE, ce, rfl, hme, hxe⟩ := hE
  obtain ⟨AE', ne', ce', hv, _, hre⟩ := rE.at_
  simp only [Value.slice.injEq] at hv
  obtain ⟨rfl, rfl, rfl⟩ := hv
  obtain ⟨AT', nt', ct', hv, hnt, hrt⟩ := rT.at_
  simp only [Value.slice.injEq] at hv
  obtain ⟨rfl, rfl, rfl⟩ := hv
  obtain ⟨AS, ns, cs, rfl, hns, hrs⟩ := rS.at_
  obtain ⟨ne, hne⟩ : ∃ n, n = ms.length := ⟨_, rfl⟩
  rw [← hne] at hxe hre hme ⊢
  have HN := Lib.hid hne
  obtain ⟨Q, hQ⟩ : ∃ Q, (∀ l ∈ ms, l.length ≤ 20 ∧ ∀ x ∈ l, x.size ≤ 80) = Q := ⟨_, rfl⟩
  rw [hQ]
  have HQ := Lib.hid (fun h => hQ ▸ h : (∀ l ∈ ms, l.length ≤ 20 ∧ ∀ x ∈ l, x.size ≤ 80) → Q)
  clear hne hS rT rS rE hQ
  have K0 := Lib.hid ((Kept.refl w).alloc (.cells #[.slice AE ne ce, .slice At nt ct, .slice AS ns cs] 26))
  rcases (show 9 < (ne : Int) ∨ (¬ 9 < (ne : Int) ∧ 9 < (nt : Int)) ∨ (¬ 9 < (ne : Int) ∧ ¬ 9 < (nt : Int) ∧ 5 < (ns : Int)) ∨ (¬ 9 < (ne : Int) ∧ ¬ 9 < (nt : Int) ∧ ¬ 5 < (ns : Int)) by omega) with h | ⟨h, h1⟩ | ⟨h, h1, h2⟩ | ⟨h, h1, h2⟩
  iterate 3
    clear hxe hre hrt hrs
    go_enter Tryz.func5, Tryz.ntmps5
    go_wp2_with fail
    go_ret
    exact ⟨_, rfl, K0.out, fun h => by cases h⟩
  go_enter Tryz.func5, Tryz.ntmps5
  go_wp2_with fail
  have B := Blk.new w 26 #[.slice AE ne ce, .slice At nt ct, .slice AS ns cs]
  have KK := K0.out
  generalize w.alloc (.cells #[.slice AE ne ce, .slice At nt ct, .slice AS ns cs] 26) = W at *
  have c0 := B.cell 0
  have c1 := B.cell 1
  have c2 := B.cell 2
  have cl := B.lt
  go_loopw [5] (fun y wr => ∃ i : Nat, y = .int .i64 i ∧ i ≤ ne ∧ wr = W ∧ ∀ (j : Nat) l, j < i → ms[j]? = some l → l.length ≤ 20 ∧ ∀ x ∈ l, x.size ≤ 80) (fun y _ => ne - (intOf y).toNat)
  case atStart => exact ⟨0, rfl, Nat.zero_le _, rfl, fun _ _ h => absurd h (Nat.not_lt_zero _)⟩
  case round =>
    obtain ⟨i, rfl, hin, rfl, hall⟩ := hrel
    have HALL := Lib.hid hall
    clear hall
    by_cases hlt : i < ne
    · obtain ⟨b, off, rfl, hb, hc⟩ := hxe (by omega)
      obtain ⟨b', off', hAe, _, hc'⟩ := hre (by omega)
      simp only [Option.some.injEq, Addr.mk.injEq, and_true] at hAe
      obtain ⟨rfl, rfl⟩ := hAe
      obtain ⟨s0, hs0⟩ := hc' i hlt
      have hg : ms[i]? = some (ms[i]'(by have := HN.out; omega)) := List.getElem?_eq_getElem _
      obtain ⟨hll, mv, hmv, hstr⟩ := hc i _ hg
      have HG := Lib.hid hg
      generalize ms[i]'(by have := HN.out; omega) = l at *
      obtain ⟨Al, cl', rfl, hxl⟩ := hstr.at3
      have X0 := KK.cell (p := ⟨b, _, none⟩) hb hs0
      have X1 := KK.cell (p := ⟨b, _, none⟩) hb hmv
      have hb2 := Nat.lt_of_lt_of_le hb KK.size
      have hii : (i : Int) < ne := by omega
      clear hc hc' hs0 hmv hg
      rcases (show 80 < (s0.size : Int) ∨ (¬ 80 < (s0.size : Int) ∧ 20 < (l.length : Int)) ∨ (¬ 80 < (s0.size : Int) ∧ ¬ 20 < (l.length : Int)) by omega) with h8 | ⟨h8, h9⟩ | ⟨h8, h9⟩
      iterate 2
        go_wp2_with fail
        go_ret
        exact ⟨_, rfl, KK, fun h => by cases h⟩
      obtain ⟨nl, hnl⟩ : ∃ n, n = l.length := ⟨_, rfl⟩
      rw [← hnl] at X1 h9 hxl hll
      have HL := Lib.hid hnl
      clear hnl hstr
      go_wp2_with fail
      go_loopw [6] (fun y wr' => ∃ k : Nat, y = .int .i64 k ∧ k ≤ nl ∧ wr' = wr ∧ ∀ (j : Nat) x, j < k → l[j]? = some x → x.size ≤ 80) (fun y _ => nl - (intOf y).toNat)
      case atStart => exact ⟨0, rfl, Nat.zero_le _, rfl, fun _ _ h => absurd h (Nat.not_lt_zero _)⟩
      case round =>
        obtain ⟨k, rfl, hkn, rfl, hak⟩ := hrel
        have HAK := Lib.hid hak
        clear hak
        by_cases hkl : k < nl
        · obtain ⟨b3, o3, rfl, hb3, hc3⟩ := hxl (by omega)
          have hg3 : l[k]? = some (l[k]'(by have := HL.out; omega)) := List.getElem?_eq_getElem _
          have y0 := hc3 k _ hg3
          have HG3 := Lib.hid hg3
          generalize l[k]'(by have := HL.out; omega) = x at *
          have Y0 := KK.cell (p := ⟨b3, _, none⟩) hb3 y0
          have hb4 := Nat.lt_of_lt_of_le hb3 KK.size
          have hkk : (k : Int) < nl := by omega
          clear hc3 y0 hg3
          by_cases hx8 : 80 < (x.size : Int)
          · go_wp2_with fail
            go_ret
            exact ⟨_, rfl, KK, fun h => by cases h⟩
          · go_wp2_with fail
            go_roundw
            case rel =>
              refine ⟨k + 1, rfl, hkl, trivial, fun j x' hj hx' => ?_⟩
              by_cases hjk : j = k
              · subst hjk
                rw [HG3.out] at hx'
                obtain rfl := Option.some.inj hx'
                omega
              · exact HAK.out j x' (by omega) hx'
            case measure => simp [intOf]; omega
        · have hkk : ¬ ((k : Int) < nl) := by omega
          have HLL := Lib.hid (show l.length ≤ 20 ∧ ∀ x ∈ l, x.size ≤ 80 from ⟨by have := HL.out; omega, fun x hx => by
            obtain ⟨j, hj⟩ := List.getElem?_of_mem hx
            have hjl := (List.getElem?_eq_some_iff.1 hj).1
            exact HAK.out j x (by have := HL.out; omega) hj⟩)
          go_wp2_with fail
          go_roundw
          case rel =>
            refine ⟨i + 1, rfl, hlt, trivial, fun j l' hj hl' => ?_⟩
            by_cases hji : j = i
            · subst hji
              rw [HG.out] at hl'
              obtain rfl := Option.some.inj hl'
              exact HLL.out
            · exact HALL.out j l' (by omega) hl'
          case measure => simp [intOf]; omega
    · have hii : ¬ ((i : Int) < ne) := by omega
      have HMS := Lib.hid (show ∀ l ∈ ms, l.length ≤ 20 ∧ ∀ x ∈ l, x.size ≤ 80 from fun l hl => by
        obtain ⟨j, hj⟩ := List.getElem?_of_mem hl
        have hjl := (List.getElem?_eq_some_iff.1 hj).1
        exact HALL.out j l (by have := HN.out; omega) hj)
      clear HALL hxe hre
      go_wp2_with fail
      go_loopw [3, 7] (fun x y wr' => ∃ (r : Int) (i : Nat), x = .int .i64 r ∧ (-9223372036854775808 ≤ r ∧ r ≤ 9223372036854775807) ∧ y = .int .i64 i ∧ i ≤ nt ∧ wr' = wr) (fun _ y _ => nt - (intOf y).toNat)
      case atStart => exact ⟨0, 0, rfl, by omega, rfl, Nat.zero_le _, rfl⟩
      case round =>
        obtain ⟨r, j, rfl, hrb, rfl, hjn, rfl⟩ := hrel
        by_cases hlt2 : j < nt
        · obtain ⟨b, off, rfl, hb, hc⟩ := hrt (by omega)
          obtain ⟨⟨s, hs⟩, A5, n5, c5, h5, hn5⟩ := hc j hlt2
          have X0 := KK.cell (p := ⟨b, _, none⟩) hb hs
          have X5 := KK.cell (p := ⟨b, _, none⟩) hb h5
          have hb2 := Nat.lt_of_lt_of_le hb KK.size
          have hjj : (j : Int) < nt := by omega
          clear hc hs h5
          obtain ⟨r2, hr2⟩ : ∃ r2, wrap64 (r + n5) = r2 := ⟨_, rfl⟩
          have hw := wrap_any (r + n5)
          rw [hr2] at hw
          rcases (show 80 < (s.size : Int) ∨ (¬ 80 < (s.size : Int) ∧ 150 < r2) ∨ (¬ 80 < (s.size : Int) ∧ ¬ 150 < r2) by omega) with h8 | ⟨h8, h9⟩ | ⟨h8, h9⟩
          iterate 2
            go_wp2_with fail
            go_ret
            exact ⟨_, rfl, KK, fun h => by cases h⟩
          go_wp2_with fail
          go_roundw
          case rel => exact ⟨r2, j + 1, by rw [hr2], hw, rfl, hlt2, trivial⟩
          case measure => simp [intOf]; omega
        · have hjj : ¬ ((j : Int) < nt) := by omega
          clear hrt
          go_wp2_with fail
          go_loopw [4, 8] (fun x y wr' => ∃ (r : Int) (i : Nat), x = .int .i64 r ∧ (-9223372036854775808 ≤ r ∧ r ≤ 9223372036854775807) ∧ y = .int .i64 i ∧ i ≤ ns ∧ Kept wr wr') (fun _ y _ => ns - (intOf y).toNat)
          case atStart => exact ⟨0, 0, rfl, by omega, rfl, Nat.zero_le _, Kept.refl _⟩
          case round =>
            obtain ⟨r3, q, rfl, hrb3, rfl, hqn, hK⟩ := hrel
            have B2 := B.kept hK
            have d2 := B2.cell 2
            have dl := B2.lt
            by_cases hlt3 : q < ns
            · obtain ⟨b, off, rfl, hb, hc⟩ := hrs (by omega)
              have hsp := ScP.kept _ _ _ _ (KK.trans hK) hb (hc q hlt3)
              obtain ⟨⟨s0, g0⟩, ⟨z1, g1⟩, ⟨v2, g2, p2⟩, ⟨v3, g3, p3⟩, v4, g4, p4⟩ := hsp
              obtain ⟨A2, n2, e2, rfl, _, _⟩ := id p2
              obtain ⟨A3, n3, e3, rfl, _, _⟩ := id p3
              obtain ⟨A4, n4, e4, rfl, hn4, _⟩ := id p4
              have hb2 := Nat.lt_of_lt_of_le hb (KK.trans hK).size
              have hqq : (q : Int) < ns := by omega
              have HSS := Lib.hid (smallScope_any s0 z1 _ _ _ wr p2 p3 p4)
              unfold SmallB at HSS
              obtain ⟨r2, hr2⟩ : ∃ r2, wrap64 (r3 + n4) = r2 := ⟨_, rfl⟩
              have hw := wrap_any (r3 + n4)
              rw [hr2] at hw
              clear hc hrs p2 p3 p4
              by_cases h9 : 60 < r2
              · go_wp2_with fail
                go_ret
                exact ⟨_, rfl, KK.trans hK, fun h => by cases h⟩
              · go_wp2_with fail
                refine HSS.out.mono ?_
                rintro e w5 ⟨b5, rfl, k5, _⟩
                cases b5
                · go_wp2_with fail
                  go_ret
                  exact ⟨_, rfl, (KK.trans hK).trans k5, fun h => by cases h⟩
                · go_wp2_with fail
                  go_roundw
                  case rel => exact ⟨r2, q + 1, by first | rfl | rw [hr2], hw, rfl, hlt3, hK.trans k5⟩
                  case measure => simp [intOf]; omega
            · have hqq : ¬ ((q : Int) < ns) := by omega
              go_wp2_with fail
              go_ret
              exact ⟨_, rfl, KK.trans hK, fun h => HQ.out HMS.out⟩
end Go.Proofs.YtemejaomfbhldaaGreatDoor
/- What inputs, members and Validate of the reference of package casedata compute. -/
namespace Go.Proofs.YtemejaomfbhldaaGreatDoor
open Go.RowKit

set_option maxRecDepth 100000 in
set_option maxHeartbeats 8000000 in
theorem rinputs_any (ev : Value) (At As : Option Addr) (nt ct ns cs : Nat) (vv iv : Value) (ms : List (List ByteArray)) (ts : List Ty) (vs : List Vl) (w : World) (hE : Enums w ev ms) (hV : Vals w vv vs) (hI : Fds w iv ts) (hl : vs.length ≤ 9223372036854775807) :
    Calls Tryz.prog 40 #[.agg #[ev, .slice At nt ct, .slice As ns cs], iv, vv] w (ckPost (chkV ms ts vs) w) := by
  unfold ckPost
  obtain ⟨AV, cv, rfl, hAV⟩ := hV.at_
  obtain ⟨AI, ci, rfl, hAI⟩ := id hI
  have HIN := Lib.hid (fun (n k e : Int) (w1 : World) (hk : Kept w w1) => rin_any n k e ev ms w1 (hE.kept hk))
  obtain ⟨AE, ce, rfl, _, _⟩ := id hE
  by_cases h1 : vs.length < ts.length
  · have HR := Lib.hid (show chkV ms ts vs = (vs.length, 5) by rw [chkV, if_pos h1])
    have h1i : (vs.length : Int) < ts.length := by omega
    rw [HR.out]
    clear hAV hAI hV hI hE h1
    go_enter Tryz.func40, Tryz.ntmps40
    go_wp2_with fail
    go_ret2
    exact ⟨rfl, (Kept.refl _).alloc _⟩
  by_cases h2 : ts.length < vs.length
  · have HR := Lib.hid (show chkV ms ts vs = (ts.length, 4) by rw [chkV, if_neg h1, if_pos h2])
    have h1i : ¬ ((vs.length : Int) < ts.length) := by omega
    have h2i : (ts.length : Int) < vs.length := by omega
    rw [HR.out]
    clear hAV hAI hV hI hE h1 h2
    go_enter Tryz.func40, Tryz.ntmps40
    go_wp2_with fail
    go_ret2
    exact ⟨rfl, (Kept.refl _).alloc _⟩
  have hlen : ts.length = vs.length := by omega
  have HR := Lib.hid (show chkV ms ts vs = chkF ms 0 (ts.drop 0) (vs.drop 0) by rw [chkV, if_neg h1, if_neg h2]; rfl)
  obtain ⟨n, hn⟩ : ∃ n, n = vs.length := ⟨_, rfl⟩
  rw [hlen, ← hn] at hAI
  rw [← hn] at hAV hl
  rw [hlen, ← hn]
  have HN := Lib.hid hn
  have HNT := Lib.hid (hn.trans hlen.symm)
  clear hV hI hE h1 h2 hlen hn
  go_enter Tryz.func40, Tryz.ntmps40
  go_wp2_with fail
  have hBx := Blk.new w 26 #[.slice AE ms.length ce, .slice At nt ct, .slice As ns cs]
  have hKx := (Kept.refl w).alloc (.cells #[.slice AE ms.length ce, .slice At nt ct, .slice As ns cs] 26)
  generalize w.alloc (.cells #[.slice AE ms.length ce, .slice At nt ct, .slice As ns cs] 26) = W at *
  go_loopw [8] (fun y wr => ∃ i : Nat, y = .int .i64 i ∧ i ≤ n ∧ Kept w wr ∧ Blk wr w.heap.size 26 #[.slice AE ms.length ce, .slice At nt ct, .slice As ns cs] ∧ chkF ms i (ts.drop i) (vs.drop i) = chkV ms ts vs) (fun y _ => n - (intOf y).toNat)
  case atStart => exact ⟨0, rfl, Nat.zero_le _, hKx, hBx, HR.out.symm⟩
  case round =>
    obtain ⟨i, rfl, hin, hK, hB, hrun⟩ := hrel
    clear hKx hBx
    by_cases hlt : i < n
    · obtain ⟨b1, o1, rfl, hb1, hc1⟩ := hAV (by omega)
      obtain ⟨b2, o2, rfl, hb2, hc2⟩ := hAI (by omega)
      have hg1 : vs[i]? = some (vs[i]'(by have := HN.out; omega)) := List.getElem?_eq_getElem _
      have hg2 : ts[i]? = some (ts[i]'(by have := HNT.out; omega)) := List.getElem?_eq_getElem _
      obtain ⟨x0, x1, x2⟩ := hc1 i _ hg1
      obtain ⟨y0, y1⟩ := hc2 i _ hg2
      rw [chkF_at hg2 hg1] at hrun
      generalize vs[i]'(by have := HN.out; omega) = V at *
      generalize ts[i]'(by have := HNT.out; omega) = T at *
      have hii : (i : Int) < n := by omega
      have b1r := Nat.lt_of_lt_of_le hb1 hK.size
      have b2r := Nat.lt_of_lt_of_le hb2 hK.size
      have X0 := KW.cell b1r (hK.cell (p := ⟨b1, _, none⟩) hb1 x0)
      have X1 := KW.cell b1r (hK.cell (p := ⟨b1, _, none⟩) hb1 x1)
      have X2 := KW.cell b1r (hK.cell (p := ⟨b1, _, none⟩) hb1 x2)
      have Y0 := KW.cell b2r (hK.cell (p := ⟨b2, _, none⟩) hb2 y0)
      have Y1 := KW.cell b2r (hK.cell (p := ⟨b2, _, none⟩) hb2 y1)
      clear x0 x1 x2 y0 y1 hc1 hc2 hg1 hg2 hAV hAI
      obtain ⟨vk, ve, vn⟩ := V
      obtain ⟨tk, te⟩ := T
      dsimp only at hrun X0 X1 X2 Y0 Y1
      have HTY := Lib.hid (fun w => rtype_any vk ve vn w)
      have HHB := Lib.hid (fun w2 (h : Kept wr w2) => hB.kept h)
      by_cases hkk : vk = tk ∧ ve = te
      · obtain ⟨rfl, rfl⟩ := hkk
        rw [if_pos ⟨rfl, rfl⟩] at hrun
        have HII := Lib.hid (HIN.out vn vk ve)
        generalize inB vn vk ve ms = q at *
        have HRUN := Lib.hid hrun
        clear hrun HIN hB
        go_wp2_with fail
        refine wp_region_kept (by kernel_rfl) (by kernel_rfl) ?_
        repeat (go_big_quiet_step (first | (go_at_call 64; exact KW.call (HTY.out _))))
        refine wpQuiet_nil ?_
        rintro w2 ⟨⟨wx, hx2⟩, hh⟩
        obtain rfl : w2 = wx := hh
        have hK2 := hK.trans hx2
        have hB2 := HHB.out w2 hx2
        have X0 := KW.cell (Nat.lt_of_lt_of_le b1r hx2.size) (X0 ⟨w2, hx2⟩)
        have X1 := KW.cell (Nat.lt_of_lt_of_le b1r hx2.size) (X1 ⟨w2, hx2⟩)
        have X2 := KW.cell (Nat.lt_of_lt_of_le b1r hx2.size) (X2 ⟨w2, hx2⟩)
        have Y0 := KW.cell (Nat.lt_of_lt_of_le b2r hx2.size) (Y0 ⟨w2, hx2⟩)
        have Y1 := KW.cell (Nat.lt_of_lt_of_le b2r hx2.size) (Y1 ⟨w2, hx2⟩)
        have C0 := KW.cell hB2.lt (hB2.cell 0)
        go_wp2_with fail
        refine wp_region_kept (by kernel_rfl) (by kernel_rfl) ?_
        repeat (go_big_quiet_step (first | (go_at_call 65; exact KW.call (HII.out _ (hK2.trans (KW.h _))))))
        refine wpQuiet_nil ?_
        rintro w3 ⟨⟨wx3, hx3⟩, hh⟩
        obtain rfl : w3 = wx3 := hh
        have HB3 := Lib.hid (hB2.kept hx3)
        clear hB2 C0 X0 X1 X2 Y0 Y1
        cases q
        · rw [if_neg (by decide)] at HRUN
          go_wp2_with fail
          go_ret2
          rw [← HRUN.out]
          exact ⟨rfl, hK2.trans hx3⟩
        · rw [if_pos rfl] at HRUN
          go_wp2_with fail
          go_roundw
          case rel => exact ⟨i + 1, rfl, hlt, hK2.trans hx3, HB3.out, HRUN.out⟩
          case measure => simp [intOf]; omega
      · rw [if_neg hkk] at hrun
        have HRUN := Lib.hid hrun
        by_cases hk1 : vk = tk
        · subst hk1
          have hne : (ve == te) = false := by simpa using fun e => hkk ⟨rfl, e⟩
          have hself : (vk == vk) = true := by simp
          clear hrun HIN hB hkk
          go_wp2_with fail
          refine wp_region_kept (by kernel_rfl) (by kernel_rfl) ?_
          repeat (go_big_quiet_step (first | (go_at_call 64; exact KW.call (HTY.out _))))
          refine wpQuiet_nil ?_
          rintro w2 ⟨⟨wx, hx2⟩, hh⟩
          obtain rfl : w2 = wx := hh
          go_wp2_with fail
          go_ret2
          rw [← HRUN.out]
          exact ⟨rfl, hK.trans hx2⟩
        · have hne : (vk == tk) = false := by simpa using hk1
          clear hrun HIN hB hkk hk1
          go_wp2_with fail
          refine wp_region_kept (by kernel_rfl) (by kernel_rfl) ?_
          repeat (go_big_quiet_step (first | (go_at_call 64; exact KW.call (HTY.out _))))
          refine wpQuiet_nil ?_
          rintro w2 ⟨⟨wx, hx2⟩, hh⟩
          obtain rfl : w2 = wx := hh
          go_wp2_with fail
          go_ret2
          rw [← HRUN.out]
          exact ⟨rfl, hK.trans hx2⟩
    · have hii : ¬ ((i : Int) < n) := by omega
      rw [chkF_end (by have := HN.out; omega)] at hrun
      have HRUN := Lib.hid hrun
      clear hrun hB
      go_wp2_with fail
      go_ret2
      rw [← HRUN.out]
      exact ⟨rfl, hK⟩

/-- where the inputs of the members lie, or there may be no member -/
def memAt (scs : List Sc) (a : Int) (I : List Ty × Nat) : Prop := I.2 = 0 ∨ ∃ q s2, a = (q : Nat) ∧ scs[q]? = some s2 ∧ I.1 = s2.ins
set_option maxRecDepth 100000 in
set_option maxHeartbeats 4000000 in
theorem rmembers_any (ev sv : Value) (At : Option Addr) (nt ct : Nat) (scs : List Sc) (sc : Nat) (w : World) (AE : Option Addr) (ne ce : Nat) (hev : ev = .slice AE ne ce) (hS : Scs w sv scs) (hsc : sc < scs.length) :
    Calls Tryz.prog 31 #[.agg #[ev, .slice At nt ct, sv], .int .i64 sc] w fun e w' => ∃ a : Int, e = .returned (.tuple #[.int .i64 a, .int .i64 (memI scs (scs[sc]?.getD ⟨0, []⟩)).2]) ∧ memAt scs a (memI scs (scs[sc]?.getD ⟨0, []⟩)) ∧ Kept w w' := by
  subst hev
  obtain ⟨AS, cs, rfl, hsl, hx⟩ := hS.at_
  obtain ⟨b, off, rfl, hb, hc⟩ := hx (by omega)
  have hg : scs[sc]? = some (scs[sc]'hsc) := List.getElem?_eq_getElem hsc
  rw [hg, Option.getD_some]
  obtain ⟨x1, _⟩ := hc sc _ hg
  have hK := (Kept.refl w).alloc (.cells #[.slice AE ne ce, .slice At nt ct, .slice (some ⟨b, off, none⟩) scs.length cs] 26)
  have X1 := hK.cell (p := ⟨b, _, none⟩) hb x1
  have hsi : (sc : Int) < scs.length := by omega
  generalize hss : scs[sc] = s at *
  have hK2 := Lib.hid hK
  by_cases hm : s.m < 0 ∨ (scs.length : Int) ≤ s.m
  · have HR := Lib.hid (show memI scs s = ([], 0) by rw [memI, if_pos hm])
    rw [HR.out]
    rcases (show s.m < 0 ∨ (¬ s.m < 0 ∧ (scs.length : Int) ≤ s.m) by omega) with h | ⟨h, h2⟩
    · clear hm hc hx x1 hK hS
      go_enter Tryz.func31, Tryz.ntmps31
      go_wp2_with fail
      go_ret2
      exact ⟨_, rfl, Or.inl rfl, hK2.out⟩
    · clear hm hc hx x1 hK hS
      go_enter Tryz.func31, Tryz.ntmps31
      go_wp2_with fail
      go_ret2
      exact ⟨_, rfl, Or.inl rfl, hK2.out⟩
  · obtain ⟨q, hq⟩ : ∃ q : Nat, s.m = q := ⟨s.m.toNat, by omega⟩
    have hqs : q < scs.length := by omega
    have hg2 : scs[q]? = some (scs[q]'hqs) := List.getElem?_eq_getElem hqs
    have HR := Lib.hid (show memI scs s = ((scs[q]'hqs).ins, 8) by rw [memI, if_neg hm, hq, Int.toNat_natCast, hg2]; rfl)
    rw [HR.out]
    have HG := Lib.hid hg2
    rw [hq] at X1
    have hqi : (q : Int) < scs.length := by omega
    have hqi2 : ¬ ((scs.length : Int) ≤ q) := by omega
    clear hm hc hx x1 hK hq hg hg2 hss hS
    go_enter Tryz.func31, Tryz.ntmps31
    go_wp2_with fail
    go_ret2
    exact ⟨_, rfl, Or.inr ⟨q, _, rfl, HG.out, rfl⟩, hK2.out⟩
set_option maxRecDepth 100000 in
set_option maxHeartbeats 8000000 in
theorem rvalidate_any (lv iv mv : Value) (ms : List (List ByteArray)) (scs : List Sc) (sc d : Int) (ins : List Vl) (mem : List (List Vl)) (w : World) (hL : LawM w lv ms scs) (hI : Vals w iv ins) (hil : ins.length ≤ 9223372036854775807) (hM : Mems w mv mem) :
    Calls Tryz.prog 20 #[lv, .int .i64 sc, .agg #[.int .i64 d, iv, mv]] w (valPost (valC ms scs sc d ins mem) w) := by
  unfold valPost
  obtain ⟨ev, At, nt, ct, sv, rfl, hE, hS⟩ := hL
  obtain ⟨AE, ce, rfl, _, _⟩ := id hE
  obtain ⟨AS, cs, rfl, hsl, hx⟩ := hS.at_
  obtain ⟨AI, ci, rfl, _⟩ := id hI
  obtain ⟨AM, cm, rfl, hml, hmx⟩ := hM.at_
  have K0 := Lib.hid (((Kept.refl w).alloc (.cells #[.slice AE ms.length ce, .slice At nt ct, .slice AS scs.length cs] 26)).alloc (.cells #[.int .i64 d, .slice AI ins.length ci, .slice AM mem.length cm] 30))
  by_cases h1 : sc < 0
  · have HR := Lib.hid (show valC ms scs sc d ins mem = (-1, -1, 6) by rw [valC, if_pos (.inl h1)])
    rw [HR.out]
    clear hE hS hI hM hx hmx
    go_enter Tryz.func20, Tryz.ntmps20
    go_wp2_with fail
    go_ret3
    exact ⟨rfl, K0.out⟩
  by_cases h2 : (scs.length : Int) ≤ sc
  · have HR := Lib.hid (show valC ms scs sc d ins mem = (-1, -1, 6) by rw [valC, if_pos (.inr h2)])
    rw [HR.out]
    clear hE hS hI hM hx hmx
    go_enter Tryz.func20, Tryz.ntmps20
    go_wp2_with fail
    go_ret3
    exact ⟨rfl, K0.out⟩
  have hvc : valC ms scs sc d ins mem = if d < 0 ∨ 109572 < d then (-1, -1, 3) else (if (chkV ms (scs[sc.toNat]?.getD ⟨0, []⟩).ins ins).2 = 0 then
      (if (memI scs (scs[sc.toNat]?.getD ⟨0, []⟩)).2 < mem.length then (((memI scs (scs[sc.toNat]?.getD ⟨0, []⟩)).2 : Int), -1, 4) else chkM ms (memI scs (scs[sc.toNat]?.getD ⟨0, []⟩)).1 0 mem)
    else (-1, ((chkV ms (scs[sc.toNat]?.getD ⟨0, []⟩).ins ins).1 : Int), (chkV ms (scs[sc.toNat]?.getD ⟨0, []⟩).ins ins).2)) := by
    rw [valC, if_neg (by omega)]
  obtain ⟨q, rfl⟩ : ∃ q : Nat, sc = q := ⟨sc.toNat, by omega⟩
  rw [Int.toNat_natCast] at hvc
  have hqs : q < scs.length := by omega
  obtain ⟨b, off, rfl, hb, hc⟩ := hx (by omega)
  have hg : scs[q]? = some (scs[q]'hqs) := List.getElem?_eq_getElem hqs
  obtain ⟨_, Ai, cI, x2, hF⟩ := hc q _ hg
  have HMI := Lib.hid (fun w1 (hk : Kept w w1) => rmembers_any (.slice AE ms.length ce) (.slice (some ⟨b, off, none⟩) scs.length cs) At nt ct scs q w1 AE ms.length ce rfl (hS.kept hk) hqs)
  rw [hg, Option.getD_some] at hvc HMI
  generalize scs[q] = s at *
  have hsi : (q : Int) < scs.length := by omega
  have hd3 : ¬ (d < 0 ∨ 109572 < d) ∨ (d < 0 ∨ 109572 < d) := by omega
  rcases hd3 with hd | hd
  · rw [if_neg hd] at hvc
    have hd1 : ¬ d < 0 := by omega
    have hd2 : ¬ 109572 < d := by omega
    have HVC := Lib.hid hvc
    have HE := Lib.hid hE
    have HI := Lib.hid hI
    have HF := Lib.hid hF
    have HM := Lib.hid hmx
    have HSC := Lib.hid hc
    clear hvc hE hS hI hM hc hmx hd hg h1 h2 hF hx
    go_enter Tryz.func20, Tryz.ntmps20
    go_wp2_with fail
    have B1 := (Blk.new w 26 #[.slice AE ms.length ce, .slice At nt ct, .slice (some ⟨b, off, none⟩) scs.length cs]).alloc (.cells #[.int .i64 d, .slice AI ins.length ci, .slice AM mem.length cm] 30)
    have B2 := Blk.new (w.alloc (.cells #[.slice AE ms.length ce, .slice At nt ct, .slice (some ⟨b, off, none⟩) scs.length cs] 26)) 30 #[.int .i64 d, .slice AI ins.length ci, .slice AM mem.length cm]
    rw [World.size_alloc] at B2
    have X2 := K0.out.cell (p := ⟨b, _, none⟩) hb x2
    generalize (w.alloc (.cells #[.slice AE ms.length ce, .slice At nt ct, .slice (some ⟨b, off, none⟩) scs.length cs] 26)).alloc (.cells #[.int .i64 d, .slice AI ins.length ci, .slice AM mem.length cm] 30) = W at *
    have hbW := Nat.lt_of_lt_of_le hb K0.out.size
    have HCK := Lib.hid (fun w1 (hk : Kept w w1) => rinputs_any (.slice AE ms.length ce) At (some ⟨b, off, none⟩) nt ct scs.length cs _ _ ms s.ins ins w1 (HE.out.kept hk) (HI.out.kept hk) (HF.out.kept hk) hil)
    unfold ckPost at HCK
    have a0 := KW.cell B1.lt (B1.cell 0)
    have a1 := KW.cell B1.lt (B1.cell 1)
    have a2 := KW.cell B1.lt (B1.cell 2)
    have c0 := KW.cell B2.lt (B2.cell 0)
    have c1 := KW.cell B2.lt (B2.cell 1)
    have c2 := KW.cell B2.lt (B2.cell 2)
    have e0 := KW.cell hbW X2
    refine wp_region_kept (by kernel_rfl) (by kernel_rfl) ?_
    repeat (go_big_quiet_step (first | (go_at_call 40; exact KW.call (HCK.out _ (K0.out.trans (KW.h _))))))
    refine wpQuiet_nil ?_
    rintro w2 ⟨⟨wx, hx2⟩, hh⟩
    obtain rfl : w2 = wx := hh
    have K2 := K0.out.trans hx2
    have D1 := B1.kept hx2
    have D2 := B2.kept hx2
    clear a0 a1 a2 c0 c1 c2 e0 X2 B1 B2 hx2
    have HKK := Lib.hid K2
    have HD1 := Lib.hid D1
    have HD2 := Lib.hid D2
    have d0 := D1.cell 0
    have d1 := D1.cell 1
    have d2 := D1.cell 2
    have dl := D1.lt
    have g2 := D2.cell 2
    have gl := D2.lt
    generalize chkV ms s.ins ins = R at *
    obtain ⟨c1, cc⟩ := R
    dsimp only at HVC ⊢
    clear HCK HF HI K2 D1 D2
    by_cases hcc : cc = 0
    · subst hcc
      rw [if_pos rfl] at HVC
      have HMI2 := Lib.hid (HMI.out w2 HKK.out)
      clear HMI
      generalize memI scs s = I at *
      obtain ⟨its, lim⟩ := I
      dsimp only at HVC HMI2
      by_cases hlim : lim < mem.length
      · rw [if_pos hlim] at HVC
        have hli : (lim : Int) < mem.length := by omega
        clear HM HE
        go_wp2_with (go_at_call 31; refine HMI2.out.mono ?_; rintro e w3 ⟨jv, rfl, hF3, k3⟩; have g2 := (HD2.out.kept k3).cell 2; have gl := (HD2.out.kept k3).lt)
        go_ret3
        rw [HVC.out]
        exact ⟨rfl, HKK.out.trans k3⟩
      · rw [if_neg hlim] at HVC
        have hli : ¬ ((lim : Int) < mem.length) := by omega
        go_wp2_with (go_at_call 31; refine HMI2.out.mono ?_; rintro e w3 ⟨jv, rfl, hF3, k3⟩; have g2 := (HD2.out.kept k3).cell 2; have gl := (HD2.out.kept k3).lt)
        have K3 := HKK.out.trans k3
        have D3 := HD1.out.kept k3
        have D4 := HD2.out.kept k3
        obtain ⟨n, hn⟩ : ∃ n, n = mem.length := ⟨_, rfl⟩
        rw [← hn] at HM hml hlim D4 ⊢
        have HN := Lib.hid hn
        have HF3 := Lib.hid hF3
        clear hn d0 d1 d2 dl g2 gl HD1 HD2 HMI2 hli hF3
        go_loopw [13] (fun y wr => ∃ i : Nat, y = .int .i64 i ∧ i ≤ n ∧ Kept w3 wr ∧ chkM ms its i (mem.drop i) = chkM ms its 0 mem) (fun y _ => n - (intOf y).toNat)
        case atStart => exact ⟨0, rfl, Nat.zero_le _, Kept.refl _, rfl⟩
        case round =>
          obtain ⟨i, rfl, hin, hK, hrun⟩ := hrel
          have g2 := (D4.kept hK).cell 2
          have gl := (D4.kept hK).lt
          by_cases hlt : i < n
          · obtain ⟨bm, om, rfl, hbm, hcm⟩ := HM.out (by omega)
            have hgm : mem[i]? = some (mem[i]'(by have := HN.out; omega)) := List.getElem?_eq_getElem _
            rw [chkM_at hgm] at hrun
            obtain ⟨hll, Al, cl, y0, hVl⟩ := hcm i _ hgm
            generalize mem[i]'(by have := HN.out; omega) = l at *
            have hKw := K3.trans hK
            have Y0 := hKw.cell (p := ⟨bm, _, none⟩) hbm y0
            obtain ⟨q2, s2, rfl, hs2, his⟩ : ∃ q s2, jv = (q : Nat) ∧ scs[q]? = some s2 ∧ its = s2.ins := by
              rcases HF3.out with h | h
              · omega
              · exact h
            have hq2 := (List.getElem?_eq_some_iff.1 hs2).1
            obtain ⟨_, Ak, ck, z2, hFk⟩ := HSC.out q2 _ hs2
            have Z2 := hKw.cell (p := ⟨b, _, none⟩) hb z2
            rw [← his] at Z2 hFk
            have HCK := Lib.hid (fun w1 (hk : Kept w w1) => rinputs_any (.slice AE ms.length ce) At (some ⟨b, off, none⟩) nt ct scs.length cs _ _ ms its l w1 (HE.out.kept hk) (hVl.kept hk) (hFk.kept hk) hll)
            unfold ckPost at HCK
            have hii : (i : Int) < n := by omega
            have hqi : (q2 : Int) < scs.length := by omega
            generalize chkV ms its l = R at *
            obtain ⟨q1, q2'⟩ := R
            dsimp only at hrun HCK
            have a0 := KW.cell (D3.kept hK).lt ((D3.kept hK).cell 0)
            have a1 := KW.cell (D3.kept hK).lt ((D3.kept hK).cell 1)
            have a2 := KW.cell (D3.kept hK).lt ((D3.kept hK).cell 2)
            have b2 := KW.cell (D4.kept hK).lt ((D4.kept hK).cell 2)
            have e0 := KW.cell (Nat.lt_of_lt_of_le hbm hKw.size) Y0
            have e1 := KW.cell (Nat.lt_of_lt_of_le hb hKw.size) Z2
            have HKW := Lib.hid hKw
            clear hcm y0 hVl hgm hll z2 hFk hs2 his Y0 Z2 hKw hq2
            go_wp2_with fail
            refine wp_region_kept (by kernel_rfl) (by kernel_rfl) ?_
            repeat (go_big_quiet_step (first | (go_at_call 40; exact KW.call (HCK.out _ (HKW.out.trans (KW.h _))))))
            refine wpQuiet_nil ?_
            rintro w5 ⟨⟨wx5, k5⟩, hh⟩
            obtain rfl : w5 = wx5 := hh
            clear a0 a1 a2 b2 e0 e1
            by_cases hq : q2' = 0
            · subst hq
              rw [if_pos rfl] at hrun
              have HRUN := Lib.hid hrun
              clear hrun
              go_wp2_with fail
              go_roundw
              case rel => exact ⟨i + 1, rfl, hlt, hK.trans k5, HRUN.out⟩
              case measure => simp [intOf]; omega
            · rw [if_neg hq] at hrun
              have hqb := bne_noC hq
              have HRUN := Lib.hid hrun
              clear hrun hq
              go_wp2_with fail
              go_ret3
              rw [HVC.out, ← HRUN.out]
              exact ⟨rfl, HKW.out.trans k5⟩
          · have hii : ¬ ((i : Int) < n) := by omega
            rw [chkM_end (by have := HN.out; omega)] at hrun
            have HRUN := Lib.hid hrun
            clear hrun
            go_wp2_with fail
            go_ret3
            rw [HVC.out, ← HRUN.out]
            exact ⟨rfl, K3.trans hK⟩
    · rw [if_neg hcc] at HVC
      have hqb := bne_noC hcc
      clear hcc HMI HM HE
      go_wp2_with fail
      go_ret3
      rw [HVC.out]
      exact ⟨rfl, HKK.out⟩
  · rw [if_pos hd] at hvc
    have HVC := Lib.hid hvc
    rcases (show d < 0 ∨ (¬ d < 0 ∧ 109572 < d) by omega) with h | ⟨h, h2'⟩
    all_goals
      clear hE hS hI hM hc hmx hd HMI hvc h1 h2 hF hx hg
      go_enter Tryz.func20, Tryz.ntmps20
      go_wp2_with fail
      go_ret3
      rw [HVC.out]
      exact ⟨rfl, K0.out⟩
end Go.Proofs.YtemejaomfbhldaaGreatDoor
/- What words, parse, Parse, line and Format of the reference of package casedata compute. -/
namespace Go.Proofs.YtemejaomfbhldaaGreatDoor
open Go.RowKit

theorem cutL_succ {s : ByteArray} {st pos : Nat} (h : st ≤ pos) (hp : pos < s.size) : L (s.extract st (pos + 1)) = L (s.extract st pos) ++ [s[pos]'hp] := by
  rw [L_extract, L_extract]
  have hl : pos < (L s).length := by rw [L_length]; exact hp
  have e : pos + 1 - st = (pos - st) + 1 := by omega
  rw [e, List.take_add_one]
  congr 1
  rw [List.getElem?_drop, show st + (pos - st) = pos by omega, List.getElem?_eq_getElem hl]
  rfl
theorem cutL_nil (s : ByteArray) (st : Nat) : L (s.extract st st) = [] := by rw [L_extract, Nat.sub_self]; rfl
theorem spl_char {acc r : List UInt8} {c : UInt8} (h : c.toNat = 32) : spl acc (c :: r) = acc :: spl [] r := by
  rw [spl, if_pos (UInt8.toNat_inj.1 (show c.toNat = (32 : UInt8).toNat from h))]
theorem spl_other {acc r : List UInt8} {c : UInt8} (h : c.toNat ≠ 32) : spl acc (c :: r) = spl (acc ++ [c]) r := by
  rw [spl, if_neg (fun e => h (by rw [e]; rfl))]
set_option maxRecDepth 100000 in
set_option maxHeartbeats 4000000 in
theorem words_any (s : ByteArray) (hs : s.size ≤ 1000000) (w : World) :
    Calls Tryz.prog 53 #[.string s] w fun e w' => ∃ v xs, e = .returned v ∧ Strs w' v xs ∧ xs.map L = spl [] (L s) ∧ xs.length ≤ 1000001 ∧ (∀ x ∈ xs, x.size ≤ s.size) ∧ Kept w w' := by
  obtain ⟨i0, hi, hz0, hz1, hz2⟩ := info_parts Tryz.infoStr
  go_enter Tryz.func53, Tryz.ntmps53
  go_wp2_with fail
  go_loopw [3, 4, 5] (fun x y z wr => ∃ (pos st : Nat) (acc : List ByteArray), pos ≤ s.size ∧ st ≤ pos ∧ y = .int .i64 st ∧ z = .int .i64 pos ∧ acc.length ≤ pos ∧ Kept w wr ∧ Gath wr w.heap.size x acc ∧ (∀ x ∈ acc, x.size ≤ s.size) ∧
      acc.map L ++ spl (L (s.extract st pos)) ((L s).drop pos) = spl [] (L s)) (fun _ _ z _ => (s.size - intOf z).toNat)
  case atStart => exact ⟨0, 0, [], Nat.zero_le _, Nat.le_refl _, rfl, rfl, Nat.le_refl _, Kept.refl _, Gath.nil _ _, by simp, by rw [cutL_nil]; rfl⟩
  case round =>
    obtain ⟨pos, st, acc, hps, hst, rfl, rfl, hacc, hK, hown, hsz, hrun⟩ := hrel
    have hks := hK.size
    have HIG := Lib.hid hown
    have HIK := Lib.hid hK
    have HSZ := Lib.hid hsz
    have hes : (s.extract st pos).size ≤ s.size := by rw [ByteArray.size_extract]; omega
    by_cases hp : pos < s.size
    · rw [L_drop s pos hp] at hrun
      by_cases h32 : (s[pos]'hp).toNat = 32
      · rw [spl_char h32] at hrun
        have HRUN := Lib.hid (show (acc ++ [s.extract st pos]).map L ++ spl (L (s.extract (pos + 1) (pos + 1))) ((L s).drop (pos + 1)) = spl [] (L s) by
          rw [cutL_nil, ← hrun]; simp)
        have h32b : ((((s[pos]'hp).toNat : Nat) : Int) == 32) = true := by rw [beq_iff_eq]; omega
        clear hrun hK hown hsz h32
        go_wp2_with (at_builtin; refine wpList_append_own _ rfl (.tmp 16) (.tmp 21) 42 rfl w.heap.size 9 i0 (.string ⟨#[]⟩) 1 16 (by kernel_rfl) hi hz0 hz1 hz2 rfl (by decide) _ acc.length (acc.map Value.string) rfl (World.ownsRow.alloc HIG.out _) ⟨wr.heap.size, 0, none⟩ 1 1 [.string (s.extract st pos)] rfl rfl one_cell one_cell' (by unfold maxLen; omega) (by omega) (by simp; omega) ?_; intro v' w1 hown' hgrow _)
        go_roundw
        case rel => exact ⟨pos + 1, pos + 1, acc ++ [s.extract st pos], hp, Nat.le_refl _, by go_num, by go_num, by simp; omega, grown_kept HIK.out HIG.out (Nat.le_refl _) hgrow, Gath.snoc hown', by intro x hx; rcases List.mem_append.1 hx with h | h; exact HSZ.out x h; rw [List.mem_singleton.1 h]; exact hes, HRUN.out⟩
        case measure => simp only [intOf]; omega
      · rw [spl_other h32] at hrun
        have HRUN := Lib.hid (show acc.map L ++ spl (L (s.extract st (pos + 1))) ((L s).drop (pos + 1)) = spl [] (L s) by rw [cutL_succ hst hp]; exact hrun)
        have h32b : ((((s[pos]'hp).toNat : Nat) : Int) == 32) = false := by rw [beq_eq_false_iff_ne]; omega
        clear hrun hK hown hsz h32
        go_wp2_with fail
        go_roundw
        case rel => exact ⟨pos + 1, st, acc, hp, by omega, rfl, by go_num, by omega, HIK.out, HIG.out, HSZ.out, HRUN.out⟩
        case measure => simp only [intOf]; omega
    · obtain rfl : pos = s.size := by omega
      rw [List.drop_of_length_le (by rw [L_length]; exact Nat.le_refl _)] at hrun
      have HRUN := Lib.hid (show (acc ++ [s.extract st s.size]).map L = spl [] (L s) by rw [← hrun]; simp [spl])
      clear hrun hK hown hsz
      go_wp2_with (at_builtin; refine wpList_append_own _ rfl (.tmp 25) (.tmp 29) 42 rfl w.heap.size 9 i0 (.string ⟨#[]⟩) 1 16 (by kernel_rfl) hi hz0 hz1 hz2 rfl (by decide) _ acc.length (acc.map Value.string) rfl (World.ownsRow.alloc HIG.out _) ⟨wr.heap.size, 0, none⟩ 1 1 [.string (s.extract st s.size)] rfl rfl one_cell one_cell' (by unfold maxLen; omega) (by omega) (by simp; omega) ?_; intro v' w1 hown' hgrow _)
      go_ret
      refine ⟨_, acc ++ [s.extract st s.size], rfl, Gath.strs (Gath.snoc hown'), HRUN.out, by rw [List.length_append, List.length_singleton]; omega, ?_, grown_kept HIK.out HIG.out (Nat.le_refl _) hgrow⟩
      intro x hx
      rcases List.mem_append.1 hx with h | h
      · exact HSZ.out x h
      · rw [List.mem_singleton.1 h]; exact hes
set_option maxRecDepth 100000 in
set_option maxHeartbeats 8000000 in
theorem rparseI_any (ev : Value) (At As : Option Addr) (nt ct ns cs : Nat) (iv : Value) (ms : List (List ByteArray)) (ts : List Ty) (line word : ByteArray) (w : World) (hE : Enums w ev ms) (hI : Fds w iv ts)
    (hls : line.size ≤ 1000000) (htl : ts.length ≤ 9223372036854775807) :
    Calls Tryz.prog 30 #[.agg #[ev, .slice At nt ct, .slice As ns cs], .string line, .string word, iv] w (pvPost ms word line ts w) := by
  unfold pvPost
  obtain ⟨i0, hi, hz0, hz1, hz2⟩ := info_parts Tryz.infoVal
  have HE := Lib.hid hE
  obtain ⟨AE, ce, rfl, _, _⟩ := id hE
  obtain ⟨AI, ci, rfl, hAI⟩ := id hI
  have hKx := (Kept.refl w).alloc (.cells #[.slice AE ms.length ce, .slice At nt ct, .slice As ns cs] 26)
  have HWD := Lib.hid (words_any line hls (w.alloc (.cells #[.slice AE ms.length ce, .slice At nt ct, .slice As ns cs] 26)))
  have hsx := spl_text (L line) []
  clear hE hI
  go_enter Tryz.func30, Tryz.ntmps30
  go_wp2_with fail
  refine HWD.out.mono ?_
  rintro e wc ⟨v, xs, rfl, hS, hm, hxl, hxs, hk⟩
  obtain ⟨A, cap, rfl, hA⟩ := hS.at3
  have hK := hKx.trans hk
  have hB := hk.blk1
  have hn0 : 0 < xs.length := by
    obtain ⟨x, ws, h1, _⟩ := hsx
    rw [h1] at hm
    have := congrArg List.length hm
    rw [List.length_map, List.length_cons] at this
    omega
  obtain ⟨b1, o1, rfl, hb1, hc1⟩ := hA hn0
  have hg0 : xs[0]? = some (xs[0]'hn0) := List.getElem?_eq_getElem _
  have x0 := hc1 0 _ hg0
  rw [Nat.add_zero] at x0
  have hhd : (spl [] (L line)).head? = some (L (xs[0]'hn0)) := by
    rw [← hm, List.head?_map, List.head?_eq_getElem?, hg0]; rfl
  have hPI : parI ms (L word) ts (L line) = if xs[0]'hn0 ≠ word ∨ [] ∈ (xs.map L).drop 1 then ([], 2) else if xs.length - 1 < ts.length then ([], 5) else if ts.length < xs.length - 1 then ([], 4) else parV ms ts ((xs.map L).drop 1) [] := by
    unfold parI
    rw [hhd, ← hm, List.length_drop, List.length_map]
    have e : (some (L (xs[0]'hn0)) ≠ some (L word)) ↔ xs[0]'hn0 ≠ word := by
      constructor
      · exact fun h he => h (by rw [he])
      · exact fun h he => h (L_inj.1 (Option.some.inj he))
    simp only [e]
  have HPI := Lib.hid hPI
  have heq := neqS (xs[0]'hn0) word
  generalize xs[0]'hn0 = X0 at *
  obtain ⟨n, hn⟩ : ∃ n, n = xs.length := ⟨_, rfl⟩
  obtain ⟨mt, hmt⟩ : ∃ n, n = ts.length := ⟨_, rfl⟩
  rw [← hn] at hxl hn0 ⊢
  rw [← hmt] at htl hAI ⊢
  have HN := Lib.hid hn
  have HMT := Lib.hid hmt
  have HC1 := Lib.hid hc1
  have HAI := Lib.hid hAI
  have hni : (0 : Int) < n := by omega
  have hnb : n ≠ 0 := by omega
  clear hn hmt hm hA hg0 hhd hPI hS hc1 hAI hsx HWD hKx
  by_cases hx : X0 = word
  · rw [decide_eq_true hx] at heq
    go_wp2_with fail
    go_loopw [11] (fun y wr => ∃ i : Nat, y = .int .i64 i ∧ 1 ≤ i ∧ i ≤ n ∧ wc = wr ∧ ∀ (j : Nat) x, 1 ≤ j → j < i → xs[j]? = some x → x ≠ ⟨#[]⟩) (fun y _ => n - (intOf y).toNat)
    case atStart => exact ⟨1, rfl, Nat.le_refl _, hn0, rfl, fun j x h1 h2 => absurd h2 (by omega)⟩
    case round =>
      obtain ⟨i, rfl, hi1, hin, rfl, hall⟩ := hrel
      have HALL := Lib.hid hall
      clear hall
      by_cases hlt : i < n
      · have hg1 : xs[i]? = some (xs[i]'(by have := HN.out; omega)) := List.getElem?_eq_getElem _
        have x1 := HC1.out i _ hg1
        have HG1 := Lib.hid hg1
        have hii : (i : Int) < n := by omega
        generalize xs[i]'(by have := HN.out; omega) = X at *
        have hemp : (X.toList == ([] : List UInt8)) = decide (X = ⟨#[]⟩) := by
          have hz : (⟨#[]⟩ : ByteArray).toList = [] := by rw [toList_L]; rfl
          have := neqS X ⟨#[]⟩
          rw [hz] at this
          exact this
        clear hg1
        by_cases he : X = ⟨#[]⟩
        · rw [decide_eq_true he] at hemp
          have HR := Lib.hid (show parI ms (L word) ts (L line) = ([], 2) by
            have hmem : [] ∈ (xs.map L).drop 1 := by
              refine List.mem_of_getElem? (i := i - 1) ?_
              rw [List.getElem?_drop, List.getElem?_map, show 1 + (i - 1) = i by omega, HG1.out, he]
              rfl
            rw [HPI.out, if_pos (.inr hmem)])
          clear he
          go_wp2_with fail
          go_ret2
          rw [HR.out]
          exact ⟨_, rfl, GathR.nil _ _ _, hK⟩
        · rw [decide_eq_false he] at hemp
          have HEM := Lib.hid he
          clear he
          go_wp2_with fail
          go_roundw
          case rel =>
            refine ⟨i + 1, rfl, by omega, hlt, trivial, fun j x h1 h2 hj => ?_⟩
            by_cases hji : j = i
            · subst hji
              rw [HG1.out] at hj
              rw [← Option.some.inj hj]
              exact HEM.out
            · exact HALL.out j x h1 (by omega) hj
          case measure => simp [intOf]; omega
      · obtain rfl : i = n := by omega
        have hii : ¬ ((i : Int) < i) := by omega
        have hpi := HPI.out
        rw [if_neg (show ¬ (X0 ≠ word ∨ [] ∈ (xs.map L).drop 1) from fun h => by
          rcases h with h | h
          · exact h hx
          · obtain ⟨j, hj⟩ := List.getElem?_of_mem h
            rw [List.getElem?_drop, List.getElem?_map] at hj
            cases hgj : xs[1 + j]? with
            | none => rw [hgj] at hj; cases hj
            | some x =>
              rw [hgj] at hj
              have hxe : L x = [] := Option.some.inj hj
              have hjl := (List.getElem?_eq_some_iff.1 hgj).1
              exact HALL.out (1 + j) x (by omega) (by have := HN.out; omega) hgj (L_inj.1 hxe)), ← HN.out, ← HMT.out] at hpi
        clear HALL HPI hx
        by_cases hlt2 : i - 1 < mt
        · rw [if_pos hlt2] at hpi
          have HR := Lib.hid hpi
          have hl2 : (i : Int) - 1 < mt := by omega
          clear hpi
          go_wp2_with fail
          go_ret2
          rw [HR.out]
          exact ⟨_, rfl, GathR.nil _ _ _, hK⟩
        rw [if_neg hlt2] at hpi
        have hl2 : ¬ (i : Int) - 1 < mt := by omega
        by_cases hgt : mt < i - 1
        · rw [if_pos hgt] at hpi
          have HR := Lib.hid hpi
          have hg2 : (mt : Int) < (i : Int) - 1 := by omega
          clear hpi
          go_wp2_with fail
          go_ret2
          rw [HR.out]
          exact ⟨_, rfl, GathR.nil _ _ _, hK⟩
        rw [if_neg hgt] at hpi
        have hg2 : ¬ (mt : Int) < (i : Int) - 1 := by omega
        have him : i = mt + 1 := by omega
        have HPA := Lib.hid hpi
        have hxl2 : mt ≤ 1000001 := by omega
        have HEc := fun (W : World) (h : Kept wc W) => HE.out.kept (hK.trans h)
        have hwsz := hK.size
        have HIM := Lib.hid him
        clear hpi hlt2 hgt him
        go_wp2_with fail
        go_loopw [12, 13] (fun x z wr => ∃ (q : Nat) (acc : List Vl), z = .int .i64 q ∧ q ≤ mt ∧ acc.length = q ∧ Kept wc wr ∧ GathR wr wc.heap.size 59 vlF 3 x acc ∧ parV ms (ts.drop q) (((xs.map L).drop 1).drop q) acc = parI ms (L word) ts (L line)) (fun _ z _ => mt - (intOf z).toNat)
        case atStart => exact ⟨0, [], rfl, Nat.zero_le _, rfl, Kept.refl _, GathR.nil _ _ _, HPA.out.symm⟩
        case round =>
          obtain ⟨q, acc, rfl, hqn, hal, hKr, hG, hrun⟩ := hrel
          by_cases hqt : q < mt
          · obtain ⟨b2, o2, rfl, hb2, hc2⟩ := HAI.out (by omega)
            have hg1 : xs[q + 1]? = some (xs[q + 1]'(by have := HN.out; have := HIM.out; omega)) := List.getElem?_eq_getElem _
            have hg2 : ts[q]? = some (ts[q]'(by have := HMT.out; omega)) := List.getElem?_eq_getElem _
            have hgm : ((xs.map L).drop 1)[q]? = some (L (xs[q + 1]'(by have := HN.out; have := HIM.out; omega))) := by rw [List.getElem?_drop, Nat.add_comm 1 q, List.getElem?_map, hg1]; rfl
            have x1 := HC1.out (q + 1) _ hg1
            obtain ⟨y0, y1⟩ := hc2 q _ hg2
            have hxz : (xs[q + 1]'(by have := HN.out; have := HIM.out; omega)).size ≤ 1000000 := Nat.le_trans (hxs _ (List.mem_of_getElem? hg1)) hls
            rw [parV_at hg2 hgm] at hrun
            generalize xs[q + 1]'(by have := HN.out; have := HIM.out; omega) = X at *
            generalize ts[q]'(by have := HMT.out; omega) = T at *
            obtain ⟨tk, te⟩ := T
            dsimp only at hrun y0 y1
            rw [bs_L] at hrun
            have X0 := hKr.cell (p := ⟨b1, _, none⟩) hb1 x1
            have Y0 := (hK.trans hKr).cell (p := ⟨b2, _, none⟩) hb2 y0
            have Y1 := (hK.trans hKr).cell (p := ⟨b2, _, none⟩) hb2 y1
            have hBr := hB.kept hKr
            have c0 := hBr.cell 0
            have cl := hBr.lt
            have b1r := Nat.lt_of_lt_of_le hb1 hKr.size
            have b2r := Nat.lt_of_lt_of_le hb2 (hK.trans hKr).size
            have hii : (q : Int) < mt := by omega
            have hii2 : (q : Int) + 1 < i := by have := HIM.out; omega
            have hwr : IntKind.i64.wrap ((q : Int) + 1) = (q : Int) + 1 := IntWalk.i64_in _ ⟨by omega, by omega⟩
            have hii4 : (0 : Int) ≤ (q : Int) + 1 := by omega
            have htn : ((q : Int) + 1).toNat = q + 1 := by omega
            have HVP := Lib.hid (fun w' (h : Kept wc w') => rvparse_any X tk te (.slice AE ms.length ce) ms (fun _ => hxz) w' (HEc _ h))
            generalize vparS X tk te ms = R at *
            obtain ⟨rk, re, rn, rc⟩ := R
            unfold vpV at HVP
            dsimp only at hrun HVP
            have HHR := Lib.hid hrun
            have HKR := Lib.hid hKr
            have HKK := Lib.hid hK
            obtain ⟨A2, c2, hv2, _, _⟩ := hG.form
            subst hv2
            have HHG := Lib.hid hG
            have HAL := Lib.hid hal
            have HXS := Lib.hid hxs
            have hali : acc.length ≤ 1000001 := by omega
            clear hal x1 y0 y1 hc2 hg1 hg2 hgm hxs HPA HAI hG hrun hKr hB hBr hK HC1 HE HEc heq
            go_wp2_with fail
            have HALL := Lib.hid (show ∀ W, Kept wr W → Kept wr W ∧ W.cell? ⟨b2, o2 + q * 3 + 1, none⟩ = some (.int .i64 tk) ∧ W.cell? ⟨b2, o2 + q * 3 + 2, none⟩ = some (.int .i64 te) ∧ W.cell? ⟨w.heap.size, 0, none⟩ = some (.slice AE ms.length ce) ∧ W.cell? ⟨b1, o1 + (q + 1), none⟩ = some (.string X) from fun W h => ⟨h, h.cell (p := ⟨b2, _, none⟩) b2r Y0, h.cell (p := ⟨b2, _, none⟩) b2r Y1, h.cell (p := ⟨w.heap.size, _, none⟩) cl c0, h.cell (p := ⟨b1, _, none⟩) b1r X0⟩)
            go_region_held3 (fun W => Kept wr W ∧ W.cell? ⟨b2, o2 + q * 3 + 1, none⟩ = some (.int .i64 tk) ∧ W.cell? ⟨b2, o2 + q * 3 + 2, none⟩ = some (.int .i64 te) ∧ W.cell? ⟨w.heap.size, 0, none⟩ = some (.slice AE ms.length ce) ∧ W.cell? ⟨b1, o1 + (q + 1), none⟩ = some (.string X))
              ((refine HALL.out _ ?_; (repeat (first | with_reducible exact Kept.refl _ | with_reducible assumption | with_reducible refine Kept.drew ?_ | with_reducible refine Kept.alloc ?_ _ | with_reducible refine Kept.setCell ?_ (by simp only; omega) _ | with_reducible refine Kept.trans ?_ ‹Kept _ _›))))
              ((go_at_call 54; refine (HVP.out _ (HKR.out.trans ?_)).mono ?_; (· (repeat (first | with_reducible exact Kept.refl _ | with_reducible assumption | with_reducible refine Kept.drew ?_ | with_reducible refine Kept.alloc ?_ _ | with_reducible refine Kept.setCell ?_ (by simp only; omega) _ | with_reducible refine Kept.trans ?_ ‹Kept _ _›))); rintro e w' ⟨rfl, hk'⟩; (try (have hN := Blk.kept (Blk.drew (Blk.new wr 59 #[.int .i64 0, .int .i64 0, .int .i64 0])) hk'; have hn1 := hN.cell; have hn2 := hN.frozen; have hn3 := hN.lt)); have hsx := Below.size hk'; (try simp at hsx)))
            · have hBl := Blk.new w' 59 #[.int .i64 rk, .int .i64 re, .int .i64 rn]
              have hW : Kept wr (w'.alloc (.cells #[.int .i64 rk, .int .i64 re, .int .i64 rn] 59)) := Kept.alloc (Kept.trans (Kept.drew (Kept.refl _)) hk') _
              clear hk' hsx
              rename_i hHeld
              clear hHeld
              generalize w'.alloc (.cells #[.int .i64 rk, .int .i64 re, .int .i64 rn] 59) = W at hW hBl ⊢
              generalize w'.heap.size = g at hBl ⊢
              have hW0 := HKR.out.trans hW
              have HG4 := HHG.out.keptOwn hW
              have d0 := hBl.cell 0
              have d1 := hBl.cell 1
              have d2 := hBl.cell 2
              have dl := hBl.lt
              simp only [List.getElem?_toArray, List.getElem?_cons_zero, List.getElem?_cons_succ] at d0 d1 d2
              clear hW hBl HVP
              have hacl : acc.length + 1 ≤ maxLen := by unfold maxLen; omega
              have hacl2 : (acc.length + 1) * 24 ≤ 140737488355328 := by omega
              by_cases hrc : rc = 0
              · have HRUN := Lib.hid (HHR.out.symm.trans (if_pos hrc)).symm
                have HO4 := HG4.alloc (.cells #[.int .i64 rk, .int .i64 re, .int .i64 rn] 59)
                subst hrc
                have hw14 := hW0.size
                go_wp2_with (at_builtin; refine wpList_append_own _ rfl (.tmp 71) (.tmp 73) 27 rfl wc.heap.size 59 i0 (.agg #[.int .i64 0, .int .i64 0, .int .i64 0]) 3 24 Tryz.underlying27 hi hz0 hz1 hz2 rfl (by decide) _ acc.length (acc.flatMap vlF) rfl HO4 ⟨W.heap.size, 0, none⟩ 1 1 (vlF ⟨rk, re, rn⟩) rfl rfl vl_new (vlF_one _) hacl hacl2 (by simp; omega) ?_; intro v' w5 hown' hgrow _)
                go_roundw
                case rel => exact ⟨q + 1, acc ++ [⟨rk, re, rn⟩], rfl, hqt, by rw [List.length_append, HAL.out]; rfl, ownGrown_kept hW0 HG4 (Nat.le_refl _) hgrow, GathR.snoc hown', HRUN.out⟩
                case measure => simp [intOf]; omega
              · have HR := Lib.hid (HHR.out.symm.trans (if_neg hrc)).symm
                have hrcb := bne_noV hrc
                go_wp2_with fail
                go_ret2
                rw [← HR.out]
                exact ⟨_, rfl, GathR.nil _ _ _, HKK.out.trans hW0⟩
            · have hBl := ((hN.set_ 0 (.int .i64 rk)).set_ 1 (.int .i64 re)).set_ 2 (.int .i64 rn)
              have hW : Kept wr (((w'.setCell ⟨wr.heap.size, 0, none⟩ (.int .i64 rk)).setCell ⟨wr.heap.size, 1, none⟩ (.int .i64 re)).setCell ⟨wr.heap.size, 2, none⟩ (.int .i64 rn)) := by
                have hk2 : Kept wr w' := Kept.trans (Kept.drew (Kept.alloc (Kept.refl _) _)) hk'
                refine Kept.setCell (Kept.setCell (Kept.setCell hk2 ?_ _) ?_ _) ?_ _ <;> exact Nat.le_refl _
              replace hBl : Blk _ wr.heap.size 59 #[.int .i64 rk, .int .i64 re, .int .i64 rn] := hBl
              clear hk' hsx hN hn1 hn2 hn3
              rename_i hHeld
              clear hHeld
              generalize ((w'.setCell ⟨wr.heap.size, 0, none⟩ (.int .i64 rk)).setCell ⟨wr.heap.size, 1, none⟩ (.int .i64 re)).setCell ⟨wr.heap.size, 2, none⟩ (.int .i64 rn) = W at hW hBl ⊢
              generalize wr.heap.size = g at hBl ⊢
              have hW0 := HKR.out.trans hW
              have HG4 := HHG.out.keptOwn hW
              have d0 := hBl.cell 0
              have d1 := hBl.cell 1
              have d2 := hBl.cell 2
              have dl := hBl.lt
              simp only [List.getElem?_toArray, List.getElem?_cons_zero, List.getElem?_cons_succ] at d0 d1 d2
              clear hW hBl HVP
              have hacl : acc.length + 1 ≤ maxLen := by unfold maxLen; omega
              have hacl2 : (acc.length + 1) * 24 ≤ 140737488355328 := by omega
              by_cases hrc : rc = 0
              · have HRUN := Lib.hid (HHR.out.symm.trans (if_pos hrc)).symm
                have HO4 := HG4.alloc (.cells #[.int .i64 rk, .int .i64 re, .int .i64 rn] 59)
                subst hrc
                have hw14 := hW0.size
                go_wp2_with (at_builtin; refine wpList_append_own _ rfl (.tmp 71) (.tmp 73) 27 rfl wc.heap.size 59 i0 (.agg #[.int .i64 0, .int .i64 0, .int .i64 0]) 3 24 Tryz.underlying27 hi hz0 hz1 hz2 rfl (by decide) _ acc.length (acc.flatMap vlF) rfl HO4 ⟨W.heap.size, 0, none⟩ 1 1 (vlF ⟨rk, re, rn⟩) rfl rfl vl_new (vlF_one _) hacl hacl2 (by simp; omega) ?_; intro v' w5 hown' hgrow _)
                go_roundw
                case rel => exact ⟨q + 1, acc ++ [⟨rk, re, rn⟩], rfl, hqt, by rw [List.length_append, HAL.out]; rfl, ownGrown_kept hW0 HG4 (Nat.le_refl _) hgrow, GathR.snoc hown', HRUN.out⟩
                case measure => simp [intOf]; omega
              · have HR := Lib.hid (HHR.out.symm.trans (if_neg hrc)).symm
                have hrcb := bne_noV hrc
                go_wp2_with fail
                go_ret2
                rw [← HR.out]
                exact ⟨_, rfl, GathR.nil _ _ _, HKK.out.trans hW0⟩
          · obtain rfl : q = mt := by omega
            rw [parV_end (by rw [List.length_drop, List.length_map]; have := HN.out; have := HIM.out; omega)] at hrun
            have HR := Lib.hid hrun
            clear hrun
            go_wp2_with fail
            go_ret2
            rw [← HR.out]
            exact ⟨_, rfl, gath_low hG hK.size, hK.trans hKr⟩
  · rw [decide_eq_false hx] at heq
    have HR := Lib.hid (show parI ms (L word) ts (L line) = ([], 2) by rw [HPI.out, if_pos (.inl hx)])
    go_wp2_with fail
    go_ret2
    rw [HR.out]
    exact ⟨_, rfl, GathR.nil _ _ _, hK⟩
end Go.Proofs.YtemejaomfbhldaaGreatDoor
/- What Parse of the reference of package casedata computes. -/
namespace Go.Proofs.YtemejaomfbhldaaGreatDoor
open Go.RowKit

theorem pre5 (l0 : ByteArray) : ((l0.extract 0 5).toList == [100, 97, 116, 101, 32]) = decide ((L l0).take 5 = datW) := by
  rw [toList_L, L_extract, List.drop_zero, Nat.sub_zero]
  by_cases h : (L l0).take 5 = datW
  · rw [h]; rfl
  · rw [decide_eq_false h]
    simpa [datW] using h
theorem cut5 (l0 : ByteArray) : l0.extract 5 l0.size = bs ((L l0).drop 5) := by
  rw [← L_inj, L_bs, L_extract, List.take_of_length_le (by rw [List.length_drop, L_length]; omega)]
set_option maxRecDepth 100000 in
set_option maxHeartbeats 8000000 in
theorem rcparse_any (lv : Value) (ms : List (List ByteArray)) (scs : List Sc) (sc : Int) (s : ByteArray) (w : World) (hL : LawM w lv ms scs) (hs : s.size ≤ 1000000) :
    Calls Tryz.prog 11 #[lv, .int .i64 sc, .string s] w (csPost (parCs ms scs sc s) w) := by
  obtain ⟨ev, At, nt, ct, sv, rfl, hE, hS⟩ := hL
  obtain ⟨AE, ce, rfl, _, _⟩ := id hE
  obtain ⟨AS, cs, rfl, hsl, hx⟩ := id hS
  have K0 := Lib.hid (((Kept.refl w).alloc (.cells #[.slice AE ms.length ce, .slice At nt ct, .slice AS scs.length cs] 26)).alloc (.cells #[.int .i64 0, .slice none 0 0, .slice none 0 0] 30))
  by_cases h1 : sc < 0
  · have HR := Lib.hid (show parCs ms scs sc s = (cs0, 0, 6) by rw [parCs, if_pos (.inl h1)])
    rw [HR.out]
    clear hE hS hx
    go_enter Tryz.func11, Tryz.ntmps11
    go_wp2_with fail
    refine bodyPost_ret (v := .tuple #[.agg #[.int .i64 0, .slice none 0 0, .slice none 0 0], .int .i64 (0 : Nat), .int .i64 6]) (by simp [results, Tryz.results11, go_sem]) rfl (csPost.none ?_)
    repeat refine Kept.setCell ?_ (by simp only; omega) _
    exact K0.out
  by_cases h2 : (scs.length : Int) ≤ sc
  · have HR := Lib.hid (show parCs ms scs sc s = (cs0, 0, 6) by rw [parCs, if_pos (.inr h2)])
    rw [HR.out]
    clear hE hS hx
    go_enter Tryz.func11, Tryz.ntmps11
    go_wp2_with fail
    refine bodyPost_ret (v := .tuple #[.agg #[.int .i64 0, .slice none 0 0, .slice none 0 0], .int .i64 (0 : Nat), .int .i64 6]) (by simp [results, Tryz.results11, go_sem]) rfl (csPost.none ?_)
    repeat refine Kept.setCell ?_ (by simp only; omega) _
    exact K0.out
  obtain ⟨k, hk⟩ : ∃ k : Nat, sc = k := ⟨sc.toNat, by omega⟩
  subst hk
  have hks : k < scs.length := by omega
  have hksi : (k : Int) < scs.length := by omega
  obtain ⟨b1, o1, rfl, hb1, hc1⟩ := hx (by omega)
  have hg : scs[k]? = some (scs[k]'hks) := List.getElem?_eq_getElem hks
  obtain ⟨hin, _, iv, hiv, hF⟩ := hc1 k _ hg
  have hpc : parCs ms scs k s = if (linR s).2 ≠ 0 then (cs0, 0, (linR s).2)
      else match (linR s).1.map L with
        | [] => (cs0, 0, 5)
        | l0 :: r =>
          if l0.take 5 ≠ datW then (cs0, 0, 2)
          else if (dparS (bs (l0.drop 5))).2 ≠ 0 then (cs0, 0, (dparS (bs (l0.drop 5))).2)
          else match r with
            | [] => (cs0, 1, 5)
            | l1 :: r =>
              if (parI ms [105, 110] (scs[k]'hks).ins l1).2 ≠ 0 then (cs0, 1, (parI ms [105, 110] (scs[k]'hks).ins l1).2)
              else if (parM ms (memI scs (scs[k]'hks)).1 (memI scs (scs[k]'hks)).2 2 r []).2.2 ≠ 0 then (cs0, (parM ms (memI scs (scs[k]'hks)).1 (memI scs (scs[k]'hks)).2 2 r []).2.1, (parM ms (memI scs (scs[k]'hks)).1 (memI scs (scs[k]'hks)).2 2 r []).2.2)
              else (⟨(dparS (bs (l0.drop 5))).1, (parI ms [105, 110] (scs[k]'hks).ins l1).1, (parM ms (memI scs (scs[k]'hks)).1 (memI scs (scs[k]'hks)).2 2 r []).1⟩, 0, 0) := by
    rw [parCs, if_neg (by omega), Int.toNat_natCast, hg]
    rfl
  have HMI := Lib.hid (fun w' (h : Kept w w') => rmembers_any (.slice AE ms.length ce) (.slice (some ⟨b1, o1, none⟩) scs.length cs) At nt ct scs k w' AE ms.length ce rfl (hS.kept h) hks)
  simp only [hg, Option.getD_some] at HMI
  generalize scs[k]'hks = sp at *
  have hmb : (memI scs sp).1.length ≤ 9223372036854775807 ∧ (memI scs sp).2 ≤ 8 := memI_bd (fun j s hj => (hc1 j s hj).1)
  have HE := Lib.hid hE
  have HF := Lib.hid hF
  have HC1 := Lib.hid hc1
  have HL0 := Lib.hid (fun w => rlines_any s hs w)
  have hsz := lines_sizeC s
  generalize linR s = R at *
  obtain ⟨xs, code⟩ := R
  dsimp only at HL0 hsz hpc
  obtain ⟨n, hn⟩ : ∃ n, n = xs.length := ⟨_, rfl⟩
  have HL : Hid (∀ w, Calls Tryz.prog 28 #[.string s] w fun e w' => ∃ A cap, e = .returned (.tuple #[.slice A n cap, .int .i64 code]) ∧ (0 < n → ∃ b off, A = some ⟨b, off, none⟩ ∧ b < w'.heap.size ∧ ∀ (j : Nat) x, xs[j]? = some x → w'.cell? ⟨b, off + j, none⟩ = some (.string x)) ∧ Kept w w') :=
    Lib.hid (fun w => (HL0.out w).mono (fun e w' h => by
      obtain ⟨v, h1, h2, h3⟩ := h
      obtain ⟨A, cap, h4, h5⟩ := h2.at3
      subst h4
      rw [← hn] at h1 h5
      exact ⟨A, cap, h1, h5, h3⟩))
  clear h1 h2 hE hS hF hg HL0 hx hc1
  by_cases hcode : code ≠ 0
  · rw [if_pos hcode] at hpc
    have HR := Lib.hid hpc
    have hcb := bne_noV hcode
    clear hpc hcode hsz
    rw [HR.out]
    go_enter Tryz.func11, Tryz.ntmps11
    go_wp2_with (go_at_call 28; refine (HL.out _).mono ?_; rintro e w1 ⟨A, cap, rfl, hA, hk⟩; have K1 := K0.out.trans hk; have B6 := hk.blk2.2; have b6 := B6.cell; have l6 := B6.lt; have f6 := B6.frozen)
    refine bodyPost_ret (v := .tuple #[.agg #[.int .i64 0, .slice none 0 0, .slice none 0 0], .int .i64 (0 : Nat), .int .i64 code]) (by simp [results, Tryz.results11, go_sem, b6]) rfl (csPost.none ?_)
    repeat refine Kept.setCell ?_ (by simp only; omega) _
    exact K1
  obtain rfl : code = 0 := by simpa using hcode
  rw [if_neg hcode] at hpc
  clear hcode
  cases xs with
  | nil =>
    have HR := Lib.hid hpc
    simp only [List.length_nil] at hn
    subst hn
    clear hpc hsz
    rw [HR.out.trans rfl]
    go_enter Tryz.func11, Tryz.ntmps11
    go_wp2_with (go_at_call 28; refine (HL.out _).mono ?_; rintro e w1 ⟨A, cap, rfl, hA, hk⟩; have K1 := K0.out.trans hk; have B6 := hk.blk2.2; have b6 := B6.cell; have l6 := B6.lt; have f6 := B6.frozen)
    refine bodyPost_ret (v := .tuple #[.agg #[.int .i64 0, .slice none 0 0, .slice none 0 0], .int .i64 (0 : Nat), .int .i64 5]) (by simp [results, Tryz.results11, go_sem, b6]) rfl (csPost.none ?_)
    repeat refine Kept.setCell ?_ (by simp only; omega) _
    exact K1
  | cons l0 r =>
    have hn0 : 0 < n := by rw [hn, List.length_cons]; omega
    have hg0 : (l0 :: r)[0]? = some l0 := rfl
    rw [List.map_cons] at hpc
    dsimp only at hpc
    have HN := Lib.hid hn
    clear hn
    have hn0b : ((n : Int) == 0) = false := by simp; omega
    have hn0i : (0 : Int) < n := by omega
    have hpre := pre5 l0
    by_cases hd : (L l0).take 5 ≠ datW
    · rw [if_pos hd] at hpc
      rw [decide_eq_false hd] at hpre
      have HR := Lib.hid hpc
      clear hpc hd hsz
      rcases (show (l0.size : Int) < 5 ∨ ¬ (l0.size : Int) < 5 by omega) with h5 | h5
      all_goals
        go_enter Tryz.func11, Tryz.ntmps11
        go_wp2_with (go_at_call 28; refine (HL.out _).mono ?_; rintro e w1 ⟨A, cap, rfl, hA, hk⟩; obtain ⟨b2, o2, rfl, hb2, hc2⟩ := hA hn0; have x0 := hc2 0 _ hg0; rw [Nat.add_zero] at x0; have K1 := K0.out.trans hk; have B6 := hk.blk2.2; have b6 := B6.cell; have l6 := B6.lt; have f6 := B6.frozen)
        rw [HR.out]
        refine bodyPost_ret (v := .tuple #[.agg #[.int .i64 0, .slice none 0 0, .slice none 0 0], .int .i64 (0 : Nat), .int .i64 2]) (by simp [results, Tryz.results11, go_sem, b6]) rfl (csPost.none ?_)
        repeat refine Kept.setCell ?_ (by simp only; omega) _
        exact K1
    obtain hd : (L l0).take 5 = datW := Decidable.not_not.1 hd
    rw [if_neg (by simpa using hd)] at hpc
    rw [decide_eq_true hd] at hpre
    have h5 : ¬ (l0.size : Int) < 5 := by
      have := congrArg List.length hd
      rw [List.length_take, L_length] at this
      have h55 : datW.length = 5 := rfl
      omega
    have h5n : 5 ≤ l0.size := by omega
    have HDP := Lib.hid (fun w' => rparse_any (l0.extract 5 l0.size) w')
    rw [← cut5] at hpc
    generalize dparS (l0.extract 5 l0.size) = DR at *
    obtain ⟨d, dc⟩ := DR
    dsimp only at HDP hpc
    clear hd
    have HZ := Lib.hid hsz
    have HPC := Lib.hid hpc
    clear hsz hpc
    go_enter Tryz.func11, Tryz.ntmps11
    go_upto_region 10 with (go_at_call 28; refine (HL.out _).mono ?_; rintro e w1 ⟨A, cap, rfl, hA, hk⟩; obtain ⟨b2, o2, rfl, hb2, hc2⟩ := hA hn0; have x0 := hc2 0 _ hg0; rw [Nat.add_zero] at x0)
    have K1 : Kept w w1 := K0.out.trans hk
    have hw1 := hk.size
    simp only [World.size_alloc] at hw1
    have H6 := Lib.hid hk.blk2.2
    have H3 := Lib.hid hk.blk2.1
    have HC2 := Lib.hid hc2
    clear HL hA
    by_cases hdc : dc ≠ 0
    · have HR := Lib.hid (HPC.out.trans (if_pos hdc))
      have hdcb := bne_noV hdc
      clear hdc
      go_wp2_with (go_at_call 29; refine (HDP.out _).mono ?_; rintro e w3 ⟨rfl, hk3⟩; have b6 := (H6.out.kept hk3).cell; have l6 := (H6.out.kept hk3).lt; have f6 := (H6.out.kept hk3).frozen)
      rw [HR.out]
      refine bodyPost_ret (v := .tuple #[.agg #[.int .i64 0, .slice none 0 0, .slice none 0 0], .int .i64 (0 : Nat), .int .i64 dc]) (by simp [results, Tryz.results11, go_sem, b6]) rfl (csPost.none ?_)
      repeat refine Kept.setCell ?_ (by simp only; omega) _
      exact K1.trans hk3
    obtain rfl : dc = 0 := by simpa using hdc
    have HPD := Lib.hid (HPC.out.trans (if_neg hdc))
    clear hdc HPC
    go_upto_region 13 with (go_at_call 29; refine (HDP.out _).mono ?_; rintro e w3 ⟨rfl, hk3⟩)
    have K3 := K1.trans hk3
    have B6 := H6.out.kept hk3
    have B3 := H3.out.kept hk3
    have hb2w := Nat.lt_of_lt_of_le hb2 hk3.size
    have HC3 := Lib.hid (fun (j : Nat) x (h : (l0 :: r)[j]? = some x) => hk3.cell (p := ⟨b2, o2 + j, none⟩) hb2 (HC2.out j x h))
    have b6 := B6.cell
    have l6 := B6.lt
    have f6 := B6.frozen
    clear HC2 HDP x0 hg0 hpre h5 h5n
    cases r with
    | nil =>
      have HR := Lib.hid HPD.out
      obtain rfl : n = 1 := HN.out
      simp only [List.map_nil] at HR
      go_wp2_with fail
      rw [HR.out]
      refine bodyPost_ret (v := .tuple #[.agg #[.int .i64 0, .slice none 0 0, .slice none 0 0], .int .i64 (1 : Nat), .int .i64 5]) (by simp [results, Tryz.results11, go_sem, b6]) rfl (csPost.none ?_)
      repeat refine Kept.setCell ?_ (by simp only; omega) _
      exact K3
    | cons l1 r =>
      have hn1b : ((n : Int) == 1) = false := by simp; have := HN.out; simp only [List.length_cons] at this; omega
      have hn1i : (1 : Int) < n := by have := HN.out; simp only [List.length_cons] at this; omega
      have hX1 := HC3.out 1 l1 rfl
      have hl1 : l1.size ≤ 1000000 := Nat.le_trans (HZ.out l1 (by simp)) (by decide)
      have HPI := Lib.hid (fun w' (h : Kept w w') => rparseI_any (.slice AE ms.length ce) At (some ⟨b1, o1, none⟩) nt ct scs.length cs iv ms sp.ins l1 ⟨#[105, 110]⟩ w' (HE.out.kept h) (HF.out.kept h) hl1 hin)
      unfold pvPost at HPI
      rw [show L ⟨#[105, 110]⟩ = [105, 110] from rfl] at HPI
      have HPE := HPD.out
      rw [List.map_cons] at HPE
      dsimp only at HPE
      generalize parI ms [105, 110] sp.ins (L l1) = R1 at *
      obtain ⟨ins, ic⟩ := R1
      dsimp only at HPI HPE
      have c0 := B3.cell 0
      have c1 := B3.cell 1
      have c2 := B3.cell 2
      have c3l := B3.lt
      simp only [List.getElem?_toArray, List.getElem?_cons_zero, List.getElem?_cons_succ] at c0 c1 c2
      have hb1w := Nat.lt_of_lt_of_le hb1 K3.size
      have hv := K3.cell (p := ⟨b1, o1 + k * 5 + 2, none⟩) hb1 hiv
      have HALL := Lib.hid (show ∀ W, Kept w3 W → Kept w3 W ∧ W.cell? ⟨w.heap.size, 0, none⟩ = some (.slice AE ms.length ce) ∧ W.cell? ⟨w.heap.size, 1, none⟩ = some (.slice At nt ct) ∧ W.cell? ⟨w.heap.size, 2, none⟩ = some (.slice (some ⟨b1, o1, none⟩) scs.length cs) ∧ W.cell? ⟨b2, o2 + 1, none⟩ = some (.string l1) ∧ W.cell? ⟨b1, o1 + k * 5 + 2, none⟩ = some iv from fun W h => ⟨h, h.cell (p := ⟨w.heap.size, _, none⟩) c3l c0, h.cell (p := ⟨w.heap.size, _, none⟩) c3l c1, h.cell (p := ⟨w.heap.size, _, none⟩) c3l c2, h.cell (p := ⟨b2, _, none⟩) hb2w hX1, h.cell (p := ⟨b1, _, none⟩) hb1w hv⟩)
      have HPF := Lib.hid HPE
      have HK3 := Lib.hid K3
      clear HPE HPD c0 c1 c2 hX1 hv b6 l6 f6
      go_wp2_with fail
      go_region_held3 (fun W => Kept w3 W ∧ W.cell? ⟨w.heap.size, 0, none⟩ = some (.slice AE ms.length ce) ∧ W.cell? ⟨w.heap.size, 1, none⟩ = some (.slice At nt ct) ∧ W.cell? ⟨w.heap.size, 2, none⟩ = some (.slice (some ⟨b1, o1, none⟩) scs.length cs) ∧ W.cell? ⟨b2, o2 + 1, none⟩ = some (.string l1) ∧ W.cell? ⟨b1, o1 + k * 5 + 2, none⟩ = some iv)
            ((refine HALL.out _ ?_; (repeat (first | with_reducible exact Kept.refl _ | with_reducible assumption | with_reducible refine Kept.drew ?_ | with_reducible refine Kept.alloc ?_ _ | with_reducible refine Kept.setCell ?_ (by simp only; omega) _ | with_reducible refine Kept.trans ?_ ‹Kept _ _›))))
            ((go_at_call 30; refine (HPI.out _ (HK3.out.trans ?_)).mono ?_; (· (repeat (first | with_reducible exact Kept.refl _ | with_reducible assumption | with_reducible refine Kept.drew ?_ | with_reducible refine Kept.alloc ?_ _ | with_reducible refine Kept.setCell ?_ (by simp only; omega) _ | with_reducible refine Kept.trans ?_ ‹Kept _ _›))); rintro e w5 ⟨u, rfl, hG, hk5⟩; obtain ⟨Au, cu, hu, _, _⟩ := hG.form; subst hu))
      rename_i hHeld
      clear hHeld
      have k35 : Kept w3 w5 := (Kept.refl w3).drew.trans hk5
      have K5 := HK3.out.trans k35
      have C6 := B6.kept k35
      have C3 := B3.kept k35
      have HC5 := Lib.hid (fun (j : Nat) x (h : (l0 :: l1 :: r)[j]? = some x) => k35.cell (p := ⟨b2, o2 + j, none⟩) hb2w (HC3.out j x h))
      have hb2v := Nat.lt_of_lt_of_le hb2w k35.size
      have hb1v := Nat.lt_of_lt_of_le hb1w k35.size
      have b6 := C6.cell
      have l6 := C6.lt
      have f6 := C6.frozen
      clear B6 B3 HC3 hk5 HALL HPI
      by_cases hic : ic ≠ 0
      · have HR := Lib.hid (HPF.out.trans (if_pos hic))
        have hicb := bne_noV hic
        clear hic
        go_wp2_with fail
        rw [HR.out]
        refine bodyPost_ret (v := .tuple #[.agg #[.int .i64 0, .slice none 0 0, .slice none 0 0], .int .i64 (1 : Nat), .int .i64 ic]) (by simp [results, Tryz.results11, go_sem, b6]) rfl (csPost.none ?_)
        repeat refine Kept.setCell ?_ (by simp only; omega) _
        exact K5
      obtain rfl : ic = 0 := by simpa using hic
      have HPG := Lib.hid (HPF.out.trans (if_neg hic))
      have c0 := C3.cell 0
      have c1 := C3.cell 1
      have c2 := C3.cell 2
      have c3l := C3.lt
      simp only [List.getElem?_toArray, List.getElem?_cons_zero, List.getElem?_cons_succ] at c0 c1 c2
      have K6 := K5.alloc (.cells #[.int .i64 d, .slice Au ins.length cu, .slice none 0 0] 30)
      have B11 := Blk.new w5 30 #[.int .i64 d, .slice Au ins.length cu, .slice none 0 0]
      clear hic HPF b6 l6 f6
      go_wp2_with fail
      refine (HMI.out _ K6).mono ?_
      rintro e w7 ⟨a, rfl, hma, hk7⟩
      have k57 : Kept w5 w7 := ((Kept.refl w5).alloc _).trans hk7
      have N11 := B11.kept hk7
      have HP : Hid (parCs ms scs k s = if (parM ms (memI scs sp).1 (memI scs sp).2 2 (r.map L) []).2.2 ≠ 0 then (cs0, (parM ms (memI scs sp).1 (memI scs sp).2 2 (r.map L) []).2.1, (parM ms (memI scs sp).1 (memI scs sp).2 2 (r.map L) []).2.2) else (⟨d, ins, (parM ms (memI scs sp).1 (memI scs sp).2 2 (r.map L) []).1⟩, 0, 0)) := HPG
      unfold memAt at hma
      clear hk7 HPG HMI B11 c0 c1 c2 c3l
      generalize (memI scs sp).1 = mts at *
      generalize (memI scs sp).2 = lim at *
      obtain ⟨hmt, hlim⟩ := hmb
      generalize hls : l0 :: l1 :: r = xs at *
      have HLS := Lib.hid hls
      have HMA := Lib.hid hma
      have HGI := Lib.hid hG
      obtain ⟨gc, hgc⟩ : ∃ gc, gc = w5.heap.size := ⟨_, rfl⟩
      rw [← hgc] at N11 ⊢
      have hgc1 : w5.heap.size ≤ gc := Nat.le_of_eq hgc.symm
      have hgc2 : gc ≤ w5.heap.size := Nat.le_of_eq hgc
      clear hls hma hG hgc
      go_wp2_with fail
      go_loopw [18] (fun z wr => ∃ (i : Nat) (acc : List (List Vl)) (vs : List Value) (mv : Value), z = .int .i64 i ∧ i = 2 + acc.length ∧ i ≤ n ∧ acc.length ≤ 8 ∧ KeptX w7 gc wr ∧ Kept w5 wr ∧ Blk wr gc 30 #[.int .i64 d, .slice Au ins.length cu, mv] ∧ MemR wr w7.heap.size mv vs acc ∧ parM ms mts lim i ((xs.map L).drop i) acc = parM ms mts lim 2 (r.map L) []) (fun z _ => n - (intOf z).toNat)
      case atStart =>
        refine ⟨2, [], [], .slice none 0 0, rfl, rfl, by omega, by decide, ⟨Nat.le_refl _, fun _ _ _ => rfl⟩, k57, N11, ⟨rfl, GathR.nil _ _ _, fun j l v h => by simp at h⟩, ?_⟩
        rw [← HLS.out]
        rfl
      case round =>
        obtain ⟨i, acc, vs, mv, rfl, hi2, hin', ha8, hKX, hK1, hB, ⟨hvl, hGm, hGv⟩, hrun⟩ := hrel
        have hi2a : i ≤ 2 + acc.length := by omega
        have hi2b : 2 + acc.length ≤ i := by omega
        clear hi2
        have b6 := (C6.kept hK1).cell
        have l6 := (C6.kept hK1).lt
        have f6 := (C6.kept hK1).frozen
        have K8 := K5.trans hK1
        obtain ⟨Am, cm, hmv, _, _⟩ := hGm.form
        subst hmv
        have b11 := hB.cell
        have l11 := hB.lt
        have f11 := hB.frozen
        have HB := Lib.hid hB
        have HVL := Lib.hid hvl
        by_cases hlt : i < n
        · have hii : (i : Int) < n := by omega
          have hg1 : xs[i]? = some (xs[i]'(by have := HN.out; omega)) := List.getElem?_eq_getElem _
          have hgm : (xs.map L)[i]? = some (L (xs[i]'(by have := HN.out; omega))) := by rw [List.getElem?_map, hg1]; rfl
          have hX1 := hK1.cell (p := ⟨b2, o2 + i, none⟩) hb2v (HC5.out i _ hg1)
          have hxz := HZ.out _ (List.mem_of_getElem? hg1)
          rw [parM_at hgm] at hrun
          generalize xs[i]'(by have := HN.out; omega) = X at *
          by_cases hfull : lim ≤ acc.length
          · rw [if_pos hfull] at hrun
            have HR := Lib.hid (show parCs ms scs k s = (cs0, i, 4) by rw [HP.out, ← hrun]; rfl)
            have hfi : (lim : Int) ≤ (i : Int) - 2 := by omega
            clear hrun hGm hGv hg1 hgm hX1
            go_wp2_with fail
            rw [HR.out]
            refine bodyPost_ret (v := .tuple #[.agg #[.int .i64 0, .slice none 0 0, .slice none 0 0], .int .i64 (i : Nat), .int .i64 4]) (by simp [results, Tryz.results11, go_sem, b6]) rfl (csPost.none ?_)
            repeat refine Kept.setCell ?_ (by simp only; omega) _
            exact K8
          rw [if_neg hfull] at hrun
          have hfi : ¬ ((lim : Int) ≤ (i : Int) - 2) := by omega
          have hfi2 : ¬ lim ≤ vs.length := by omega
          obtain ⟨q, s2, rfl, hs2, hms⟩ : ∃ q s2, a = (q : Nat) ∧ scs[q]? = some s2 ∧ mts = s2.ins := by
            rcases HMA.out with h | h
            · exact absurd h (by show ¬ lim = 0; omega)
            · exact h
          have hqs := (List.getElem?_eq_some_iff.1 hs2).1
          have hqi : (q : Int) < scs.length := by omega
          obtain ⟨_, _, iv2, hiv2, hF2⟩ := HC1.out q s2 hs2
          rw [← hms] at hF2
          have Z2 := K8.cell (p := ⟨b1, o1 + q * 5 + 2, none⟩) hb1 hiv2
          have HPI := Lib.hid (fun w' (h : Kept w w') => rparseI_any (.slice AE ms.length ce) At (some ⟨b1, o1, none⟩) nt ct scs.length cs iv2 ms mts X ⟨#[109, 101, 109, 98, 101, 114]⟩ w' (HE.out.kept h) (hF2.kept h) (Nat.le_trans hxz (by decide)) hmt)
          unfold pvPost at HPI
          rw [show L ⟨#[109, 101, 109, 98, 101, 114]⟩ = [109, 101, 109, 98, 101, 114] from rfl] at HPI
          generalize parI ms [109, 101, 109, 98, 101, 114] mts (L X) = R2 at *
          obtain ⟨vl, ic⟩ := R2
          dsimp only at HPI hrun
          have B3 := C3.kept hK1
          have d0 := B3.cell 0
          have d1 := B3.cell 1
          have d2 := B3.cell 2
          have d3 := B3.lt
          simp only [List.getElem?_toArray, List.getElem?_cons_zero, List.getElem?_cons_succ] at d0 d1 d2
          have d4 : b2 < wr.heap.size := Nat.lt_of_lt_of_le hb2v hK1.size
          have d5 : b1 < wr.heap.size := Nat.lt_of_lt_of_le hb1v hK1.size
          have HALL := Lib.hid (show ∀ W, Kept wr W → Kept wr W ∧ W.cell? ⟨w.heap.size, 0, none⟩ = some (.slice AE ms.length ce) ∧ W.cell? ⟨w.heap.size, 1, none⟩ = some (.slice At nt ct) ∧ W.cell? ⟨w.heap.size, 2, none⟩ = some (.slice (some ⟨b1, o1, none⟩) scs.length cs) ∧ W.cell? ⟨b2, o2 + i, none⟩ = some (.string X) ∧ W.cell? ⟨b1, o1 + q * 5 + 2, none⟩ = some iv2 from fun W h => ⟨h, h.cell (p := ⟨w.heap.size, _, none⟩) d3 d0, h.cell (p := ⟨w.heap.size, _, none⟩) d3 d1, h.cell (p := ⟨w.heap.size, _, none⟩) d3 d2, h.cell (p := ⟨b2, _, none⟩) d4 hX1, h.cell (p := ⟨b1, _, none⟩) d5 Z2⟩)
          have HRUN := Lib.hid hrun
          have HGM := Lib.hid hGm
          have HGV := Lib.hid hGv
          have HC6 := Lib.hid (C6.kept hK1)
          have HK1 := Lib.hid hK1
          have HKX := Lib.hid hKX
          have HK8 := Lib.hid K8
          clear hrun hGm hGv hg1 hgm hfull hvl b6 l6 f6 B3 hB hKX hiv2 hF2 Z2 hX1 hms hs2
          go_wp2_with fail
          go_region_held3 (fun W => Kept wr W ∧ W.cell? ⟨w.heap.size, 0, none⟩ = some (.slice AE ms.length ce) ∧ W.cell? ⟨w.heap.size, 1, none⟩ = some (.slice At nt ct) ∧ W.cell? ⟨w.heap.size, 2, none⟩ = some (.slice (some ⟨b1, o1, none⟩) scs.length cs) ∧ W.cell? ⟨b2, o2 + i, none⟩ = some (.string X) ∧ W.cell? ⟨b1, o1 + q * 5 + 2, none⟩ = some iv2)
            ((refine HALL.out _ ?_; (repeat (first | with_reducible exact Kept.refl _ | with_reducible assumption | with_reducible refine Kept.drew ?_ | with_reducible refine Kept.alloc ?_ _ | with_reducible refine Kept.setCell ?_ (by simp only; omega) _ | with_reducible refine Kept.trans ?_ ‹Kept _ _›))))
            ((go_at_call 30; refine (HPI.out _ (HK8.out.trans ?_)).mono ?_; (· (repeat (first | with_reducible exact Kept.refl _ | with_reducible assumption | with_reducible refine Kept.drew ?_ | with_reducible refine Kept.alloc ?_ _ | with_reducible refine Kept.setCell ?_ (by simp only; omega) _ | with_reducible refine Kept.trans ?_ ‹Kept _ _›))); rintro e w8 ⟨u, rfl, hG, hk5⟩; obtain ⟨Au2, cu2, hu, _, _⟩ := hG.form; subst hu))
          rename_i hHeld
          clear hHeld
          have k5 : Kept wr w8 := (Kept.refl wr).drew.trans hk5
          have b6 := (HC6.out.kept k5).cell
          have l6 := (HC6.out.kept k5).lt
          have f6 := (HC6.out.kept k5).frozen
          by_cases hic : ic = 0
          · subst hic
            have HM5 := MemR.keptOwn ⟨HVL.out, HGM.out, HGV.out⟩ k5
            have HG4 := HM5.2.1
            have HO4 := HG4.alloc (.cells #[.slice Au2 vl.length cu2] 27)
            have HU5 := gath_low hG (show w7.heap.size ≤ wr.drew.heap.size from HKX.out.1)
            have hgw : gc < w7.heap.size := N11.lt
            have hw75 : w7.heap.size ≤ w8.heap.size := Nat.le_trans HKX.out.1 k5.size
            have hacl : vs.length + 1 ≤ maxLen := by have := HVL.out; unfold maxLen; omega
            have hacl2 : (vs.length + 1) * 24 ≤ 140737488355328 := by have := HVL.out; omega
            have B5 := HB.out.kept k5
            have n1 := B5.cell
            have n2 := B5.lt
            have n3 := B5.frozen
            obtain ⟨i0, hi, hz0, hz1, hz2⟩ := info_parts Tryz.infoVals
            have HRUN2 := Lib.hid (HRUN.out.symm.trans (if_pos rfl)).symm
            clear b11 l11 f11
            go_wp2_with (at_builtin; refine wpList_append_own _ rfl (.tmp 133) (.tmp 135) 28 rfl w7.heap.size 27 i0 (.slice none 0 0) 1 24 Tryz.underlying28 hi hz0 hz1 hz2 rfl (by decide) _ vs.length (vs.flatMap fun v => [v]) rfl HO4 ⟨w8.heap.size, 0, none⟩ 1 1 [.slice Au2 vl.length cu2] rfl rfl blk_cells (by intro u hu; obtain rfl := List.mem_singleton.1 hu; rfl) hacl hacl2 (by simp; omega) ?_; intro v' w9 hown' hgrow _; replace hgrow : (w8.alloc (.cells #[.slice Au2 vl.length cu2] 27)).grownBy w9 (Value.slice Am vs.length cm).ownBlock := hgrow; have GS : GathR w9 w7.heap.size 27 (fun v => [v]) 1 v' (vs ++ [.slice Au2 vl.length cu2]) := GathR.snoc hown'; obtain ⟨Am2, cm2, hv', _, _⟩ := GS.form; subst hv'; have N8 : Blk w9 gc 30 #[.int .i64 d, .slice Au ins.length cu, .slice Am vs.length cm] := (ownGrown_block HG4 hgrow B5.lt hgw).trans B5; have n81 := N8.cell; have n82 := N8.lt; have n83 := N8.frozen)
            have GS2 : GathR w9 w7.heap.size 27 (fun v => [v]) 1 (.slice Am2 (vs.length + 1) cm2) (vs ++ [.slice Au2 vl.length cu2]) := by
              have := GS
              rwa [List.length_append, List.length_singleton] at this
            have N9 : Blk (w9.setCell ⟨gc, 2, none⟩ (.slice Am2 (vs.length + 1) cm2)) gc 30 #[.int .i64 d, .slice Au ins.length cu, .slice Am2 (vs.length + 1) cm2] := N8.set_ 2 (.slice Am2 (vs.length + 1) cm2)
            refine ⟨⟨i + 1, acc ++ [vl], vs ++ [.slice Au2 vl.length cu2], .slice Am2 (vs.length + 1) cm2, rfl, ?_, hlt, ?_, ⟨?_, fun b hb hne => ?_⟩, ?_, N9, ?_, HRUN2.out⟩, by simp [intOf]; omega⟩
            · rw [List.length_append, List.length_singleton]; omega
            · rw [List.length_append, List.length_singleton]; have := HVL.out; omega
            · have h8 := ownGrown_size hgrow
              have h9 : w7.heap.size ≤ w9.heap.size := by omega
              first | (simp only [World.setCell, Array.size_modify]; exact h9) | (simp [World.setCell]; exact h9) | (simp; omega)
            · exact (Below.heap_setCell w9 ⟨gc, 2, none⟩ _ b hne).trans ((ownGrown_block HG4 hgrow (Nat.lt_of_lt_of_le hb hw75) hb).trans ((k5.block b (Nat.lt_of_lt_of_le hb HKX.out.1)).trans (HKX.out.2 b hb hne)))
            · exact (ownGrown_kept (HK1.out.trans k5) HG4 (by omega) hgrow).setCell hgc1 _
            · exact (HM5.snoc HU5 hgrow GS2).far (p := ⟨gc, 2, none⟩) _ hgw
          · have HR := Lib.hid (show parCs ms scs k s = (cs0, i, ic) by
              rw [HP.out, ← HRUN.out, if_neg hic]
              exact if_pos hic)
            have hicb := bne_noV hic
            go_wp2_with fail
            rw [HR.out]
            refine bodyPost_ret (v := .tuple #[.agg #[.int .i64 0, .slice none 0 0, .slice none 0 0], .int .i64 (i : Nat), .int .i64 ic]) (by simp [results, Tryz.results11, go_sem, b6]) rfl (csPost.none ?_)
            repeat refine Kept.setCell ?_ (by simp only; omega) _
            exact (HK8.out.trans k5)
        · obtain rfl : i = n := by omega
          rw [parM_end (by rw [List.length_map]; have := HN.out; omega)] at hrun
          have HR := Lib.hid (show parCs ms scs k s = (⟨d, ins, acc⟩, 0, 0) by rw [HP.out, ← hrun]; rfl)
          clear hrun
          go_wp2_with fail
          rw [HR.out]
          refine bodyPost_ret (v := .tuple #[.agg #[.int .i64 d, .slice Au ins.length cu, .slice Am acc.length cm], .int .i64 (0 : Nat), .int .i64 0]) (by simp [results, Tryz.results11, go_sem, b6]) rfl ⟨.slice Au ins.length cu, .slice Am acc.length cm, rfl, ?_, ?_, ?_⟩
          · have hGw := gath_low HGI.out (show w.heap.size + 1 + 1 ≤ w3.drew.heap.size by show _ ≤ w3.heap.size; have := hk3.size; omega)
            have G8 := hGw.keptOwn hK1
            refine GathR.recs (B := w.heap.size + 1 + 1) (e := 59) (fun _ => rfl) ?_
            repeat refine GathR.farC ?_ (fun b hb => by have := (G8.owned hb).1; simp only; omega)
            exact G8
          · have hM : MemR wr w7.heap.size (.slice Am vs.length cm) vs acc := ⟨hvl, hGm, hGv⟩
            have := N11.lt
            have := k35.size
            have := hk3.size
            have hM2 := ((hM.far (p := ⟨w.heap.size + 1, 0, none⟩) (.int .i64 d) (by simp only; omega)).far (p := ⟨w.heap.size + 1, 1, none⟩) (.slice Au ins.length cu) (by simp only; omega)).far (p := ⟨w.heap.size + 1, 2, none⟩) (.slice Am vs.length cm) (by simp only; omega)
            have hM3 := hM2.mems ha8
            rwa [hvl] at hM3
          · repeat refine Kept.setCell ?_ (by simp only; omega) _
            exact K8
end Go.Proofs.YtemejaomfbhldaaGreatDoor
/- What line and Format of the reference of package casedata compute. -/
namespace Go.Proofs.YtemejaomfbhldaaGreatDoor
open Go.RowKit

theorem step_bs (A : List UInt8) (X : ByteArray) : bs A ++ ⟨#[32]⟩ ++ X = bs (A ++ (32 :: L X)) := by
  rw [← L_inj, L_append, L_append, L_bs, L_bs, List.append_assoc]; rfl
theorem nl_bs (A : List UInt8) : bs A ++ ⟨#[10]⟩ = bs (A ++ [10]) := by
  rw [← L_inj, L_append, L_bs, L_bs]; rfl
set_option maxRecDepth 100000 in
set_option maxHeartbeats 8000000 in
theorem rline_any (ev : Value) (At As : Option Addr) (nt ct ns cs : Nat) (word : ByteArray) (vv : Value) (ms : List (List ByteArray)) (vs : List Vl) (w : World) (hE : Enums w ev ms) (hV : Vals w vv vs)
    (hr : ∀ v ∈ vs, -9223372036854775808 ≤ v.n ∧ v.n ≤ 9223372036854775807) (hvl : vs.length ≤ 9223372036854775807) (hsz : (lineV ms (L word) vs).length + 1 ≤ 1000000000) :
    Calls Tryz.prog 22 #[.agg #[ev, .slice At nt ct, .slice As ns cs], .string word, vv] w fun e w' => e = .returned (.string (bs (lineV ms (L word) vs ++ [10]))) ∧ Kept w w' := by
  obtain ⟨AE, ce, rfl, _, _⟩ := id hE
  obtain ⟨AV, cv, rfl, hAV⟩ := hV.at_
  rw [lineV_eq] at hsz ⊢
  rw [List.length_append] at hsz
  have hw0 : word = bs (L word ++ wordsV ms (vs.take 0)) := by rw [← L_inj, L_bs]; simp [wordsV]
  have HW0 := Lib.hid hw0
  obtain ⟨n, hn⟩ : ∃ n, n = vs.length := ⟨_, rfl⟩
  rw [← hn] at hAV hvl ⊢
  have HN := Lib.hid hn
  have hK0 := (Kept.refl w).alloc (.cells #[.slice AE ms.length ce, .slice At nt ct, .slice As ns cs] 26)
  have hB0 := Blk.new w 26 #[.slice AE ms.length ce, .slice At nt ct, .slice As ns cs]
  clear hn hV hw0
  go_enter Tryz.func22, Tryz.ntmps22
  go_wp2_with fail
  go_loopw [7, 8] (fun x y wr => ∃ i : Nat, x = .string (bs (L word ++ wordsV ms (vs.take i))) ∧ y = .int .i64 i ∧ i ≤ n ∧ Kept w wr ∧ Blk wr w.heap.size 26 #[.slice AE ms.length ce, .slice At nt ct, .slice As ns cs]) (fun _ y _ => n - (intOf y).toNat)
  case atStart => exact ⟨0, congrArg Value.string HW0.out, rfl, Nat.zero_le _, hK0, hB0⟩
  case round =>
    obtain ⟨i, rfl, rfl, hin, hK, hB⟩ := hrel
    have hwl := wordsV_le ms vs i
    have hSz := bs_size (L word ++ wordsV ms (vs.take i))
    rw [List.length_append] at hSz
    by_cases hlt : i < n
    · obtain ⟨b1, o1, rfl, hb1, hc1⟩ := hAV (by omega)
      have hg : vs[i]? = some (vs[i]'(by have := HN.out; omega)) := List.getElem?_eq_getElem _
      obtain ⟨x0, x1, x2⟩ := hc1 i _ hg
      obtain ⟨r1, r2⟩ := hr _ (List.mem_of_getElem? hg)
      have hts := wordsV_take (ms := ms) hg
      have hwl2 := wordsV_le ms vs (i + 1)
      rw [hts, List.length_append, List.length_cons] at hwl2
      generalize vs[i]'(by have := HN.out; omega) = V at *
      obtain ⟨vk, ve, vn⟩ := V
      dsimp only at x0 x1 x2 r1 r2 hts hwl2
      have hb1r := Nat.lt_of_lt_of_le hb1 hK.size
      have a0 := KW.cell hb1r (hK.cell (p := ⟨b1, _, none⟩) hb1 x0)
      have a1 := KW.cell hb1r (hK.cell (p := ⟨b1, _, none⟩) hb1 x1)
      have a2 := KW.cell hb1r (hK.cell (p := ⟨b1, _, none⟩) hb1 x2)
      have e0 := KW.cell hB.lt (hB.cell 0)
      have HVF := Lib.hid (fun (x : KW wr) => rvformat_any vk ve vn (.slice AE ms.length ce) ms x.W (hE.kept (hK.trans x.h)) r1 r2)
      have hstep : ∀ Y, bs (L word ++ wordsV ms (vs.take i)) ++ ⟨#[32]⟩ ++ Y = bs (L word ++ wordsV ms (vs.take i) ++ (32 :: L Y)) := step_bs _
      generalize vfmtS vk ve vn ms = R at *
      obtain ⟨X, c⟩ := R
      dsimp only at HVF hts hwl2
      have hXs : X.size ≤ (L X).length := Nat.le_of_eq (L_length X).symm
      have hXb : X.size ≤ 1000000000 := by omega
      have HST := Lib.hid ((hstep X).trans (by rw [hts, List.append_assoc] : _ = bs (L word ++ wordsV ms (vs.take (i + 1)))))
      have hSb : (bs (L word ++ wordsV ms (vs.take i))).size ≤ 1000000000 := by omega
      generalize bs (L word ++ wordsV ms (vs.take i)) = S at *
      have hii : (i : Int) < n := by omega
      have HK := Lib.hid hK
      have HB := Lib.hid hB
      clear hc1 x0 x1 x2 hg hts hAV hSz hwl hwl2 hXs hK hB hstep
      go_wp2_with fail
      refine wp_region_kept (by kernel_rfl) (by kernel_rfl) ?_
      repeat (go_big_quiet_step (first | (go_at_call 44; exact KW.call (HVF.out _))))
      refine wpQuiet_nil ?_
      rintro _ ⟨⟨wx, hx2⟩, rfl⟩
      go_wp2_with fail
      go_roundw
      case rel => exact ⟨i + 1, congrArg Value.string HST.out, rfl, hlt, HK.out.trans hx2, HB.out.kept hx2⟩
      case measure => simp [intOf]; omega
    · have hii : ¬ ((i : Int) < n) := by omega
      rw [List.take_of_length_le (by have := HN.out; omega)] at hSz ⊢
      have HNL := Lib.hid (nl_bs (L word ++ wordsV ms vs))
      have hSb : (bs (L word ++ wordsV ms vs)).size ≤ 1000000000 := by omega
      clear hSz
      generalize bs (L word ++ wordsV ms vs) = S at *
      clear hAV
      go_wp2_with fail
      go_ret
      rw [HNL.out, List.append_assoc]
      exact ⟨rfl, hK⟩
theorem date_bs (D : ByteArray) : ⟨#[100, 97, 116, 101, 32]⟩ ++ D ++ ⟨#[10]⟩ = bs ([100, 97, 116, 101, 32] ++ L D ++ [10]) := by
  rw [← L_inj, dl_L, L_bs]
theorem app_bs (a b : List UInt8) : bs a ++ bs b = bs (a ++ b) := by
  rw [← L_inj, L_append, L_bs, L_bs, L_bs]
set_option maxRecDepth 100000 in
set_option maxHeartbeats 8000000 in
theorem rcformat_any (lv iv mv : Value) (ms : List (List ByteArray)) (scs : List Sc) (sc d : Int) (ins : List Vl) (mem : List (List Vl)) (w : World) (hL : LawM w lv ms scs) (hI : Vals w iv ins) (hil : ins.length ≤ 9223372036854775807) (hM : Mems w mv mem)
    (hsz : (valC ms scs sc d ins mem).2.2 = 0 → (textL (caseT ms d ins mem)).length ≤ 1000000000) :
    Calls Tryz.prog 9 #[lv, .int .i64 sc, .agg #[.int .i64 d, iv, mv]] w (cfPost (fmtCs ms scs sc d ins mem) w) := by
  unfold cfPost
  have HVA := Lib.hid (fun w1 (h : Kept w w1) => rvalidate_any lv iv mv ms scs sc d ins mem w1 (hL.kept h) (hI.kept h) hil (hM.kept h))
  unfold valPost at HVA
  obtain ⟨ev, At, nt, ct, sv, rfl, hE, hS⟩ := hL
  have HRG := Lib.hid (valC_rng (scs := scs) (sc := sc) (d := d) (ins := ins) (mem := mem) hE.lens)
  obtain ⟨AE, ce, rfl, _, _⟩ := id hE
  obtain ⟨AS, cs, rfl, _, _⟩ := id hS
  obtain ⟨AI, ci, rfl, _⟩ := id hI
  obtain ⟨AM, cm, rfl, hml, hmx⟩ := hM.at_
  have HFC := Lib.hid (show fmtCs ms scs sc d ins mem = if (valC ms scs sc d ins mem).2.2 = 0 then (bs (textL (caseT ms d ins mem)), 0) else (⟨#[]⟩, (valC ms scs sc d ins mem).2.2) from rfl)
  generalize fmtCs ms scs sc d ins mem = RR at *
  generalize valC ms scs sc d ins mem = V at *
  obtain ⟨v0, v1, vc⟩ := V
  dsimp only at HVA HRG HFC hsz
  have K0 := Lib.hid (((Kept.refl w).alloc (.cells #[.slice AE ms.length ce, .slice At nt ct, .slice AS scs.length cs] 26)).alloc (.cells #[.int .i64 d, .slice AI ins.length ci, .slice AM mem.length cm] 30))
  by_cases hvc : vc = 0
  · subst hvc
    have hsz := hsz rfl
    have HF := Lib.hid (HFC.out.trans (if_pos rfl))
    obtain ⟨hrI, hrM⟩ := HRG.out rfl
    have hE := Lib.hid hE
    have hI := Lib.hid hI
    clear HFC HRG hS hM
    obtain ⟨n, hn⟩ : ∃ n, n = mem.length := ⟨_, rfl⟩
    rw [← hn] at hmx hml HVA K0 ⊢
    have HN := Lib.hid hn
    clear hn
    have hl0 := txtI_le ms d ins mem 0
    rw [txtI_zero] at hl0
    simp only [List.length_append, List.length_cons, List.length_nil] at hl0
    have HTXT := Lib.hid (show ⟨#[100, 97, 116, 101, 32]⟩ ++ dateS d ++ ⟨#[10]⟩ ++ bs (lineV ms [105, 110] ins ++ [10]) = bs (txtI ms d ins mem 0) by rw [date_bs, app_bs, txtI_zero])
    have HRL := Lib.hid (fun w1 (h : Kept w w1) => rline_any (.slice AE ms.length ce) At AS nt ct scs.length cs ⟨#[105, 110]⟩ (.slice AI ins.length ci) ms ins w1 (hE.out.kept h) (hI.out.kept h) hrI hil (by rw [show L ⟨#[105, 110]⟩ = [105, 110] from rfl]; omega))
    rw [show L ⟨#[105, 110]⟩ = [105, 110] from rfl] at HRL
    have hlb : (bs (lineV ms [105, 110] ins ++ [10])).size ≤ 1000000000 := by rw [bs_size, List.length_append, List.length_singleton]; omega
    have hdb : (dateS d).size ≤ 1000000000 := by rw [← L_length]; omega
    have HDF := Lib.hid (fun w1 => rformat_any d w1)
    generalize bs (lineV ms [105, 110] ins ++ [10]) = LN at *
    generalize dateS d = D at *
    have hz1 : (⟨#[100, 97, 116, 101, 32]⟩ ++ D : ByteArray).size = 5 + D.size := by rw [ByteArray.size_append]; rfl
    have hz2 := dl_size D
    have q1 : ¬ (9223372036854775807 < (⟨#[100, 97, 116, 101, 32]⟩ : ByteArray).size + D.size) := by show ¬ (_ < 5 + D.size); omega
    have q2 : ¬ (9223372036854775807 < (⟨#[100, 97, 116, 101, 32]⟩ ++ D : ByteArray).size + (⟨#[10]⟩ : ByteArray).size) := by rw [hz1]; show ¬ (_ < 5 + D.size + 1); omega
    have q3 : ¬ (9223372036854775807 < (⟨#[100, 97, 116, 101, 32]⟩ ++ D ++ ⟨#[10]⟩ : ByteArray).size + LN.size) := by rw [hz2]; omega
    clear hz1 hz2 hl0
    go_enter Tryz.func9, Tryz.ntmps9
    go_wp2_with (go_at_call 20; refine (HVA.out _ K0.out).mono ?_; rintro e w1 ⟨rfl, k1⟩)
    obtain ⟨B1, B2⟩ := k1.blk2
    have K1 := K0.out.trans k1
    have a0 := KW.cell B1.lt (B1.cell 0)
    have a1 := KW.cell B1.lt (B1.cell 1)
    have a2 := KW.cell B1.lt (B1.cell 2)
    have e0 := KW.cell B2.lt (B2.cell 0)
    have e1 := KW.cell B2.lt (B2.cell 1)
    refine wp_region_kept (by kernel_rfl) (by kernel_rfl) ?_
    repeat (go_big_quiet_step (first | (go_at_call 21; exact KW.call (HDF.out _)) | (go_at_call 22; exact KW.call (HRL.out _ (K1.trans (KW.h _))))))
    refine wpQuiet_nil ?_
    rintro w3 ⟨⟨wx, hx2⟩, hh⟩
    obtain rfl : w3 = wx := hh
    have D1 := B1.kept hx2
    have D2 := B2.kept hx2
    have d22 := D2.cell 2
    have d2l := D2.lt
    have K3 := K1.trans hx2
    clear a0 a1 a2 e0 e1 q1 q2 q3 HDF HRL hlb hdb
    go_wp2_with fail
    go_loopw [11, 12] (fun x y wr => ∃ i : Nat, x = .string (bs (txtI ms d ins mem i)) ∧ y = .int .i64 i ∧ i ≤ n ∧ Kept w3 wr) (fun _ y _ => n - (intOf y).toNat)
    case atStart => exact ⟨0, congrArg Value.string HTXT.out, rfl, Nat.zero_le _, Kept.refl _⟩
    case round =>
      obtain ⟨i, rfl, rfl, hin, hK⟩ := hrel
      have E1 := D1.kept hK
      have E2 := D2.kept hK
      have e22 := E2.cell 2
      have e2l := E2.lt
      have hKw := K3.trans hK
      by_cases hlt : i < n
      · obtain ⟨bm, om, rfl, hbm, hcm⟩ := hmx (by omega)
        have hg : mem[i]? = some (mem[i]'(by have := HN.out; omega)) := List.getElem?_eq_getElem _
        obtain ⟨hll, Al, cl, y0, hVl⟩ := hcm i _ hg
        have hrl := hrM _ (List.mem_of_getElem? hg)
        have hts := txtI_succ (ms := ms) (d := d) (ins := ins) hg
        have htl := txtI_le ms d ins mem (i + 1)
        rw [hts, List.length_append, List.length_append, List.length_singleton] at htl
        generalize mem[i]'(by have := HN.out; omega) = l at *
        have hbmr := Nat.lt_of_lt_of_le hbm hKw.size
        have y0' := KW.cell hbmr (hKw.cell (p := ⟨bm, _, none⟩) hbm y0)
        have a0 := KW.cell E1.lt (E1.cell 0)
        have a1 := KW.cell E1.lt (E1.cell 1)
        have a2 := KW.cell E1.lt (E1.cell 2)
        have c2 := KW.cell E2.lt (E2.cell 2)
        have HRL := Lib.hid (fun (x : KW wr) => rline_any (.slice AE ms.length ce) At AS nt ct scs.length cs ⟨#[109, 101, 109, 98, 101, 114]⟩ (.slice Al l.length cl) ms l x.W (hE.out.kept (hKw.trans x.h)) (hVl.kept (hKw.trans x.h)) hrl hll (by rw [show L ⟨#[109, 101, 109, 98, 101, 114]⟩ = [109, 101, 109, 98, 101, 114] from rfl]; omega))
        rw [show L ⟨#[109, 101, 109, 98, 101, 114]⟩ = [109, 101, 109, 98, 101, 114] from rfl] at HRL
        have hS := bs_size (txtI ms d ins mem i)
        have hLN := bs_size (lineV ms [109, 101, 109, 98, 101, 114] l ++ [10])
        rw [List.length_append, List.length_singleton] at hLN
        have HST := Lib.hid (show bs (txtI ms d ins mem i) ++ bs (lineV ms [109, 101, 109, 98, 101, 114] l ++ [10]) = bs (txtI ms d ins mem (i + 1)) by rw [app_bs, hts])
        generalize bs (txtI ms d ins mem i) = S at *
        generalize bs (lineV ms [109, 101, 109, 98, 101, 114] l ++ [10]) = LN2 at *
        have q : ¬ (9223372036854775807 < S.size + LN2.size) := by omega
        have hii : (i : Int) < n := by omega
        have HK := Lib.hid hK
        clear hS hLN htl hts hcm y0 hVl hg hrl hll d22 d2l E1 E2 D1 D2 hK
        go_wp2_with fail
        refine wp_region_kept (by kernel_rfl) (by kernel_rfl) ?_
        repeat (go_big_quiet_step (first | (go_at_call 22; exact KW.call (HRL.out _))))
        refine wpQuiet_nil ?_
        rintro _ ⟨⟨wx, hx3⟩, rfl⟩
        go_wp2_with fail
        go_roundw
        case rel => exact ⟨i + 1, congrArg Value.string HST.out, rfl, hlt, HK.out.trans hx3⟩
        case measure => simp [intOf]; omega
      · have hii : ¬ ((i : Int) < n) := by omega
        have hte : bs (txtI ms d ins mem i) = bs (textL (caseT ms d ins mem)) := by
          unfold txtI
          rw [List.take_of_length_le (by have := HN.out; omega)]
        have HTE := Lib.hid hte
        clear hte
        go_wp2_with fail
        go_ret2
        rw [HF.out, HTE.out]
        exact ⟨rfl, hKw⟩
  · have HF := Lib.hid (HFC.out.trans (if_neg hvc))
    have hne := bne_noC hvc
    clear HFC HRG hS hM hvc hsz hE hI hmx
    go_enter Tryz.func9, Tryz.ntmps9
    go_wp2_with (go_at_call 20; refine (HVA.out _ K0.out).mono ?_; rintro e w1 ⟨rfl, k1⟩)
    go_ret2
    rw [HF.out]
    exact ⟨rfl, K0.out.trans k1⟩
end Go.Proofs.YtemejaomfbhldaaGreatDoor
/- The walks of the laws CasedataFormat and CasedataParse. -/
namespace Go.Proofs.YtemejaomfbhldaaGreatDoor
open Go.RowKit

theorem LawM.form {w : World} {v : Value} {ms : List (List ByteArray)} {scs : List Sc} (h : LawM w v ms scs) : ∃ AE ce At nt ct AS cs, v = .agg #[.slice AE ms.length ce, .slice At nt ct, .slice AS scs.length cs] := by
  obtain ⟨ev, At, nt, ct, sv, rfl, hE, hS⟩ := h
  obtain ⟨AE, ce, rfl, _⟩ := hE
  obtain ⟨AS, cs, rfl, _⟩ := hS
  exact ⟨AE, ce, At, nt, ct, AS, cs, rfl⟩
theorem Mems.form {w : World} {v : Value} {mem : List (List Vl)} (h : Mems w v mem) : ∃ A c, v = .slice A mem.length c := by
  obtain ⟨A, c, hv, _⟩ := h
  exact ⟨A, c, hv⟩
theorem wordsV_len (ms : List (List ByteArray)) : ∀ vs : List Vl, vs.length ≤ (wordsV ms vs).length
  | [] => Nat.le_refl _
  | v :: vs => by
    have := wordsV_len ms vs
    unfold wordsV at this ⊢
    rw [List.flatMap_cons, List.length_append, List.length_cons, List.length_cons]
    omega
theorem ins_le (ms : List (List ByteArray)) (d : Int) (ins : List Vl) (mem : List (List Vl)) : ins.length ≤ (textL (caseT ms d ins mem)).length := by
  have h1 := txtI_le ms d ins mem 0
  rw [txtI_zero, lineV_eq] at h1
  simp only [List.length_append] at h1
  have h2 := wordsV_len ms ins
  omega
theorem parCs_err {ms : List (List ByteArray)} {scs : List Sc} {sc : Int} {s : ByteArray} (h : (parCs ms scs sc s).2.2 ≠ 0) : (parCs ms scs sc s).1 = cs0 := by
  unfold parCs at h ⊢
  split
  · rfl
  · rename_i h1
    rw [if_neg h1] at h
    split
    · rfl
    · rename_i h2
      rw [if_neg h2] at h
      generalize (linR s).1.map L = ls at *
      match ls, h with
      | [], _ => rfl
      | l0 :: r, h =>
        dsimp only at h ⊢
        split
        · rfl
        · rename_i h3
          rw [if_neg h3] at h
          split
          · rfl
          · rename_i h4
            rw [if_neg h4] at h
            match r, h with
            | [], _ => rfl
            | l1 :: r, h =>
              dsimp only at h ⊢
              split
              · rfl
              · rename_i h5
                rw [if_neg h5] at h
                split
                · rfl
                · rename_i h6
                  rw [if_neg h6] at h
                  exact absurd rfl h
theorem parCs_ins {ms : List (List ByteArray)} {scs : List Sc} {sc : Int} {s : ByteArray} (hs : s.size ≤ 2000) : (parCs ms scs sc s).1.ins.length ≤ 2000 := by
  by_cases h : (parCs ms scs sc s).2.2 = 0
  · have h2 := (cs_canon h).2
    have h3 := ins_le ms (parCs ms scs sc s).1.d (parCs ms scs sc s).1.ins (parCs ms scs sc s).1.mem
    rw [← bs_size, h2] at h3
    omega
  · rw [parCs_err h]; exact Nat.zero_le _
theorem dateS_size19 {n : Int} (h : isDate n = true) : (dateS n).size = 10 := by
  have h1 := dparS_dateS h
  cases hB : dparB (dateS n)
  · rw [dparS_no hB] at h1
    exact absurd (show (2 : Int) = 0 from congrArg Prod.snd h1) (by decide)
  · unfold dparB at hB
    simp only [Bool.and_eq_true, decide_eq_true_eq] at hB
    exact hB.1
theorem vtext_size19 {k e n : Int} {ms : List (List ByteArray)} (hm : ∀ l ∈ ms, l.length ≤ 20 ∧ ∀ x ∈ l, x.size ≤ 80) (hv : vtB k e ms = true) (hi : inB n k e ms = true) : (vtext k e n ms).size ≤ 1000000 := by
  have hb := (inB_iff hv).1 hi
  rcases vt_true hv with ⟨hk, rfl⟩ | ⟨rfl, _⟩
  · rcases hk with rfl | rfl | rfl | rfl | rfl
    · show (if n = 0 then (⟨#[102, 97, 108, 115, 101]⟩ : ByteArray) else ⟨#[116, 114, 117, 101]⟩).size ≤ _
      split <;> decide
    · obtain ⟨b0, b1⟩ : -1000000000000 ≤ n ∧ n ≤ 1000000000000 := hb
      have := numS_size n (by omega) (by omega)
      show (numS n).size ≤ _
      omega
    · obtain ⟨b0, b1⟩ : -1000000000000000 ≤ n ∧ n ≤ 1000000000000000 := hb
      exact fixS_small n 2 (by omega) (by omega) (by decide)
    · obtain ⟨b0, b1⟩ : -1000000000 ≤ n ∧ n ≤ 1000000000 := hb
      have hl := absD_len n (by omega) (by omega)
      show (fixS n 4 ++ ⟨#[37]⟩).size ≤ _
      rw [ByteArray.size_append]
      unfold fixS
      rw [if_neg (by decide), bs_size, fixT, List.length_append, List.length_append, List.length_append, List.length_take, List.length_drop, padD, List.length_append, List.length_replicate, sgn]
      show _ + 1 ≤ _
      split <;> simp <;> omega
    · obtain ⟨b0, b1⟩ : 0 ≤ n ∧ n ≤ 109572 := hb
      show (dateS n).size ≤ _
      rw [dateS_size19 (isDate_iff.2 ⟨b0, b1⟩)]; decide
  · show ((memS e ms)[n.toNat]?.getD ⟨#[]⟩).size ≤ _
    unfold memS
    cases hg : ms[e.toNat]? with
    | none => show (⟨#[]⟩ : ByteArray).size ≤ _; decide
    | some l =>
      rw [Option.getD_some]
      cases hx : l[n.toNat]? with
      | none => show (⟨#[]⟩ : ByteArray).size ≤ _; decide
      | some x =>
        have := (hm l (List.mem_of_getElem? hg)).2 x (List.mem_of_getElem? hx)
        rw [Option.getD_some]; omega
theorem vfmt_size19 {ms : List (List ByteArray)} (hm : ∀ l ∈ ms, l.length ≤ 20 ∧ ∀ x ∈ l, x.size ≤ 80) (k e n : Int) : (L (vfmtS k e n ms).1).length ≤ 1000000 := by
  rw [L_length, vfmtS]
  cases hv : vtB k e ms
  · exact Nat.zero_le _
  · cases hi : inB n k e ms
    · exact Nat.zero_le _
    · exact vtext_size19 hm hv hi
theorem wordsV_size19 {ms : List (List ByteArray)} (hm : ∀ l ∈ ms, l.length ≤ 20 ∧ ∀ x ∈ l, x.size ≤ 80) : ∀ vs : List Vl, (wordsV ms vs).length ≤ vs.length * 1000001
  | [] => Nat.le_refl _
  | v :: vs => by
    have h1 := wordsV_size19 hm vs
    have h2 := vfmt_size19 hm v.k v.e v.n
    unfold wordsV at h1 ⊢
    rw [List.flatMap_cons, List.length_append, List.length_cons, List.length_cons]
    omega
theorem lines_size19 {ms : List (List ByteArray)} (hm : ∀ l ∈ ms, l.length ≤ 20 ∧ ∀ x ∈ l, x.size ≤ 80) : ∀ mem : List (List Vl), (∀ l ∈ mem, l.length ≤ 14) → (textL (mem.map (lineV ms [109, 101, 109, 98, 101, 114]))).length ≤ mem.length * 15000000
  | [], _ => Nat.le_refl _
  | l :: mem, h => by
    have h1 := lines_size19 hm mem (fun x hx => h x (List.mem_cons_of_mem _ hx))
    have h2 := wordsV_size19 hm l
    have h3 := h l (by simp)
    unfold textL at h1 ⊢
    rw [List.map_cons, List.flatMap_cons, List.length_append, List.length_append, lineV_eq, List.length_append, List.length_singleton, List.length_cons]
    simp only [List.length_cons, List.length_nil]
    omega
theorem case_size19 {ms : List (List ByteArray)} (hm : ∀ l ∈ ms, l.length ≤ 20 ∧ ∀ x ∈ l, x.size ≤ 80) {d : Int} {ins : List Vl} {mem : List (List Vl)} (h1 : ins.length ≤ 14) (h2 : mem.length ≤ 10) (h3 : ∀ l ∈ mem, l.length ≤ 14) : (textL (caseT ms d ins mem)).length ≤ 1000000000 := by
  have q1 := wordsV_size19 hm ins
  have q2 := lines_size19 hm mem h3
  have q3 : (L (dateS d)).length ≤ 10 := by
    rw [L_length]
    cases hd : isDate d
    · rw [dateS_no hd]; exact Nat.zero_le _
    · rw [dateS_size19 hd]; exact Nat.le_refl _
  have e : textL (caseT ms d ins mem) = ([100, 97, 116, 101, 32] ++ L (dateS d) ++ [10]) ++ ((lineV ms [105, 110] ins ++ [10]) ++ textL (mem.map (lineV ms [109, 101, 109, 98, 101, 114]))) := by
    unfold caseT textL
    rw [List.flatMap_cons, List.flatMap_cons]
  rw [e, lineV_eq]
  simp only [List.length_append, List.length_cons, List.length_nil]
  omega
set_option maxRecDepth 100000 in
set_option maxHeartbeats 8000000 in
theorem lawCdFormat (lv iv mv : Value) (ms : List (List ByteArray)) (scs : List Sc) (sc d : Int) (ins : List Vl) (mem : List (List Vl)) (w : World) (hL : LawM w lv ms scs) (hR : LawR w lv) (hI : Vals w iv ins) (hil : ins.length ≤ 9223372036854775807) (hM : Mems w mv mem)
    (hMo : Mon w) (hP : Pow w) (hX : MaxV w) : Calls Tryz.prog 3 #[lv, .int .i64 sc, .agg #[.int .i64 d, iv, mv]] w (LawPost w) := by
  unfold LawPost
  have HS := Lib.hid (fun w1 (h : Kept w w1) => smallLaw_any lv ms scs w1 (hL.kept h) (hR.kept h))
  have HC := Lib.hid (fun w1 (h : Kept w w1) => smallCase_any d iv mv ins mem w1 (hI.kept h) (hM.kept h))
  have HF := Lib.hid (fun w1 (h : Kept w w1) hq => cformat_any lv iv mv ms scs sc d ins mem w1 (hL.kept h) (hI.kept h) hil (hM.kept h) (fun _ => hq) (hMo.kept h) (hP.kept h))
  have HRF := Lib.hid (fun w1 (h : Kept w w1) hq => rcformat_any lv iv mv ms scs sc d ins mem w1 (hL.kept h) (hI.kept h) hil (hM.kept h) (fun _ => hq))
  have HA := Lib.hid (fun w1 (h : Kept w w1) => awake19_any w1 (hMo.kept h) (hP.kept h) (hX.kept h))
  unfold SmallB at HS HC
  unfold cfPost at HF HRF
  obtain ⟨AE, ce, At, nt, ct, AS, cs, rfl⟩ := hL.form
  obtain ⟨AI, ci, rfl⟩ := hI.form
  obtain ⟨AM, cm, rfl⟩ := hM.form
  generalize fmtCs ms scs sc d ins mem = R at *
  obtain ⟨t, c⟩ := R
  dsimp only at HF HRF
  have K0 := Lib.hid (((Kept.refl w).alloc (.cells #[.slice AE ms.length ce, .slice At nt ct, .slice AS scs.length cs] 26)).alloc (.cells #[.int .i64 d, .slice AI ins.length ci, .slice AM mem.length cm] 30))
  clear hL hR hI hil hM hMo hP hX
  go_enter Tryz.func3, Tryz.ntmps3
  go_wp2_with fail
  refine (HS.out _ K0.out).mono ?_
  rintro r w1 ⟨b, rfl, k1, hq1⟩
  have K1 := K0.out.trans k1
  obtain ⟨B1, B2⟩ := k1.blk2
  cases b
  · go_wp2_with (go_at_call 7; refine (HA.out _ K1).mono ?_; rintro r w' ⟨rfl, hk⟩)
    go_ret
    exact ⟨rfl, K1.trans hk⟩
  · have b20 := B2.cell 0
    have b21 := B2.cell 1
    have b22 := B2.cell 2
    have b2l := B2.lt
    have HQ1 := Lib.hid (hq1 rfl)
    clear hq1
    go_wp2_with fail
    refine (HC.out _ K1).mono ?_
    rintro r w2 ⟨b, rfl, k2, hq2⟩
    have K2 := K1.trans k2
    have C1 := B1.kept k2
    have C2 := B2.kept k2
    clear b20 b21 b22 b2l B1 B2 k1
    cases b
    · clear hq2
      go_wp2_with (go_at_call 7; refine (HA.out _ K2).mono ?_; rintro r w' ⟨rfl, hk⟩)
      go_ret
      exact ⟨rfl, K2.trans hk⟩
    · obtain ⟨s1, s2, s3⟩ := hq2 rfl
      have HQ := Lib.hid (case_size19 (d := d) HQ1.out s1 s2 s3)
      have b10 := C1.cell 0
      have b11 := C1.cell 1
      have b12 := C1.cell 2
      have b1l := C1.lt
      have b20 := C2.cell 0
      have b21 := C2.cell 1
      have b22 := C2.cell 2
      have b2l := C2.lt
      have hs0 : (t.toList == t.toList) = true := by simp
      have hsc : (c == c) = true := by simp
      clear hq2 s1 s2 s3 HQ1
      go_wp2_with (first
        | (go_at_call 8; refine (HF.out _ K2 HQ.out).mono ?_; rintro r w3 ⟨rfl, k3⟩; have K3 := K2.trans k3; have D1 := C1.kept k3; have D2 := C2.kept k3; have d10 := D1.cell 0; have d11 := D1.cell 1; have d12 := D1.cell 2; have d1l := D1.lt; have d20 := D2.cell 0; have d21 := D2.cell 1; have d22 := D2.cell 2; have d2l := D2.lt)
        | (go_at_call 9; refine (HRF.out _ K3 HQ.out).mono ?_; rintro r w4 ⟨rfl, k4⟩; have K4 := K3.trans k4)
        | (go_at_call 7; refine (HA.out _ K4).mono ?_; rintro r w' ⟨rfl, hk⟩))
      go_ret
      exact ⟨rfl, K4.trans hk⟩
set_option maxRecDepth 100000 in
set_option maxHeartbeats 8000000 in
theorem lawCdParse (lv : Value) (ms : List (List ByteArray)) (scs : List Sc) (sc : Int) (s : ByteArray) (w : World) (hL : LawM w lv ms scs) (hR : LawR w lv)
    (hMo : Mon w) (hP : Pow w) (hX : MaxV w) : Calls Tryz.prog 4 #[lv, .int .i64 sc, .string s] w (LawPost w) := by
  unfold LawPost
  have HS := Lib.hid (fun w1 (h : Kept w w1) => smallLaw_any lv ms scs w1 (hL.kept h) (hR.kept h))
  have HA := Lib.hid (fun w1 (h : Kept w w1) => awake19_any w1 (hMo.kept h) (hP.kept h) (hX.kept h))
  unfold SmallB at HS
  obtain ⟨AE, ce, At, nt, ct, AS, cs, rfl⟩ := hL.form
  have K0 := Lib.hid ((Kept.refl w).alloc (.cells #[.slice AE ms.length ce, .slice At nt ct, .slice AS scs.length cs] 26))
  by_cases hs : 2000 < s.size
  · have hsi : 2000 < (s.size : Int) := by omega
    clear hL hR hMo hP hX
    go_enter Tryz.func4, Tryz.ntmps4
    go_wp2_with fail
    refine (HS.out _ K0.out).mono ?_
    rintro r w1 ⟨b, rfl, k1, _⟩
    have K1 := K0.out.trans k1
    cases b
    all_goals
      go_wp2_with (go_at_call 7; refine (HA.out _ K1).mono ?_; rintro r w' ⟨rfl, hk⟩)
      go_ret
      exact ⟨rfl, K1.trans hk⟩
  have hsi : ¬ 2000 < (s.size : Int) := by omega
  have HPA := Lib.hid (fun w1 (h : Kept w w1) => cparse_any _ ms scs sc s w1 (hL.kept h) (by omega) (hX.kept h) (hMo.kept h))
  have HRP := Lib.hid (fun w1 (h : Kept w w1) => rcparse_any _ ms scs sc s w1 (hL.kept h) (by omega))
  have HIN := Lib.hid (parCs_ins (ms := ms) (scs := scs) (sc := sc) (s := s) (by omega))
  unfold csPost at HPA HRP
  generalize parCs ms scs sc s = R at *
  obtain ⟨⟨d, ins, mem⟩, i, ec⟩ := R
  dsimp only at HPA HRP HIN
  clear hL hR hMo hP hX hs
  go_enter Tryz.func4, Tryz.ntmps4
  go_wp2_with fail
  refine (HS.out _ K0.out).mono ?_
  rintro r w1 ⟨b, rfl, k1, _⟩
  have K1 := K0.out.trans k1
  have B1 := k1.blk1
  cases b
  · go_wp2_with (go_at_call 7; refine (HA.out _ K1).mono ?_; rintro r w' ⟨rfl, hk⟩)
    go_ret
    exact ⟨rfl, K1.trans hk⟩
  · have b10 := B1.cell 0
    have b11 := B1.cell 1
    have b12 := B1.cell 2
    have b1l := B1.lt
    go_wp2_with fail
    refine (HPA.out _ K1).mono ?_
    rintro r w2 ⟨iv, mv, rfl, hI, hM, k2⟩
    obtain ⟨AI, ci, rfl⟩ := Vals.form hI
    obtain ⟨AM, cm, rfl⟩ := hM.form
    have K2 := K1.trans k2
    have C1 := B1.kept k2
    clear b10 b11 b12 b1l B1 k1 k2
    have b10 := C1.cell 0
    have b11 := C1.cell 1
    have b12 := C1.cell 2
    have b1l := C1.lt
    have k3 := (Kept.refl w2).alloc (.cells #[.int .i64 d, .slice AI ins.length ci, .slice AM mem.length cm] 30)
    have C2 := Blk.new w2 30 #[.int .i64 d, .slice AI ins.length ci, .slice AM mem.length cm]
    go_wp2_with fail
    refine (HRP.out _ (K2.trans k3)).mono ?_
    rintro r w3 ⟨iv', mv', rfl, hI', hM', k4⟩
    obtain ⟨AI', ci', rfl⟩ := Vals.form hI'
    obtain ⟨AM', cm', rfl⟩ := hM'.form
    have k23 := k3.trans k4
    have D2 := C2.kept k4
    have d20 := D2.cell 0
    have d21 := D2.cell 1
    have d22 := D2.cell 2
    have d2l := D2.lt
    have K3 := Lib.hid (K2.trans k23)
    have k5 := (Kept.refl w3).alloc (.cells #[.int .i64 d, .slice AI' ins.length ci', .slice AM' mem.length cm'] 30)
    have HIM := Lib.hid (⟨hI.kept k23, hM.kept k23, hI', hM'⟩ : Vals w3 (.slice AI ins.length ci) ins ∧ Mems w3 (.slice AM mem.length cm) mem ∧ Vals w3 (.slice AI' ins.length ci') ins ∧ Mems w3 (.slice AM' mem.length cm') mem)
    have hs0 : (((i : Nat) : Int) == i) = true := by simp
    have hsc : (ec == ec) = true := by simp
    have HSC := Lib.hid (fun w4 (h : Kept w3 w4) => sameCase_any d d _ _ _ _ ins ins mem mem w4 (HIM.out.1.kept h) (HIM.out.2.1.kept h) (HIM.out.2.2.1.kept h) (HIM.out.2.2.2.kept h) (by have := HIN.out; omega) (by have := HIN.out; omega))
    unfold smPost at HSC
    rw [csB_self] at HSC
    clear hI hM hI' hM' HPA HRP HS b10 b11 b12 b1l C1 C2 k3 k4 D2 K2
    go_wp2_with (first
      | (go_at_call 12; refine (HSC.out _ k5).mono ?_; rintro r w4 ⟨rfl, k6⟩; have K4 := K3.out.trans (k5.trans k6))
      | (go_at_call 7; refine (HA.out _ K4).mono ?_; rintro r w' ⟨rfl, hk⟩))
    go_ret
    exact ⟨rfl, K4.trans hk⟩
end Go.Proofs.YtemejaomfbhldaaGreatDoor
/- What the rows of the chapter on cases say of the listed tables. -/
namespace Go.Proofs.YtemejaomfbhldaaGreatDoor
open Go.ChangeShapes Go.WideShapes Go.ChangeAt Go.RowKit Go.Joins

theorem env19 {W : World} (h : laidMetH Tryz.prog Rows.casedataFormatRow.laid W) : Mon W ∧ Pow W := by
  have h0 : laidMet Tryz.prog Rows.casedataFormatRow.laid W := h
  have h3 := h0.tail.tail
  have h5 := h3.tail.tail
  have t3 : Lib.TabIs Tryz.prog W "internal/strconv.uint64pow10" .u64 Lib.pow10Tab :=
    Lib.tabIs_of_head (g := 4) (t := 160) (e := 132) (n := 20) (by kernel_rfl) (by kernel_rfl) (by kernel_rfl) (by kernel_rfl) (by kernel_rfl) (by kernel_rfl) h3
  have t5 : Lib.TabIs Tryz.prog W "guerdon/date.monthLengths" .i64 mlens :=
    Lib.tabIs_of_head (g := 0) (t := 125) (e := 3) (n := 12) (by kernel_rfl) (by kernel_rfl) (by kernel_rfl) (by kernel_rfl) (by kernel_rfl) (by kernel_rfl) h5
  refine ⟨fun i hi => ?_, t3⟩
  exact t5.cell (g := 0) (by kernel_rfl) i hi
theorem envMax19 {W : World} (h : W.ShapedOpen Tryz.prog) : MaxV W :=
  cell_of_shapedOpen_int (g := 1) (t := 3) (zero := #[.int .i64 0]) h (of_decide_eq_true (by kernel_rfl)) (by kernel_rfl) rfl (by kernel_rfl) (by kernel_rfl) (by kernel_rfl)
end Go.Proofs.YtemejaomfbhldaaGreatDoor
