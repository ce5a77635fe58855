/- The fixed examples of the chapter on cases, in plain Lean. -/
import Derived.Test.YtemejaomfbhldaaDoorCdM1
import Derived.Test.YtemejaomfbhldaaDoorBlks
import Derived.Test.YtemejaomfbhldaaDoorOpenVal
import Derived.Test.YtemejaomfbhldaaDoorValC
import Derived.Test.YtemejaomfbhldaaDoorFrame
import Derived.Test.YtemejaomfbhldaaDoorFrameL
import Derived.Stop.LaidErr
import Derived.Shelf.Vars
namespace Go.Proofs.YtemejaomfbhldaaDoor
open Go.RowKit

def exI : List Ty := [⟨3, 0⟩, ⟨1, 0⟩]
def exS : List Sc := [⟨-1, exI⟩]
def exV : List Vl := [⟨3, 0, 1250⟩, ⟨1, 0, 1⟩]
def exT : ByteArray := ⟨#[100, 97, 116, 101, 32, 50, 48, 48, 48, 45, 48, 49, 45, 48, 49, 10, 105, 110, 32, 49, 50, 46, 53, 48, 32, 116, 114, 117, 101, 10]⟩
def exU : ByteArray := ⟨#[100, 97, 116, 101, 32, 50, 48, 48, 48, 45, 48, 49, 45, 48, 49, 10, 105, 110, 32, 49, 50, 46, 53, 32, 116, 114, 117, 101, 10]⟩
def exL0 : List UInt8 := [100, 97, 116, 101, 32, 50, 48, 48, 48, 45, 48, 49, 45, 48, 49]
def exL1 : List UInt8 := [105, 110, 32, 49, 50, 46, 53, 48, 32, 116, 114, 117, 101]
def exL2 : List UInt8 := [105, 110, 32, 49, 50, 46, 53, 32, 116, 114, 117, 101]
theorem ex19_lt : linR exT = ([bs exL0, bs exL1], 0) := by rfl
theorem ex19_lu : linR exU = ([bs exL0, bs exL2], 0) := by rfl
theorem ex19_d : dparS ⟨#[50, 48, 48, 48, 45, 48, 49, 45, 48, 49]⟩ = (36524, 0) := by
  have e : dparB ⟨#[50, 48, 48, 48, 45, 48, 49, 45, 48, 49]⟩ = true := by
    unfold dparB
    rw [L_extract, L_extract, L_extract]
    decide
  rw [dparS_yes e, L_extract, L_extract, L_extract]
  decide
theorem ex19_v1 : vparS (bs [49, 50, 46, 53, 48]) 3 0 [] = (3, 0, 1250, 0) := by
  have h1 : vnumS (bs [49, 50, 46, 53, 48]) 3 0 [] = (1250, 0) := show refP (L (bs [49, 50, 46, 53, 48])) 2 = _ by decide
  rw [vparS, h1]; rfl
theorem ex19_v2 : vparS (bs [49, 50, 46, 53]) 3 0 [] = (0, 0, 0, 2) := by
  have h1 : vnumS (bs [49, 50, 46, 53]) 3 0 [] = (0, 2) := show refP (L (bs [49, 50, 46, 53])) 2 = _ by decide
  rw [vparS, h1]; rfl
theorem ex19_v3 : vparS (bs [116, 114, 117, 101]) 1 0 [] = (1, 0, 1, 0) := by
  have h1 : vnumS (bs [116, 114, 117, 101]) 1 0 [] = (1, 0) := by
    rw [vnumS, if_pos rfl, if_neg (fun h => absurd (congrArg L h) (by decide)), if_pos (show bs [116, 114, 117, 101] = ⟨#[116, 114, 117, 101]⟩ from rfl)]
  rw [vparS, h1]; rfl
theorem ex19_i : parI [] [105, 110] exI exL1 = (exV, 0) := by
  have hs : spl [] exL1 = [[105, 110], [49, 50, 46, 53, 48], [116, 114, 117, 101]] := by decide
  rw [parI, hs, if_neg (by decide), if_neg (by decide), if_neg (by decide)]
  show parV [] [⟨3, 0⟩, ⟨1, 0⟩] [[49, 50, 46, 53, 48], [116, 114, 117, 101]] [] = _
  rw [parV]
  dsimp only
  rw [ex19_v1, if_pos rfl, parV]
  dsimp only
  rw [ex19_v3, if_pos rfl]
  simp [parV, exV]
theorem ex19_j : parI [] [105, 110] exI exL2 = ([], 2) := by
  have hs : spl [] exL2 = [[105, 110], [49, 50, 46, 53], [116, 114, 117, 101]] := by decide
  rw [parI, hs, if_neg (by decide), if_neg (by decide), if_neg (by decide)]
  show parV [] [⟨3, 0⟩, ⟨1, 0⟩] [[49, 50, 46, 53], [116, 114, 117, 101]] [] = _
  rw [parV]
  dsimp only
  rw [ex19_v2, if_neg (by decide)]
theorem ex19_p : parCs [] exS 0 exT = (⟨36524, exV, []⟩, 0, 0) := by
  rw [parCs, if_neg (by decide), ex19_lt, if_neg (by decide)]
  show (if exL0.take 5 ≠ datW then _ else _) = _
  rw [if_neg (by decide)]
  show (if (dparS ⟨#[50, 48, 48, 48, 45, 48, 49, 45, 48, 49]⟩).2 ≠ 0 then _ else _) = _
  rw [ex19_d, if_neg (by decide)]
  show (if (parI [] [105, 110] exI exL1).2 ≠ 0 then _ else _) = _
  rw [ex19_i, if_neg (by decide)]
  show (if (0 : Int) ≠ 0 then _ else ((⟨(dparS ⟨#[50, 48, 48, 48, 45, 48, 49, 45, 48, 49]⟩).1, (parI [] [105, 110] exI exL1).1, []⟩, 0, 0) : Cs × Nat × Int)) = _
  rw [ex19_d, ex19_i, if_neg (by decide)]
theorem ex19_u : parCs [] exS 0 exU = (cs0, 1, 2) := by
  rw [parCs, if_neg (by decide), ex19_lu, if_neg (by decide)]
  show (if exL0.take 5 ≠ datW then _ else _) = _
  rw [if_neg (by decide)]
  show (if (dparS ⟨#[50, 48, 48, 48, 45, 48, 49, 45, 48, 49]⟩).2 ≠ 0 then _ else _) = _
  rw [ex19_d, if_neg (by decide)]
  show (if (parI [] [105, 110] exI exL2).2 ≠ 0 then (cs0, 1, (parI [] [105, 110] exI exL2).2) else _) = _
  rw [ex19_j, if_pos (by decide)]
theorem ex19_c : valC [] exS 0 36524 exV [] = (0, 0, 0) := by
  have := (cs_canon (ms := []) (scs := exS) (sc := 0) (s := exT) (by rw [ex19_p])).1
  rwa [ex19_p] at this
theorem ex19_t : bs (textL (caseT [] 36524 exV [])) = exT := by
  have := (cs_canon (ms := []) (scs := exS) (sc := 0) (s := exT) (by rw [ex19_p])).2
  rwa [ex19_p] at this
theorem ex19_f : fmtCs [] exS 0 36524 exV [] = (exT, 0) := by
  rw [fmtCs, ex19_c, if_pos rfl, ex19_t]
theorem ex19_m : valC [] exS 0 36524 exV [[]] = (0, -1, 4) := by
  have h := ex19_c
  unfold valC at h ⊢
  rw [if_neg (by decide), if_neg (by decide)] at h ⊢
  have hx : exS[(0 : Int).toNat]?.getD ⟨0, []⟩ = ⟨-1, exI⟩ := rfl
  rw [hx] at h ⊢
  dsimp only at h ⊢
  by_cases hc : (chkV [] exI exV).2 = 0
  · rw [if_pos hc]; rfl
  · rw [if_neg hc] at h
    exact absurd (congrArg (fun p : Int × Int × Int => p.1) h) (by decide)
end Go.Proofs.YtemejaomfbhldaaDoor
/- What guerdonsame.Values, ValueLists and Case compute. -/
namespace Go.Proofs.YtemejaomfbhldaaDoor
open Go.RowKit

def vlB (x y : Vl) : Bool := decide (x.k = y.k) && (decide (x.e = y.e) && decide (x.n = y.n))
def vlsB : List Vl → List Vl → Bool
  | [], [] => true
  | x :: xs, y :: ys => vlB x y && vlsB xs ys
  | _, _ => false
def memB : List (List Vl) → List (List Vl) → Bool
  | [], [] => true
  | x :: xs, y :: ys => vlsB x y && memB xs ys
  | _, _ => false
def csB (d : Int) (a : List Vl) (m : List (List Vl)) (d' : Int) (a' : List Vl) (m' : List (List Vl)) : Bool := decide (d = d') && (vlsB a a' && memB m m')
theorem vlB_iff {x y : Vl} : vlB x y = true ↔ x = y := by
  obtain ⟨a, b, c⟩ := x
  obtain ⟨a', b', c'⟩ := y
  simp [vlB]
theorem vlsB_self : ∀ xs, vlsB xs xs = true
  | [] => rfl
  | x :: xs => by rw [vlsB, vlB_iff.2 rfl, vlsB_self xs]; rfl
theorem memB_self : ∀ xs, memB xs xs = true
  | [] => rfl
  | x :: xs => by rw [memB, vlsB_self, memB_self xs]; rfl
theorem vlB_comm (x y : Vl) : vlB x y = vlB y x := by
  unfold vlB
  rw [decide_eq_decide.2 (eq_comm (a := x.k)), decide_eq_decide.2 (eq_comm (a := x.e)), decide_eq_decide.2 (eq_comm (a := x.n))]
theorem vlsB_comm : ∀ xs ys, vlsB xs ys = vlsB ys xs
  | [], [] => rfl
  | [], _ :: _ => rfl
  | _ :: _, [] => rfl
  | x :: xs, y :: ys => by rw [vlsB, vlsB, vlB_comm, vlsB_comm xs ys]
theorem memB_comm : ∀ xs ys, memB xs ys = memB ys xs
  | [], [] => rfl
  | [], _ :: _ => rfl
  | _ :: _, [] => rfl
  | x :: xs, y :: ys => by rw [memB, memB, vlsB_comm, memB_comm xs ys]
theorem csB_comm (d : Int) (a : List Vl) (m : List (List Vl)) (d' : Int) (a' : List Vl) (m' : List (List Vl)) : csB d a m d' a' m' = csB d' a' m' d a m := by
  unfold csB
  rw [decide_eq_decide.2 (eq_comm (a := d)), vlsB_comm, memB_comm]
theorem csB_self (d : Int) (a : List Vl) (m : List (List Vl)) : csB d a m d a m = true := by
  unfold csB
  rw [decide_eq_true rfl, vlsB_self, memB_self]; rfl
theorem vlsB_len : ∀ xs ys, xs.length ≠ ys.length → vlsB xs ys = false
  | [], [], h => absurd rfl h
  | [], _ :: _, _ => rfl
  | _ :: _, [], _ => rfl
  | x :: xs, y :: ys, h => by rw [vlsB, vlsB_len xs ys (by simpa using h), Bool.and_false]
theorem memB_len : ∀ xs ys, xs.length ≠ ys.length → memB xs ys = false
  | [], [], h => absurd rfl h
  | [], _ :: _, _ => rfl
  | _ :: _, [], _ => rfl
  | x :: xs, y :: ys, h => by rw [memB, memB_len xs ys (by simpa using h), Bool.and_false]
theorem vlsB_at {xs ys : List Vl} {i : Nat} {x y : Vl} (h1 : xs[i]? = some x) (h2 : ys[i]? = some y) : vlsB (xs.drop i) (ys.drop i) = (vlB x y && vlsB (xs.drop (i + 1)) (ys.drop (i + 1))) := by
  obtain ⟨hi, rfl⟩ := List.getElem?_eq_some_iff.1 h1
  obtain ⟨hj, rfl⟩ := List.getElem?_eq_some_iff.1 h2
  rw [List.drop_eq_getElem_cons hi, List.drop_eq_getElem_cons hj, vlsB]
theorem memB_at {xs ys : List (List Vl)} {i : Nat} {x y : List Vl} (h1 : xs[i]? = some x) (h2 : ys[i]? = some y) : memB (xs.drop i) (ys.drop i) = (vlsB x y && memB (xs.drop (i + 1)) (ys.drop (i + 1))) := by
  obtain ⟨hi, rfl⟩ := List.getElem?_eq_some_iff.1 h1
  obtain ⟨hj, rfl⟩ := List.getElem?_eq_some_iff.1 h2
  rw [List.drop_eq_getElem_cons hi, List.drop_eq_getElem_cons hj, memB]
theorem bne_noS {a b : Int} (h : a ≠ b) : (a != b) = true := by simpa using h
theorem beq_noS {a b : Int} (h : a ≠ b) : (a == b) = false := by simpa using h
def smPost (r : Bool) (w : World) (e : Ending) (w' : World) : Prop := e = .returned (.bool r) ∧ Kept w w'
theorem vlB_ways (x y : Vl) : (vlB x y = true ∧ x = y) ∨ (vlB x y = false ∧ ((x.k ≠ y.k) ∨ (x.k = y.k ∧ x.e ≠ y.e) ∨ (x.k = y.k ∧ x.e = y.e ∧ x.n ≠ y.n))) := by
  cases h : vlB x y
  · right
    refine ⟨rfl, ?_⟩
    by_cases h1 : x.k = y.k
    · by_cases h2 : x.e = y.e
      · by_cases h3 : x.n = y.n
        · rw [vlB, decide_eq_true h1, decide_eq_true h2, decide_eq_true h3] at h; cases h
        · exact .inr (.inr ⟨h1, h2, h3⟩)
      · exact .inr (.inl ⟨h1, h2⟩)
    · exact .inl h1
  · exact .inl ⟨rfl, vlB_iff.1 h⟩
set_option maxRecDepth 100000 in
set_option maxHeartbeats 4000000 in
theorem sameVals_any (va vb : Value) (xs ys : List Vl) (w : World) (ha : Vals w va xs) (hb : Vals w vb ys) (hx : xs.length ≤ 9223372036854775807) (_hy : ys.length ≤ 9223372036854775807) :
    Calls Tryd.prog 25 #[va, vb] w (smPost (vlsB xs ys) w) := by
  unfold smPost
  obtain ⟨A, ca, rfl, hA⟩ := ha.at_
  obtain ⟨B, cb, rfl, hB⟩ := hb.at_
  by_cases hl : xs.length = ys.length
  · obtain ⟨n, hxn⟩ : ∃ n, n = xs.length := ⟨_, rfl⟩
    have hyn : n = ys.length := hxn.trans hl
    rw [← hxn] at hA hx ⊢
    rw [← hyn] at hB ⊢
    have HX := Lib.hid hxn
    have HY := Lib.hid hyn
    clear hxn hyn ha hb hl
    go_enter Tryd.func25, Tryd.ntmps25
    go_wp2_with fail
    go_loopw [5] (fun z wr => ∃ i : Nat, i ≤ n ∧ z = .int .i64 i ∧ Kept w wr ∧ vlsB (xs.drop i) (ys.drop i) = vlsB xs ys) (fun z _ => (n - intOf z).toNat)
    case atStart => exact ⟨0, Nat.zero_le _, rfl, Kept.refl _, rfl⟩
    case round =>
      obtain ⟨i, hin, rfl, hK, hrun⟩ := hrel
      by_cases hp : i < n
      · obtain ⟨b1, o1, rfl, hb1, hc1⟩ := hA (by omega)
        obtain ⟨b2, o2, rfl, hb2, hc2⟩ := hB (by omega)
        have hg1 : xs[i]? = some (xs[i]'(by have := HX.out; omega)) := List.getElem?_eq_getElem _
        have hg2 : ys[i]? = some (ys[i]'(by have := HY.out; omega)) := List.getElem?_eq_getElem _
        obtain ⟨x0, x1, x2⟩ := hc1 i _ hg1
        obtain ⟨y0, y1, y2⟩ := hc2 i _ hg2
        rw [vlsB_at hg1 hg2] at hrun
        clear hc1 hc2 hA hB hg1 hg2
        generalize xs[i]'(by have := HX.out; omega) = X at *
        generalize ys[i]'(by have := HY.out; omega) = Y at *
        have hw1 := Nat.lt_of_lt_of_le hb1 hK.size
        have hw2 := Nat.lt_of_lt_of_le hb2 hK.size
        have k0 := KW.cell hw1 (hK.cell (p := ⟨b1, _, none⟩) hb1 x0)
        have k1 := KW.cell hw1 (hK.cell (p := ⟨b1, _, none⟩) hb1 x1)
        have k2 := KW.cell hw1 (hK.cell (p := ⟨b1, _, none⟩) hb1 x2)
        have m0 := KW.cell hw2 (hK.cell (p := ⟨b2, _, none⟩) hb2 y0)
        have m1 := KW.cell hw2 (hK.cell (p := ⟨b2, _, none⟩) hb2 y1)
        have m2 := KW.cell hw2 (hK.cell (p := ⟨b2, _, none⟩) hb2 y2)
        clear x0 x1 x2 y0 y1 y2
        have hpi : (i : Int) < n := by omega
        obtain ⟨xk, xe, xn⟩ := X
        obtain ⟨yk, ye, yn⟩ := Y
        dsimp only at k0 k1 k2 m0 m1 m2
        rcases vlB_ways ⟨xk, xe, xn⟩ ⟨yk, ye, yn⟩ with ⟨hv, he⟩ | ⟨hv, he⟩
        · rw [hv, Bool.true_and] at hrun
          obtain ⟨rfl, rfl, rfl⟩ : xk = yk ∧ xe = ye ∧ xn = yn := by simpa using he
          have HR := Lib.hid hrun
          clear hrun he hv
          go_wp2_with fail
          refine wp_region_kept (by kernel_rfl) (by kernel_rfl) ?_
          repeat (go_big_quiet_step (fail))
          refine wpQuiet_nil ?_
          rintro _ ⟨⟨wx, hx2⟩, rfl⟩
          go_wp2_with fail
          go_roundw
          case rel => exact ⟨i + 1, hp, by go_num, hK.trans hx2, HR.out⟩
          case measure => simp only [intOf]; omega
        · rw [hv, Bool.false_and] at hrun
          have HR := Lib.hid hrun
          dsimp only at he
          clear hrun hv
          rcases he with h | ⟨h1, h⟩ | ⟨h1, h2, h⟩
          all_goals
            have hne := beq_noS h
            have hne2 := bne_noS h
            (try subst h1)
            (try subst h2)
            clear h
            go_wp2_with fail
            refine wp_region_kept (by kernel_rfl) (by kernel_rfl) ?_
            repeat (go_big_quiet_step (fail))
            refine wpQuiet_nil ?_
            rintro _ ⟨⟨wx, hx2⟩, rfl⟩
            go_wp2_with fail
            go_ret
            rw [← HR.out]
            exact ⟨rfl, hK.trans hx2⟩
      · have hpi : ¬ ((i : Int) < n) := by omega
        have hr : vlsB xs ys = true := by
          rw [← hrun, List.drop_eq_nil_iff.2 (by have := HX.out; omega), List.drop_eq_nil_iff.2 (by have := HY.out; omega)]; rfl
        have HR := Lib.hid hr
        clear hrun hr
        go_wp2_with fail
        go_ret
        rw [HR.out]
        exact ⟨rfl, hK⟩
  · have HR := Lib.hid (vlsB_len xs ys hl)
    have hli : ((xs.length : Int) != ys.length) = true := bne_noS (by omega)
    rw [HR.out]
    clear hl ha hb hA hB
    go_enter Tryd.func25, Tryd.ntmps25
    go_wp2_with fail
    go_ret
    exact ⟨rfl, Kept.refl _⟩
set_option maxRecDepth 100000 in
set_option maxHeartbeats 4000000 in
theorem sameLists_any (va vb : Value) (xs ys : List (List Vl)) (w : World) (ha : Mems w va xs) (hb : Mems w vb ys) :
    Calls Tryd.prog 26 #[va, vb] w (smPost (memB xs ys) w) := by
  unfold smPost
  obtain ⟨A, ca, rfl, hx, hA⟩ := ha.at_
  obtain ⟨B, cb, rfl, hy, hB⟩ := hb.at_
  by_cases hl : xs.length = ys.length
  · obtain ⟨n, hxn⟩ : ∃ n, n = xs.length := ⟨_, rfl⟩
    have hyn : n = ys.length := hxn.trans hl
    rw [← hxn] at hA hx ⊢
    rw [← hyn] at hB ⊢
    have HX := Lib.hid hxn
    have HY := Lib.hid hyn
    clear hxn hyn ha hb hl
    go_enter Tryd.func26, Tryd.ntmps26
    go_wp2_with fail
    go_loopw [5] (fun z wr => ∃ i : Nat, i ≤ n ∧ z = .int .i64 i ∧ Kept w wr ∧ memB (xs.drop i) (ys.drop i) = memB xs ys) (fun z _ => (n - intOf z).toNat)
    case atStart => exact ⟨0, Nat.zero_le _, rfl, Kept.refl _, rfl⟩
    case round =>
      obtain ⟨i, hin, rfl, hK, hrun⟩ := hrel
      by_cases hp : i < n
      · obtain ⟨b1, o1, rfl, hb1, hc1⟩ := hA (by omega)
        obtain ⟨b2, o2, rfl, hb2, hc2⟩ := hB (by omega)
        have hg1 : xs[i]? = some (xs[i]'(by have := HX.out; omega)) := List.getElem?_eq_getElem _
        have hg2 : ys[i]? = some (ys[i]'(by have := HY.out; omega)) := List.getElem?_eq_getElem _
        obtain ⟨hl1, A1, e1, x0, hv1⟩ := hc1 i _ hg1
        obtain ⟨hl2, A2, e2, y0, hv2⟩ := hc2 i _ hg2
        rw [memB_at hg1 hg2] at hrun
        clear hc1 hc2 hA hB hg1 hg2
        generalize xs[i]'(by have := HX.out; omega) = X at *
        generalize ys[i]'(by have := HY.out; omega) = Y at *
        have hw1 := Nat.lt_of_lt_of_le hb1 hK.size
        have hw2 := Nat.lt_of_lt_of_le hb2 hK.size
        have k0 := KW.cell hw1 (hK.cell (p := ⟨b1, _, none⟩) hb1 x0)
        have m0 := KW.cell hw2 (hK.cell (p := ⟨b2, _, none⟩) hb2 y0)
        have HV := Lib.hid (fun (x : KW wr) => sameVals_any _ _ X Y x.W (hv1.kept (hK.trans x.h)) (hv2.kept (hK.trans x.h)) hl1 hl2)
        unfold smPost at HV
        clear x0 y0 hv1 hv2 hl1 hl2
        have hpi : (i : Int) < n := by omega
        generalize vlsB X Y = r at *
        cases r
        · rw [Bool.false_and] at hrun
          have HR := Lib.hid hrun
          clear hrun
          go_wp2_with fail
          refine wp_region_kept (by kernel_rfl) (by kernel_rfl) ?_
          repeat (go_big_quiet_step (first | (go_at_call 25; exact KW.call (HV.out _))))
          refine wpQuiet_nil ?_
          rintro _ ⟨⟨wx, hx2⟩, rfl⟩
          go_wp2_with fail
          go_ret
          rw [← HR.out]
          exact ⟨rfl, hK.trans hx2⟩
        · rw [Bool.true_and] at hrun
          have HR := Lib.hid hrun
          clear hrun
          go_wp2_with fail
          refine wp_region_kept (by kernel_rfl) (by kernel_rfl) ?_
          repeat (go_big_quiet_step (first | (go_at_call 25; exact KW.call (HV.out _))))
          refine wpQuiet_nil ?_
          rintro _ ⟨⟨wx, hx2⟩, rfl⟩
          go_wp2_with fail
          go_roundw
          case rel => exact ⟨i + 1, hp, by go_num, hK.trans hx2, HR.out⟩
          case measure => simp only [intOf]; omega
      · have hpi : ¬ ((i : Int) < n) := by omega
        have hr : memB xs ys = true := by
          rw [← hrun, List.drop_eq_nil_iff.2 (by have := HX.out; omega), List.drop_eq_nil_iff.2 (by have := HY.out; omega)]; rfl
        have HR := Lib.hid hr
        clear hrun hr
        go_wp2_with fail
        go_ret
        rw [HR.out]
        exact ⟨rfl, hK⟩
  · have HR := Lib.hid (memB_len xs ys hl)
    have hli : ((xs.length : Int) != ys.length) = true := bne_noS (by omega)
    rw [HR.out]
    clear hl ha hb hA hB
    go_enter Tryd.func26, Tryd.ntmps26
    go_wp2_with fail
    go_ret
    exact ⟨rfl, Kept.refl _⟩
theorem Vals.form {w : World} {v : Value} {xs : List Vl} (h : Vals w v xs) : ∃ A cap, v = .slice A xs.length cap := by
  obtain ⟨A, cap, hv, _⟩ := h
  exact ⟨A, cap, hv⟩
set_option maxRecDepth 100000 in
set_option maxHeartbeats 4000000 in
theorem sameCase_any (d d' : Int) (iv mv iv' mv' : Value) (ins ins' : List Vl) (mem mem' : List (List Vl)) (w : World) (hI : Vals w iv ins) (hM : Mems w mv mem) (hI' : Vals w iv' ins') (hM' : Mems w mv' mem')
    (hl : ins.length ≤ 9223372036854775807) (hl' : ins'.length ≤ 9223372036854775807) :
    Calls Tryd.prog 12 #[.agg #[.int .i64 d, iv, mv], .agg #[.int .i64 d', iv', mv']] w (smPost (csB d ins mem d' ins' mem') w) := by
  unfold smPost
  obtain ⟨A1, c1, rfl⟩ := hI.form
  obtain ⟨A1', c1', rfl⟩ := hI'.form
  obtain ⟨A2, c2, rfl, _⟩ := id hM
  obtain ⟨A2', c2', rfl, _⟩ := id hM'
  have HV := Lib.hid (fun w1 (h : Kept w w1) => sameVals_any _ _ ins ins' w1 (hI.kept h) (hI'.kept h) hl hl')
  have HL := Lib.hid (fun w1 (h : Kept w w1) => sameLists_any _ _ mem mem' w1 (hM.kept h) (hM'.kept h))
  unfold smPost at HV HL
  have K0 := Lib.hid (((Kept.refl w).alloc (.cells #[.int .i64 d, .slice A1 ins.length c1, .slice A2 mem.length c2] 30)).alloc (.cells #[.int .i64 d', .slice A1' ins'.length c1', .slice A2' mem'.length c2'] 30))
  have hcs : csB d ins mem d' ins' mem' = (decide (d = d') && (vlsB ins ins' && memB mem mem')) := rfl
  generalize csB d ins mem d' ins' mem' = R at *
  generalize vlsB ins ins' = r1 at *
  generalize memB mem mem' = r2 at *
  clear hI hI' hM hM' hl hl'
  by_cases hd : d = d'
  · subst hd
    rw [decide_eq_true rfl, Bool.true_and] at hcs
    have hself : (d == d) = true := by simp
    cases r1
    · have HR := Lib.hid hcs
      clear hcs
      go_enter Tryd.func12, Tryd.ntmps12
      go_wp2_with (go_at_call 25; refine (HV.out _ K0.out).mono ?_; rintro e w1 ⟨rfl, k1⟩)
      go_ret
      rw [HR.out]
      exact ⟨rfl, K0.out.trans k1⟩
    · rw [Bool.true_and] at hcs
      have HR := Lib.hid hcs
      clear hcs
      go_enter Tryd.func12, Tryd.ntmps12
      go_wp2_with (first
        | (go_at_call 25; refine (HV.out _ K0.out).mono ?_; rintro e w1 ⟨rfl, k1⟩; have K1 := K0.out.trans k1; obtain ⟨B1, B2⟩ := k1.blk2; have b1 := B1.cell 2; have b2 := B2.cell 2; have l1 := B1.lt; have l2 := B2.lt)
        | (go_at_call 26; refine (HL.out _ K1).mono ?_; rintro e w2 ⟨rfl, k2⟩))
      go_ret
      rw [HR.out]
      exact ⟨rfl, K1.trans k2⟩
  · rw [decide_eq_false hd, Bool.false_and] at hcs
    have hne := beq_noS hd
    have HR := Lib.hid hcs
    clear hcs hd
    go_enter Tryd.func12, Tryd.ntmps12
    go_wp2_with fail
    go_ret
    rw [HR.out]
    exact ⟨rfl, K0.out⟩
end Go.Proofs.YtemejaomfbhldaaDoor
/- The chapter's examples on cases hold. -/
namespace Go.Proofs.YtemejaomfbhldaaDoor
open Go.RowKit

def exPost (w : World) (e : Ending) (w' : World) : Prop := ∃ A, e = .returned (.agg #[.slice none 0 0, .slice none 0 0, .slice A 1 1]) ∧ LawM w' (.agg #[.slice none 0 0, .slice none 0 0, .slice A 1 1]) [] exS ∧ Kept w w'
theorem ex_law {W : World} {g2 g3 t2 t3 : Nat} {s a b : ByteArray} (B2 : Blk W g2 t2 #[.string a, .int .i64 3, .int .i64 0, .string b, .int .i64 1, .int .i64 0])
    (B3 : Blk W g3 t3 #[.string s, .int .i64 (-1), .slice (some ⟨g2, 0, none⟩) 2 2, .slice none 0 0, .slice none 0 0]) :
    LawM W (.agg #[.slice none 0 0, .slice none 0 0, .slice (some ⟨g3, 0, none⟩) 1 1]) [] exS := by
  refine ⟨_, none, 0, 0, _, rfl, Enums.nil _, ⟨some ⟨g3, 0, none⟩, 1, rfl, by decide, fun _ => ⟨g3, 0, rfl, B3.lt, fun j sc hj => ?_⟩⟩⟩
  match j, hj with
  | 0, hj =>
    obtain rfl := Option.some.inj hj
    refine ⟨by decide, B3.cell 1, _, B3.cell 2, ⟨_, 2, rfl, fun _ => ⟨g2, 0, rfl, B2.lt, fun j t hj => ?_⟩⟩⟩
    match j, hj with
    | 0, hj => obtain rfl := Option.some.inj hj; exact ⟨B2.cell 1, B2.cell 2⟩
    | 1, hj => obtain rfl := Option.some.inj hj; exact ⟨B2.cell 4, B2.cell 5⟩
set_option maxRecDepth 100000 in
set_option maxHeartbeats 4000000 in
theorem example19_any (w : World) : Calls Tryd.prog 16 #[] w (exPost w) := by
  unfold exPost
  go_enter Tryd.func16, Tryd.ntmps16
  go_wp2_with fail
  have B1 := ((Blk.new w 26 #[.slice none 0 0, .slice none 0 0, .slice (some ⟨w.heap.size + 1 + 1, 0, none⟩) 1 1]).alloc (.cells #[.string ⟨#[97]⟩, .int .i64 3, .int .i64 0, .string ⟨#[98]⟩, .int .i64 1, .int .i64 0] 89)).alloc (.cells #[.string ⟨#[115]⟩, .int .i64 (-1), .slice (some ⟨w.heap.size + 1, 0, none⟩) 2 2, .slice none 0 0, .slice none 0 0] 55)
  have B2 := (Blk.new (w.alloc (.cells #[.slice none 0 0, .slice none 0 0, .slice (some ⟨w.heap.size + 1 + 1, 0, none⟩) 1 1] 26)) 89 #[.string ⟨#[97]⟩, .int .i64 3, .int .i64 0, .string ⟨#[98]⟩, .int .i64 1, .int .i64 0]).alloc (.cells #[.string ⟨#[115]⟩, .int .i64 (-1), .slice (some ⟨w.heap.size + 1, 0, none⟩) 2 2, .slice none 0 0, .slice none 0 0] 55)
  have B3 := Blk.new ((w.alloc (.cells #[.slice none 0 0, .slice none 0 0, .slice (some ⟨w.heap.size + 1 + 1, 0, none⟩) 1 1] 26)).alloc (.cells #[.string ⟨#[97]⟩, .int .i64 3, .int .i64 0, .string ⟨#[98]⟩, .int .i64 1, .int .i64 0] 89)) 55 #[.string ⟨#[115]⟩, .int .i64 (-1), .slice (some ⟨w.heap.size + 1, 0, none⟩) 2 2, .slice none 0 0, .slice none 0 0]
  have hK := (((Kept.refl w).alloc (.cells #[.slice none 0 0, .slice none 0 0, .slice (some ⟨w.heap.size + 1 + 1, 0, none⟩) 1 1] 26)).alloc (.cells #[.string ⟨#[97]⟩, .int .i64 3, .int .i64 0, .string ⟨#[98]⟩, .int .i64 1, .int .i64 0] 89)).alloc (.cells #[.string ⟨#[115]⟩, .int .i64 (-1), .slice (some ⟨w.heap.size + 1, 0, none⟩) 2 2, .slice none 0 0, .slice none 0 0] 55)
  rw [World.size_alloc] at B2 B3
  rw [World.size_alloc] at B3
  generalize ((w.alloc (.cells #[.slice none 0 0, .slice none 0 0, .slice (some ⟨w.heap.size + 1 + 1, 0, none⟩) 1 1] 26)).alloc (.cells #[.string ⟨#[97]⟩, .int .i64 3, .int .i64 0, .string ⟨#[98]⟩, .int .i64 1, .int .i64 0] 89)).alloc (.cells #[.string ⟨#[115]⟩, .int .i64 (-1), .slice (some ⟨w.heap.size + 1, 0, none⟩) 2 2, .slice none 0 0, .slice none 0 0] 55) = W at *
  have b10 := B1.cell 0
  have b11 := B1.cell 1
  have b12 := B1.cell 2
  refine bodyPost_ret (v := .agg #[.slice none 0 0, .slice none 0 0, .slice (some ⟨w.heap.size + 1 + 1, 0, none⟩) 1 1]) (by simp [results, Tryd.results16, go_sem, b10, b11, b12]) rfl ⟨_, rfl, ex_law B2 B3, hK⟩
theorem p19_any (lv : Value) (w : World) (hL : LawM w lv [] exS) (hX : MaxV w) (hMo : Mon w) :
    Calls Tryd.prog 11 #[lv, .int .i64 0, .string ⟨#[100, 97, 116, 101, 32, 50, 48, 48, 48, 45, 48, 49, 45, 48, 49, 10, 105, 110, 32, 49, 50, 46, 53, 48, 32, 116, 114, 117, 101, 10]⟩] w fun e w' =>
      ∃ iv mv, e = .returned (.tuple #[.agg #[.int .i64 36524, iv, mv], .int .i64 0, .int .i64 0]) ∧ Vals w' iv exV ∧ Mems w' mv [] ∧ Kept w w' := by
  have := cparse_any lv [] exS 0 exT w hL (by decide) hX hMo
  rw [ex19_p] at this
  exact this
theorem u19_any (lv : Value) (w : World) (hL : LawM w lv [] exS) (hX : MaxV w) (hMo : Mon w) :
    Calls Tryd.prog 11 #[lv, .int .i64 0, .string ⟨#[100, 97, 116, 101, 32, 50, 48, 48, 48, 45, 48, 49, 45, 48, 49, 10, 105, 110, 32, 49, 50, 46, 53, 32, 116, 114, 117, 101, 10]⟩] w fun e w' =>
      ∃ iv mv, e = .returned (.tuple #[.agg #[.int .i64 0, iv, mv], .int .i64 1, .int .i64 2]) ∧ Vals w' iv [] ∧ Mems w' mv [] ∧ Kept w w' := by
  have := cparse_any lv [] exS 0 exU w hL (by decide) hX hMo
  rw [ex19_u] at this
  exact this
theorem f19_any (lv iv mv : Value) (w : World) (hL : LawM w lv [] exS) (hI : Vals w iv exV) (hM : Mems w mv []) (hMo : Mon w) (hP : Pow w) :
    Calls Tryd.prog 13 #[lv, .int .i64 0, .agg #[.int .i64 36524, iv, mv]] w fun e w' =>
      e = .returned (.tuple #[.string ⟨#[100, 97, 116, 101, 32, 50, 48, 48, 48, 45, 48, 49, 45, 48, 49, 10, 105, 110, 32, 49, 50, 46, 53, 48, 32, 116, 114, 117, 101, 10]⟩, .int .i64 0]) ∧ Kept w w' := by
  have hb : (textL (caseT [] 36524 exV [])).length ≤ 1000000000 := by rw [← bs_size, ex19_t]; decide
  have := cformat_any lv iv mv [] exS 0 36524 exV [] w hL hI (by decide) hM (fun _ => hb) hMo hP
  rw [ex19_f] at this
  exact this
theorem v19_any (lv iv mv : Value) (w : World) (hL : LawM w lv [] exS) (hI : Vals w iv exV) (hM : Mems w mv [[]]) :
    Calls Tryd.prog 9 #[lv, .int .i64 0, .agg #[.int .i64 36524, iv, mv]] w fun e w' =>
      e = .returned (.tuple #[.int .i64 0, .int .i64 (-1), .int .i64 4]) ∧ Kept w w' := by
  have := validate_any lv iv mv [] exS 0 36524 exV [[]] w hL hI (by decide) hM
  rw [ex19_m] at this
  exact this
set_option maxRecDepth 100000 in
set_option maxHeartbeats 8000000 in
theorem awake19_any (w : World) (hMo : Mon w) (hP : Pow w) (hX : MaxV w) :
    Calls Tryd.prog 8 #[] w fun e w' => e = .returned (.bool true) ∧ Kept w w' := by
  go_enter Tryd.func8, Tryd.ntmps8
  go_wp2_with fail
  refine (example19_any w).mono ?_
  rintro e w1 ⟨AS, rfl, hL1, k1⟩
  go_wp2_with fail
  have K1 := k1.alloc (.cells #[.slice none 0 0, .slice none 0 0, .slice AS 1 1] 26)
  have L1 := hL1.kept ((Kept.refl w1).alloc (.cells #[.slice none 0 0, .slice none 0 0, .slice AS 1 1] 26))
  refine (p19_any _ _ L1 (hX.kept K1) (hMo.kept K1)).mono ?_
  rintro r w2 ⟨iv, mv, rfl, hI2, hM2, k2⟩
  obtain ⟨AI, ci, hiv⟩ : ∃ A c, iv = .slice A 2 c := hI2.form
  obtain ⟨AM, cm, hmv, _⟩ : ∃ A c, mv = .slice A 0 c ∧ _ := hM2
  subst hiv hmv
  have B1 := k2.blk1
  have K2 := K1.trans k2
  have L2 := L1.kept k2
  have k12 : Kept w1 w2 := ((Kept.refl w1).alloc _).trans k2
  have HL1 := Lib.hid hL1
  have HI2 := Lib.hid hI2
  have b10 := B1.cell 0
  have b11 := B1.cell 1
  have b12 := B1.cell 2
  have b1l := B1.lt
  clear k2 K1 L1 hL1 k1
  go_wp2_with fail
  have K3 := K2.alloc (.cells #[.int .i64 36524, .slice AI 2 ci, .slice AM 0 cm] 30)
  have L3 := L2.kept ((Kept.refl w2).alloc (.cells #[.int .i64 36524, .slice AI 2 ci, .slice AM 0 cm] 30))
  have I3 := hI2.kept ((Kept.refl w2).alloc (.cells #[.int .i64 36524, .slice AI 2 ci, .slice AM 0 cm] 30))
  refine (f19_any _ _ _ _ L3 I3 ⟨AM, cm, rfl, by decide, fun h => absurd h (by decide)⟩ (hMo.kept K3) (hP.kept K3)).mono ?_
  rintro r w3 ⟨rfl, k3⟩
  have C1 := (B1.alloc (.cells #[.int .i64 36524, .slice AI 2 ci, .slice AM 0 cm] 30)).kept k3
  have C2 := k3.blk1
  have K4 := K3.trans k3
  have k23 : Kept w2 w3 := ((Kept.refl w2).alloc _).trans k3
  have K2h := Lib.hid K2
  have L4 := L3.kept k3
  have I4 := I3.kept k3
  have hg2 : w1.heap.size < w2.heap.size := B1.lt
  clear b10 b11 b12 b1l B1 k3 K3 L3 I3 K2 L2 hI2
  have b10 := C1.cell 0
  have b11 := C1.cell 1
  have b12 := C1.cell 2
  have b1l := C1.lt
  go_wp2_with fail
  refine (u19_any _ _ L4 (hX.kept K4) (hMo.kept K4)).mono ?_
  rintro r w4 ⟨iv2, mv2, rfl, hi2, hm2, k4⟩
  obtain ⟨AI2, ci2, hiv⟩ : ∃ A c, iv2 = .slice A 0 c := hi2.form
  obtain ⟨AM2, cm2, hmv, _⟩ : ∃ A c, mv2 = .slice A 0 c ∧ _ := hm2
  subst hiv hmv
  have k24 := k23.trans k4
  have D1 := C1.kept k4
  have D2 := C2.kept k4
  have K5 := K4.trans k4
  have L5 := L4.kept k4
  have I5 := I4.kept k4
  clear b10 b11 b12 b1l C1 C2 k4 K4 L4 I4 hi2
  have b10 := D1.cell 0
  have b11 := D1.cell 1
  have b12 := D1.cell 2
  have b1l := D1.lt
  have b20 := D2.cell 0
  have b21 := D2.cell 1
  have b22 := D2.cell 2
  have b2l := D2.lt
  have b2f := D2.frozen
  clear L5 I5 K5
  go_wp2_with fail
  have E2 : Blk (w4.setCell ⟨w2.heap.size, 2, none⟩ (.slice (some ⟨w4.heap.size + 1, 0, none⟩) 1 1)) w2.heap.size 30 #[.int .i64 36524, .slice AI 2 ci, .slice (some ⟨w4.heap.size + 1, 0, none⟩) 1 1] := D2.set_ 2 (.slice (some ⟨w4.heap.size + 1, 0, none⟩) 1 1)
  have hsz : (w4.setCell ⟨w2.heap.size, 2, none⟩ (.slice (some ⟨w4.heap.size + 1, 0, none⟩) 1 1)).heap.size = w4.heap.size := by simp
  have k25 := k24.setCell (p := ⟨w2.heap.size, 2, none⟩) (Nat.le_refl _) (.slice (some ⟨w4.heap.size + 1, 0, none⟩) 1 1)
  clear b10 b11 b12 b1l b20 b21 b22 b2l b2f D1 D2 k24
  generalize w4.setCell ⟨w2.heap.size, 2, none⟩ (.slice (some ⟨w4.heap.size + 1, 0, none⟩) 1 1) = V at *
  have N := Blk.new (V.alloc (.cells #[.int .i64 0, .slice AI2 0 ci2, .slice AM2 0 cm2] 30)) 27 #[.slice none 0 0]
  rw [World.size_alloc, hsz] at N
  have E3 := (E2.alloc (.cells #[.int .i64 0, .slice AI2 0 ci2, .slice AM2 0 cm2] 30)).alloc (.cells #[.slice none 0 0] 27)
  have k26 := (k25.alloc (.cells #[.int .i64 0, .slice AI2 0 ci2, .slice AM2 0 cm2] 30)).alloc (.cells #[.slice none 0 0] 27)
  have M5 : Mems ((V.alloc (.cells #[.int .i64 0, .slice AI2 0 ci2, .slice AM2 0 cm2] 30)).alloc (.cells #[.slice none 0 0] 27)) (.slice (some ⟨w4.heap.size + 1, 0, none⟩) 1 1) [[]] := by
    refine ⟨_, 1, rfl, by decide, fun _ => ⟨w4.heap.size + 1, 0, rfl, N.lt, fun j l hj => ?_⟩⟩
    match j, hj with
    | 0, hj =>
      obtain rfl := Option.some.inj hj
      exact ⟨by decide, _, N.cell 0, Recs.nil _ _ _⟩
  refine (v19_any _ _ _ _ (HL1.out.kept (k12.trans k26)) (HI2.out.kept k26) M5).mono ?_
  rintro r w5 ⟨rfl, k5⟩
  have E5 := E3.kept k5
  have k27 := k26.trans k5
  have I5 := HI2.out.kept k27
  obtain ⟨A, c, hv, hx⟩ := Vals.at_ I5
  simp only [Value.slice.injEq] at hv
  obtain ⟨rfl, h2, rfl⟩ := hv
  clear h2
  obtain ⟨b, off, rfl, hb, hc⟩ := hx (by decide)
  have x2 := (hc 0 _ rfl).2.2
  rw [Nat.zero_mul, Nat.add_zero] at x2
  dsimp only at x2
  have b20 := E5.cell 0
  have b21 := E5.cell 1
  have b2l := E5.lt
  have KK := K2h.out.trans k27
  clear hx hc k25 k26 E2 E3 N M5 E5 hsz I5 k27 k12 k23
  go_wp2_with fail
  go_ret
  exact ⟨rfl, KK⟩
end Go.Proofs.YtemejaomfbhldaaDoor
/- Laws and cases that came in, opened: what package casedata, its reference and the size tests read of them. -/
namespace Go.Proofs.YtemejaomfbhldaaDoor
open Go.ChangeShapes Go.WideShapes Go.ChangeAt Go.RowKit Go.Joins Go.Deep

theorem choose_list {α : Type} {p : Nat → α → Prop} : ∀ (n : Nat), (∀ i, i < n → ∃ x, p i x) → ∃ xs : List α, xs.length = n ∧ ∀ (i : Nat) x, xs[i]? = some x → p i x
  | 0, _ => ⟨[], rfl, fun i x h => by simp at h⟩
  | n + 1, h => by
    obtain ⟨xs, hl, hx⟩ := choose_list n (fun i hi => h i (by omega))
    obtain ⟨y, hy⟩ := h n (by omega)
    refine ⟨xs ++ [y], by simp [hl], fun i x hi => ?_⟩
    by_cases hlt : i < xs.length
    · rw [List.getElem?_append_left hlt] at hi
      exact hx i x hi
    · have hin : i = n := by
        have := (List.getElem?_eq_some_iff.1 hi).1
        rw [List.length_append, List.length_singleton] at this
        omega
      subst hin
      rw [List.getElem?_append_right (by omega), hl, Nat.sub_self] at hi
      obtain rfl : y = x := Option.some.inj hi
      exact hy
/-- a slice whose every element, of k cells, is as p says -/
def SlW (w : World) (k : Nat) (p : World → Nat → Nat → Prop) (v : Value) : Prop :=
  ∃ A n cap, v = .slice A n cap ∧ n ≤ 9223372036854775807 ∧ (0 < n → ∃ b off, A = some ⟨b, off, none⟩ ∧ b < w.heap.size ∧ ∀ j, j < n → p w b (off + j * k))
def KeptP (p : World → Nat → Nat → Prop) : Prop := ∀ w w' b o, Kept w w' → b < w.heap.size → p w b o → p w' b o
theorem SlW.kept {w w' : World} {k : Nat} {p : World → Nat → Nat → Prop} {v : Value} (hp : KeptP p) (h : SlW w k p v) (hk : Kept w w') : SlW w' k p v := by
  obtain ⟨A, n, cap, hv, hn, hx⟩ := h
  refine ⟨A, n, cap, hv, hn, fun h0 => ?_⟩
  obtain ⟨b, off, hA, hb, hc⟩ := hx h0
  exact ⟨b, off, hA, Nat.lt_of_lt_of_le hb hk.size, fun j hj => hp _ _ _ _ hk hb (hc j hj)⟩
/-- a string, an int, a slice in a cell -/
def StrAt (w : World) (b o : Nat) : Prop := ∃ s, w.cell? ⟨b, o, none⟩ = some (.string s)
def IntAt (w : World) (b o : Nat) : Prop := ∃ n, w.cell? ⟨b, o, none⟩ = some (.int .i64 n)
def SlAt (w : World) (b o : Nat) : Prop := ∃ A n c, w.cell? ⟨b, o, none⟩ = some (.slice A n c) ∧ n ≤ 9223372036854775807
theorem StrAt.kept : KeptP StrAt := fun _ _ b o hk hb ⟨s, h⟩ => ⟨s, hk.cell (p := ⟨b, o, none⟩) hb h⟩
theorem IntAt.kept : KeptP IntAt := fun _ _ b o hk hb ⟨s, h⟩ => ⟨s, hk.cell (p := ⟨b, o, none⟩) hb h⟩
theorem SlAt.kept : KeptP SlAt := fun _ _ b o hk hb ⟨A, n, c, h, hn⟩ => ⟨A, n, c, hk.cell (p := ⟨b, o, none⟩) hb h, hn⟩
/-- a rule; a scope; a table -/
def RuP (w : World) (b o : Nat) : Prop := StrAt w b o ∧ IntAt w b (o + 1) ∧ IntAt w b (o + 2) ∧ IntAt w b (o + 3) ∧ IntAt w b (o + 4) ∧ IntAt w b (o + 5) ∧ SlAt w b (o + 6) ∧ SlAt w b (o + 7) ∧ StrAt w b (o + 8)
theorem RuP.kept : KeptP RuP := fun _ _ _ _ hk hb ⟨h0, h1, h2, h3, h4, h5, h6, h7, h8⟩ =>
  ⟨StrAt.kept _ _ _ _ hk hb h0, IntAt.kept _ _ _ _ hk hb h1, IntAt.kept _ _ _ _ hk hb h2, IntAt.kept _ _ _ _ hk hb h3, IntAt.kept _ _ _ _ hk hb h4, IntAt.kept _ _ _ _ hk hb h5, SlAt.kept _ _ _ _ hk hb h6, SlAt.kept _ _ _ _ hk hb h7, StrAt.kept _ _ _ _ hk hb h8⟩
def ScP (w : World) (b o : Nat) : Prop := StrAt w b o ∧ IntAt w b (o + 1) ∧ (∃ v, w.cell? ⟨b, o + 2, none⟩ = some v ∧ SlW w 3 StrAt v) ∧ (∃ v, w.cell? ⟨b, o + 3, none⟩ = some v ∧ SlW w 3 StrAt v) ∧ ∃ v, w.cell? ⟨b, o + 4, none⟩ = some v ∧ SlW w 9 RuP v
theorem ScP.kept : KeptP ScP := fun _ _ b o hk hb ⟨h0, h1, ⟨v2, h2, g2⟩, ⟨v3, h3, g3⟩, ⟨v4, h4, g4⟩⟩ =>
  ⟨StrAt.kept _ _ _ _ hk hb h0, IntAt.kept _ _ _ _ hk hb h1, ⟨v2, hk.cell (p := ⟨b, o + 2, none⟩) hb h2, g2.kept StrAt.kept hk⟩, ⟨v3, hk.cell (p := ⟨b, o + 3, none⟩) hb h3, g3.kept StrAt.kept hk⟩, ⟨v4, hk.cell (p := ⟨b, o + 4, none⟩) hb h4, g4.kept RuP.kept hk⟩⟩
def TbP (w : World) (b o : Nat) : Prop := StrAt w b o ∧ SlAt w b (o + 5)
theorem TbP.kept : KeptP TbP := fun _ _ _ _ hk hb ⟨h0, h1⟩ => ⟨StrAt.kept _ _ _ _ hk hb h0, SlAt.kept _ _ _ _ hk hb h1⟩
/-- a law, as far as the size tests read it -/
def LawR (w : World) (v : Value) : Prop := ∃ ev tv sv, v = .agg #[ev, tv, sv] ∧ SlW w 2 StrAt ev ∧ SlW w 6 TbP tv ∧ SlW w 5 ScP sv
theorem LawR.kept {w w' : World} {v : Value} (h : LawR w v) (hk : Kept w w') : LawR w' v := by
  obtain ⟨ev, tv, sv, hv, h0, h1, h2⟩ := h
  exact ⟨ev, tv, sv, hv, h0.kept StrAt.kept hk, h1.kept TbP.kept hk, h2.kept ScP.kept hk⟩

section
variable {H : Type} {enc : TypeId × Value → H} {w : World}
theorem addr_none (b o q : Nat) : (⟨b, o, none⟩ : Addr).add q = ⟨b, o + q, none⟩ := by
  unfold Addr.add
  by_cases e : q = 0
  · subst e; rfl
  · simp [e]
/-- a slice, element by element -/
theorem Reads.slice {t e : TypeId} {k : Nat} {v : Value} (ht : Tryd.prog.underlying t = some (.slice e)) (hC : Tryd.prog.cellsOf e = k) (hk : 0 < k) (hlen : ∀ cs, Reads enc w e cs → cs.length = k) (h : Reads enc w t [v]) :
    ∃ A n cap, v = .slice A n cap ∧ n ≤ 9223372036854775807 ∧ (n = 0 → A = none ∨ True) ∧ (0 < n → ∃ b off, A = some ⟨b, off, none⟩ ∧ b < w.heap.size ∧
      ∀ i, i < n → ∃ cs, cs.length = k ∧ (∀ j, j < k → w.cell? ⟨b, off + i * k + j, none⟩ = cs[j]?) ∧ Reads enc w e cs) := by
  obtain ⟨fuel, x, h⟩ := h
  rcases open_slice ht h with ⟨hcs, _⟩ | ⟨a, len, cap, m, n, D, Pl, hcs, hb, hl, hm, hmm, hx, hi⟩
  · simp only [List.cons.injEq, and_true] at hcs
    exact ⟨none, 0, 0, hcs, by omega, fun _ => .inl rfl, fun h => absurd h (by decide)⟩
  · simp only [if_true] at hmm
    subst hmm
    simp only [List.cons.injEq, and_true] at hcs
    unfold maxLen at hm
    refine ⟨some a, len, _, hcs, by omega, fun _ => .inr trivial, fun hp => ?_⟩
    have hex : ∀ i, i < len → ∃ cs, cs.length = k ∧ (∀ j, j < k → w.cell? ((a.add (i * k)).add j) = cs[j]?) ∧ Reads enc w e cs := by
      intro i hil
      obtain ⟨cs', hc, ht'⟩ := hi i (by omega)
      rw [hC] at hc
      obtain ⟨_, hcl, hat⟩ := World.cells?_some hc
      have hr : Reads enc w e cs' := ⟨_, _, ht'⟩
      exact ⟨cs', hlen _ hr, fun j hj => hat j hj, hr⟩
    obtain ⟨cs0, hl0, hc0, _⟩ := hex 0 hp
    have c0 : w.cell? ((a.add (0 * k)).add 0) = some (cs0[0]'(by omega)) := by rw [hc0 0 hk, List.getElem?_eq_getElem]
    have hb := cell_lt c0
    rw [block_of_add, block_of_add] at hb
    obtain ⟨b, o, sp⟩ := a
    have hsn : sp = none := by
      have := World.cell?_spot c0
      simpa [Addr.add] using this
    subst hsn
    refine ⟨b, o, rfl, hb, fun i hil => ?_⟩
    obtain ⟨cs, q0, q1, q2⟩ := hex i hil
    refine ⟨cs, q0, fun j hj => ?_, q2⟩
    rw [← q1 j hj, addr_none, addr_none]
/-- a field of one cell -/
theorem Reads.oneAt {t : TypeId} {fs : Array Field} {cs : List Value} (ht : Tryd.prog.underlying t = some (.struct fs)) (h : Reads enc w t cs) (i o : Nat) (T : TypeId) (f : Field) (hf : fs[i]? = some f) (ho : f.offset = o) (hT : f.type = T) (hk : Tryd.prog.cellsOf T = 1) (hlt : o < cs.length) :
    ∃ u, cs[o]? = some u ∧ Reads enc w T [u] := by
  have h1 := h.sub ht i o 1 T f hf ho hT hk
  refine ⟨cs[o], List.getElem?_eq_getElem hlt, ?_⟩
  rw [List.drop_eq_getElem_cons hlt] at h1
  exact h1
theorem Reads.str1 {u : Value} (h : Reads enc w 9 [u]) : ∃ s : ByteArray, u = .string s := by
  obtain ⟨fuel, x, h⟩ := h
  obtain ⟨s, e1, _, _⟩ := DataW.trod_string Tryd.underlying9 h
  simp only [List.cons.injEq, and_true] at e1
  exact ⟨s, e1⟩
theorem Reads.int1 {u : Value} (h : Reads enc w 3 [u]) : ∃ n : Int, u = .int .i64 n := by
  obtain ⟨n, e, _⟩ := h.int
  simp only [List.cons.injEq, and_true] at e
  exact ⟨n, e⟩
theorem Reads.lenS {t : TypeId} {fs : Array Field} {k : Nat} (ht : Tryd.prog.underlying t = some (.struct fs)) (hC : Tryd.prog.cellsOf t = k) {cs : List Value} (h : Reads enc w t cs) : cs.length = k := (h.length ht).trans hC
theorem cStr : Tryd.prog.cellsOf 9 = 1 := by kernel_rfl
theorem cTyp : Tryd.prog.cellsOf 48 = 2 := by kernel_rfl
theorem cFld : Tryd.prog.cellsOf 89 = 3 := by kernel_rfl
theorem cVal : Tryd.prog.cellsOf 59 = 3 := by kernel_rfl
theorem cRul : Tryd.prog.cellsOf 94 = 9 := by kernel_rfl
theorem cScp : Tryd.prog.cellsOf 55 = 5 := by kernel_rfl
theorem cTab : Tryd.prog.cellsOf 51 = 6 := by kernel_rfl
theorem cEnm : Tryd.prog.cellsOf 46 = 2 := by kernel_rfl
theorem cNod : Tryd.prog.cellsOf 175 = 2 := by kernel_rfl
theorem cRow : Tryd.prog.cellsOf 173 = 5 := by kernel_rfl
theorem cSlV : Tryd.prog.cellsOf 27 = 1 := by kernel_rfl
theorem uStrs : Tryd.prog.underlying 44 = some (.slice 9) := by kernel_rfl
theorem uFlds : Tryd.prog.underlying 52 = some (.slice 89) := by kernel_rfl
theorem uVals : Tryd.prog.underlying 27 = some (.slice 59) := by kernel_rfl
theorem uMems : Tryd.prog.underlying 28 = some (.slice 27) := by kernel_rfl
theorem uRuls : Tryd.prog.underlying 53 = some (.slice 94) := by kernel_rfl
theorem uScps : Tryd.prog.underlying 24 = some (.slice 55) := by kernel_rfl
theorem uTabs : Tryd.prog.underlying 23 = some (.slice 51) := by kernel_rfl
theorem uEnms : Tryd.prog.underlying 22 = some (.slice 46) := by kernel_rfl
theorem uNods : Tryd.prog.underlying 92 = some (.slice 175) := by kernel_rfl
theorem uRows : Tryd.prog.underlying 49 = some (.slice 173) := by kernel_rfl
/-- the lists of values -/
theorem open_vals {v : Value} (h : Reads enc w 27 [v]) : ∃ xs : List Vl, Vals w v xs ∧ xs.length ≤ 9223372036854775807 := by
  obtain ⟨A, n, cap, rfl, hn, _, hx⟩ := h.slice uVals cVal (by decide) (fun cs h => h.lenS Tryd.underlying59 cVal)
  rcases Nat.eq_zero_or_pos n with h0 | hp
  · subst h0
    exact ⟨[], ⟨A, cap, rfl, fun h => absurd h (by simp)⟩, by simp⟩
  obtain ⟨b, off, rfl, hb, hc⟩ := hx hp
  obtain ⟨xs, hl, hxs⟩ := choose_list (p := fun i (x : Vl) => ∀ j u, (vlF x)[j]? = some u → w.cell? ⟨b, off + i * 3 + j, none⟩ = some u) n (fun i hi => by
    obtain ⟨cs, hcl, hcc, hr⟩ := hc i hi
    obtain ⟨x0, e0, _⟩ := hr.intAt Tryd.underlying59 0 0 _ rfl rfl rfl
    obtain ⟨x1, e1, _⟩ := hr.intAt Tryd.underlying59 1 1 _ rfl rfl rfl
    obtain ⟨x2, e2, _⟩ := hr.intAt Tryd.underlying59 2 2 _ rfl rfl rfl
    refine ⟨⟨x0, x1, x2⟩, fun j u hu => ?_⟩
    match j, hu with
    | 0, hu => obtain rfl := Option.some.inj hu; rw [hcc 0 (by decide), e0]
    | 1, hu => obtain rfl := Option.some.inj hu; rw [hcc 1 (by decide), e1]
    | 2, hu => obtain rfl := Option.some.inj hu; rw [hcc 2 (by decide), e2]
    | j + 3, hu => simp [vlF] at hu)
  subst hl
  exact ⟨xs, ⟨_, cap, rfl, fun _ => ⟨b, off, rfl, hb, fun j x hj i u hu => hxs j x hj i u hu⟩⟩, hn⟩
theorem open_mems {v : Value} (h : Reads enc w 28 [v]) : ∃ mem : List (List Vl), Mems w v mem := by
  obtain ⟨A, n, cap, rfl, hn, _, hx⟩ := h.slice uMems cSlV (by decide) (fun cs h => by
    obtain ⟨fuel, x, h⟩ := h
    rcases open_slice uVals h with ⟨hcs, _⟩ | ⟨a, len, cap, m, n, D, Pl, hcs, _⟩ <;> rw [hcs] <;> rfl)
  rcases Nat.eq_zero_or_pos n with h0 | hp
  · subst h0
    exact ⟨[], ⟨A, cap, rfl, by simp, fun h => absurd h (by simp)⟩⟩
  obtain ⟨b, off, rfl, hb, hc⟩ := hx hp
  obtain ⟨xs, hl, hxs⟩ := choose_list (p := fun i (l : List Vl) => l.length ≤ 9223372036854775807 ∧ ∃ lv, w.cell? ⟨b, off + i, none⟩ = some lv ∧ Vals w lv l) n (fun i hi => by
    obtain ⟨cs, hcl, hcc, hr⟩ := hc i hi
    match cs, hcl with
    | [u], _ =>
      obtain ⟨l, h1, h2⟩ := open_vals hr
      have := hcc 0 (by decide)
      exact ⟨l, h2, u, by rw [show off + i = off + i * 1 + 0 by omega, this]; rfl, h1⟩)
  subst hl
  exact ⟨xs, ⟨_, cap, rfl, hn, fun _ => ⟨b, off, rfl, hb, hxs⟩⟩⟩
theorem open_fds {v : Value} (h : Reads enc w 52 [v]) : ∃ ts : List Ty, Fds w v ts ∧ ts.length ≤ 9223372036854775807 ∧ SlW w 3 StrAt v := by
  obtain ⟨A, n, cap, rfl, hn, _, hx⟩ := h.slice uFlds cFld (by decide) (fun cs h => h.lenS Tryd.underlying89 cFld)
  rcases Nat.eq_zero_or_pos n with h0 | hp
  · subst h0
    exact ⟨[], ⟨A, cap, rfl, fun h => absurd h (by simp)⟩, by simp, ⟨A, 0, cap, rfl, by omega, fun h => absurd h (by simp)⟩⟩
  obtain ⟨b, off, rfl, hb, hc⟩ := hx hp
  obtain ⟨xs, hl, hxs⟩ := choose_list (p := fun i (x : Ty) => w.cell? ⟨b, off + i * 3 + 1, none⟩ = some (.int .i64 x.k) ∧ w.cell? ⟨b, off + i * 3 + 2, none⟩ = some (.int .i64 x.e)) n (fun i hi => by
    obtain ⟨cs, hcl, hcc, hr⟩ := hc i hi
    have h1 := hr.sub Tryd.underlying89 1 1 2 48 _ rfl rfl rfl cTyp
    obtain ⟨x0, e0, _⟩ := h1.intAt Tryd.underlying48 0 0 _ rfl rfl rfl
    obtain ⟨x1, e1, _⟩ := h1.intAt Tryd.underlying48 1 1 _ rfl rfl rfl
    match cs, hcl with
    | [u0, u1, u2], _ =>
      simp at e0 e1
      subst e0 e1
      exact ⟨⟨x0, x1⟩, hcc 1 (by decide), hcc 2 (by decide)⟩)
  subst hl
  refine ⟨xs, ⟨_, cap, rfl, fun _ => ⟨b, off, rfl, hb, hxs⟩⟩, hn, ⟨_, _, cap, rfl, hn, fun _ => ⟨b, off, rfl, hb, fun i hi => ?_⟩⟩⟩
  obtain ⟨cs, hcl, hcc, hr⟩ := hc i hi
  obtain ⟨u, hu, hr0⟩ := hr.oneAt Tryd.underlying89 0 0 9 _ rfl rfl rfl cStr (by omega)
  obtain ⟨s, rfl⟩ := hr0.str1
  exact ⟨s, by rw [← hu]; exact hcc 0 (by decide)⟩
theorem open_nods {v : Value} (h : Reads enc w 92 [v]) : ∃ A n c, v = .slice A n c ∧ n ≤ 9223372036854775807 := by
  obtain ⟨A, n, cap, rfl, hn, _⟩ := h.slice uNods cNod (by decide) (fun cs h => h.lenS Tryd.underlying175 cNod)
  exact ⟨A, n, cap, rfl, hn⟩
theorem open_rows {v : Value} (h : Reads enc w 49 [v]) : ∃ A n c, v = .slice A n c ∧ n ≤ 9223372036854775807 := by
  obtain ⟨A, n, cap, rfl, hn, _⟩ := h.slice uRows cRow (by decide) (fun cs h => h.lenS Tryd.underlying173 cRow)
  exact ⟨A, n, cap, rfl, hn⟩
theorem open_rules {v : Value} (h : Reads enc w 53 [v]) : SlW w 9 RuP v := by
  obtain ⟨A, n, cap, rfl, hn, _, hx⟩ := h.slice uRuls cRul (by decide) (fun cs h => h.lenS Tryd.underlying94 cRul)
  refine ⟨A, n, cap, rfl, hn, fun hp => ?_⟩
  obtain ⟨b, off, rfl, hb, hc⟩ := hx hp
  refine ⟨b, off, rfl, hb, fun i hi => ?_⟩
  obtain ⟨cs, hcl, hcc, hr⟩ := hc i hi
  obtain ⟨u0, g0, r0⟩ := hr.oneAt Tryd.underlying94 0 0 9 _ rfl rfl rfl cStr (by omega)
  obtain ⟨s0, rfl⟩ := r0.str1
  obtain ⟨n1, g1, _⟩ := hr.intAt Tryd.underlying94 1 1 _ rfl rfl rfl
  obtain ⟨n2, g2, _⟩ := hr.intAt Tryd.underlying94 2 2 _ rfl rfl rfl
  obtain ⟨n3, g3, _⟩ := hr.intAt Tryd.underlying94 3 3 _ rfl rfl rfl
  have h4 := hr.sub Tryd.underlying94 4 4 2 91 _ rfl rfl rfl (by kernel_rfl)
  obtain ⟨n4, g4, _⟩ := h4.intAt Tryd.underlying91 0 0 _ rfl rfl rfl
  obtain ⟨n5, g5, _⟩ := h4.intAt Tryd.underlying91 1 1 _ rfl rfl rfl
  obtain ⟨u6, g6, r6⟩ := hr.oneAt Tryd.underlying94 5 6 92 _ rfl rfl rfl (by kernel_rfl) (by omega)
  obtain ⟨A6, n6, c6, rfl, l6⟩ := open_nods r6
  obtain ⟨u7, g7, r7⟩ := hr.oneAt Tryd.underlying94 6 7 92 _ rfl rfl rfl (by kernel_rfl) (by omega)
  obtain ⟨A7, n7, c7, rfl, l7⟩ := open_nods r7
  obtain ⟨u8, g8, r8⟩ := hr.oneAt Tryd.underlying94 7 8 9 _ rfl rfl rfl cStr (by omega)
  obtain ⟨s8, rfl⟩ := r8.str1
  match cs, hcl with
  | [v0, v1, v2, v3, v4, v5, v6, v7, v8], _ =>
    simp at g0 g1 g2 g3 g4 g5 g6 g7 g8
    subst g0 g1 g2 g3 g4 g5 g6 g7 g8
    exact ⟨⟨s0, hcc 0 (by decide)⟩, ⟨n1, hcc 1 (by decide)⟩, ⟨n2, hcc 2 (by decide)⟩, ⟨n3, hcc 3 (by decide)⟩, ⟨n4, hcc 4 (by decide)⟩, ⟨n5, hcc 5 (by decide)⟩, ⟨A6, n6, c6, hcc 6 (by decide), l6⟩, ⟨A7, n7, c7, hcc 7 (by decide), l7⟩, ⟨s8, hcc 8 (by decide)⟩⟩
theorem open_tabs {v : Value} (h : Reads enc w 23 [v]) : SlW w 6 TbP v := by
  obtain ⟨A, n, cap, rfl, hn, _, hx⟩ := h.slice uTabs cTab (by decide) (fun cs h => h.lenS Tryd.underlying51 cTab)
  refine ⟨A, n, cap, rfl, hn, fun hp => ?_⟩
  obtain ⟨b, off, rfl, hb, hc⟩ := hx hp
  refine ⟨b, off, rfl, hb, fun i hi => ?_⟩
  obtain ⟨cs, hcl, hcc, hr⟩ := hc i hi
  obtain ⟨u0, g0, r0⟩ := hr.oneAt Tryd.underlying51 0 0 9 _ rfl rfl rfl cStr (by omega)
  obtain ⟨s0, rfl⟩ := r0.str1
  obtain ⟨u5, g5, r5⟩ := hr.oneAt Tryd.underlying51 3 5 49 _ rfl rfl rfl (by kernel_rfl) (by omega)
  obtain ⟨A5, n5, c5, rfl, l5⟩ := open_rows r5
  exact ⟨⟨s0, by rw [← g0]; exact hcc 0 (by decide)⟩, ⟨A5, n5, c5, by rw [← g5]; exact hcc 5 (by decide), l5⟩⟩
theorem open_scs {v : Value} (h : Reads enc w 24 [v]) : ∃ scs : List Sc, Scs w v scs ∧ SlW w 5 ScP v := by
  obtain ⟨A, n, cap, rfl, hn, _, hx⟩ := h.slice uScps cScp (by decide) (fun cs h => h.lenS Tryd.underlying55 cScp)
  rcases Nat.eq_zero_or_pos n with h0 | hp
  · subst h0
    exact ⟨[], ⟨A, cap, rfl, by simp, fun h => absurd h (by simp)⟩, ⟨A, 0, cap, rfl, by omega, fun h => absurd h (by simp)⟩⟩
  obtain ⟨b, off, rfl, hb, hc⟩ := hx hp
  have hex : ∀ i, i < n → ∃ s : Sc, (s.ins.length ≤ 9223372036854775807 ∧ w.cell? ⟨b, off + i * 5 + 1, none⟩ = some (.int .i64 s.m) ∧ ∃ iv, w.cell? ⟨b, off + i * 5 + 2, none⟩ = some iv ∧ Fds w iv s.ins) ∧ ScP w b (off + i * 5) := by
    intro i hi
    obtain ⟨cs, hcl, hcc, hr⟩ := hc i hi
    obtain ⟨u0, g0, r0⟩ := hr.oneAt Tryd.underlying55 0 0 9 _ rfl rfl rfl cStr (by omega)
    obtain ⟨s0, rfl⟩ := r0.str1
    obtain ⟨n1, g1, _⟩ := hr.intAt Tryd.underlying55 1 1 _ rfl rfl rfl
    obtain ⟨u2, g2, r2⟩ := hr.oneAt Tryd.underlying55 2 2 52 _ rfl rfl rfl (by kernel_rfl) (by omega)
    obtain ⟨ts, q1, q2, q3⟩ := open_fds r2
    obtain ⟨u3, g3, r3⟩ := hr.oneAt Tryd.underlying55 3 3 52 _ rfl rfl rfl (by kernel_rfl) (by omega)
    obtain ⟨_, _, _, q4⟩ := open_fds r3
    obtain ⟨u4, g4, r4⟩ := hr.oneAt Tryd.underlying55 4 4 53 _ rfl rfl rfl (by kernel_rfl) (by omega)
    have q5 := open_rules r4
    have c0 := (hcc 0 (by decide)).trans g0
    have c1 := (hcc 1 (by decide)).trans g1
    have c2 := (hcc 2 (by decide)).trans g2
    have c3 := (hcc 3 (by decide)).trans g3
    have c4 := (hcc 4 (by decide)).trans g4
    exact ⟨⟨n1, ts⟩, ⟨q2, c1, u2, c2, q1⟩, ⟨s0, c0⟩, ⟨n1, c1⟩, ⟨u2, c2, q3⟩, ⟨u3, c3, q4⟩, u4, c4, q5⟩
  obtain ⟨xs, hl, hxs⟩ := choose_list n (fun i hi => (hex i hi).imp fun _ h => h.1)
  subst hl
  exact ⟨xs, ⟨_, cap, rfl, hn, fun _ => ⟨b, off, rfl, hb, hxs⟩⟩, ⟨_, _, cap, rfl, hn, fun _ => ⟨b, off, rfl, hb, fun i hi => (hex i hi).elim fun _ h => h.2⟩⟩⟩
theorem open_enm {v : Value} (h : Reads enc w 22 [v]) : ∃ ms : List (List ByteArray), Enums w v ms ∧ SlW w 2 StrAt v := by
  obtain ⟨A, n, cap, rfl, hn, _, hx⟩ := h.slice uEnms cEnm (by decide) (fun cs h => h.lenS Tryd.underlying46 cEnm)
  rcases Nat.eq_zero_or_pos n with h0 | hp
  · subst h0
    exact ⟨[], ⟨A, cap, rfl, by simp, fun h => absurd h (by simp)⟩, ⟨A, 0, cap, rfl, by omega, fun h => absurd h (by simp)⟩⟩
  obtain ⟨b, off, rfl, hb, hc⟩ := hx hp
  have hex : ∀ i, i < n → ∃ l : List ByteArray, (l.length ≤ 9223372036854775807 ∧ ∃ mv, w.cell? ⟨b, off + i * 2 + 1, none⟩ = some mv ∧ Strs w mv l) ∧ StrAt w b (off + i * 2) := by
    intro i hi
    obtain ⟨cs, hcl, hcc, hr⟩ := hc i hi
    obtain ⟨u0, g0, r0⟩ := hr.oneAt Tryd.underlying46 0 0 9 _ rfl rfl rfl cStr (by omega)
    obtain ⟨s0, rfl⟩ := r0.str1
    obtain ⟨u1, g1, r1⟩ := hr.oneAt Tryd.underlying46 1 1 44 _ rfl rfl rfl (by kernel_rfl) (by omega)
    obtain ⟨f, x, r1⟩ := r1
    obtain ⟨mv, l, e1, hs, hle⟩ := open_strs uStrs Tryd.underlying9 cStr r1
    simp only [List.cons.injEq, and_true] at e1
    subst e1
    unfold maxLen at hle
    exact ⟨l, ⟨hle, u1, (hcc 1 (by decide)).trans g1, hs⟩, s0, (hcc 0 (by decide)).trans g0⟩
  obtain ⟨xs, hl, hxs⟩ := choose_list n (fun i hi => (hex i hi).imp fun _ h => h.1)
  subst hl
  exact ⟨xs, ⟨_, cap, rfl, hn, fun _ => ⟨b, off, rfl, hb, hxs⟩⟩, ⟨_, _, cap, rfl, hn, fun _ => ⟨b, off, rfl, hb, fun i hi => (hex i hi).elim fun _ h => h.2⟩⟩⟩
set_option maxRecDepth 100000 in
theorem open_law {base : Nat} {v : Value} {d : DataW H} {p : List MemPlace} (hv : Value.okWide Tryd.prog w .any base 26 v) (h : DataW.Trod enc Tryd.prog w 0 (fun _ => true) true 26 v d p) :
    ∃ (ms : List (List ByteArray)) (scs : List Sc), LawM w v ms scs ∧ LawR w v := by
  obtain ⟨⟨cs⟩, rfl, hsz⟩ := okWide_struct Tryd.underlying26 hv
  rw [show Tryd.prog.cellsOf 26 = 3 by kernel_rfl] at hsz
  have hr := Reads.of h
  have hsl : cs.length = 3 := hsz
  obtain ⟨u0, g0, r0⟩ := hr.oneAt Tryd.underlying26 0 0 22 _ rfl rfl rfl (by kernel_rfl) (show 0 < cs.length by omega)
  obtain ⟨u1, g1, r1⟩ := hr.oneAt Tryd.underlying26 1 1 23 _ rfl rfl rfl (by kernel_rfl) (show 1 < cs.length by omega)
  obtain ⟨u2, g2, r2⟩ := hr.oneAt Tryd.underlying26 2 2 24 _ rfl rfl rfl (by kernel_rfl) (show 2 < cs.length by omega)
  obtain ⟨ms, e1, e2⟩ := open_enm r0
  have t1 := open_tabs r1
  obtain ⟨scs, s1, s2⟩ := open_scs r2
  obtain ⟨At, nt, ct, rfl, _⟩ := id t1
  match cs, hsl with
  | [c0, c1, c2], _ =>
    simp at g0 g1 g2
    subst g0 g1 g2
    exact ⟨ms, scs, ⟨_, At, nt, ct, _, rfl, e1, s1⟩, ⟨_, _, _, rfl, e2, t1, s2⟩⟩
set_option maxRecDepth 100000 in
theorem open_case {base : Nat} {v : Value} {d : DataW H} {p : List MemPlace} (hv : Value.okWide Tryd.prog w .any base 30 v) (h : DataW.Trod enc Tryd.prog w 0 (fun _ => true) true 30 v d p) :
    ∃ (dt : Int) (iv mv : Value) (ins : List Vl) (mem : List (List Vl)), v = .agg #[.int .i64 dt, iv, mv] ∧ Vals w iv ins ∧ ins.length ≤ 9223372036854775807 ∧ Mems w mv mem := by
  obtain ⟨⟨cs⟩, rfl, hsz⟩ := okWide_struct Tryd.underlying30 hv
  rw [show Tryd.prog.cellsOf 30 = 3 by kernel_rfl] at hsz
  have hr := Reads.of h
  have hsl : cs.length = 3 := hsz
  obtain ⟨dt, g0, _⟩ := hr.intAt Tryd.underlying30 0 0 _ rfl rfl rfl
  obtain ⟨u1, g1, r1⟩ := hr.oneAt Tryd.underlying30 1 1 27 _ rfl rfl rfl (by kernel_rfl) (show 1 < cs.length by omega)
  obtain ⟨u2, g2, r2⟩ := hr.oneAt Tryd.underlying30 2 2 28 _ rfl rfl rfl (by kernel_rfl) (show 2 < cs.length by omega)
  obtain ⟨ins, i1, i2⟩ := open_vals r1
  obtain ⟨mem, m1⟩ := open_mems r2
  match cs, hsl with
  | [c0, c1, c2], _ =>
    simp at g0 g1 g2
    subst g0 g1 g2
    exact ⟨dt, _, _, ins, mem, rfl, i1, i2, m1⟩
end
end Go.Proofs.YtemejaomfbhldaaDoor
/- What the size tests of guerdonsame tell of laws and cases. -/
namespace Go.Proofs.YtemejaomfbhldaaDoor
open Go.RowKit

theorem SlW.at_ {w : World} {k : Nat} {p : World → Nat → Nat → Prop} {v : Value} (h : SlW w k p v) : ∃ A n cap, v = .slice A n cap ∧ n ≤ 9223372036854775807 ∧ (0 < n → ∃ b off, A = some ⟨b, off, none⟩ ∧ b < w.heap.size ∧ ∀ j, j < n → p w b (off + j * k)) := h
def SmallB (Q : Prop) (w : World) (r : Ending) (w' : World) : Prop := ∃ b : Bool, r = .returned (.bool b) ∧ Kept w w' ∧ (b = true → Q)
set_option maxRecDepth 100000 in
set_option maxHeartbeats 8000000 in
theorem smallScope_any (nm : ByteArray) (m : Int) (iv dv rv : Value) (w : World) (hI : SlW w 3 StrAt iv) (hD : SlW w 3 StrAt dv) (hR : SlW w 9 RuP rv) :
    Calls Tryd.prog 15 #[.agg #[.string nm, .int .i64 m, iv, dv, rv]] w (SmallB True w) := by
  obtain ⟨A1, n1, c1, rfl, hn1, hx1⟩ := hI.at_
  obtain ⟨A2, n2, c2, rfl, hn2, hx2⟩ := hD.at_
  obtain ⟨A3, n3, c3, rfl, hn3, hx3⟩ := hR.at_
  have K0 := Lib.hid ((Kept.refl w).alloc (.cells #[.string nm, .int .i64 m, .slice A1 n1 c1, .slice A2 n2 c2, .slice A3 n3 c3] 55))
  clear hI hD hR
  rcases (show 80 < (nm.size : Int) ∨ (¬ 80 < (nm.size : Int) ∧ 14 < (n1 : Int)) ∨ (¬ 80 < (nm.size : Int) ∧ ¬ 14 < (n1 : Int) ∧ 14 < (n2 : Int)) ∨ (¬ 80 < (nm.size : Int) ∧ ¬ 14 < (n1 : Int) ∧ ¬ 14 < (n2 : Int) ∧ 60 < (n3 : Int)) ∨ (¬ 80 < (nm.size : Int) ∧ ¬ 14 < (n1 : Int) ∧ ¬ 14 < (n2 : Int) ∧ ¬ 60 < (n3 : Int)) by omega) with h | ⟨h, h1⟩ | ⟨h, h1, h2⟩ | ⟨h, h1, h2, h3⟩ | ⟨h, h1, h2, h3⟩
  iterate 4
    clear hx1 hx2 hx3
    go_enter Tryd.func15, Tryd.ntmps15
    go_wp2_with fail
    go_ret
    exact ⟨_, rfl, K0.out, fun h => trivial⟩
  go_enter Tryd.func15, Tryd.ntmps15
  go_wp2_with fail
  have B := Blk.new w 55 #[.string nm, .int .i64 m, .slice A1 n1 c1, .slice A2 n2 c2, .slice A3 n3 c3]
  have KK := K0.out
  generalize w.alloc (.cells #[.string nm, .int .i64 m, .slice A1 n1 c1, .slice A2 n2 c2, .slice A3 n3 c3] 55) = W at *
  have c0 := B.cell 2
  have c1' := B.cell 3
  have c2' := B.cell 4
  have cl := B.lt
  go_loopw [3] (fun y wr => ∃ i : Nat, y = .int .i64 i ∧ i ≤ n1 ∧ wr = W) (fun y _ => n1 - (intOf y).toNat)
  case atStart => exact ⟨0, rfl, Nat.zero_le _, rfl⟩
  case round =>
    obtain ⟨i, rfl, hin, rfl⟩ := hrel
    by_cases hlt : i < n1
    · obtain ⟨b, off, rfl, hb, hc⟩ := hx1 (by omega)
      obtain ⟨s, hs⟩ := hc i hlt
      have X0 := KK.cell (p := ⟨b, _, none⟩) hb hs
      have hb2 := Nat.lt_of_lt_of_le hb KK.size
      have hii : (i : Int) < n1 := by omega
      clear hc hs hx1 hx2 hx3
      by_cases h8 : 80 < (s.size : Int)
      · go_wp2_with fail
        go_ret
        exact ⟨_, rfl, KK, fun h => trivial⟩
      · go_wp2_with fail
        go_roundw
        case rel => exact ⟨i + 1, rfl, hlt, trivial⟩
        case measure => simp [intOf]; omega
    · have hii : ¬ ((i : Int) < n1) := by omega
      go_wp2_with fail
      go_loopw [4] (fun y wr' => ∃ i : Nat, y = .int .i64 i ∧ i ≤ n2 ∧ wr' = wr) (fun y _ => n2 - (intOf y).toNat)
      case atStart => exact ⟨0, rfl, Nat.zero_le _, rfl⟩
      case round =>
        obtain ⟨j, rfl, hjn, rfl⟩ := hrel
        by_cases hlt2 : j < n2
        · obtain ⟨b, off, rfl, hb, hc⟩ := hx2 (by omega)
          obtain ⟨s, hs⟩ := hc j hlt2
          have X0 := KK.cell (p := ⟨b, _, none⟩) hb hs
          have hb2 := Nat.lt_of_lt_of_le hb KK.size
          have hjj : (j : Int) < n2 := by omega
          clear hc hs hx1 hx2 hx3
          by_cases h8 : 80 < (s.size : Int)
          · go_wp2_with fail
            go_ret
            exact ⟨_, rfl, KK, fun h => trivial⟩
          · go_wp2_with fail
            go_roundw
            case rel => exact ⟨j + 1, rfl, hlt2, trivial⟩
            case measure => simp [intOf]; omega
        · have hjj : ¬ ((j : Int) < n2) := by omega
          go_wp2_with fail
          go_loopw [5] (fun y wr' => ∃ i : Nat, y = .int .i64 i ∧ i ≤ n3 ∧ Kept wr wr') (fun y _ => n3 - (intOf y).toNat)
          case atStart => exact ⟨0, rfl, Nat.zero_le _, Kept.refl _⟩
          case round =>
            obtain ⟨q, rfl, hqn, hK⟩ := hrel
            have B2 := B.kept hK
            have d2 := B2.cell 4
            have dl := B2.lt
            by_cases hlt3 : q < n3
            · obtain ⟨b, off, rfl, hb, hc⟩ := hx3 (by omega)
              have hru := RuP.kept _ _ _ _ (KK.trans hK) hb (hc q hlt3)
              obtain ⟨⟨s0, g0⟩, ⟨z1, g1⟩, ⟨z2, g2⟩, ⟨z3, g3⟩, ⟨z4, g4⟩, ⟨z5, g5⟩, ⟨A6, n6, c6, g6, l6⟩, ⟨A7, n7, c7, g7, l7⟩, ⟨s8, g8⟩⟩ := hru
              have hb2 := Nat.lt_of_lt_of_le hb (KK.trans hK).size
              have hqq : (q : Int) < n3 := by omega
              clear hc hx1 hx2 hx3 h h1 h2 h3
              rcases (show 80 < (s0.size : Int) ∨ (¬ 80 < (s0.size : Int) ∧ 80 < (s8.size : Int)) ∨ (¬ 80 < (s0.size : Int) ∧ ¬ 80 < (s8.size : Int) ∧ 50 < (n6 : Int)) ∨ (¬ 80 < (s0.size : Int) ∧ ¬ 80 < (s8.size : Int) ∧ ¬ 50 < (n6 : Int) ∧ 50 < (n7 : Int)) ∨ (¬ 80 < (s0.size : Int) ∧ ¬ 80 < (s8.size : Int) ∧ ¬ 50 < (n6 : Int) ∧ ¬ 50 < (n7 : Int)) by omega) with h | ⟨h, h1⟩ | ⟨h, h1, h2⟩ | ⟨h, h1, h2, h3⟩ | ⟨h, h1, h2, h3⟩
              iterate 4
                go_wp2_with fail
                go_ret
                exact ⟨_, rfl, (KK.trans hK).alloc _, fun h => trivial⟩
              go_wp2_with fail
              go_roundw
              case rel => exact ⟨q + 1, rfl, hlt3, hK.alloc _⟩
              case measure => simp [intOf]; omega
            · have hqq : ¬ ((q : Int) < n3) := by omega
              go_wp2_with fail
              go_ret
              exact ⟨_, rfl, KK.trans hK, fun h => trivial⟩
set_option maxRecDepth 100000 in
set_option maxHeartbeats 8000000 in
theorem smallCase_any (d : Int) (iv mv : Value) (ins : List Vl) (mem : List (List Vl)) (w : World) (hI : Vals w iv ins) (hM : Mems w mv mem) :
    Calls Tryd.prog 7 #[.agg #[.int .i64 d, iv, mv]] w (SmallB (ins.length ≤ 14 ∧ mem.length ≤ 10 ∧ ∀ l ∈ mem, l.length ≤ 14) w) := by
  obtain ⟨A1, c1, rfl, _⟩ := hI
  obtain ⟨A2, c2, rfl, hml, hx⟩ := hM.at_
  obtain ⟨n1, hn1⟩ : ∃ n, n = ins.length := ⟨_, rfl⟩
  obtain ⟨n2, hn2⟩ : ∃ n, n = mem.length := ⟨_, rfl⟩
  rw [← hn2] at hx hml
  rw [← hn1, ← hn2]
  obtain ⟨Q, hQ⟩ : ∃ Q, (n1 ≤ 14 ∧ n2 ≤ 10 ∧ ∀ l ∈ mem, l.length ≤ 14) = Q := ⟨_, rfl⟩
  rw [hQ]
  have HQ := Lib.hid (fun h => hQ ▸ h : (n1 ≤ 14 ∧ n2 ≤ 10 ∧ ∀ l ∈ mem, l.length ≤ 14) → Q)
  have HN := Lib.hid hn2
  clear hn1 hn2 hM hQ
  have K0 := Lib.hid ((Kept.refl w).alloc (.cells #[.int .i64 d, .slice A1 n1 c1, .slice A2 n2 c2] 30))
  rcases (show 14 < (n1 : Int) ∨ (¬ 14 < (n1 : Int) ∧ 10 < (n2 : Int)) ∨ (¬ 14 < (n1 : Int) ∧ ¬ 10 < (n2 : Int)) by omega) with h | ⟨h, h1⟩ | ⟨h, h1⟩
  iterate 2
    clear hx
    go_enter Tryd.func7, Tryd.ntmps7
    go_wp2_with fail
    go_ret
    exact ⟨_, rfl, K0.out, fun h => by cases h⟩
  have hh : n1 ≤ 14 ∧ n2 ≤ 10 := by omega
  have HH := Lib.hid hh
  go_enter Tryd.func7, Tryd.ntmps7
  go_wp2_with fail
  have B := Blk.new w 30 #[.int .i64 d, .slice A1 n1 c1, .slice A2 n2 c2]
  have KK := K0.out
  generalize w.alloc (.cells #[.int .i64 d, .slice A1 n1 c1, .slice A2 n2 c2] 30) = W at *
  have c2' := B.cell 2
  have cl := B.lt
  go_loopw [3] (fun y wr => ∃ i : Nat, y = .int .i64 i ∧ i ≤ n2 ∧ wr = W ∧ ∀ (j : Nat) l, j < i → mem[j]? = some l → l.length ≤ 14) (fun y _ => n2 - (intOf y).toNat)
  case atStart => exact ⟨0, rfl, Nat.zero_le _, rfl, fun _ _ h => absurd h (Nat.not_lt_zero _)⟩
  case round =>
    obtain ⟨i, rfl, hin, rfl, hall⟩ := hrel
    have HALL := Lib.hid hall
    clear hall
    by_cases hlt : i < n2
    · obtain ⟨b, off, rfl, hb, hc⟩ := hx (by omega)
      have hg : mem[i]? = some (mem[i]'(by have := HN.out; omega)) := List.getElem?_eq_getElem _
      obtain ⟨hll, Al, cl', y0, _⟩ := hc i _ hg
      have HG := Lib.hid hg
      generalize mem[i]'(by have := HN.out; omega) = l at *
      have Y0 := KK.cell (p := ⟨b, _, none⟩) hb y0
      have hb2 := Nat.lt_of_lt_of_le hb KK.size
      have hii : (i : Int) < n2 := by omega
      clear hc y0 hx hg
      by_cases h8 : 14 < (l.length : Int)
      · go_wp2_with fail
        go_ret
        exact ⟨_, rfl, KK, fun h => by cases h⟩
      · go_wp2_with fail
        go_roundw
        case rel =>
          refine ⟨i + 1, rfl, hlt, trivial, fun j l' hj hl' => ?_⟩
          by_cases hji : j = i
          · subst hji
            rw [HG.out] at hl'
            obtain rfl := Option.some.inj hl'
            omega
          · exact HALL.out j l' (by omega) hl'
        case measure => simp [intOf]; omega
    · have hii : ¬ ((i : Int) < n2) := by omega
      go_wp2_with fail
      go_ret
      refine ⟨_, rfl, KK, fun _ => HQ.out ⟨HH.out.1, HH.out.2, fun l hl => ?_⟩⟩
      obtain ⟨j, hj⟩ := List.getElem?_of_mem hl
      have hjl := (List.getElem?_eq_some_iff.1 hj).1
      exact HALL.out j l (by have := HN.out; omega) hj
theorem wrap_any (x : Int) : -9223372036854775808 ≤ wrap64 x ∧ wrap64 x ≤ 9223372036854775807 := by
  unfold wrap64
  omega
set_option maxRecDepth 100000 in
set_option maxHeartbeats 8000000 in
theorem smallLaw_any (lv : Value) (ms : List (List ByteArray)) (scs : List Sc) (w : World) (hL : LawM w lv ms scs) (hR : LawR w lv) :
    Calls Tryd.prog 6 #[lv] w (SmallB (∀ l ∈ ms, l.length ≤ 20 ∧ ∀ x ∈ l, x.size ≤ 80) w) := by
  obtain ⟨ev, At, nt, ct, sv, rfl, hE, hS⟩ := hL
  obtain ⟨ev', tv', sv', hv, rE, rT, rS⟩ := hR
  simp only [Value.agg.injEq, Array.mk.injEq, List.cons.injEq, and_true] at hv
  obtain ⟨rfl, rfl, rfl⟩ := hv
  obtain ⟨AE, ce, rfl, hme, hxe⟩ := hE
  obtain ⟨AE', ne', ce', hv, _, hre⟩ := rE.at_
  simp only [Value.slice.injEq] at hv
  obtain ⟨rfl, rfl, rfl⟩ := hv
  obtain ⟨AT', nt', ct', hv, hnt, hrt⟩ := rT.at_
  simp only [Value.slice.injEq] at hv
  obtain ⟨rfl, rfl, rfl⟩ := hv
  obtain ⟨AS, ns, cs, rfl, hns, hrs⟩ := rS.at_
  obtain ⟨ne, hne⟩ : ∃ n, n = ms.length := ⟨_, rfl⟩
  rw [← hne] at hxe hre hme ⊢
  have HN := Lib.hid hne
  obtain ⟨Q, hQ⟩ : ∃ Q, (∀ l ∈ ms, l.length ≤ 20 ∧ ∀ x ∈ l, x.size ≤ 80) = Q := ⟨_, rfl⟩
  rw [hQ]
  have HQ := Lib.hid (fun h => hQ ▸ h : (∀ l ∈ ms, l.length ≤ 20 ∧ ∀ x ∈ l, x.size ≤ 80) → Q)
  clear hne hS rT rS rE hQ
  have K0 := Lib.hid ((Kept.refl w).alloc (.cells #[.slice AE ne ce, .slice At nt ct, .slice AS ns cs] 26))
  rcases (show 9 < (ne : Int) ∨ (¬ 9 < (ne : Int) ∧ 9 < (nt : Int)) ∨ (¬ 9 < (ne : Int) ∧ ¬ 9 < (nt : Int) ∧ 5 < (ns : Int)) ∨ (¬ 9 < (ne : Int) ∧ ¬ 9 < (nt : Int) ∧ ¬ 5 < (ns : Int)) by omega) with h | ⟨h, h1⟩ | ⟨h, h1, h2⟩ | ⟨h, h1, h2⟩
  iterate 3
    clear hxe hre hrt hrs
    go_enter Tryd.func6, Tryd.ntmps6
    go_wp2_with fail
    go_ret
    exact ⟨_, rfl, K0.out, fun h => by cases h⟩
  go_enter Tryd.func6, Tryd.ntmps6
  go_wp2_with fail
  have B := Blk.new w 26 #[.slice AE ne ce, .slice At nt ct, .slice AS ns cs]
  have KK := K0.out
  generalize w.alloc (.cells #[.slice AE ne ce, .slice At nt ct, .slice AS ns cs] 26) = W at *
  have c0 := B.cell 0
  have c1 := B.cell 1
  have c2 := B.cell 2
  have cl := B.lt
  go_loopw [5] (fun y wr => ∃ i : Nat, y = .int .i64 i ∧ i ≤ ne ∧ wr = W ∧ ∀ (j : Nat) l, j < i → ms[j]? = some l → l.length ≤ 20 ∧ ∀ x ∈ l, x.size ≤ 80) (fun y _ => ne - (intOf y).toNat)
  case atStart => exact ⟨0, rfl, Nat.zero_le _, rfl, fun _ _ h => absurd h (Nat.not_lt_zero _)⟩
  case round =>
    obtain ⟨i, rfl, hin, rfl, hall⟩ := hrel
    have HALL := Lib.hid hall
    clear hall
    by_cases hlt : i < ne
    · obtain ⟨b, off, rfl, hb, hc⟩ := hxe (by omega)
      obtain ⟨b', off', hAe, _, hc'⟩ := hre (by omega)
      simp only [Option.some.injEq, Addr.mk.injEq, and_true] at hAe
      obtain ⟨rfl, rfl⟩ := hAe
      obtain ⟨s0, hs0⟩ := hc' i hlt
      have hg : ms[i]? = some (ms[i]'(by have := HN.out; omega)) := List.getElem?_eq_getElem _
      obtain ⟨hll, mv, hmv, hstr⟩ := hc i _ hg
      have HG := Lib.hid hg
      generalize ms[i]'(by have := HN.out; omega) = l at *
      obtain ⟨Al, cl', rfl, hxl⟩ := hstr.at3
      have X0 := KK.cell (p := ⟨b, _, none⟩) hb hs0
      have X1 := KK.cell (p := ⟨b, _, none⟩) hb hmv
      have hb2 := Nat.lt_of_lt_of_le hb KK.size
      have hii : (i : Int) < ne := by omega
      clear hc hc' hs0 hmv hg
      rcases (show 80 < (s0.size : Int) ∨ (¬ 80 < (s0.size : Int) ∧ 20 < (l.length : Int)) ∨ (¬ 80 < (s0.size : Int) ∧ ¬ 20 < (l.length : Int)) by omega) with h8 | ⟨h8, h9⟩ | ⟨h8, h9⟩
      iterate 2
        go_wp2_with fail
        go_ret
        exact ⟨_, rfl, KK, fun h => by cases h⟩
      obtain ⟨nl, hnl⟩ : ∃ n, n = l.length := ⟨_, rfl⟩
      rw [← hnl] at X1 h9 hxl hll
      have HL := Lib.hid hnl
      clear hnl hstr
      go_wp2_with fail
      go_loopw [6] (fun y wr' => ∃ k : Nat, y = .int .i64 k ∧ k ≤ nl ∧ wr' = wr ∧ ∀ (j : Nat) x, j < k → l[j]? = some x → x.size ≤ 80) (fun y _ => nl - (intOf y).toNat)
      case atStart => exact ⟨0, rfl, Nat.zero_le _, rfl, fun _ _ h => absurd h (Nat.not_lt_zero _)⟩
      case round =>
        obtain ⟨k, rfl, hkn, rfl, hak⟩ := hrel
        have HAK := Lib.hid hak
        clear hak
        by_cases hkl : k < nl
        · obtain ⟨b3, o3, rfl, hb3, hc3⟩ := hxl (by omega)
          have hg3 : l[k]? = some (l[k]'(by have := HL.out; omega)) := List.getElem?_eq_getElem _
          have y0 := hc3 k _ hg3
          have HG3 := Lib.hid hg3
          generalize l[k]'(by have := HL.out; omega) = x at *
          have Y0 := KK.cell (p := ⟨b3, _, none⟩) hb3 y0
          have hb4 := Nat.lt_of_lt_of_le hb3 KK.size
          have hkk : (k : Int) < nl := by omega
          clear hc3 y0 hg3
          by_cases hx8 : 80 < (x.size : Int)
          · go_wp2_with fail
            go_ret
            exact ⟨_, rfl, KK, fun h => by cases h⟩
          · go_wp2_with fail
            go_roundw
            case rel =>
              refine ⟨k + 1, rfl, hkl, trivial, fun j x' hj hx' => ?_⟩
              by_cases hjk : j = k
              · subst hjk
                rw [HG3.out] at hx'
                obtain rfl := Option.some.inj hx'
                omega
              · exact HAK.out j x' (by omega) hx'
            case measure => simp [intOf]; omega
        · have hkk : ¬ ((k : Int) < nl) := by omega
          have HLL := Lib.hid (show l.length ≤ 20 ∧ ∀ x ∈ l, x.size ≤ 80 from ⟨by have := HL.out; omega, fun x hx => by
            obtain ⟨j, hj⟩ := List.getElem?_of_mem hx
            have hjl := (List.getElem?_eq_some_iff.1 hj).1
            exact HAK.out j x (by have := HL.out; omega) hj⟩)
          go_wp2_with fail
          go_roundw
          case rel =>
            refine ⟨i + 1, rfl, hlt, trivial, fun j l' hj hl' => ?_⟩
            by_cases hji : j = i
            · subst hji
              rw [HG.out] at hl'
              obtain rfl := Option.some.inj hl'
              exact HLL.out
            · exact HALL.out j l' (by omega) hl'
          case measure => simp [intOf]; omega
    · have hii : ¬ ((i : Int) < ne) := by omega
      have HMS := Lib.hid (show ∀ l ∈ ms, l.length ≤ 20 ∧ ∀ x ∈ l, x.size ≤ 80 from fun l hl => by
        obtain ⟨j, hj⟩ := List.getElem?_of_mem hl
        have hjl := (List.getElem?_eq_some_iff.1 hj).1
        exact HALL.out j l (by have := HN.out; omega) hj)
      clear HALL hxe hre
      go_wp2_with fail
      go_loopw [3, 7] (fun x y wr' => ∃ (r : Int) (i : Nat), x = .int .i64 r ∧ (-9223372036854775808 ≤ r ∧ r ≤ 9223372036854775807) ∧ y = .int .i64 i ∧ i ≤ nt ∧ wr' = wr) (fun _ y _ => nt - (intOf y).toNat)
      case atStart => exact ⟨0, 0, rfl, by omega, rfl, Nat.zero_le _, rfl⟩
      case round =>
        obtain ⟨r, j, rfl, hrb, rfl, hjn, rfl⟩ := hrel
        by_cases hlt2 : j < nt
        · obtain ⟨b, off, rfl, hb, hc⟩ := hrt (by omega)
          obtain ⟨⟨s, hs⟩, A5, n5, c5, h5, hn5⟩ := hc j hlt2
          have X0 := KK.cell (p := ⟨b, _, none⟩) hb hs
          have X5 := KK.cell (p := ⟨b, _, none⟩) hb h5
          have hb2 := Nat.lt_of_lt_of_le hb KK.size
          have hjj : (j : Int) < nt := by omega
          clear hc hs h5
          obtain ⟨r2, hr2⟩ : ∃ r2, wrap64 (r + n5) = r2 := ⟨_, rfl⟩
          have hw := wrap_any (r + n5)
          rw [hr2] at hw
          rcases (show 80 < (s.size : Int) ∨ (¬ 80 < (s.size : Int) ∧ 150 < r2) ∨ (¬ 80 < (s.size : Int) ∧ ¬ 150 < r2) by omega) with h8 | ⟨h8, h9⟩ | ⟨h8, h9⟩
          iterate 2
            go_wp2_with fail
            go_ret
            exact ⟨_, rfl, KK, fun h => by cases h⟩
          go_wp2_with fail
          go_roundw
          case rel => exact ⟨r2, j + 1, by rw [hr2], hw, rfl, hlt2, trivial⟩
          case measure => simp [intOf]; omega
        · have hjj : ¬ ((j : Int) < nt) := by omega
          clear hrt
          go_wp2_with fail
          go_loopw [4, 8] (fun x y wr' => ∃ (r : Int) (i : Nat), x = .int .i64 r ∧ (-9223372036854775808 ≤ r ∧ r ≤ 9223372036854775807) ∧ y = .int .i64 i ∧ i ≤ ns ∧ Kept wr wr') (fun _ y _ => ns - (intOf y).toNat)
          case atStart => exact ⟨0, 0, rfl, by omega, rfl, Nat.zero_le _, Kept.refl _⟩
          case round =>
            obtain ⟨r3, q, rfl, hrb3, rfl, hqn, hK⟩ := hrel
            have B2 := B.kept hK
            have d2 := B2.cell 2
            have dl := B2.lt
            by_cases hlt3 : q < ns
            · obtain ⟨b, off, rfl, hb, hc⟩ := hrs (by omega)
              have hsp := ScP.kept _ _ _ _ (KK.trans hK) hb (hc q hlt3)
              obtain ⟨⟨s0, g0⟩, ⟨z1, g1⟩, ⟨v2, g2, p2⟩, ⟨v3, g3, p3⟩, v4, g4, p4⟩ := hsp
              obtain ⟨A2, n2, e2, rfl, _, _⟩ := id p2
              obtain ⟨A3, n3, e3, rfl, _, _⟩ := id p3
              obtain ⟨A4, n4, e4, rfl, hn4, _⟩ := id p4
              have hb2 := Nat.lt_of_lt_of_le hb (KK.trans hK).size
              have hqq : (q : Int) < ns := by omega
              have HSS := Lib.hid (smallScope_any s0 z1 _ _ _ wr p2 p3 p4)
              unfold SmallB at HSS
              obtain ⟨r2, hr2⟩ : ∃ r2, wrap64 (r3 + n4) = r2 := ⟨_, rfl⟩
              have hw := wrap_any (r3 + n4)
              rw [hr2] at hw
              clear hc hrs p2 p3 p4
              by_cases h9 : 60 < r2
              · go_wp2_with fail
                go_ret
                exact ⟨_, rfl, KK.trans hK, fun h => by cases h⟩
              · go_wp2_with fail
                refine HSS.out.mono ?_
                rintro e w5 ⟨b5, rfl, k5, _⟩
                cases b5
                · go_wp2_with fail
                  go_ret
                  exact ⟨_, rfl, (KK.trans hK).trans k5, fun h => by cases h⟩
                · go_wp2_with fail
                  go_roundw
                  case rel => exact ⟨r2, q + 1, by first | rfl | rw [hr2], hw, rfl, hlt3, hK.trans k5⟩
                  case measure => simp [intOf]; omega
            · have hqq : ¬ ((q : Int) < ns) := by omega
              go_wp2_with fail
              go_ret
              exact ⟨_, rfl, KK.trans hK, fun h => HQ.out HMS.out⟩
end Go.Proofs.YtemejaomfbhldaaDoor
/- What inputs, members and Validate of the reference of package casedata compute. -/
namespace Go.Proofs.YtemejaomfbhldaaDoor
open Go.RowKit

set_option maxRecDepth 100000 in
set_option maxHeartbeats 8000000 in
theorem rinputs_any (ev : Value) (At As : Option Addr) (nt ct ns cs : Nat) (vv iv : Value) (ms : List (List ByteArray)) (ts : List Ty) (vs : List Vl) (w : World) (hE : Enums w ev ms) (hV : Vals w vv vs) (hI : Fds w iv ts) (hl : vs.length ≤ 9223372036854775807) :
    Calls Tryd.prog 19 #[.agg #[ev, .slice At nt ct, .slice As ns cs], iv, vv] w (ckPost (chkV ms ts vs) w) := by
  unfold ckPost
  obtain ⟨AV, cv, rfl, hAV⟩ := hV.at_
  obtain ⟨AI, ci, rfl, hAI⟩ := id hI
  have HIN := Lib.hid (fun (n k e : Int) (w1 : World) (hk : Kept w w1) => rin_any n k e ev ms w1 (hE.kept hk))
  obtain ⟨AE, ce, rfl, _, _⟩ := id hE
  by_cases h1 : vs.length < ts.length
  · have HR := Lib.hid (show chkV ms ts vs = (vs.length, 5) by rw [chkV, if_pos h1])
    have h1i : (vs.length : Int) < ts.length := by omega
    rw [HR.out]
    clear hAV hAI hV hI hE h1
    go_enter Tryd.func19, Tryd.ntmps19
    go_wp2_with fail
    go_ret2
    exact ⟨rfl, (Kept.refl _).alloc _⟩
  by_cases h2 : ts.length < vs.length
  · have HR := Lib.hid (show chkV ms ts vs = (ts.length, 4) by rw [chkV, if_neg h1, if_pos h2])
    have h1i : ¬ ((vs.length : Int) < ts.length) := by omega
    have h2i : (ts.length : Int) < vs.length := by omega
    rw [HR.out]
    clear hAV hAI hV hI hE h1 h2
    go_enter Tryd.func19, Tryd.ntmps19
    go_wp2_with fail
    go_ret2
    exact ⟨rfl, (Kept.refl _).alloc _⟩
  have hlen : ts.length = vs.length := by omega
  have HR := Lib.hid (show chkV ms ts vs = chkF ms 0 (ts.drop 0) (vs.drop 0) by rw [chkV, if_neg h1, if_neg h2]; rfl)
  obtain ⟨n, hn⟩ : ∃ n, n = vs.length := ⟨_, rfl⟩
  rw [hlen, ← hn] at hAI
  rw [← hn] at hAV hl
  rw [hlen, ← hn]
  have HN := Lib.hid hn
  have HNT := Lib.hid (hn.trans hlen.symm)
  clear hV hI hE h1 h2 hlen hn
  go_enter Tryd.func19, Tryd.ntmps19
  go_wp2_with fail
  have hBx := Blk.new w 26 #[.slice AE ms.length ce, .slice At nt ct, .slice As ns cs]
  have hKx := (Kept.refl w).alloc (.cells #[.slice AE ms.length ce, .slice At nt ct, .slice As ns cs] 26)
  generalize w.alloc (.cells #[.slice AE ms.length ce, .slice At nt ct, .slice As ns cs] 26) = W at *
  go_loopw [8] (fun y wr => ∃ i : Nat, y = .int .i64 i ∧ i ≤ n ∧ Kept w wr ∧ Blk wr w.heap.size 26 #[.slice AE ms.length ce, .slice At nt ct, .slice As ns cs] ∧ chkF ms i (ts.drop i) (vs.drop i) = chkV ms ts vs) (fun y _ => n - (intOf y).toNat)
  case atStart => exact ⟨0, rfl, Nat.zero_le _, hKx, hBx, HR.out.symm⟩
  case round =>
    obtain ⟨i, rfl, hin, hK, hB, hrun⟩ := hrel
    clear hKx hBx
    by_cases hlt : i < n
    · obtain ⟨b1, o1, rfl, hb1, hc1⟩ := hAV (by omega)
      obtain ⟨b2, o2, rfl, hb2, hc2⟩ := hAI (by omega)
      have hg1 : vs[i]? = some (vs[i]'(by have := HN.out; omega)) := List.getElem?_eq_getElem _
      have hg2 : ts[i]? = some (ts[i]'(by have := HNT.out; omega)) := List.getElem?_eq_getElem _
      obtain ⟨x0, x1, x2⟩ := hc1 i _ hg1
      obtain ⟨y0, y1⟩ := hc2 i _ hg2
      rw [chkF_at hg2 hg1] at hrun
      generalize vs[i]'(by have := HN.out; omega) = V at *
      generalize ts[i]'(by have := HNT.out; omega) = T at *
      have hii : (i : Int) < n := by omega
      have b1r := Nat.lt_of_lt_of_le hb1 hK.size
      have b2r := Nat.lt_of_lt_of_le hb2 hK.size
      have X0 := KW.cell b1r (hK.cell (p := ⟨b1, _, none⟩) hb1 x0)
      have X1 := KW.cell b1r (hK.cell (p := ⟨b1, _, none⟩) hb1 x1)
      have X2 := KW.cell b1r (hK.cell (p := ⟨b1, _, none⟩) hb1 x2)
      have Y0 := KW.cell b2r (hK.cell (p := ⟨b2, _, none⟩) hb2 y0)
      have Y1 := KW.cell b2r (hK.cell (p := ⟨b2, _, none⟩) hb2 y1)
      clear x0 x1 x2 y0 y1 hc1 hc2 hg1 hg2 hAV hAI
      obtain ⟨vk, ve, vn⟩ := V
      obtain ⟨tk, te⟩ := T
      dsimp only at hrun X0 X1 X2 Y0 Y1
      have HTY := Lib.hid (fun w => rtype_any vk ve vn w)
      have HHB := Lib.hid (fun w2 (h : Kept wr w2) => hB.kept h)
      by_cases hkk : vk = tk ∧ ve = te
      · obtain ⟨rfl, rfl⟩ := hkk
        rw [if_pos ⟨rfl, rfl⟩] at hrun
        have HII := Lib.hid (HIN.out vn vk ve)
        generalize inB vn vk ve ms = q at *
        have HRUN := Lib.hid hrun
        clear hrun HIN hB
        go_wp2_with fail
        refine wp_region_kept (by kernel_rfl) (by kernel_rfl) ?_
        repeat (go_big_quiet_step (first | (go_at_call 35; exact KW.call (HTY.out _))))
        refine wpQuiet_nil ?_
        rintro w2 ⟨⟨wx, hx2⟩, hh⟩
        obtain rfl : w2 = wx := hh
        have hK2 := hK.trans hx2
        have hB2 := HHB.out w2 hx2
        have X0 := KW.cell (Nat.lt_of_lt_of_le b1r hx2.size) (X0 ⟨w2, hx2⟩)
        have X1 := KW.cell (Nat.lt_of_lt_of_le b1r hx2.size) (X1 ⟨w2, hx2⟩)
        have X2 := KW.cell (Nat.lt_of_lt_of_le b1r hx2.size) (X2 ⟨w2, hx2⟩)
        have Y0 := KW.cell (Nat.lt_of_lt_of_le b2r hx2.size) (Y0 ⟨w2, hx2⟩)
        have Y1 := KW.cell (Nat.lt_of_lt_of_le b2r hx2.size) (Y1 ⟨w2, hx2⟩)
        have C0 := KW.cell hB2.lt (hB2.cell 0)
        go_wp2_with fail
        refine wp_region_kept (by kernel_rfl) (by kernel_rfl) ?_
        repeat (go_big_quiet_step (first | (go_at_call 36; exact KW.call (HII.out _ (hK2.trans (KW.h _))))))
        refine wpQuiet_nil ?_
        rintro w3 ⟨⟨wx3, hx3⟩, hh⟩
        obtain rfl : w3 = wx3 := hh
        have HB3 := Lib.hid (hB2.kept hx3)
        clear hB2 C0 X0 X1 X2 Y0 Y1
        cases q
        · rw [if_neg (by decide)] at HRUN
          go_wp2_with fail
          go_ret2
          rw [← HRUN.out]
          exact ⟨rfl, hK2.trans hx3⟩
        · rw [if_pos rfl] at HRUN
          go_wp2_with fail
          go_roundw
          case rel => exact ⟨i + 1, rfl, hlt, hK2.trans hx3, HB3.out, HRUN.out⟩
          case measure => simp [intOf]; omega
      · rw [if_neg hkk] at hrun
        have HRUN := Lib.hid hrun
        by_cases hk1 : vk = tk
        · subst hk1
          have hne : (ve == te) = false := by simpa using fun e => hkk ⟨rfl, e⟩
          have hself : (vk == vk) = true := by simp
          clear hrun HIN hB hkk
          go_wp2_with fail
          refine wp_region_kept (by kernel_rfl) (by kernel_rfl) ?_
          repeat (go_big_quiet_step (first | (go_at_call 35; exact KW.call (HTY.out _))))
          refine wpQuiet_nil ?_
          rintro w2 ⟨⟨wx, hx2⟩, hh⟩
          obtain rfl : w2 = wx := hh
          go_wp2_with fail
          go_ret2
          rw [← HRUN.out]
          exact ⟨rfl, hK.trans hx2⟩
        · have hne : (vk == tk) = false := by simpa using hk1
          clear hrun HIN hB hkk hk1
          go_wp2_with fail
          refine wp_region_kept (by kernel_rfl) (by kernel_rfl) ?_
          repeat (go_big_quiet_step (first | (go_at_call 35; exact KW.call (HTY.out _))))
          refine wpQuiet_nil ?_
          rintro w2 ⟨⟨wx, hx2⟩, hh⟩
          obtain rfl : w2 = wx := hh
          go_wp2_with fail
          go_ret2
          rw [← HRUN.out]
          exact ⟨rfl, hK.trans hx2⟩
    · have hii : ¬ ((i : Int) < n) := by omega
      rw [chkF_end (by have := HN.out; omega)] at hrun
      have HRUN := Lib.hid hrun
      clear hrun hB
      go_wp2_with fail
      go_ret2
      rw [← HRUN.out]
      exact ⟨rfl, hK⟩

/-- where the inputs of the members lie, or there may be no member -/
def memAt (scs : List Sc) (a : Int) (I : List Ty × Nat) : Prop := I.2 = 0 ∨ ∃ q s2, a = (q : Nat) ∧ scs[q]? = some s2 ∧ I.1 = s2.ins
set_option maxRecDepth 100000 in
set_option maxHeartbeats 4000000 in
theorem rmembers_any (ev sv : Value) (At : Option Addr) (nt ct : Nat) (scs : List Sc) (sc : Nat) (w : World) (AE : Option Addr) (ne ce : Nat) (hev : ev = .slice AE ne ce) (hS : Scs w sv scs) (hsc : sc < scs.length) :
    Calls Tryd.prog 20 #[.agg #[ev, .slice At nt ct, sv], .int .i64 sc] w fun e w' => ∃ a : Int, e = .returned (.tuple #[.int .i64 a, .int .i64 (memI scs (scs[sc]?.getD ⟨0, []⟩)).2]) ∧ memAt scs a (memI scs (scs[sc]?.getD ⟨0, []⟩)) ∧ Kept w w' := by
  subst hev
  obtain ⟨AS, cs, rfl, hsl, hx⟩ := hS.at_
  obtain ⟨b, off, rfl, hb, hc⟩ := hx (by omega)
  have hg : scs[sc]? = some (scs[sc]'hsc) := List.getElem?_eq_getElem hsc
  rw [hg, Option.getD_some]
  obtain ⟨x1, _⟩ := hc sc _ hg
  have hK := (Kept.refl w).alloc (.cells #[.slice AE ne ce, .slice At nt ct, .slice (some ⟨b, off, none⟩) scs.length cs] 26)
  have X1 := hK.cell (p := ⟨b, _, none⟩) hb x1
  have hsi : (sc : Int) < scs.length := by omega
  generalize hss : scs[sc] = s at *
  have hK2 := Lib.hid hK
  by_cases hm : s.m < 0 ∨ (scs.length : Int) ≤ s.m
  · have HR := Lib.hid (show memI scs s = ([], 0) by rw [memI, if_pos hm])
    rw [HR.out]
    rcases (show s.m < 0 ∨ (¬ s.m < 0 ∧ (scs.length : Int) ≤ s.m) by omega) with h | ⟨h, h2⟩
    · clear hm hc hx x1 hK hS
      go_enter Tryd.func20, Tryd.ntmps20
      go_wp2_with fail
      go_ret2
      exact ⟨_, rfl, Or.inl rfl, hK2.out⟩
    · clear hm hc hx x1 hK hS
      go_enter Tryd.func20, Tryd.ntmps20
      go_wp2_with fail
      go_ret2
      exact ⟨_, rfl, Or.inl rfl, hK2.out⟩
  · obtain ⟨q, hq⟩ : ∃ q : Nat, s.m = q := ⟨s.m.toNat, by omega⟩
    have hqs : q < scs.length := by omega
    have hg2 : scs[q]? = some (scs[q]'hqs) := List.getElem?_eq_getElem hqs
    have HR := Lib.hid (show memI scs s = ((scs[q]'hqs).ins, 8) by rw [memI, if_neg hm, hq, Int.toNat_natCast, hg2]; rfl)
    rw [HR.out]
    have HG := Lib.hid hg2
    rw [hq] at X1
    have hqi : (q : Int) < scs.length := by omega
    have hqi2 : ¬ ((scs.length : Int) ≤ q) := by omega
    clear hm hc hx x1 hK hq hg hg2 hss hS
    go_enter Tryd.func20, Tryd.ntmps20
    go_wp2_with fail
    go_ret2
    exact ⟨_, rfl, Or.inr ⟨q, _, rfl, HG.out, rfl⟩, hK2.out⟩
set_option maxRecDepth 100000 in
set_option maxHeartbeats 8000000 in
theorem rvalidate_any (lv iv mv : Value) (ms : List (List ByteArray)) (scs : List Sc) (sc d : Int) (ins : List Vl) (mem : List (List Vl)) (w : World) (hL : LawM w lv ms scs) (hI : Vals w iv ins) (hil : ins.length ≤ 9223372036854775807) (hM : Mems w mv mem) :
    Calls Tryd.prog 10 #[lv, .int .i64 sc, .agg #[.int .i64 d, iv, mv]] w (valPost (valC ms scs sc d ins mem) w) := by
  unfold valPost
  obtain ⟨ev, At, nt, ct, sv, rfl, hE, hS⟩ := hL
  obtain ⟨AE, ce, rfl, _, _⟩ := id hE
  obtain ⟨AS, cs, rfl, hsl, hx⟩ := hS.at_
  obtain ⟨AI, ci, rfl, _⟩ := id hI
  obtain ⟨AM, cm, rfl, hml, hmx⟩ := hM.at_
  have K0 := Lib.hid (((Kept.refl w).alloc (.cells #[.slice AE ms.length ce, .slice At nt ct, .slice AS scs.length cs] 26)).alloc (.cells #[.int .i64 d, .slice AI ins.length ci, .slice AM mem.length cm] 30))
  by_cases h1 : sc < 0
  · have HR := Lib.hid (show valC ms scs sc d ins mem = (-1, -1, 6) by rw [valC, if_pos (.inl h1)])
    rw [HR.out]
    clear hE hS hI hM hx hmx
    go_enter Tryd.func10, Tryd.ntmps10
    go_wp2_with fail
    go_ret3
    exact ⟨rfl, K0.out⟩
  by_cases h2 : (scs.length : Int) ≤ sc
  · have HR := Lib.hid (show valC ms scs sc d ins mem = (-1, -1, 6) by rw [valC, if_pos (.inr h2)])
    rw [HR.out]
    clear hE hS hI hM hx hmx
    go_enter Tryd.func10, Tryd.ntmps10
    go_wp2_with fail
    go_ret3
    exact ⟨rfl, K0.out⟩
  have hvc : valC ms scs sc d ins mem = if d < 0 ∨ 109572 < d then (-1, -1, 3) else (if (chkV ms (scs[sc.toNat]?.getD ⟨0, []⟩).ins ins).2 = 0 then
      (if (memI scs (scs[sc.toNat]?.getD ⟨0, []⟩)).2 < mem.length then (((memI scs (scs[sc.toNat]?.getD ⟨0, []⟩)).2 : Int), -1, 4) else chkM ms (memI scs (scs[sc.toNat]?.getD ⟨0, []⟩)).1 0 mem)
    else (-1, ((chkV ms (scs[sc.toNat]?.getD ⟨0, []⟩).ins ins).1 : Int), (chkV ms (scs[sc.toNat]?.getD ⟨0, []⟩).ins ins).2)) := by
    rw [valC, if_neg (by omega)]
  obtain ⟨q, rfl⟩ : ∃ q : Nat, sc = q := ⟨sc.toNat, by omega⟩
  rw [Int.toNat_natCast] at hvc
  have hqs : q < scs.length := by omega
  obtain ⟨b, off, rfl, hb, hc⟩ := hx (by omega)
  have hg : scs[q]? = some (scs[q]'hqs) := List.getElem?_eq_getElem hqs
  obtain ⟨_, Ai, cI, x2, hF⟩ := hc q _ hg
  have HMI := Lib.hid (fun w1 (hk : Kept w w1) => rmembers_any (.slice AE ms.length ce) (.slice (some ⟨b, off, none⟩) scs.length cs) At nt ct scs q w1 AE ms.length ce rfl (hS.kept hk) hqs)
  rw [hg, Option.getD_some] at hvc HMI
  generalize scs[q] = s at *
  have hsi : (q : Int) < scs.length := by omega
  have hd3 : ¬ (d < 0 ∨ 109572 < d) ∨ (d < 0 ∨ 109572 < d) := by omega
  rcases hd3 with hd | hd
  · rw [if_neg hd] at hvc
    have hd1 : ¬ d < 0 := by omega
    have hd2 : ¬ 109572 < d := by omega
    have HVC := Lib.hid hvc
    have HE := Lib.hid hE
    have HI := Lib.hid hI
    have HF := Lib.hid hF
    have HM := Lib.hid hmx
    have HSC := Lib.hid hc
    clear hvc hE hS hI hM hc hmx hd hg h1 h2 hF hx
    go_enter Tryd.func10, Tryd.ntmps10
    go_wp2_with fail
    have B1 := (Blk.new w 26 #[.slice AE ms.length ce, .slice At nt ct, .slice (some ⟨b, off, none⟩) scs.length cs]).alloc (.cells #[.int .i64 d, .slice AI ins.length ci, .slice AM mem.length cm] 30)
    have B2 := Blk.new (w.alloc (.cells #[.slice AE ms.length ce, .slice At nt ct, .slice (some ⟨b, off, none⟩) scs.length cs] 26)) 30 #[.int .i64 d, .slice AI ins.length ci, .slice AM mem.length cm]
    rw [World.size_alloc] at B2
    have X2 := K0.out.cell (p := ⟨b, _, none⟩) hb x2
    generalize (w.alloc (.cells #[.slice AE ms.length ce, .slice At nt ct, .slice (some ⟨b, off, none⟩) scs.length cs] 26)).alloc (.cells #[.int .i64 d, .slice AI ins.length ci, .slice AM mem.length cm] 30) = W at *
    have hbW := Nat.lt_of_lt_of_le hb K0.out.size
    have HCK := Lib.hid (fun w1 (hk : Kept w w1) => rinputs_any (.slice AE ms.length ce) At (some ⟨b, off, none⟩) nt ct scs.length cs _ _ ms s.ins ins w1 (HE.out.kept hk) (HI.out.kept hk) (HF.out.kept hk) hil)
    unfold ckPost at HCK
    have a0 := KW.cell B1.lt (B1.cell 0)
    have a1 := KW.cell B1.lt (B1.cell 1)
    have a2 := KW.cell B1.lt (B1.cell 2)
    have c0 := KW.cell B2.lt (B2.cell 0)
    have c1 := KW.cell B2.lt (B2.cell 1)
    have c2 := KW.cell B2.lt (B2.cell 2)
    have e0 := KW.cell hbW X2
    refine wp_region_kept (by kernel_rfl) (by kernel_rfl) ?_
    repeat (go_big_quiet_step (first | (go_at_call 19; exact KW.call (HCK.out _ (K0.out.trans (KW.h _))))))
    refine wpQuiet_nil ?_
    rintro w2 ⟨⟨wx, hx2⟩, hh⟩
    obtain rfl : w2 = wx := hh
    have K2 := K0.out.trans hx2
    have D1 := B1.kept hx2
    have D2 := B2.kept hx2
    clear a0 a1 a2 c0 c1 c2 e0 X2 B1 B2 hx2
    have HKK := Lib.hid K2
    have HD1 := Lib.hid D1
    have HD2 := Lib.hid D2
    have d0 := D1.cell 0
    have d1 := D1.cell 1
    have d2 := D1.cell 2
    have dl := D1.lt
    have g2 := D2.cell 2
    have gl := D2.lt
    generalize chkV ms s.ins ins = R at *
    obtain ⟨c1, cc⟩ := R
    dsimp only at HVC ⊢
    clear HCK HF HI K2 D1 D2
    by_cases hcc : cc = 0
    · subst hcc
      rw [if_pos rfl] at HVC
      have HMI2 := Lib.hid (HMI.out w2 HKK.out)
      clear HMI
      generalize memI scs s = I at *
      obtain ⟨its, lim⟩ := I
      dsimp only at HVC HMI2
      by_cases hlim : lim < mem.length
      · rw [if_pos hlim] at HVC
        have hli : (lim : Int) < mem.length := by omega
        clear HM HE
        go_wp2_with (go_at_call 20; refine HMI2.out.mono ?_; rintro e w3 ⟨jv, rfl, hF3, k3⟩; have g2 := (HD2.out.kept k3).cell 2; have gl := (HD2.out.kept k3).lt)
        go_ret3
        rw [HVC.out]
        exact ⟨rfl, HKK.out.trans k3⟩
      · rw [if_neg hlim] at HVC
        have hli : ¬ ((lim : Int) < mem.length) := by omega
        go_wp2_with (go_at_call 20; refine HMI2.out.mono ?_; rintro e w3 ⟨jv, rfl, hF3, k3⟩; have g2 := (HD2.out.kept k3).cell 2; have gl := (HD2.out.kept k3).lt)
        have K3 := HKK.out.trans k3
        have D3 := HD1.out.kept k3
        have D4 := HD2.out.kept k3
        obtain ⟨n, hn⟩ : ∃ n, n = mem.length := ⟨_, rfl⟩
        rw [← hn] at HM hml hlim D4 ⊢
        have HN := Lib.hid hn
        have HF3 := Lib.hid hF3
        clear hn d0 d1 d2 dl g2 gl HD1 HD2 HMI2 hli hF3
        go_loopw [13] (fun y wr => ∃ i : Nat, y = .int .i64 i ∧ i ≤ n ∧ Kept w3 wr ∧ chkM ms its i (mem.drop i) = chkM ms its 0 mem) (fun y _ => n - (intOf y).toNat)
        case atStart => exact ⟨0, rfl, Nat.zero_le _, Kept.refl _, rfl⟩
        case round =>
          obtain ⟨i, rfl, hin, hK, hrun⟩ := hrel
          have g2 := (D4.kept hK).cell 2
          have gl := (D4.kept hK).lt
          by_cases hlt : i < n
          · obtain ⟨bm, om, rfl, hbm, hcm⟩ := HM.out (by omega)
            have hgm : mem[i]? = some (mem[i]'(by have := HN.out; omega)) := List.getElem?_eq_getElem _
            rw [chkM_at hgm] at hrun
            obtain ⟨hll, Al, cl, y0, hVl⟩ := hcm i _ hgm
            generalize mem[i]'(by have := HN.out; omega) = l at *
            have hKw := K3.trans hK
            have Y0 := hKw.cell (p := ⟨bm, _, none⟩) hbm y0
            obtain ⟨q2, s2, rfl, hs2, his⟩ : ∃ q s2, jv = (q : Nat) ∧ scs[q]? = some s2 ∧ its = s2.ins := by
              rcases HF3.out with h | h
              · omega
              · exact h
            have hq2 := (List.getElem?_eq_some_iff.1 hs2).1
            obtain ⟨_, Ak, ck, z2, hFk⟩ := HSC.out q2 _ hs2
            have Z2 := hKw.cell (p := ⟨b, _, none⟩) hb z2
            rw [← his] at Z2 hFk
            have HCK := Lib.hid (fun w1 (hk : Kept w w1) => rinputs_any (.slice AE ms.length ce) At (some ⟨b, off, none⟩) nt ct scs.length cs _ _ ms its l w1 (HE.out.kept hk) (hVl.kept hk) (hFk.kept hk) hll)
            unfold ckPost at HCK
            have hii : (i : Int) < n := by omega
            have hqi : (q2 : Int) < scs.length := by omega
            generalize chkV ms its l = R at *
            obtain ⟨q1, q2'⟩ := R
            dsimp only at hrun HCK
            have a0 := KW.cell (D3.kept hK).lt ((D3.kept hK).cell 0)
            have a1 := KW.cell (D3.kept hK).lt ((D3.kept hK).cell 1)
            have a2 := KW.cell (D3.kept hK).lt ((D3.kept hK).cell 2)
            have b2 := KW.cell (D4.kept hK).lt ((D4.kept hK).cell 2)
            have e0 := KW.cell (Nat.lt_of_lt_of_le hbm hKw.size) Y0
            have e1 := KW.cell (Nat.lt_of_lt_of_le hb hKw.size) Z2
            have HKW := Lib.hid hKw
            clear hcm y0 hVl hgm hll z2 hFk hs2 his Y0 Z2 hKw hq2
            go_wp2_with fail
            refine wp_region_kept (by kernel_rfl) (by kernel_rfl) ?_
            repeat (go_big_quiet_step (first | (go_at_call 19; exact KW.call (HCK.out _ (HKW.out.trans (KW.h _))))))
            refine wpQuiet_nil ?_
            rintro w5 ⟨⟨wx5, k5⟩, hh⟩
            obtain rfl : w5 = wx5 := hh
            clear a0 a1 a2 b2 e0 e1
            by_cases hq : q2' = 0
            · subst hq
              rw [if_pos rfl] at hrun
              have HRUN := Lib.hid hrun
              clear hrun
              go_wp2_with fail
              go_roundw
              case rel => exact ⟨i + 1, rfl, hlt, hK.trans k5, HRUN.out⟩
              case measure => simp [intOf]; omega
            · rw [if_neg hq] at hrun
              have hqb := bne_noC hq
              have HRUN := Lib.hid hrun
              clear hrun hq
              go_wp2_with fail
              go_ret3
              rw [HVC.out, ← HRUN.out]
              exact ⟨rfl, HKW.out.trans k5⟩
          · have hii : ¬ ((i : Int) < n) := by omega
            rw [chkM_end (by have := HN.out; omega)] at hrun
            have HRUN := Lib.hid hrun
            clear hrun
            go_wp2_with fail
            go_ret3
            rw [HVC.out, ← HRUN.out]
            exact ⟨rfl, K3.trans hK⟩
    · rw [if_neg hcc] at HVC
      have hqb := bne_noC hcc
      clear hcc HMI HM HE
      go_wp2_with fail
      go_ret3
      rw [HVC.out]
      exact ⟨rfl, HKK.out⟩
  · rw [if_pos hd] at hvc
    have HVC := Lib.hid hvc
    rcases (show d < 0 ∨ (¬ d < 0 ∧ 109572 < d) by omega) with h | ⟨h, h2'⟩
    all_goals
      clear hE hS hI hM hc hmx hd HMI hvc h1 h2 hF hx hg
      go_enter Tryd.func10, Tryd.ntmps10
      go_wp2_with fail
      go_ret3
      rw [HVC.out]
      exact ⟨rfl, K0.out⟩
end Go.Proofs.YtemejaomfbhldaaDoor
/- The walks of the laws CasedataValidate and CasedataCanonical. -/
namespace Go.Proofs.YtemejaomfbhldaaDoor
open Go.RowKit

theorem LawM.form {w : World} {v : Value} {ms : List (List ByteArray)} {scs : List Sc} (h : LawM w v ms scs) : ∃ AE ce At nt ct AS cs, v = .agg #[.slice AE ms.length ce, .slice At nt ct, .slice AS scs.length cs] := by
  obtain ⟨ev, At, nt, ct, sv, rfl, hE, hS⟩ := h
  obtain ⟨AE, ce, rfl, _⟩ := hE
  obtain ⟨AS, cs, rfl, _⟩ := hS
  exact ⟨AE, ce, At, nt, ct, AS, cs, rfl⟩
theorem Mems.form {w : World} {v : Value} {mem : List (List Vl)} (h : Mems w v mem) : ∃ A c, v = .slice A mem.length c := by
  obtain ⟨A, c, hv, _⟩ := h
  exact ⟨A, c, hv⟩
theorem wordsV_len (ms : List (List ByteArray)) : ∀ vs : List Vl, vs.length ≤ (wordsV ms vs).length
  | [] => Nat.le_refl _
  | v :: vs => by
    have := wordsV_len ms vs
    unfold wordsV at this ⊢
    rw [List.flatMap_cons, List.length_append, List.length_cons, List.length_cons]
    omega
theorem ins_le (ms : List (List ByteArray)) (d : Int) (ins : List Vl) (mem : List (List Vl)) : ins.length ≤ (textL (caseT ms d ins mem)).length := by
  have h1 := txtI_le ms d ins mem 0
  rw [txtI_zero, lineV_eq] at h1
  simp only [List.length_append] at h1
  have h2 := wordsV_len ms ins
  omega
theorem parCs_err {ms : List (List ByteArray)} {scs : List Sc} {sc : Int} {s : ByteArray} (h : (parCs ms scs sc s).2.2 ≠ 0) : (parCs ms scs sc s).1 = cs0 := by
  unfold parCs at h ⊢
  split
  · rfl
  · rename_i h1
    rw [if_neg h1] at h
    split
    · rfl
    · rename_i h2
      rw [if_neg h2] at h
      generalize (linR s).1.map L = ls at *
      match ls, h with
      | [], _ => rfl
      | l0 :: r, h =>
        dsimp only at h ⊢
        split
        · rfl
        · rename_i h3
          rw [if_neg h3] at h
          split
          · rfl
          · rename_i h4
            rw [if_neg h4] at h
            match r, h with
            | [], _ => rfl
            | l1 :: r, h =>
              dsimp only at h ⊢
              split
              · rfl
              · rename_i h5
                rw [if_neg h5] at h
                split
                · rfl
                · rename_i h6
                  rw [if_neg h6] at h
                  exact absurd rfl h
set_option maxRecDepth 100000 in
set_option maxHeartbeats 8000000 in
theorem lawCdValidate (lv iv mv : Value) (ms : List (List ByteArray)) (scs : List Sc) (sc d : Int) (ins : List Vl) (mem : List (List Vl)) (w : World) (hL : LawM w lv ms scs) (hR : LawR w lv) (hI : Vals w iv ins) (hil : ins.length ≤ 9223372036854775807) (hM : Mems w mv mem)
    (hMo : Mon w) (hP : Pow w) (hX : MaxV w) : Calls Tryd.prog 3 #[lv, .int .i64 sc, .agg #[.int .i64 d, iv, mv]] w (LawPost w) := by
  unfold LawPost
  have HS := Lib.hid (fun w1 (h : Kept w w1) => smallLaw_any lv ms scs w1 (hL.kept h) (hR.kept h))
  have HC := Lib.hid (fun w1 (h : Kept w w1) => smallCase_any d iv mv ins mem w1 (hI.kept h) (hM.kept h))
  have HV := Lib.hid (fun w1 (h : Kept w w1) => validate_any lv iv mv ms scs sc d ins mem w1 (hL.kept h) (hI.kept h) hil (hM.kept h))
  have HRV := Lib.hid (fun w1 (h : Kept w w1) => rvalidate_any lv iv mv ms scs sc d ins mem w1 (hL.kept h) (hI.kept h) hil (hM.kept h))
  have HA := Lib.hid (fun w1 (h : Kept w w1) => awake19_any w1 (hMo.kept h) (hP.kept h) (hX.kept h))
  unfold SmallB at HS HC
  unfold valPost at HV HRV
  obtain ⟨AE, ce, At, nt, ct, AS, cs, rfl⟩ := hL.form
  obtain ⟨AI, ci, rfl⟩ := hI.form
  obtain ⟨AM, cm, rfl⟩ := hM.form
  generalize valC ms scs sc d ins mem = R at *
  obtain ⟨v0, v1, vc⟩ := R
  dsimp only at HV HRV
  have K0 := Lib.hid (((Kept.refl w).alloc (.cells #[.slice AE ms.length ce, .slice At nt ct, .slice AS scs.length cs] 26)).alloc (.cells #[.int .i64 d, .slice AI ins.length ci, .slice AM mem.length cm] 30))
  clear hL hR hI hil hM hMo hP hX
  go_enter Tryd.func3, Tryd.ntmps3
  go_wp2_with fail
  refine (HS.out _ K0.out).mono ?_
  rintro r w1 ⟨b, rfl, k1, _⟩
  have K1 := K0.out.trans k1
  obtain ⟨B1, B2⟩ := k1.blk2
  cases b
  · go_wp2_with (go_at_call 8; refine (HA.out _ K1).mono ?_; rintro r w' ⟨rfl, hk⟩)
    go_ret
    exact ⟨rfl, K1.trans hk⟩
  · have b20 := B2.cell 0
    have b21 := B2.cell 1
    have b22 := B2.cell 2
    have b2l := B2.lt
    go_wp2_with fail
    refine (HC.out _ K1).mono ?_
    rintro r w2 ⟨b, rfl, k2, _⟩
    have K2 := K1.trans k2
    have C1 := B1.kept k2
    have C2 := B2.kept k2
    clear b20 b21 b22 b2l B1 B2 k1
    cases b
    · go_wp2_with (go_at_call 8; refine (HA.out _ K2).mono ?_; rintro r w' ⟨rfl, hk⟩)
      go_ret
      exact ⟨rfl, K2.trans hk⟩
    · have b10 := C1.cell 0
      have b11 := C1.cell 1
      have b12 := C1.cell 2
      have b1l := C1.lt
      have b20 := C2.cell 0
      have b21 := C2.cell 1
      have b22 := C2.cell 2
      have b2l := C2.lt
      have hs0 : (v0 == v0) = true := by simp
      have hs1 : (v1 == v1) = true := by simp
      have hsc : (vc == vc) = true := by simp
      go_wp2_with (first
        | (go_at_call 9; refine (HV.out _ K2).mono ?_; rintro r w3 ⟨rfl, k3⟩; have K3 := K2.trans k3; have D1 := C1.kept k3; have D2 := C2.kept k3; have d10 := D1.cell 0; have d11 := D1.cell 1; have d12 := D1.cell 2; have d1l := D1.lt; have d20 := D2.cell 0; have d21 := D2.cell 1; have d22 := D2.cell 2; have d2l := D2.lt)
        | (go_at_call 10; refine (HRV.out _ K3).mono ?_; rintro r w4 ⟨rfl, k4⟩; have K4 := K3.trans k4)
        | (go_at_call 8; refine (HA.out _ K4).mono ?_; rintro r w' ⟨rfl, hk⟩))
      go_ret
      exact ⟨rfl, K4.trans hk⟩
set_option maxRecDepth 100000 in
set_option maxHeartbeats 8000000 in
theorem lawCdCanonical (lv : Value) (ms : List (List ByteArray)) (scs : List Sc) (sc : Int) (s : ByteArray) (w : World) (hL : LawM w lv ms scs) (hR : LawR w lv)
    (hMo : Mon w) (hP : Pow w) (hX : MaxV w) : Calls Tryd.prog 4 #[lv, .int .i64 sc, .string s] w (LawPost w) := by
  unfold LawPost
  have HS := Lib.hid (fun w1 (h : Kept w w1) => smallLaw_any lv ms scs w1 (hL.kept h) (hR.kept h))
  have HA := Lib.hid (fun w1 (h : Kept w w1) => awake19_any w1 (hMo.kept h) (hP.kept h) (hX.kept h))
  unfold SmallB at HS
  obtain ⟨AE, ce, At, nt, ct, AS, cs, rfl⟩ := hL.form
  have K0 := Lib.hid ((Kept.refl w).alloc (.cells #[.slice AE ms.length ce, .slice At nt ct, .slice AS scs.length cs] 26))
  by_cases hs : 2000 < s.size
  · have hsi : 2000 < (s.size : Int) := by omega
    clear hL hR hMo hP hX
    go_enter Tryd.func4, Tryd.ntmps4
    go_wp2_with fail
    refine (HS.out _ K0.out).mono ?_
    rintro r w1 ⟨b, rfl, k1, _⟩
    have K1 := K0.out.trans k1
    cases b
    all_goals
      go_wp2_with (go_at_call 8; refine (HA.out _ K1).mono ?_; rintro r w' ⟨rfl, hk⟩)
      go_ret
      exact ⟨rfl, K1.trans hk⟩
  have hsi : ¬ 2000 < (s.size : Int) := by omega
  have HPA := Lib.hid (fun w1 (h : Kept w w1) => cparse_any _ ms scs sc s w1 (hL.kept h) (by omega) (hX.kept h) (hMo.kept h))
  have HCN := Lib.hid (fun h => cs_canon (ms := ms) (scs := scs) (sc := sc) (s := s) h)
  have HC0 := Lib.hid (fun h => parCs_err (ms := ms) (scs := scs) (sc := sc) (s := s) h)
  have HL := Lib.hid hL
  have HMO := Lib.hid hMo
  have HPP := Lib.hid hP
  unfold csPost at HPA
  generalize parCs ms scs sc s = R at *
  obtain ⟨⟨d, ins, mem⟩, i, ec⟩ := R
  dsimp only at HPA HCN HC0
  clear hL hR hMo hP hX hs
  go_enter Tryd.func4, Tryd.ntmps4
  go_wp2_with fail
  refine (HS.out _ K0.out).mono ?_
  rintro r w1 ⟨b, rfl, k1, _⟩
  have K1 := K0.out.trans k1
  have B1 := k1.blk1
  cases b
  · go_wp2_with (go_at_call 8; refine (HA.out _ K1).mono ?_; rintro r w' ⟨rfl, hk⟩)
    go_ret
    exact ⟨rfl, K1.trans hk⟩
  · have b10 := B1.cell 0
    have b11 := B1.cell 1
    have b12 := B1.cell 2
    have b1l := B1.lt
    go_wp2_with fail
    refine (HPA.out _ K1).mono ?_
    rintro r w2 ⟨iv, mv, rfl, hI, hM, k2⟩
    obtain ⟨AI, ci, rfl⟩ := Vals.form hI
    obtain ⟨AM, cm, rfl⟩ := hM.form
    have K2 := K1.trans k2
    have C1 := B1.kept k2
    clear b10 b11 b12 b1l B1 k1 k2
    have b10 := C1.cell 0
    have b11 := C1.cell 1
    have b12 := C1.cell 2
    have b1l := C1.lt
    by_cases hec : ec = 0
    · subst hec
      obtain ⟨hv, ht⟩ := HCN.out rfl
      have htl : (textL (caseT ms d ins mem)).length ≤ 2000 := by rw [← bs_size, ht]; omega
      have hil := Nat.le_trans (ins_le ms d ins mem) htl
      have hf : fmtCs ms scs sc d ins mem = (s, 0) := by rw [fmtCs, hv, if_pos rfl, ht]
      have HFM := Lib.hid (fun w1 (h : Kept w2 w1) => cformat_any _ _ _ ms scs sc d ins mem w1 (HL.out.kept (K2.trans h)) (hI.kept h) (by omega) (hM.kept h) (fun _ => by omega) (HMO.out.kept (K2.trans h)) (HPP.out.kept (K2.trans h)))
      have HVA := Lib.hid (fun w1 (h : Kept w2 w1) => validate_any _ _ _ ms scs sc d ins mem w1 (HL.out.kept (K2.trans h)) (hI.kept h) (by omega) (hM.kept h))
      unfold cfPost at HFM
      unfold valPost at HVA
      rw [hf] at HFM
      rw [hv] at HVA
      have k3 := (Kept.refl w2).alloc (.cells #[.int .i64 d, .slice AI ins.length ci, .slice AM mem.length cm] 30)
      have C2 := Blk.new w2 30 #[.int .i64 d, .slice AI ins.length ci, .slice AM mem.length cm]
      have C1 := C1.alloc (.cells #[.int .i64 d, .slice AI ins.length ci, .slice AM mem.length cm] 30)
      have hself : (s.toList == s.toList) = true := by simp
      have K2 := Lib.hid K2
      clear hv ht htl hil hf HC0 HCN hI hM HPA HS
      go_wp2_with (first
        | (go_at_call 13; refine (HFM.out _ k3).mono ?_; rintro r w3 ⟨rfl, k4⟩; have K3 := k3.trans k4; have D1 := C1.kept k4; have D2 := C2.kept k4; have d10 := D1.cell 0; have d11 := D1.cell 1; have d12 := D1.cell 2; have d1l := D1.lt; have d20 := D2.cell 0; have d21 := D2.cell 1; have d22 := D2.cell 2; have d2l := D2.lt)
        | (go_at_call 9; refine (HVA.out _ K3).mono ?_; rintro r w4 ⟨rfl, k5⟩; have K4 := K3.trans k5)
        | (go_at_call 8; refine (HA.out _ (K2.out.trans K4)).mono ?_; rintro r w' ⟨rfl, hk⟩))
      go_ret
      exact ⟨rfl, (K2.out.trans K4).trans hk⟩
    · obtain ⟨h0, h1, h2⟩ : d = 0 ∧ ins = [] ∧ mem = [] := by have := HC0.out hec; simpa [cs0] using this
      subst h0 h1 h2
      have hi : (0 : Int) ≤ (i : Nat) := by omega
      have hne := bne_noC hec
      have k3 := (Kept.refl w2).alloc (.cells #[.int .i64 0, .slice AI ([] : List Vl).length ci, .slice AM ([] : List (List Vl)).length cm] 30)
      have HSC := Lib.hid (fun w1 (h : Kept w2 w1) => sameCase_any 0 0 _ _ (.slice none 0 0) (.slice none 0 0) [] [] [] [] w1 (hI.kept h) (hM.kept h) (Recs.nil _ _ _) (Mems.nil _) (by decide) (by decide))
      unfold smPost at HSC
      rw [csB_self] at HSC
      have K2 := Lib.hid K2
      clear HC0 HCN hI hM HPA HS hec
      go_wp2_with (first
        | (go_at_call 12; refine (HSC.out _ k3).mono ?_; rintro r w3 ⟨rfl, k4⟩; have K3 := k3.trans k4)
        | (go_at_call 8; refine (HA.out _ (K2.out.trans K3)).mono ?_; rintro r w' ⟨rfl, hk⟩))
      go_ret
      exact ⟨rfl, (K2.out.trans K3).trans hk⟩
end Go.Proofs.YtemejaomfbhldaaDoor
/- What the rows of the chapter on cases say of the listed tables. -/
namespace Go.Proofs.YtemejaomfbhldaaDoor
open Go.ChangeShapes Go.WideShapes Go.ChangeAt Go.RowKit Go.Joins

theorem env19 {W : World} (h : laidMetH Tryd.prog Rows.casedataValidateRow.laid W) : Mon W ∧ Pow W := by
  have h0 : laidMet Tryd.prog Rows.casedataValidateRow.laid W := h
  have h3 := h0.tail.tail
  have h5 := h3.tail.tail
  have t3 : Lib.TabIs Tryd.prog W "internal/strconv.uint64pow10" .u64 Lib.pow10Tab :=
    Lib.tabIs_of_head (g := 4) (t := 154) (e := 137) (n := 20) (by kernel_rfl) (by kernel_rfl) (by kernel_rfl) (by kernel_rfl) (by kernel_rfl) (by kernel_rfl) h3
  have t5 : Lib.TabIs Tryd.prog W "guerdon/date.monthLengths" .i64 mlens :=
    Lib.tabIs_of_head (g := 0) (t := 121) (e := 3) (n := 12) (by kernel_rfl) (by kernel_rfl) (by kernel_rfl) (by kernel_rfl) (by kernel_rfl) (by kernel_rfl) h5
  refine ⟨fun i hi => ?_, t3⟩
  exact t5.cell (g := 0) (by kernel_rfl) i hi
theorem envMax19 {W : World} (h : W.ShapedOpen Tryd.prog) : MaxV W :=
  cell_of_shapedOpen_int (g := 1) (t := 3) (zero := #[.int .i64 0]) h (of_decide_eq_true (by kernel_rfl)) (by kernel_rfl) rfl (by kernel_rfl) (by kernel_rfl) (by kernel_rfl)
end Go.Proofs.YtemejaomfbhldaaDoor
