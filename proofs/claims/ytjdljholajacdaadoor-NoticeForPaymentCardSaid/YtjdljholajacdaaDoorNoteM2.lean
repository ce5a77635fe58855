/- A region that draws its order: a head of operations that read or call functions which leave old memory alone, in whatever order, and a tail in one forced order that may make memory. -/
import Derived.Test.YtjdljholajacdaaDoorBase
import Derived.StillTail
import Derived.Test.YtjdljholajacdaaDoorRecs
import Derived.Test.YtjdljholajacdaaDoorNumMath
import Derived.Test.YtjdljholajacdaaDoorBlks
import Derived.Test.YtjdljholajacdaaDoorMonthText
import Derived.Test.YtjdljholajacdaaDoorValLaw
import Derived.Test.YtjdljholajacdaaDoorFieldsMath
import Derived.Lib.Split
import Derived.Lib.SplitLaws
import Derived.Lib.IndexLaws
import Derived.Lib.IndexBytes
import Derived.Lib.Join
import Derived.Test.YtjdljholajacdaaDoorMonthF
import Derived.Test.YtjdljholajacdaaDoorLaw01A
import Derived.Test.YtjdljholajacdaaDoorFrame
import Derived.Test.YtjdljholajacdaaDoorOpenStruct
import Derived.Test.YtjdljholajacdaaDoorFrameL
import Derived.Deep.Slices
import Derived.Deep.Fields
import Derived.ChangeSame
import Derived.Stop.LaidErr
import Derived.Shelf.Vars
namespace Go.Proofs.YtjdljholajacdaaDoor
open Go.RowKit

section
variable {P : Program} {ops : Array Oper} {md : Region.Mode} {C : World → Prop}
def wpAnyLQ (P : Program) (md : Region.Mode) (ops : Array Oper) (C : World → Prop) (n : Nat) (T : Array Bool → Act → Prop) : Nat → Array Bool → Act → Prop
  | 0, listed, a => T listed a
  | f + 1, listed, a => Region.ready md ops listed ≠ [] ∧ ∀ i ∈ Region.ready md ops listed, i < n ∧ qOp P ops C i (wpAnyLQ P md ops C n T f (listed.setIfInBounds i true)) a
theorem wpAny_of_headQ {n g : Nat} {T : Array Bool → Act → Prop} {Q' : Exit → Act → World → Prop} (hT : ∀ listed a w, C w → T listed a → wpAny P md ops Q' g listed a w) :
    ∀ (f : Nat) (listed : Array Bool) (a : Act) (w : World), C w → wpAnyLQ P md ops C n T f listed a → wpAny P md ops Q' (f + g) listed a w
  | 0, listed, a, w, hw, h => by rw [Nat.zero_add]; exact hT _ _ _ hw h
  | f + 1, listed, a, w, hw, h => by
    rw [show f + 1 + g = (f + g) + 1 by omega]
    exact ⟨fun h0 => absurd h0 h.1, fun i hi => wpOp_of_qOp hw (fun a' w' hw' h' => wpAny_of_headQ hT f _ a' w' hw' h') (h.2 i hi).2⟩
theorem wpAnyLQ_first {n i : Nat} {oi : Oper} {v : Value} {T : Array Bool → Act → Prop} (hi : ops[i]? = some oi) (hsel : ∀ (j : Nat) (o : Oper) cs b, ops[j]? = some o → o.op ≠ .select cs b)
    (hs : Region.sinkB md ops n = true) (hc : Region.chainB md ops n = true) (hn : n < ops.size) (hin : i < n) (hdone : ∀ listed a, T listed a → ∀ j ∈ Region.ready md ops listed, n ≤ j) :
    ∀ (f : Nat) (listed : Array Bool) (a : Act), HeadInv md ops n listed →
      (∀ j oj, ops[j]? = some oj → j ≠ i → listed.getD j true = false → (∀ e ∈ oj.after, Region.binds md e = true → e.on ≠ i) → oi.apart ops oj = true) →
      i ∈ Region.ready md ops listed → YieldsIn P ops C oi v a →
      wpAnyLQ P md ops C n T f (listed.setIfInBounds i true) (a.put oi.dst v) → wpAnyLQ P md ops C n T (f + 1) listed a := by
  intro f
  induction f with
  | zero =>
    intro listed a inv _ hr hy H
    have hun := (mem_ready.1 hr).1
    refine ⟨fun h => (by rw [h] at hr; cases hr), fun j hj => ?_⟩
    have hjn : j < n := by
      rcases Nat.lt_or_ge j n with h | h
      · exact h
      · exact absurd hj (tail_waits hs hc hn inv _ i rfl hin hun j h)
    refine ⟨hjn, ?_⟩
    by_cases hji : j = i
    · subst hji; exact hy.qOp hi H
    · have := hdone _ _ H j (ready_mono hj hji)
      omega
  | succ f ih =>
    intro listed a inv hfree hr hy H
    have hun := (mem_ready.1 hr).1
    refine ⟨fun h => (by rw [h] at hr; cases hr), fun j hj => ?_⟩
    have hjn : j < n := by
      rcases Nat.lt_or_ge j n with h | h
      · exact h
      · exact absurd hj (tail_waits hs hc hn inv _ i rfl hin hun j h)
    refine ⟨hjn, ?_⟩
    by_cases hji : j = i
    · subst hji; exact hy.qOp hi H
    · have h1 := (H.2 j (ready_mono hj hji)).2
      obtain ⟨hjun, oj, hoj, hall⟩ := mem_ready.1 hj
      have hnot : ∀ e ∈ oj.after, Region.binds md e = true → e.on ≠ i := fun e he hb heq => by
        have h1 := hall e he hb
        rw [heq, getD_both hun] at h1
        cases h1
      have h2 := qOp_put hoj (hfree j oj hoj hji hjun hnot) (fun cs b => hsel i oi cs b hi) (fun cs b => hsel j oj cs b hoj) hy h1
      have hfree' : ∀ k ok, ops[k]? = some ok → k ≠ i → (listed.setIfInBounds j true).getD k true = false →
          (∀ e ∈ ok.after, Region.binds md e = true → e.on ≠ i) → oi.apart ops ok = true := fun k ok hk hki hun hno => by
        refine hfree k ok hk hki ?_ hno
        by_cases hjk : j = k
        · subst hjk; exact hjun
        · rw [getD_set_ne true hjk] at hun; exact hun
      refine qOp_mono (fun a' h3 => ih (listed.setIfInBounds j true) a' (inv.set hj hjn) hfree' (ready_mono hr (Ne.symm hji)) h3.1 ?_) h2
      rw [Array.setIfInBounds_comm _ _ hji]
      exact h3.2
theorem wpAnyLQ_lex {n g : Nat} {Tq : Act → Prop} (hsel : Region.noSelect ops = true) (hs : Region.sinkB md ops n = true) (hc : Region.chainB md ops n = true) (hn : n < ops.size) :
    ∀ (l : List Oper) (k : Nat) (listed : Array Bool) (a : Act), (∀ j, j < l.length → l[j]? = ops[k + j]?) → k + l.length = n → HeadInv md ops n listed →
    Region.lexHead md ops g l.length k listed = true → wpQuiet P ops C Tq l a →
    wpAnyLQ P md ops C n (fun listed' a' => Region.seqB md ops g n listed' = true ∧ Tq a') l.length listed a
  | [], k, listed, a, _, hk, _, hB, h => by
    have : k = n := by simpa using hk
    subst this
    exact ⟨by simpa [Region.lexHead] using hB, h⟩
  | o :: l, k, listed, a, hl, hk, inv, hB, h => by
    have h0 : ops[k]? = some o := by simpa using (hl 0 (by simp)).symm
    simp only [List.length_cons, Region.lexHead, Bool.and_eq_true] at hB
    obtain ⟨⟨hr, hf⟩, hB'⟩ := hB
    have hkn : k < n := by simp only [List.length_cons] at hk; omega
    have hr' : k ∈ Region.ready md ops listed := by simpa using hr
    have hst : qOp P ops C k (wpQuiet P ops C Tq l) a := by unfold qOp; simp only [h0]; exact h
    obtain ⟨v, hy, hK⟩ := yieldsIn_of_qOp h0 hst
    exact wpAnyLQ_first h0 (Region.noSelect_spec hsel) hs hc hn hkn (fun listed' a' hL => seqB_ready hL.1) l.length listed a inv (Region.free_spec h0 hf) hr' hy
      (wpAnyLQ_lex hsel hs hc hn l (k + 1) _ _ (fun j hj => by have := hl (j + 1) (by simp; omega); simpa [Nat.add_assoc, Nat.add_comm 1 j] using this) (by simp only [List.length_cons] at hk; omega) (inv.set hr' hkn) hB' hK)
theorem wp_region_quiet_tail {id : Nat} {Q : Exit → Act → World → Prop} {a : Act} {w : World} {l : List Oper} (n : Nat) (hm : P.follows .mixedOrders = true) (hB : Region.lexTailB .any l.toArray n = true) (hC : C { w with drawn := w.drawn + 1 })
    (h : wpQuiet P l.toArray C (fun a' => ∀ w', C w' → wpList P l.toArray Q (l.drop n) a' w') (l.take n) a) : (Code.region id l.toArray true).wp P Q a w := by
  simp only [Region.lexTailB, Bool.and_eq_true, decide_eq_true_eq] at hB
  obtain ⟨⟨⟨⟨hsel, hn⟩, hs⟩, hc⟩, hlex⟩ := hB
  have hn' : n < l.length := by simpa using hn
  have htl : (l.take n).length = n := by simp; omega
  have hdl : (l.drop n).length = l.toArray.size - n := by simp
  have inv0 : HeadInv .any l.toArray n (Array.replicate l.toArray.size false) :=
    ⟨by simp, fun j oj _ hl => (by rw [getD_replicate_false] at hl; cases hl), fun t _ ht => getD_in (by simpa using ht) (getD_replicate_false _ _)⟩
  have H := wpAnyLQ_lex (md := .any) (g := l.toArray.size - n) hsel hs hc hn (l.take n) 0 _ a (fun j hj => by
    have hj' : j < n := by rw [htl] at hj; exact hj
    simp [hj']) (by simpa using htl) inv0 (by rw [htl]; exact hlex) h
  refine wp_region_any hm ?_
  have := wpAny_of_headQ (Q' := Q) (g := l.toArray.size - n) (fun listed a' w' hw' hL => by
    have := wpAny_of_seq (md := .any) (Q' := Q) (l.drop n) n listed a' w' (fun j => by simp [List.getElem?_drop]) (by rw [hdl]; exact hL.1) (hL.2 w' hw')
    rwa [hdl] at this) _ _ _ _ hC H
  rw [htl, show n + (l.toArray.size - n) = l.toArray.size by omega] at this
  exact this
end
theorem wp_region_kept_tail {P : Program} {id : Nat} {Q : Exit → Act → World → Prop} {a : Act} {w : World} {l : List Oper} (n : Nat) (hm : P.follows .mixedOrders = true) (hB : Region.lexTailB .any l.toArray n = true)
    (h : wpQuiet P l.toArray (fun w' => ∃ x : KW w, w' = x.W) (fun a' => ∀ w', (∃ x : KW w, w' = x.W) → wpList P l.toArray Q (l.drop n) a' w') (l.take n) a) : (Code.region id l.toArray true).wp P Q a w :=
  wp_region_quiet_tail (C := fun w' => ∃ x : KW w, w' = x.W) n hm hB ⟨⟨w.drew, (Kept.refl w).drew⟩, rfl⟩ h
end Go.Proofs.YtjdljholajacdaaDoor
/- Postings and notices: what the package and its reference compute, in plain Lean. -/
namespace Go.Proofs.YtjdljholajacdaaDoor
open Go.RowKit

structure Post where
  d : Int
  m : Int
  k : Int
  c : Int
def postF (p : Post) : List Value := [.int .i64 p.d, .int .i64 p.m, .int .i64 p.k, .int .i64 p.c]
theorem postF_len (p : Post) : (postF p).length = 4 := rfl
abbrev Posts (w : World) (v : Value) (xs : List Post) : Prop := Recs w postF 4 v xs
def cashStep (a : Int) (p : Post) : Int := if p.k = 1 then wrap64 (a + p.c) else if p.k = 2 then wrap64 (a - p.c) else a
def cashS (l : List Post) : Int := l.foldl cashStep 0
def sumStep (a : Int) (p : Post) : Int := if p.k = 1 then wrap64 (a + p.c) else a
def sumS (l : List Post) : Int := l.foldl sumStep 0
def kindB (k : Int) (l : List Post) : Bool := l.any fun p => p.k == k
theorem take_snocP {l : List Post} {i : Nat} {p : Post} (h : l[i]? = some p) : l.take (i + 1) = l.take i ++ [p] := by
  rw [List.take_add_one, h]; rfl
theorem cash_snoc {l : List Post} {i : Nat} {p : Post} (h : l[i]? = some p) : cashS (l.take (i + 1)) = cashStep (cashS (l.take i)) p := by
  rw [take_snocP h, cashS, List.foldl_append]; rfl
theorem sum_snoc {l : List Post} {i : Nat} {p : Post} (h : l[i]? = some p) : sumS (l.take (i + 1)) = sumStep (sumS (l.take i)) p := by
  rw [take_snocP h, sumS, List.foldl_append]; rfl
theorem kind_snoc {k : Int} {l : List Post} {i : Nat} {p : Post} (h : l[i]? = some p) : kindB k (l.take (i + 1)) = (kindB k (l.take i) || p.k == k) := by
  rw [take_snocP h, kindB, List.any_append]; simp [kindB]
/-- how many postings of a kind -/
def cntS (k : Int) (l : List Post) : Nat := (l.filter fun p => p.k == k).length
theorem cnt_snoc {k : Int} {l : List Post} {i : Nat} {p : Post} (h : l[i]? = some p) : cntS k (l.take (i + 1)) = cntS k (l.take i) + (if p.k == k then 1 else 0) := by
  rw [take_snocP h, cntS, List.filter_append, List.length_append]
  congr 1
  by_cases hk : (p.k == k) = true
  · simp [hk]
  · simp [hk]
theorem cnt_le (k : Int) (l : List Post) : cntS k l ≤ l.length := List.length_filter_le _ _
theorem cnt_zero (k : Int) (l : List Post) : (cntS k l = 0 ∧ kindB k l = false) ∨ (0 < cntS k l ∧ kindB k l = true) := by
  unfold cntS kindB
  induction l with
  | nil => exact .inl ⟨rfl, rfl⟩
  | cons p r ih =>
    rw [List.filter_cons, List.any_cons]
    cases hp : (p.k == k)
    · rw [if_neg (by simp), Bool.false_or]; exact ih
    · exact .inr ⟨by simp, rfl⟩

def idB (h m : Int) : Bool := decide (0 ≤ h) && (decide (h ≤ 1048576) && (decide (0 ≤ m) && decide (m ≤ 3599)))
def idS (h m : Int) : Int × Int := if idB h m then (h * 4096 + m, 0) else (0, 3)
theorem idB_iff {h m : Int} : idB h m = true ↔ 0 ≤ h ∧ h ≤ 1048576 ∧ 0 ≤ m ∧ m ≤ 3599 := by simp [idB]
theorem id_cases (h m : Int) : (0 ≤ h ∧ h ≤ 1048576 ∧ 0 ≤ m ∧ m ≤ 3599 ∧ idS h m = (h * 4096 + m, 0)) ∨ ((h < 0 ∨ (0 ≤ h ∧ 1048576 < h) ∨ (0 ≤ h ∧ h ≤ 1048576 ∧ m < 0) ∨ (0 ≤ h ∧ h ≤ 1048576 ∧ 0 ≤ m ∧ 3599 < m)) ∧ idS h m = (0, 3)) := by
  by_cases hb : idB h m = true
  · obtain ⟨a, b, c, d⟩ := idB_iff.1 hb
    exact .inl ⟨a, b, c, d, by rw [idS, if_pos hb]⟩
  · have h2 := fun a b c d => hb (idB_iff.2 ⟨a, b, c, d⟩)
    refine .inr ⟨?_, by rw [idS, if_neg hb]⟩
    by_cases h1 : h < 0
    · exact .inl h1
    · by_cases h3 : 1048576 < h
      · exact .inr (.inl ⟨by omega, h3⟩)
      · by_cases h4 : m < 0
        · exact .inr (.inr (.inl ⟨by omega, by omega, h4⟩))
        · exact .inr (.inr (.inr ⟨by omega, by omega, by omega, by
            by_cases h5 : 3599 < m
            · exact h5
            · exact (h2 (by omega) (by omega) (by omega) (by omega)).elim⟩))
/-- the kind of the notice of a payment -/
def payK (l : List Post) (due : Int) : Int := if kindB 1 l then (if kindB 2 l then 3 else if due < sumS l then 1 else 2) else 4
/-- the notice of a payment, and an error -/
def payN (h m due : Int) (l : List Post) : Int × Int × Int × Int × Int × Int :=
  if (idS h m).2 = 0 then ((idS h m).1, h, m, payK l due, cashS l, 0) else (0, 0, 0, 0, 0, (idS h m).2)
end Go.Proofs.YtjdljholajacdaaDoor
/- What Id, Cash and ForPayment, and those of the references, compute. -/
namespace Go.Proofs.YtjdljholajacdaaDoor
open Go.RowKit

theorem ret_id {r : Int × Int} {a b : Int} (h : r = (a, b)) : Ending.returned (.tuple #[.int .i64 a, .int .i64 b]) = .returned (.tuple #[.int .i64 r.1, .int .i64 r.2]) := by rw [h]
set_option maxRecDepth 100000 in
set_option maxHeartbeats 1000000 in
theorem id_any (h m : Int) (w : World) : Calls Tryd.prog 29 #[.int .i64 h, .int .i64 m] w fun e w' => e = .returned (.tuple #[.int .i64 (idS h m).1, .int .i64 (idS h m).2]) ∧ w = w' := by
  rcases id_cases h m with ⟨a, b, c, d, hr⟩ | ⟨a | ⟨a, b⟩ | ⟨a, b, c⟩ | ⟨a, b, c, d⟩, hr⟩
  all_goals
    have HR := Lib.hid hr
    clear hr
    go_enter Tryd.func29, Tryd.ntmps29
    go_wp2_with fail
    go_ret2
    exact ⟨ret_id HR.out, rfl⟩
set_option maxRecDepth 100000 in
set_option maxHeartbeats 1000000 in
theorem rid_any (h m : Int) (w : World) : Calls Tryd.prog 30 #[.int .i64 h, .int .i64 m] w fun e w' => e = .returned (.tuple #[.int .i64 (idS h m).1, .int .i64 (idS h m).2]) ∧ w = w' := by
  rcases id_cases h m with ⟨a, b, c, d, hr⟩ | ⟨a | ⟨a, b⟩ | ⟨a, b, c⟩ | ⟨a, b, c, d⟩, hr⟩
  all_goals
    have HR := Lib.hid hr
    clear hr
    go_enter Tryd.func30, Tryd.ntmps30
    go_wp2_with fail
    go_ret2
    exact ⟨ret_id HR.out, rfl⟩

/-- a posting's cells -/
theorem Posts.at_ {w : World} {v : Value} {xs : List Post} (h : Posts w v xs) : ∃ A cap, v = .slice A xs.length cap ∧ (0 < xs.length → ∃ b off, A = some ⟨b, off, none⟩ ∧ b < w.heap.size ∧
    ∀ j p, xs[j]? = some p → w.cell? ⟨b, off + j * 4, none⟩ = some (.int .i64 p.d) ∧ w.cell? ⟨b, off + j * 4 + 1, none⟩ = some (.int .i64 p.m) ∧ w.cell? ⟨b, off + j * 4 + 2, none⟩ = some (.int .i64 p.k) ∧ w.cell? ⟨b, off + j * 4 + 3, none⟩ = some (.int .i64 p.c)) := by
  obtain ⟨A, cap, hv, hx⟩ := h
  refine ⟨A, cap, hv, fun hp => ?_⟩
  obtain ⟨b, off, hA, hb, hc⟩ := hx hp
  exact ⟨b, off, hA, hb, fun j t hj => ⟨hc j t hj 0 _ rfl, hc j t hj 1 _ rfl, hc j t hj 2 _ rfl, hc j t hj 3 _ rfl⟩⟩
/-- the ways through a posting's kind -/
theorem post_cases (p : Post) (a : Int) : (p.k = 1 ∧ cashStep a p = wrap64 (a + p.c)) ∨ (p.k = 2 ∧ cashStep a p = wrap64 (a - p.c)) ∨ ((p.k == 1) = false ∧ (p.k == 2) = false ∧ cashStep a p = a) := by
  unfold cashStep
  by_cases h1 : p.k = 1
  · exact .inl ⟨h1, by rw [if_pos h1]⟩
  · by_cases h2 : p.k = 2
    · exact .inr (.inl ⟨h2, by rw [if_neg h1, if_pos h2]⟩)
    · exact .inr (.inr ⟨by simpa using h1, by simpa using h2, by rw [if_neg h1, if_neg h2]⟩)

set_option maxRecDepth 100000 in
set_option maxHeartbeats 8000000 in
theorem cash_any (v : Value) (xs : List Post) (hn : xs.length ≤ 9223372036854775807) (w : World) (hP : Posts w v xs) :
    Calls Tryd.prog 48 #[v] w fun e w' => e = .returned (.int .i64 (cashS xs)) ∧ Kept w w' := by
  obtain ⟨A, cap, rfl, hx⟩ := hP.at_
  obtain ⟨n, hxn⟩ : ∃ n, n = xs.length := ⟨_, rfl⟩
  rw [← hxn] at hx hn ⊢
  have HX := Lib.hid hxn
  clear hxn hP
  go_enter Tryd.func48, Tryd.ntmps48
  go_wp2_with fail
  go_loopw [3, 8] (fun a z wr => ∃ pos : Nat, pos ≤ n ∧ z = .int .i64 pos ∧ a = .int .i64 (cashS (xs.take pos)) ∧ Kept w wr) (fun _ z _ => (n - intOf z).toNat)
  case atStart => exact ⟨0, Nat.zero_le _, rfl, rfl, Kept.refl _⟩
  case round =>
    obtain ⟨pos, hps, rfl, rfl, hK⟩ := hrel
    by_cases hp : pos < n
    · obtain ⟨b1, o1, rfl, hb1, hc1⟩ := hx (by omega)
      have hg : xs[pos]? = some (xs[pos]'(by have := HX.out; omega)) := List.getElem?_eq_getElem _
      obtain ⟨x0, x1, x2, x3⟩ := hc1 pos _ hg
      have hsn := cash_snoc hg
      clear hc1 hx
      have hc := post_cases (xs[pos]'(by have := HX.out; omega)) (cashS (xs.take pos))
      generalize cashS (xs.take pos) = acc at *
      generalize xs[pos]'(by have := HX.out; omega) = T at *
      obtain ⟨d, m, k, c⟩ := T
      clear hg
      have k0 := hK.cell (p := ⟨b1, _, none⟩) hb1 x0
      have k1 := hK.cell (p := ⟨b1, _, none⟩) hb1 x1
      have k2 := hK.cell (p := ⟨b1, _, none⟩) hb1 x2
      have k3 := hK.cell (p := ⟨b1, _, none⟩) hb1 x3
      clear x0 x1 x2 x3
      have hpi : (pos : Int) < n := by omega
      dsimp only at hc k0 k1 k2 k3
      rcases hc with ⟨rfl, hs⟩ | ⟨rfl, hs⟩ | ⟨hk1, hk2, hs⟩
      all_goals
        rw [hs] at hsn
        have HS := Lib.hid hsn
        clear hs hsn
        go_wp2_with fail
        go_roundw
        case rel => exact ⟨pos + 1, hp, by go_num, by rw [HS.out], hK.alloc _⟩
        case measure => simp only [intOf]; omega
    · have hpi : ¬ ((pos : Int) < n) := by omega
      have HE := Lib.hid (show xs.take pos = xs from List.take_of_length_le (by have := HX.out; omega))
      go_wp2_with fail
      go_ret
      exact ⟨ret_int (by rw [HE.out]), hK⟩
end Go.Proofs.YtjdljholajacdaaDoor
/- What ForPayment, and that of the reference, computes. -/
namespace Go.Proofs.YtjdljholajacdaaDoor
open Go.RowKit

set_option maxRecDepth 100000 in
set_option maxHeartbeats 8000000 in
theorem rcash_any (v : Value) (xs : List Post) (hn : xs.length ≤ 9223372036854775807) (w : World) (hP : Posts w v xs) :
    Calls Tryd.prog 49 #[v] w fun e w' => e = .returned (.int .i64 (cashS xs)) ∧ w = w' := by
  obtain ⟨A, cap, rfl, hx⟩ := hP.at_
  obtain ⟨n, hxn⟩ : ∃ n, n = xs.length := ⟨_, rfl⟩
  rw [← hxn] at hx hn ⊢
  have HX := Lib.hid hxn
  clear hxn hP
  go_enter Tryd.func49, Tryd.ntmps49
  go_wp2_with fail
  go_loop [3, 4] (fun a z => ∃ pos : Nat, pos ≤ n ∧ z = .int .i64 pos ∧ a = .int .i64 (cashS (xs.take pos))) (fun _ z => (n - intOf z).toNat)
  case atStart => exact ⟨0, Nat.zero_le _, rfl, rfl⟩
  case round =>
    obtain ⟨pos, hps, rfl, rfl⟩ := hrel
    by_cases hp : pos < n
    · obtain ⟨b1, o1, rfl, hb1, hc1⟩ := hx (by omega)
      have hg : xs[pos]? = some (xs[pos]'(by have := HX.out; omega)) := List.getElem?_eq_getElem _
      obtain ⟨x0, x1, x2, x3⟩ := hc1 pos _ hg
      have hsn := cash_snoc hg
      clear hc1 hx
      have hc := post_cases (xs[pos]'(by have := HX.out; omega)) (cashS (xs.take pos))
      generalize cashS (xs.take pos) = acc at *
      generalize xs[pos]'(by have := HX.out; omega) = T at *
      obtain ⟨d, m, k, c⟩ := T
      clear hg
      have hpi : (pos : Int) < n := by omega
      dsimp only at hc x0 x1 x2 x3
      rcases hc with ⟨rfl, hs⟩ | ⟨rfl, hs⟩ | ⟨hk1, hk2, hs⟩
      all_goals
        rw [hs] at hsn
        have HS := Lib.hid hsn
        clear hs hsn
        go_wp2_with fail
        go_round
        case rel => exact ⟨pos + 1, hp, by go_num, by rw [HS.out]⟩
        case measure => simp only [intOf]; omega
    · have hpi : ¬ ((pos : Int) < n) := by omega
      have HE := Lib.hid (show xs.take pos = xs from List.take_of_length_le (by have := HX.out; omega))
      go_wp2_with fail
      go_ret
      exact ⟨ret_int (by rw [HE.out]), rfl⟩

/-- a notice and an error code, as Go returns them -/
def npV (R : Int × Int × Int × Int × Int × Int) : Value := .tuple #[.agg #[.int .i64 R.1, .int .i64 R.2.1, .int .i64 R.2.2.1, .int .i64 R.2.2.2.1, .int .i64 R.2.2.2.2.1], .int .i64 R.2.2.2.2.2]
theorem pay_cases (p : Post) (a : Int) : (p.k = 1 ∧ sumStep a p = wrap64 (a + p.c)) ∨ (p.k = 2 ∧ sumStep a p = a) ∨ ((p.k == 1) = false ∧ (p.k == 2) = false ∧ sumStep a p = a) := by
  unfold sumStep
  by_cases h1 : p.k = 1
  · exact .inl ⟨h1, by rw [if_pos h1]⟩
  · by_cases h2 : p.k = 2
    · exact .inr (.inl ⟨h2, by rw [if_neg h1]⟩)
    · exact .inr (.inr ⟨by simpa using h1, by simpa using h2, by rw [if_neg h1]⟩)

set_option maxRecDepth 100000 in
set_option maxHeartbeats 16000000 in
theorem forPay_any (h m due : Int) (v : Value) (xs : List Post) (hn : xs.length ≤ 9223372036854775807) (w : World) (hP : Posts w v xs) :
    Calls Tryd.prog 32 #[.int .i64 h, .int .i64 m, .int .i64 due, v] w fun e w' => e = .returned (npV (payN h m due xs)) ∧ Kept w w' := by
  have HI := Lib.hid (fun w => id_any h m w)
  rcases (show ((idS h m).2 == 0) = false ∧ payN h m due xs = (0, 0, 0, 0, 0, (idS h m).2) ∨ (idS h m).2 = 0 ∧ payN h m due xs = ((idS h m).1, h, m, payK xs due, cashS xs, 0) by
      unfold payN
      by_cases hc : (idS h m).2 = 0
      · exact .inr ⟨hc, by rw [if_pos hc]⟩
      · exact .inl ⟨by simpa using hc, by rw [if_neg hc]⟩) with ⟨hc, hR⟩ | ⟨hc, hR⟩
  · have HR := Lib.hid hR
    clear hR
    generalize (idS h m).2 = c at *
    generalize (idS h m).1 = i at *
    go_enter Tryd.func32, Tryd.ntmps32
    go_wp2_with (go_at_call 29; refine (HI.out _).mono ?_; rintro e w1 ⟨rfl, rfl⟩)
    refine bodyPost_ret (v := npV (payN h m due xs)) (by rw [HR.out]; simp [npV, results, Tryd.results32, go_sem]) rfl ⟨rfl, ?_⟩
    repeat refine Kept.setCell ?_ (by simp) _
    exact (Kept.refl _).alloc _
  · rw [hc] at HI
    have HR := Lib.hid hR
    clear hR hc
    generalize (idS h m).1 = i at *
    have HC := Lib.hid (fun w h => cash_any v xs hn w h)
    have hP0 := hP
    obtain ⟨A, cap, rfl, hx⟩ := hP.at_
    obtain ⟨n, hxn⟩ : ∃ n, n = xs.length := ⟨_, rfl⟩
    rw [← hxn] at hx hn HC hP0 ⊢
    have HX := Lib.hid hxn
    clear hxn hP
    have hW := (Kept.refl w).alloc (.cells #[.int .i64 0, .int .i64 0, .int .i64 0, .int .i64 0, .int .i64 0] 54)
    have hR0 := Blk.new w 54 #[.int .i64 0, .int .i64 0, .int .i64 0, .int .i64 0, .int .i64 0]
    go_enter Tryd.func32, Tryd.ntmps32
    go_wp2_with (go_at_call 29; refine (HI.out _).mono ?_; rintro e w1 ⟨rfl, rfl⟩)
    generalize w.alloc (.cells #[.int .i64 0, .int .i64 0, .int .i64 0, .int .i64 0, .int .i64 0] 54) = W at *
    go_loopw [12, 13, 14, 30] (fun p q a z wr => ∃ pos : Nat, pos ≤ n ∧ z = .int .i64 pos ∧ p = .bool (kindB 1 (xs.take pos)) ∧ q = .bool (kindB 2 (xs.take pos)) ∧ a = .int .i64 (sumS (xs.take pos)) ∧ Kept W wr) (fun _ _ _ z _ => (n - intOf z).toNat)
    case atStart => exact ⟨0, Nat.zero_le _, rfl, rfl, rfl, rfl, Kept.refl _⟩
    case round =>
      obtain ⟨pos, hps, rfl, rfl, rfl, rfl, hK⟩ := hrel
      by_cases hp : pos < n
      · obtain ⟨b1, o1, rfl, hb1, hc1⟩ := hx (by omega)
        have hg : xs[pos]? = some (xs[pos]'(by have := HX.out; omega)) := List.getElem?_eq_getElem _
        obtain ⟨x0, x1, x2, x3⟩ := hc1 pos _ hg
        have hsn := sum_snoc hg
        have hk1 := kind_snoc (k := 1) hg
        have hk2 := kind_snoc (k := 2) hg
        clear hc1 hx
        have hc := pay_cases (xs[pos]'(by have := HX.out; omega)) (sumS (xs.take pos))
        generalize sumS (xs.take pos) = acc at *
        generalize kindB 1 (xs.take pos) = f1 at *
        generalize kindB 2 (xs.take pos) = f2 at *
        generalize xs[pos]'(by have := HX.out; omega) = T at *
        obtain ⟨d, mm, k, c⟩ := T
        clear hg
        have hWK := hW.trans hK
        have k0 := hWK.cell (p := ⟨b1, _, none⟩) hb1 x0
        have k1 := hWK.cell (p := ⟨b1, _, none⟩) hb1 x1
        have k2 := hWK.cell (p := ⟨b1, _, none⟩) hb1 x2
        have k3 := hWK.cell (p := ⟨b1, _, none⟩) hb1 x3
        clear x0 x1 x2 x3 hP0 hWK
        have hpi : (pos : Int) < n := by omega
        dsimp only at hc k0 k1 k2 k3 hk1 hk2
        rcases hc with ⟨rfl, hs⟩ | ⟨rfl, hs⟩ | ⟨hn1, hn2, hs⟩
        · rw [hs] at hsn
          have HS := Lib.hid (And.intro hsn (And.intro (hk1.trans (by cases f1 <;> rfl : _ = true)) (hk2.trans (by cases f2 <;> rfl : _ = f2))))
          clear hs hsn hk1 hk2
          go_wp2_with fail
          go_roundw
          case rel => exact ⟨pos + 1, hp, by go_num, by rw [HS.out.2.1], by rw [HS.out.2.2], by rw [HS.out.1], hK.alloc _⟩
          case measure => simp only [intOf]; omega
        · rw [hs] at hsn
          have HS := Lib.hid (And.intro hsn (And.intro (hk1.trans (by cases f1 <;> rfl : _ = f1)) (hk2.trans (by cases f2 <;> rfl : _ = true))))
          clear hs hsn hk1 hk2
          go_wp2_with fail
          go_roundw
          case rel => exact ⟨pos + 1, hp, by go_num, by rw [HS.out.2.1], by rw [HS.out.2.2], by rw [HS.out.1], hK.alloc _⟩
          case measure => simp only [intOf]; omega
        · rw [hs] at hsn
          have HS := Lib.hid (And.intro hsn (And.intro (hk1.trans (by rw [hn1]; cases f1 <;> rfl : _ = f1)) (hk2.trans (by rw [hn2]; cases f2 <;> rfl : _ = f2))))
          clear hs hsn hk1 hk2
          go_wp2_with fail
          go_roundw
          case rel => exact ⟨pos + 1, hp, by go_num, by rw [HS.out.2.1], by rw [HS.out.2.2], by rw [HS.out.1], hK.alloc _⟩
          case measure => simp only [intOf]; omega
      · have hpi : ¬ ((pos : Int) < n) := by omega
        have hE : xs.take pos = xs := List.take_of_length_le (by have := HX.out; omega)
        rw [hE]
        clear hE
        have hP1 := (hP0.kept hW).kept hK
        have hR1 := hR0.kept hK
        have hKR : payK xs due = if kindB 1 xs then (if kindB 2 xs then 3 else if due < sumS xs then 1 else 2) else 4 := rfl
        generalize cashS xs = ca at *
        generalize payK xs due = kk at *
        generalize kindB 1 xs = f1 at *
        generalize kindB 2 xs = f2 at *
        generalize sumS xs = acc at *
        clear hx hP0
        cases f1
        · have HK := Lib.hid (show kk = 4 from hKR)
          clear hKR
          go_wp2_with (go_at_call 48; refine (HC.out _ hP1).mono ?_; rintro e w2 ⟨rfl, hk⟩; have hR2 := hR1.kept hk; have f := hR2.frozen; have l := hR2.lt; have b := hR2.cell)
          have rr := ((((((hR2.set_ 0 (.int .i64 i)).set_ 1 (.int .i64 h)).set_ 2 (.int .i64 m)).set_ 3 (.int .i64 4)).set_ 4 (.int .i64 ca)).alloc (.cells #[.int .i64 i, .int .i64 h, .int .i64 m, .int .i64 4, .int .i64 ca] 54)).cell
          refine bodyPost_ret (v := npV (payN h m due xs)) (by rw [HR.out, HK.out]; simp [npV, results, Tryd.results32, go_sem, rr]) rfl ⟨rfl, ?_⟩
          refine Kept.alloc ?_ _
          iterate 5 refine Kept.setCell ?_ (Nat.le_refl _) _
          exact hW.trans (hK.trans hk)
        · cases f2
          · by_cases hd : due < acc
            · have HK := Lib.hid (show kk = 1 by rw [hKR]; simp [hd])
              clear hKR
              go_wp2_with (go_at_call 48; refine (HC.out _ hP1).mono ?_; rintro e w2 ⟨rfl, hk⟩; have hR2 := hR1.kept hk; have f := hR2.frozen; have l := hR2.lt; have b := hR2.cell)
              have rr := ((((((hR2.set_ 0 (.int .i64 i)).set_ 1 (.int .i64 h)).set_ 2 (.int .i64 m)).set_ 3 (.int .i64 1)).set_ 4 (.int .i64 ca)).alloc (.cells #[.int .i64 i, .int .i64 h, .int .i64 m, .int .i64 1, .int .i64 ca] 54)).cell
              refine bodyPost_ret (v := npV (payN h m due xs)) (by rw [HR.out, HK.out]; simp [npV, results, Tryd.results32, go_sem, rr]) rfl ⟨rfl, ?_⟩
              refine Kept.alloc ?_ _
              iterate 5 refine Kept.setCell ?_ (Nat.le_refl _) _
              exact hW.trans (hK.trans hk)
            · have HK := Lib.hid (show kk = 2 by rw [hKR]; simp [hd])
              clear hKR
              go_wp2_with (go_at_call 48; refine (HC.out _ hP1).mono ?_; rintro e w2 ⟨rfl, hk⟩; have hR2 := hR1.kept hk; have f := hR2.frozen; have l := hR2.lt; have b := hR2.cell)
              have rr := ((((((hR2.set_ 0 (.int .i64 i)).set_ 1 (.int .i64 h)).set_ 2 (.int .i64 m)).set_ 3 (.int .i64 2)).set_ 4 (.int .i64 ca)).alloc (.cells #[.int .i64 i, .int .i64 h, .int .i64 m, .int .i64 2, .int .i64 ca] 54)).cell
              refine bodyPost_ret (v := npV (payN h m due xs)) (by rw [HR.out, HK.out]; simp [npV, results, Tryd.results32, go_sem, rr]) rfl ⟨rfl, ?_⟩
              refine Kept.alloc ?_ _
              iterate 5 refine Kept.setCell ?_ (Nat.le_refl _) _
              exact hW.trans (hK.trans hk)
          · have HK := Lib.hid (show kk = 3 from hKR)
            clear hKR
            go_wp2_with (go_at_call 48; refine (HC.out _ hP1).mono ?_; rintro e w2 ⟨rfl, hk⟩; have hR2 := hR1.kept hk; have f := hR2.frozen; have l := hR2.lt; have b := hR2.cell)
            have rr := ((((((hR2.set_ 0 (.int .i64 i)).set_ 1 (.int .i64 h)).set_ 2 (.int .i64 m)).set_ 3 (.int .i64 3)).set_ 4 (.int .i64 ca)).alloc (.cells #[.int .i64 i, .int .i64 h, .int .i64 m, .int .i64 3, .int .i64 ca] 54)).cell
            refine bodyPost_ret (v := npV (payN h m due xs)) (by rw [HR.out, HK.out]; simp [npV, results, Tryd.results32, go_sem, rr]) rfl ⟨rfl, ?_⟩
            refine Kept.alloc ?_ _
            iterate 5 refine Kept.setCell ?_ (Nat.le_refl _) _
            exact hW.trans (hK.trans hk)
end Go.Proofs.YtjdljholajacdaaDoor
/- What ForPayment of the reference computes. -/
namespace Go.Proofs.YtjdljholajacdaaDoor
open Go.RowKit

set_option maxRecDepth 100000 in
set_option maxHeartbeats 16000000 in
theorem rforPay_any (h m due : Int) (v : Value) (xs : List Post) (hn : xs.length ≤ 9223372036854775807) (w : World) (hP : Posts w v xs) :
    Calls Tryd.prog 33 #[.int .i64 h, .int .i64 m, .int .i64 due, v] w fun e w' => e = .returned (npV (payN h m due xs)) ∧ Kept w w' := by
  have HI := Lib.hid (fun w => rid_any h m w)
  rcases (show ((idS h m).2 == 0) = false ∧ payN h m due xs = (0, 0, 0, 0, 0, (idS h m).2) ∨ (idS h m).2 = 0 ∧ payN h m due xs = ((idS h m).1, h, m, payK xs due, cashS xs, 0) by
      unfold payN
      by_cases hc : (idS h m).2 = 0
      · exact .inr ⟨hc, by rw [if_pos hc]⟩
      · exact .inl ⟨by simpa using hc, by rw [if_neg hc]⟩) with ⟨hc, hR⟩ | ⟨hc, hR⟩
  · have HR := Lib.hid hR
    clear hR
    generalize (idS h m).2 = c at *
    generalize (idS h m).1 = i at *
    go_enter Tryd.func33, Tryd.ntmps33
    go_wp2_with (go_at_call 30; refine (HI.out _).mono ?_; rintro e w1 ⟨rfl, rfl⟩)
    refine bodyPost_ret (v := npV (payN h m due xs)) (by rw [HR.out]; simp [npV, results, Tryd.results33, go_sem]) rfl ⟨rfl, ?_⟩
    repeat refine Kept.setCell ?_ (by simp) _
    exact (Kept.refl _).alloc _
  · rw [hc] at HI
    have HR := Lib.hid hR
    clear hR hc
    generalize (idS h m).1 = i at *
    have HC := Lib.hid (fun w h => rcash_any v xs hn w h)
    have hP0 := hP
    obtain ⟨A, cap, rfl, hx⟩ := hP.at_
    obtain ⟨n, hxn⟩ : ∃ n, n = xs.length := ⟨_, rfl⟩
    rw [← hxn] at hx hn HC hP0 ⊢
    have HX := Lib.hid hxn
    clear hxn hP
    have hKR : payK xs due = if kindB 1 xs then (if kindB 2 xs then 3 else if due < sumS xs then 1 else 2) else 4 := rfl
    have HKR := Lib.hid hKR
    clear hKR
    generalize cashS xs = ca at *
    generalize payK xs due = kk at *
    have hW := ((Kept.refl w).alloc (.cells #[.int .i64 0, .int .i64 0, .int .i64 0, .int .i64 0, .int .i64 0] 54)).alloc (.cells #[.int .i64 i, .int .i64 h, .int .i64 m, .int .i64 2, .int .i64 ca] 54)
    have hR0 := (Blk.new w 54 #[.int .i64 0, .int .i64 0, .int .i64 0, .int .i64 0, .int .i64 0]).alloc (.cells #[.int .i64 i, .int .i64 h, .int .i64 m, .int .i64 2, .int .i64 ca] 54)
    have hN0 := Blk.new (w.alloc (.cells #[.int .i64 0, .int .i64 0, .int .i64 0, .int .i64 0, .int .i64 0] 54)) 54 #[.int .i64 i, .int .i64 h, .int .i64 m, .int .i64 2, .int .i64 ca]
    rw [World.size_alloc] at hN0
    go_enter Tryd.func33, Tryd.ntmps33
    go_wp2_with (first
      | (go_at_call 30; refine (HI.out _).mono ?_; rintro e w1 ⟨rfl, rfl⟩)
      | (go_at_call 49; refine (HC.out _ (hP0.kept ((Kept.refl w).alloc _))).mono ?_; rintro e w1 ⟨rfl, rfl⟩))
    generalize (w.alloc (.cells #[.int .i64 0, .int .i64 0, .int .i64 0, .int .i64 0, .int .i64 0] 54)).alloc (.cells #[.int .i64 i, .int .i64 h, .int .i64 m, .int .i64 2, .int .i64 ca] 54) = W at *
    clear hP0
    go_loop [13, 14, 15, 16] (fun p q a z => ∃ pos : Nat, pos ≤ n ∧ z = .int .i64 pos ∧ p = .int .i64 (cntS 1 (xs.take pos)) ∧ q = .int .i64 (cntS 2 (xs.take pos)) ∧ a = .int .i64 (sumS (xs.take pos))) (fun _ _ _ z => (n - intOf z).toNat)
    case atStart => exact ⟨0, Nat.zero_le _, rfl, rfl, rfl, rfl⟩
    case round =>
      obtain ⟨pos, hps, rfl, rfl, rfl, rfl⟩ := hrel
      by_cases hp : pos < n
      · obtain ⟨b1, o1, rfl, hb1, hc1⟩ := hx (by omega)
        have hg : xs[pos]? = some (xs[pos]'(by have := HX.out; omega)) := List.getElem?_eq_getElem _
        obtain ⟨x0, x1, x2, x3⟩ := hc1 pos _ hg
        have hsn := sum_snoc hg
        have hk1 := cnt_snoc (k := 1) hg
        have hk2 := cnt_snoc (k := 2) hg
        have l1 := cnt_le 1 (xs.take pos)
        have l2 := cnt_le 2 (xs.take pos)
        have ltk : (xs.take pos).length ≤ pos := List.length_take_le _ _
        clear hc1 hx
        have hc := pay_cases (xs[pos]'(by have := HX.out; omega)) (sumS (xs.take pos))
        generalize sumS (xs.take pos) = acc at *
        generalize cntS 1 (xs.take pos) = c1 at *
        generalize cntS 2 (xs.take pos) = c2 at *
        generalize xs[pos]'(by have := HX.out; omega) = T at *
        obtain ⟨d, mm, k, c⟩ := T
        clear hg
        have k0 := hW.cell (p := ⟨b1, _, none⟩) hb1 x0
        have k1 := hW.cell (p := ⟨b1, _, none⟩) hb1 x1
        have k2 := hW.cell (p := ⟨b1, _, none⟩) hb1 x2
        have k3 := hW.cell (p := ⟨b1, _, none⟩) hb1 x3
        clear x0 x1 x2 x3
        have hpi : (pos : Int) < n := by omega
        have q1 : (c1 : Int) ≤ pos := by omega
        have q2 : (c2 : Int) ≤ pos := by omega
        clear l1 l2 ltk
        dsimp only at hc k0 k1 k2 k3 hk1 hk2
        rcases hc with ⟨rfl, hs⟩ | ⟨rfl, hs⟩ | ⟨hn1, hn2, hs⟩
        · rw [hs] at hsn
          have HS := Lib.hid (And.intro hsn (And.intro (show cntS 1 (xs.take (pos + 1)) = c1 + 1 from hk1) (show cntS 2 (xs.take (pos + 1)) = c2 from hk2)))
          clear hs hsn hk1 hk2
          go_wp2_with fail
          go_round
          case rel => exact ⟨pos + 1, hp, by go_num, by rw [HS.out.2.1]; go_num, by rw [HS.out.2.2], by rw [HS.out.1]⟩
          case measure => simp only [intOf]; omega
        · rw [hs] at hsn
          have HS := Lib.hid (And.intro hsn (And.intro (show cntS 1 (xs.take (pos + 1)) = c1 from hk1) (show cntS 2 (xs.take (pos + 1)) = c2 + 1 from hk2)))
          clear hs hsn hk1 hk2
          go_wp2_with fail
          go_round
          case rel => exact ⟨pos + 1, hp, by go_num, by rw [HS.out.2.1], by rw [HS.out.2.2]; go_num, by rw [HS.out.1]⟩
          case measure => simp only [intOf]; omega
        · rw [hs] at hsn
          rw [hn1] at hk1
          rw [hn2] at hk2
          have HS := Lib.hid (And.intro hsn (And.intro (show cntS 1 (xs.take (pos + 1)) = c1 from hk1) (show cntS 2 (xs.take (pos + 1)) = c2 from hk2)))
          clear hs hsn hk1 hk2
          go_wp2_with fail
          go_round
          case rel => exact ⟨pos + 1, hp, by go_num, by rw [HS.out.2.1], by rw [HS.out.2.2], by rw [HS.out.1]⟩
          case measure => simp only [intOf]; omega
      · have hpi : ¬ ((pos : Int) < n) := by omega
        have hE : xs.take pos = xs := List.take_of_length_le (by have := HX.out; omega)
        rw [hE]
        clear hE hx
        have hKR := HKR.out
        have h1 := cnt_zero 1 xs
        have h2 := cnt_zero 2 xs
        generalize kindB 1 xs = f1 at *
        generalize kindB 2 xs = f2 at *
        generalize sumS xs = acc at *
        generalize cntS 1 xs = c1 at *
        generalize cntS 2 xs = c2 at *
        have nl := hN0.lt
        have nf := hN0.frozen
        have rl := hR0.lt
        rcases h1 with ⟨rfl, rfl⟩ | ⟨h1, rfl⟩
        · rcases h2 with ⟨rfl, rfl⟩ | ⟨h2, rfl⟩
          · by_cases hd : due < acc
            · have HK := Lib.hid (show kk = 4 by simpa using hKR)
              clear hKR HKR
              have NN := ((hN0.set_ 3 (.int .i64 1)).set_ 3 (.int .i64 4))
              have m0 := (hN0).cell 3
              have m1 := ((hN0.set_ 3 (.int .i64 1))).cell 3
              have RR := ((hR0.far (p := ⟨w.heap.size + 1, 3, none⟩) (by simp) (.int .i64 1)).far (p := ⟨w.heap.size + 1, 3, none⟩) (by simp) (.int .i64 4))
              have n0 := NN.cell 0
              have n1 := NN.cell 1
              have n2 := NN.cell 2
              have n3 := NN.cell 3
              have n4 := NN.cell 4
              have rc := RR.cell
              have rf := RR.frozen
              clear NN
              go_wp2_with fail
              have rr := (((((RR.set_ 0 (.int .i64 i)).set_ 1 (.int .i64 h)).set_ 2 (.int .i64 m)).set_ 3 (.int .i64 4)).set_ 4 (.int .i64 ca)).cell
              refine bodyPost_ret (v := npV (payN h m due xs)) (by rw [HR.out, HK.out]; simp [npV, results, Tryd.results33, go_sem, rr]) rfl ⟨rfl, ?_⟩
              iterate 7 refine Kept.setCell ?_ (by simp) _
              exact hW
            · have HK := Lib.hid (show kk = 4 by simpa using hKR)
              clear hKR HKR
              have NN := (hN0.set_ 3 (.int .i64 4))
              have m0 := (hN0).cell 3
              have RR := (hR0.far (p := ⟨w.heap.size + 1, 3, none⟩) (by simp) (.int .i64 4))
              have n0 := NN.cell 0
              have n1 := NN.cell 1
              have n2 := NN.cell 2
              have n3 := NN.cell 3
              have n4 := NN.cell 4
              have rc := RR.cell
              have rf := RR.frozen
              clear NN
              go_wp2_with fail
              have rr := (((((RR.set_ 0 (.int .i64 i)).set_ 1 (.int .i64 h)).set_ 2 (.int .i64 m)).set_ 3 (.int .i64 4)).set_ 4 (.int .i64 ca)).cell
              refine bodyPost_ret (v := npV (payN h m due xs)) (by rw [HR.out, HK.out]; simp [npV, results, Tryd.results33, go_sem, rr]) rfl ⟨rfl, ?_⟩
              iterate 6 refine Kept.setCell ?_ (by simp) _
              exact hW
          · by_cases hd : due < acc
            · have h2b : 0 < (c2 : Int) := by omega
              have HK := Lib.hid (show kk = 4 by simpa using hKR)
              clear hKR HKR
              have NN := (((hN0.set_ 3 (.int .i64 1)).set_ 3 (.int .i64 3)).set_ 3 (.int .i64 4))
              have m0 := (hN0).cell 3
              have m1 := ((hN0.set_ 3 (.int .i64 1))).cell 3
              have m2 := (((hN0.set_ 3 (.int .i64 1)).set_ 3 (.int .i64 3))).cell 3
              have RR := (((hR0.far (p := ⟨w.heap.size + 1, 3, none⟩) (by simp) (.int .i64 1)).far (p := ⟨w.heap.size + 1, 3, none⟩) (by simp) (.int .i64 3)).far (p := ⟨w.heap.size + 1, 3, none⟩) (by simp) (.int .i64 4))
              have n0 := NN.cell 0
              have n1 := NN.cell 1
              have n2 := NN.cell 2
              have n3 := NN.cell 3
              have n4 := NN.cell 4
              have rc := RR.cell
              have rf := RR.frozen
              clear NN
              go_wp2_with fail
              have rr := (((((RR.set_ 0 (.int .i64 i)).set_ 1 (.int .i64 h)).set_ 2 (.int .i64 m)).set_ 3 (.int .i64 4)).set_ 4 (.int .i64 ca)).cell
              refine bodyPost_ret (v := npV (payN h m due xs)) (by rw [HR.out, HK.out]; simp [npV, results, Tryd.results33, go_sem, rr]) rfl ⟨rfl, ?_⟩
              iterate 8 refine Kept.setCell ?_ (by simp) _
              exact hW
            · have h2b : 0 < (c2 : Int) := by omega
              have HK := Lib.hid (show kk = 4 by simpa using hKR)
              clear hKR HKR
              have NN := ((hN0.set_ 3 (.int .i64 3)).set_ 3 (.int .i64 4))
              have m0 := (hN0).cell 3
              have m1 := ((hN0.set_ 3 (.int .i64 3))).cell 3
              have RR := ((hR0.far (p := ⟨w.heap.size + 1, 3, none⟩) (by simp) (.int .i64 3)).far (p := ⟨w.heap.size + 1, 3, none⟩) (by simp) (.int .i64 4))
              have n0 := NN.cell 0
              have n1 := NN.cell 1
              have n2 := NN.cell 2
              have n3 := NN.cell 3
              have n4 := NN.cell 4
              have rc := RR.cell
              have rf := RR.frozen
              clear NN
              go_wp2_with fail
              have rr := (((((RR.set_ 0 (.int .i64 i)).set_ 1 (.int .i64 h)).set_ 2 (.int .i64 m)).set_ 3 (.int .i64 4)).set_ 4 (.int .i64 ca)).cell
              refine bodyPost_ret (v := npV (payN h m due xs)) (by rw [HR.out, HK.out]; simp [npV, results, Tryd.results33, go_sem, rr]) rfl ⟨rfl, ?_⟩
              iterate 7 refine Kept.setCell ?_ (by simp) _
              exact hW
        · rcases h2 with ⟨rfl, rfl⟩ | ⟨h2, rfl⟩
          · by_cases hd : due < acc
            · have h1b : ((c1 : Int) == 0) = false := by simpa using (show (c1 : Int) ≠ 0 by omega)
              have HK := Lib.hid (show kk = 1 by simpa [hd] using hKR)
              clear hKR HKR
              have NN := (hN0.set_ 3 (.int .i64 1))
              have m0 := (hN0).cell 3
              have RR := (hR0.far (p := ⟨w.heap.size + 1, 3, none⟩) (by simp) (.int .i64 1))
              have n0 := NN.cell 0
              have n1 := NN.cell 1
              have n2 := NN.cell 2
              have n3 := NN.cell 3
              have n4 := NN.cell 4
              have rc := RR.cell
              have rf := RR.frozen
              clear NN
              go_wp2_with fail
              have rr := (((((RR.set_ 0 (.int .i64 i)).set_ 1 (.int .i64 h)).set_ 2 (.int .i64 m)).set_ 3 (.int .i64 1)).set_ 4 (.int .i64 ca)).cell
              refine bodyPost_ret (v := npV (payN h m due xs)) (by rw [HR.out, HK.out]; simp [npV, results, Tryd.results33, go_sem, rr]) rfl ⟨rfl, ?_⟩
              iterate 6 refine Kept.setCell ?_ (by simp) _
              exact hW
            · have h1b : ((c1 : Int) == 0) = false := by simpa using (show (c1 : Int) ≠ 0 by omega)
              have HK := Lib.hid (show kk = 2 by simpa [hd] using hKR)
              clear hKR HKR
              have NN := hN0
              have RR := hR0
              have n0 := NN.cell 0
              have n1 := NN.cell 1
              have n2 := NN.cell 2
              have n3 := NN.cell 3
              have n4 := NN.cell 4
              have rc := RR.cell
              have rf := RR.frozen
              clear NN
              go_wp2_with fail
              have rr := (((((RR.set_ 0 (.int .i64 i)).set_ 1 (.int .i64 h)).set_ 2 (.int .i64 m)).set_ 3 (.int .i64 2)).set_ 4 (.int .i64 ca)).cell
              refine bodyPost_ret (v := npV (payN h m due xs)) (by rw [HR.out, HK.out]; simp [npV, results, Tryd.results33, go_sem, rr]) rfl ⟨rfl, ?_⟩
              iterate 5 refine Kept.setCell ?_ (by simp) _
              exact hW
          · by_cases hd : due < acc
            · have h1b : ((c1 : Int) == 0) = false := by simpa using (show (c1 : Int) ≠ 0 by omega)
              have h2b : 0 < (c2 : Int) := by omega
              have HK := Lib.hid (show kk = 3 by simpa using hKR)
              clear hKR HKR
              have NN := ((hN0.set_ 3 (.int .i64 1)).set_ 3 (.int .i64 3))
              have m0 := (hN0).cell 3
              have m1 := ((hN0.set_ 3 (.int .i64 1))).cell 3
              have RR := ((hR0.far (p := ⟨w.heap.size + 1, 3, none⟩) (by simp) (.int .i64 1)).far (p := ⟨w.heap.size + 1, 3, none⟩) (by simp) (.int .i64 3))
              have n0 := NN.cell 0
              have n1 := NN.cell 1
              have n2 := NN.cell 2
              have n3 := NN.cell 3
              have n4 := NN.cell 4
              have rc := RR.cell
              have rf := RR.frozen
              clear NN
              go_wp2_with fail
              have rr := (((((RR.set_ 0 (.int .i64 i)).set_ 1 (.int .i64 h)).set_ 2 (.int .i64 m)).set_ 3 (.int .i64 3)).set_ 4 (.int .i64 ca)).cell
              refine bodyPost_ret (v := npV (payN h m due xs)) (by rw [HR.out, HK.out]; simp [npV, results, Tryd.results33, go_sem, rr]) rfl ⟨rfl, ?_⟩
              iterate 7 refine Kept.setCell ?_ (by simp) _
              exact hW
            · have h1b : ((c1 : Int) == 0) = false := by simpa using (show (c1 : Int) ≠ 0 by omega)
              have h2b : 0 < (c2 : Int) := by omega
              have HK := Lib.hid (show kk = 3 by simpa using hKR)
              clear hKR HKR
              have NN := (hN0.set_ 3 (.int .i64 3))
              have m0 := (hN0).cell 3
              have RR := (hR0.far (p := ⟨w.heap.size + 1, 3, none⟩) (by simp) (.int .i64 3))
              have n0 := NN.cell 0
              have n1 := NN.cell 1
              have n2 := NN.cell 2
              have n3 := NN.cell 3
              have n4 := NN.cell 4
              have rc := RR.cell
              have rf := RR.frozen
              clear NN
              go_wp2_with fail
              have rr := (((((RR.set_ 0 (.int .i64 i)).set_ 1 (.int .i64 h)).set_ 2 (.int .i64 m)).set_ 3 (.int .i64 3)).set_ 4 (.int .i64 ca)).cell
              refine bodyPost_ret (v := npV (payN h m due xs)) (by rw [HR.out, HK.out]; simp [npV, results, Tryd.results33, go_sem, rr]) rfl ⟨rfl, ?_⟩
              iterate 6 refine Kept.setCell ?_ (by simp) _
              exact hW
end Go.Proofs.YtjdljholajacdaaDoor
/- The text of a notice: its words, and how it is split again. -/
namespace Go.Proofs.YtjdljholajacdaaDoor
open Go.RowKit

def wordL (k : Int) : List UInt8 :=
  if k = 1 then [97, 114, 114, 101, 97, 114, 115] else if k = 2 then [114, 101, 103, 117, 108, 97, 114] else if k = 3 then [114, 101, 99, 111, 118, 101, 114, 121] else if k = 4 then [110, 111, 110, 101] else []
/-- a notice is valid -/
def notB (i h m k c : Int) : Bool := idB h m && (decide (i = h * 4096 + m) && (decide (1 ≤ k) && (decide (k ≤ 4) && (decide (0 ≤ c) && decide (c ≤ 1000000000000000)))))
theorem notB_iff {i h m k c : Int} : notB i h m k c = true ↔ idB h m = true ∧ i = h * 4096 + m ∧ 1 ≤ k ∧ k ≤ 4 ∧ 0 ≤ c ∧ c ≤ 1000000000000000 := by simp [notB]
/-- its words -/
noncomputable def noteL (i h m k c : Int) : List ByteArray :=
  [⟨#[110, 111, 116, 105, 99, 101]⟩, numS i, ⟨#[104, 111, 117, 115, 101, 104, 111, 108, 100]⟩, numS h, ⟨#[109, 111, 110, 116, 104]⟩, monthS m, bs (wordL k), fixS c 2]
noncomputable def noteT (i h m k c : Int) : ByteArray := bs (Lib.join ((noteL i h m k c).map L) [32])
noncomputable def noteS (i h m k c : Int) : ByteArray := if notB i h m k c then noteT i h m k c else ⟨#[]⟩
theorem noteS_yes {i h m k c : Int} (hb : notB i h m k c = true) : noteS i h m k c = noteT i h m k c := by rw [noteS, if_pos hb]
theorem noteS_no {i h m k c : Int} (hb : notB i h m k c = false) : noteS i h m k c = ⟨#[]⟩ := by rw [noteS, hb]; rfl

/-- a word: bytes, none of them a blank -/
def Word (l : List UInt8) : Prop := l ≠ [] ∧ ∀ c ∈ l, blank c = false
theorem blank_dig {c : UInt8} (h : isDig c = true) : blank c = false := by
  cases hb : blank c
  · rfl
  · rw [blank_iff] at hb
    unfold isDig at h
    simp at h
    rcases hb with hb | hb
    all_goals
      have h1 := h.1
      have h2 : (48 : UInt8).toNat ≤ c.toNat := h1
      change 48 ≤ c.toNat at h2
      omega
theorem word_digits {l : List UInt8} (h : l.all isDig = true) (hn : l ≠ []) : Word l := ⟨hn, fun c hc => blank_dig (List.all_eq_true.1 h c hc)⟩
theorem absD_all (n : Int) : (absD n).all isDig = true := by unfold absD; exact decDigits_all _
theorem word_num (n : Int) : Word (L (numS n)) := by
  by_cases h : n < 0
  · rw [numS_neg h, L_bs]
    refine ⟨by simp, fun c hc => ?_⟩
    rcases List.mem_cons.1 hc with rfl | hc
    · rfl
    · exact blank_dig (List.all_eq_true.1 (absD_all n) c hc)
  · rw [numS_pos h, L_bs]
    exact word_digits (absD_all n) (absD_ne n)
theorem word_pad (n k : Int) : (∀ c ∈ L (padS n k), blank c = false) := by
  intro c hc
  rw [padS, L_bs, List.mem_append] at hc
  rcases hc with hc | hc
  · rw [List.mem_replicate] at hc; rw [hc.2]; rfl
  · have hw := word_num n
    rw [numS, L_bs] at hw
    exact hw.2 c hc
theorem word_month {m : Int} (h : monB m = true) : Word (L (monthS m)) := by
  rw [monthS_yes h, L_append, L_append]
  refine ⟨by simp [show L ⟨#[45]⟩ = [45] from rfl], fun c hc => ?_⟩
  rw [List.mem_append, List.mem_append] at hc
  rcases hc with (hc | hc) | hc
  · exact word_pad _ _ c hc
  · have : c = 45 := by simpa [show L ⟨#[45]⟩ = [45] from rfl] using hc
    subst this; rfl
  · exact word_pad _ _ c hc
theorem word_fix (n : Int) : Word (L (fixS n 2)) := by
  rw [fixS, if_neg (by decide), L_bs]
  unfold fixT
  have hp : ∀ c ∈ padD n (2 : Int).toNat, blank c = false := by
    intro c hc
    unfold padD at hc
    rw [List.mem_append] at hc
    rcases hc with hc | hc
    · rw [List.mem_replicate] at hc; rw [hc.2]; rfl
    · exact blank_dig (List.all_eq_true.1 (absD_all n) c hc)
  refine ⟨by simp, fun c hc => ?_⟩
  simp only [List.mem_append] at hc
  rcases hc with hc | hc | hc | hc
  · unfold sgn at hc
    split at hc
    · have : c = 45 := by simpa using hc
      subst this; rfl
    · simp at hc
  · exact hp c (List.mem_of_mem_take hc)
  · have : c = 46 := by simpa using hc
    subst this; rfl
  · exact hp c (List.mem_of_mem_drop hc)
theorem word_kind {k : Int} (h1 : 1 ≤ k) (h4 : k ≤ 4) : Word (wordL k) := by
  obtain rfl | rfl | rfl | rfl : k = 1 ∨ k = 2 ∨ k = 3 ∨ k = 4 := by omega
  all_goals exact ⟨by decide, by decide⟩

/-! Splitting what was joined -/
theorem indexByte_word {c : UInt8} : ∀ {w r : List UInt8}, (∀ x ∈ w, x ≠ c) → Lib.indexByte (w ++ c :: r) c = w.length
  | [], r, _ => by simp [Lib.indexByte]
  | x :: w, r, h => by
    have hx : x ≠ c := h x (by simp)
    have ih := indexByte_word (w := w) (r := r) (fun y hy => h y (by simp [hy]))
    simp only [List.cons_append, Lib.indexByte]
    rw [ih]
    simp [hx]
theorem indexByte_not {c : UInt8} : ∀ {w : List UInt8}, (∀ x ∈ w, x ≠ c) → Lib.indexByte w c = -1
  | [], _ => by simp [Lib.indexByte]
  | x :: w, h => by
    have hx : x ≠ c := h x (by simp)
    have ih := indexByte_not (w := w) (fun y hy => h y (by simp [hy]))
    simp only [Lib.indexByte]
    rw [ih]
    simp [hx]
theorem Word.no32 {l : List UInt8} (h : Word l) : ∀ x ∈ l, x ≠ 32 := by
  intro x hx e
  have := h.2 x hx
  rw [e] at this
  exact absurd this (by decide)
theorem join_step (x y : List UInt8) (r : List (List UInt8)) : Lib.join (x :: y :: r) [32] = x ++ 32 :: Lib.join (y :: r) [32] := by
  rw [Lib.join_cons, Lib.join_cons]; simp [Lib.joinTail]
theorem indexB_eq (s sub : ByteArray) : Lib.indexB s sub = Lib.index (L s) (L sub) := rfl
theorem split_join : ∀ (ws : List (List UInt8)) (k : Nat), ws ≠ [] → ws.length ≤ k + 1 → (∀ x ∈ ws, ∀ c ∈ x, c ≠ 32) → Lib.splitB ⟨#[32]⟩ 0 k (bs (Lib.join ws [32])) = ws.map bs
  | [], _, h, _, _ => absurd rfl h
  | [x], k, _, _, hw => by
    rw [Lib.join_one]
    refine Lib.splitB_miss _ _ _ _ ?_
    rw [indexB_eq, L_bs, show L ⟨#[32]⟩ = [32] from rfl, Lib.index_one]
    exact indexByte_not (hw x (by simp))
  | x :: y :: r, 0, _, hl, _ => by simp at hl
  | x :: y :: r, k + 1, _, hl, hw => by
    have hx := hw x (by simp)
    have hi : Lib.indexB (bs (Lib.join (x :: y :: r) [32])) ⟨#[32]⟩ = (x.length : Int) := by
      rw [indexB_eq, L_bs, show L ⟨#[32]⟩ = [32] from rfl, Lib.index_one, join_step]
      exact indexByte_word hx
    rw [Lib.splitB_hit _ _ _ _ x.length hi]
    have e1 : (bs (Lib.join (x :: y :: r) [32])).extract 0 (x.length + 0) = bs x := by
      rw [← L_inj, L_extract, L_bs, L_bs, join_step]; simp
    have e2 : (bs (Lib.join (x :: y :: r) [32])).extract (x.length + (⟨#[32]⟩ : ByteArray).size) (bs (Lib.join (x :: y :: r) [32])).size = bs (Lib.join (y :: r) [32]) := by
      rw [← L_inj, L_extract, L_bs, L_bs, bs_size, join_step]
      show ((x ++ 32 :: Lib.join (y :: r) [32]).drop (x.length + 1)).take _ = _
      rw [show (x ++ 32 :: Lib.join (y :: r) [32]).drop (x.length + 1) = Lib.join (y :: r) [32] by rw [← List.drop_drop, List.drop_left]; rfl, List.take_of_length_le]
      rw [List.length_append, List.length_cons]
      show _ ≤ x.length + ((Lib.join (y :: r) [32]).length + 1) - (x.length + 1)
      omega
    rw [e1, e2, split_join (y :: r) k (by simp) (by simpa using hl) (fun z hz => hw z (by simp [hz]))]
    rfl
/-- the words of what was joined -/
theorem flds_join (s : ByteArray) : ∀ (ws : List (List UInt8)) (pos : Nat), ws ≠ [] → (∀ x ∈ ws, Word x) → (L s).drop pos = Lib.join ws [32] → flds s ((L s).drop pos) pos (-1) = ws.map bs
  | [], _, h, _, _ => absurd rfl h
  | [x], pos, _, hw, hd => by
    rw [Lib.join_one] at hd
    have hx := hw x (by simp)
    have hlen : x.length = s.size - pos := by rw [← hd, List.length_drop, L_length]
    have hpos : 0 < x.length := List.length_pos_iff.2 hx.1
    have hk := flds_skip s x.length pos (-1) hpos (fun j hj => by
      refine ⟨by omega, ?_⟩
      have h1 : ((L s).drop pos)[j]? = some (s[pos + j]'(by omega)) := by rw [List.getElem?_drop, L_get s (pos + j) (by omega)]
      rw [hd] at h1
      exact hx.2 _ (List.mem_of_getElem? h1))
    rw [hk, show pos + x.length = s.size by omega]
    have he : (L s).drop s.size = [] := by rw [List.drop_eq_nil_iff, L_length]; exact Nat.le_refl _
    rw [he, flds]
    rw [if_pos (show (-1 : Int) < 0 by decide), if_pos (by omega)]
    show [s.extract pos s.size] = [bs x]
    congr 1
    rw [← L_inj, L_extract, L_bs, hd, ← hlen, List.take_of_length_le (by omega)]
  | x :: y :: r, pos, _, hw, hd => by
    have hx := hw x (by simp)
    rw [join_step] at hd
    have hpos : 0 < x.length := List.length_pos_iff.2 hx.1
    have hlen := congrArg List.length hd
    rw [List.length_drop, L_length, List.length_append, List.length_cons] at hlen
    have hk := flds_skip s x.length pos (-1) hpos (fun j hj => by
      refine ⟨by omega, ?_⟩
      have h1 : ((L s).drop pos)[j]? = some (s[pos + j]'(by omega)) := by rw [List.getElem?_drop, L_get s (pos + j) (by omega)]
      rw [hd, List.getElem?_append_left hj] at h1
      exact hx.2 _ (List.mem_of_getElem? h1))
    have hd2 : (L s).drop (pos + x.length) = 32 :: Lib.join (y :: r) [32] := by
      rw [← List.drop_drop, hd, List.drop_left]
    have hd3 : (L s).drop (pos + x.length + 1) = Lib.join (y :: r) [32] := by
      rw [← List.drop_drop, hd2]; rfl
    rw [hk, hd2, if_pos (by decide), flds_word (by decide) (by omega), ← hd3, flds_join s (y :: r) (pos + x.length + 1) (by simp) (fun z hz => hw z (by simp [hz])) hd3]
    show s.extract pos (pos + x.length) :: _ = bs x :: _
    congr 1
    rw [← L_inj, L_extract, L_bs, hd, Nat.add_sub_cancel_left, List.take_left]
theorem fldS_join (ws : List (List UInt8)) (hn : ws ≠ []) (hw : ∀ x ∈ ws, Word x) : fldS (bs (Lib.join ws [32])) = ws.map bs := by
  have h := flds_join (bs (Lib.join ws [32])) ws 0 hn hw (by rw [L_bs]; rfl)
  rw [List.drop_zero] at h
  exact h
theorem note_words {i h m k c : Int} (hb : notB i h m k c = true) : ∀ x ∈ (noteL i h m k c).map L, Word x := by
  obtain ⟨b1, b2, b3, b4, b5, b6⟩ := notB_iff.1 hb
  have hm : monB m = true := by have := idB_iff.1 b1; rw [monB_iff]; omega
  intro x hx
  simp only [noteL, List.map_cons, List.map_nil, List.mem_cons, List.not_mem_nil, or_false] at hx
  rcases hx with rfl | rfl | rfl | rfl | rfl | rfl | rfl | rfl
  · exact ⟨by decide, by decide⟩
  · exact word_num _
  · exact ⟨by decide, by decide⟩
  · exact word_num _
  · exact ⟨by decide, by decide⟩
  · exact word_month hm
  · rw [L_bs]; exact word_kind b3 b4
  · exact word_fix _
theorem map_bs_L (l : List ByteArray) : (l.map L).map bs = l := by
  rw [List.map_map]
  have : bs ∘ L = id := by funext s; exact bs_L s
  rw [this, List.map_id]
theorem note_split {i h m k c : Int} (hb : notB i h m k c = true) : Lib.splitB ⟨#[32]⟩ 0 8 (noteT i h m k c) = noteL i h m k c := by
  rw [noteT, split_join _ 8 (by simp [noteL]) (by simp [noteL]) (fun x hx => (note_words hb x hx).no32), map_bs_L]
theorem note_flds {i h m k c : Int} (hb : notB i h m k c = true) : fldS (noteT i h m k c) = noteL i h m k c := by
  rw [noteT, fldS_join _ (by simp [noteL]) (note_words hb), map_bs_L]
end Go.Proofs.YtjdljholajacdaaDoor
/- Words of kinds, valid notices: what package notice and its reference compute. -/
namespace Go.Proofs.YtjdljholajacdaaDoor
open Go.RowKit

theorem kind_cases (k : Int) : k = 1 ∨ k = 2 ∨ k = 3 ∨ k = 4 ∨ ((k == 1) = false ∧ (k == 2) = false ∧ (k == 3) = false ∧ (k == 4) = false ∧ (k < 1 ∨ 4 < k) ∧ wordL k = []) := by
  by_cases h1 : k = 1
  · exact .inl h1
  by_cases h2 : k = 2
  · exact .inr (.inl h2)
  by_cases h3 : k = 3
  · exact .inr (.inr (.inl h3))
  by_cases h4 : k = 4
  · exact .inr (.inr (.inr (.inl h4)))
  · exact .inr (.inr (.inr (.inr ⟨by simpa using h1, by simpa using h2, by simpa using h3, by simpa using h4, by omega, by rw [wordL, if_neg h1, if_neg h2, if_neg h3, if_neg h4]⟩)))
set_option maxRecDepth 100000 in
theorem kindWord_any (k : Int) (w : World) : Calls Tryd.prog 52 #[.int .i64 k] w fun e w' => e = .returned (.string (bs (wordL k))) ∧ w = w' := by
  rcases kind_cases k with rfl | rfl | rfl | rfl | ⟨h1, h2, h3, h4, _, h6⟩
  iterate 4
    · go_enter Tryd.func52, Tryd.ntmps52
      go_wp2_with fail
      go_ret
      exact ⟨rfl, rfl⟩
  · rw [h6]
    clear h6
    go_enter Tryd.func52, Tryd.ntmps52
    go_wp2_with fail
    go_ret
    exact ⟨rfl, rfl⟩
set_option maxRecDepth 100000 in
theorem rword_any (k : Int) (a : 1 ≤ k) (b : k ≤ 4) (w : World) : Calls Tryd.prog 56 #[.int .i64 k] w fun e w' => e = .returned (.string (bs (wordL k))) ∧ w = w' := by
  rcases kind_cases k with rfl | rfl | rfl | rfl | ⟨_, _, _, _, h5, _⟩
  iterate 4
    · go_enter Tryd.func56, Tryd.ntmps56
      go_wp2_with fail
      go_ret
      exact ⟨rfl, rfl⟩
  · omega
/-- the ways through a notice's validity -/
theorem not_cases (i h m k c : Int) : (((idS h m).2 == 0) = false ∧ notB i h m k c = false) ∨ ((idS h m).2 = 0 ∧
    (((i == (idS h m).1) = false ∧ ((idS h m).1 == i) = false ∧ notB i h m k c = false) ∨ (i = (idS h m).1 ∧
      ((k < 1 ∧ wordL k = [] ∧ notB i h m k c = false) ∨ (4 < k ∧ wordL k = [] ∧ notB i h m k c = false) ∨ ((k = 1 ∨ k = 2 ∨ k = 3 ∨ k = 4) ∧
        ((c < 0 ∧ notB i h m k c = false) ∨ (1000000000000000 < c ∧ notB i h m k c = false) ∨ (0 ≤ c ∧ c ≤ 1000000000000000 ∧ notB i h m k c = true))))))) := by
  have hno : ∀ P : Prop, (notB i h m k c = true → ¬ P) → P → notB i h m k c = false := fun P hp q => by
    cases hb : notB i h m k c
    · rfl
    · exact absurd q (hp hb)
  by_cases hid : idB h m = true
  · have e2 : (idS h m).2 = 0 := by rw [idS, if_pos hid]
    have e1 : (idS h m).1 = h * 4096 + m := by rw [idS, if_pos hid]
    rw [e1, e2]
    refine .inr ⟨rfl, ?_⟩
    by_cases hi : i = h * 4096 + m
    · refine .inr ⟨hi, ?_⟩
      rcases kind_cases k with h1 | h1 | h1 | h1 | ⟨_, _, _, _, h5, h6⟩
      case inr.inr.inr.inr =>
        rcases h5 with h5 | h5
        · exact .inl ⟨h5, h6, hno (k < 1) (fun hb => by have := (notB_iff.1 hb).2.2.1; omega) h5⟩
        · exact .inr (.inl ⟨h5, h6, hno (4 < k) (fun hb => by have := (notB_iff.1 hb).2.2.2.1; omega) h5⟩)
      all_goals
        refine .inr (.inr ⟨by omega, ?_⟩)
        by_cases hc : c < 0
        · exact .inl ⟨hc, hno (c < 0) (fun hb => by have := (notB_iff.1 hb).2.2.2.2.1; omega) hc⟩
        · by_cases hc2 : 1000000000000000 < c
          · exact .inr (.inl ⟨hc2, hno (1000000000000000 < c) (fun hb => by have := (notB_iff.1 hb).2.2.2.2.2; omega) hc2⟩)
          · exact .inr (.inr ⟨by omega, by omega, notB_iff.2 ⟨hid, hi, by omega, by omega, by omega, by omega⟩⟩)
    · exact .inl ⟨by simpa using hi, by simpa using (fun e => hi e.symm), hno (i ≠ h * 4096 + m) (fun hb h2 => h2 (notB_iff.1 hb).2.1) hi⟩
  · refine .inl ⟨by rw [idS, if_neg hid]; rfl, hno (idB h m ≠ true) (fun hb h2 => h2 (notB_iff.1 hb).1) hid⟩

set_option maxRecDepth 100000 in
set_option maxHeartbeats 8000000 in
theorem nvalid_any (i h m k c : Int) (w : World) : Calls Tryd.prog 50 #[.agg #[.int .i64 i, .int .i64 h, .int .i64 m, .int .i64 k, .int .i64 c]] w fun e w' => e = .returned (.bool (notB i h m k c)) ∧ Kept w w' := by
  have HI := Lib.hid (fun w => id_any h m w)
  have HW := Lib.hid (fun w => kindWord_any k w)
  rcases not_cases i h m k c with ⟨h1, hb⟩ | ⟨h1, ⟨h2, _, hb⟩ | ⟨rfl, ⟨h3, h3w, hb⟩ | ⟨h3, h3w, hb⟩ | ⟨h3, ⟨h4, hb⟩ | ⟨h4, hb⟩ | ⟨h4, h5, hb⟩⟩⟩⟩
  case inl =>
    generalize (idS h m).2 = cc at *
    generalize (idS h m).1 = ii at *
    have HB := Lib.hid hb; clear hb HW
    go_enter Tryd.func50, Tryd.ntmps50
    go_wp2_with (go_at_call 29; refine (HI.out _).mono ?_; rintro e w1 ⟨rfl, rfl⟩)
    go_ret
    rw [HB.out]
    exact ⟨rfl, (Kept.refl _).alloc _⟩
  case inr.inl =>
    rw [h1] at HI
    generalize (idS h m).1 = ii at *
    have HB := Lib.hid hb; clear hb HW h1
    go_enter Tryd.func50, Tryd.ntmps50
    go_wp2_with (go_at_call 29; refine (HI.out _).mono ?_; rintro e w1 ⟨rfl, rfl⟩)
    go_ret
    rw [HB.out]
    exact ⟨rfl, (Kept.refl _).alloc _⟩
  case inr.inr.inl =>
    rw [h1] at HI
    rw [h3w, show bs [] = ⟨#[]⟩ from rfl] at HW
    generalize (idS h m).1 = ii at *
    have HB := Lib.hid hb; clear hb h1 h3w
    go_enter Tryd.func50, Tryd.ntmps50
    go_wp2_with (first
      | (go_at_call 29; refine (HI.out _).mono ?_; rintro e w1 ⟨rfl, rfl⟩)
      | (go_at_call 52; refine (HW.out _).mono ?_; rintro e w1 ⟨rfl, rfl⟩))
    go_ret
    rw [HB.out]
    exact ⟨rfl, (Kept.refl _).alloc _⟩
  case inr.inr.inr.inl =>
    rw [h1] at HI
    rw [h3w, show bs [] = ⟨#[]⟩ from rfl] at HW
    generalize (idS h m).1 = ii at *
    have HB := Lib.hid hb; clear hb h1 h3w
    go_enter Tryd.func50, Tryd.ntmps50
    go_wp2_with (first
      | (go_at_call 29; refine (HI.out _).mono ?_; rintro e w1 ⟨rfl, rfl⟩)
      | (go_at_call 52; refine (HW.out _).mono ?_; rintro e w1 ⟨rfl, rfl⟩))
    go_ret
    rw [HB.out]
    exact ⟨rfl, (Kept.refl _).alloc _⟩
  all_goals
    rw [h1] at HI
    generalize (idS h m).1 = ii at *
    have HB := Lib.hid hb; clear hb h1
    have hnf : ¬ (bs (wordL k)).toList = [] := by
      rw [toList_L, L_bs]
      rcases h3 with rfl | rfl | rfl | rfl <;> decide
    have hne : (bs (wordL k)).toList.isEmpty = false := by simpa using hnf
    have hc1 : (0 ≤ c ∨ decide (0 ≤ c) = false) := by by_cases h : 0 ≤ c <;> simp [h]
    have hc2 : (c ≤ 1000000000000000 ∨ decide (c ≤ 1000000000000000) = false) := by by_cases h : c ≤ 1000000000000000 <;> simp [h]
    generalize bs (wordL k) = Wd at *
    rcases hc1 with hc1 | hc1 <;> rcases hc2 with hc2 | hc2
    all_goals first
      | (exfalso; simp only [decide_eq_false_iff_not] at hc1 hc2; omega)
      | (exfalso; simp only [decide_eq_false_iff_not] at hc1; omega)
      | (exfalso; simp only [decide_eq_false_iff_not] at hc2; omega)
      | (exfalso; omega)
      | (go_enter Tryd.func50, Tryd.ntmps50
         go_wp2_with (first
           | (go_at_call 29; refine (HI.out _).mono ?_; rintro e w1 ⟨rfl, rfl⟩)
           | (go_at_call 52; refine (HW.out _).mono ?_; rintro e w1 ⟨rfl, rfl⟩))
         go_ret
         rw [HB.out]
         exact ⟨rfl, (Kept.refl _).alloc _⟩)
set_option maxRecDepth 100000 in
set_option maxHeartbeats 8000000 in
theorem rnvalid_any (i h m k c : Int) (w : World) : Calls Tryd.prog 54 #[.agg #[.int .i64 i, .int .i64 h, .int .i64 m, .int .i64 k, .int .i64 c]] w fun e w' => e = .returned (.bool (notB i h m k c)) ∧ Kept w w' := by
  have HI := Lib.hid (fun w => rid_any h m w)
  rcases not_cases i h m k c with ⟨h1, hb⟩ | ⟨h1, ⟨_, h2, hb⟩ | ⟨h2, ⟨h3, _, hb⟩ | ⟨h3, _, hb⟩ | ⟨h3, ⟨h4, hb⟩ | ⟨h4, hb⟩ | ⟨h4, h5, hb⟩⟩⟩⟩
  case inl =>
    generalize (idS h m).2 = cc at *
    generalize (idS h m).1 = ii at *
    have HB := Lib.hid hb; clear hb
    go_enter Tryd.func54, Tryd.ntmps54
    go_wp2_with (go_at_call 30; refine (HI.out _).mono ?_; rintro e w1 ⟨rfl, rfl⟩)
    go_ret
    rw [HB.out]
    exact ⟨rfl, (Kept.refl _).alloc _⟩
  case inr.inl =>
    rw [h1] at HI
    generalize (idS h m).1 = ii at *
    have HB := Lib.hid hb; clear hb h1
    go_enter Tryd.func54, Tryd.ntmps54
    go_wp2_with (go_at_call 30; refine (HI.out _).mono ?_; rintro e w1 ⟨rfl, rfl⟩)
    go_ret
    rw [HB.out]
    exact ⟨rfl, (Kept.refl _).alloc _⟩
  all_goals
    rw [h1] at HI
    subst h2
    generalize (idS h m).1 = ii at *
    have HB := Lib.hid hb; clear hb h1
    have hk1 : (1 ≤ k ∨ decide (1 ≤ k) = false) := by by_cases h : 1 ≤ k <;> simp [h]
    have hk2 : (k ≤ 4 ∨ decide (k ≤ 4) = false) := by by_cases h : k ≤ 4 <;> simp [h]
    have hc1 : (0 ≤ c ∨ decide (0 ≤ c) = false) := by by_cases h : 0 ≤ c <;> simp [h]
    have hc2 : (c ≤ 1000000000000000 ∨ decide (c ≤ 1000000000000000) = false) := by by_cases h : c ≤ 1000000000000000 <;> simp [h]
    rcases hk1 with hk1 | hk1 <;> rcases hk2 with hk2 | hk2 <;> rcases hc1 with hc1 | hc1 <;> rcases hc2 with hc2 | hc2
    all_goals first
      | (exfalso; simp only [decide_eq_false_iff_not] at hk1 hk2 hc1 hc2; omega)
      | (exfalso; simp only [decide_eq_false_iff_not] at hc1 hc2; omega)
      | (exfalso; simp only [decide_eq_false_iff_not] at hk1; omega)
      | (exfalso; simp only [decide_eq_false_iff_not] at hk2; omega)
      | (exfalso; simp only [decide_eq_false_iff_not] at hc1; omega)
      | (exfalso; simp only [decide_eq_false_iff_not] at hc2; omega)
      | (exfalso; omega)
      | (go_enter Tryd.func54, Tryd.ntmps54
         go_wp2_with (go_at_call 30; refine (HI.out _).mono ?_; rintro e w1 ⟨rfl, rfl⟩)
         go_ret
         rw [HB.out]
         exact ⟨rfl, (Kept.refl _).alloc _⟩)
end Go.Proofs.YtjdljholajacdaaDoor
/- What Format of package notice, and of its reference, computes. -/
namespace Go.Proofs.YtjdljholajacdaaDoor
open Go.RowKit

theorem strs_cells (w : World) (l : List ByteArray) (t : TypeId) : ∀ (j : Nat) x, l[j]? = some x → (w.alloc (.cells (l.map Value.string).toArray t)).cell? ⟨w.heap.size, 0 + j, none⟩ = some (.string x) := by
  intro j x h
  rw [Nat.zero_add, World.cell?_alloc_at _ _ _ _ rfl, List.getElem?_toArray, List.getElem?_map, h]
  rfl
theorem padS_len (n k : Int) (h0 : -9223372036854775808 ≤ n) (h1 : n ≤ 9223372036854775807) (hk : k ≤ 4) : (padS n k).size ≤ 40 := by
  have h := numS_size n h0 h1
  rw [padS, bs_size, List.length_append, List.length_replicate]
  have : (Lib.itoa n).length = (numS n).size := by rw [numS, bs_size]
  omega
theorem monthS_len {m : Int} (h : monB m = true) : (monthS m).size ≤ 81 := by
  have hm := monB_iff.1 h
  rw [monthS_yes h, ByteArray.size_append, ByteArray.size_append]
  have a := padS_len (mY m) 4 (by unfold mY; omega) (by unfold mY; omega) (by decide)
  have b := padS_len (mM m) 2 (by unfold mM; omega) (by unfold mM; omega) (by decide)
  show _ + 1 + _ ≤ _
  omega
theorem fix2_len (n : Int) (h0 : -9223372036854775808 ≤ n) (h1 : n ≤ 9223372036854775807) : (fixS n 2).size ≤ 60 := by
  have hl := absD_len n h0 h1
  unfold fixS
  rw [if_neg (by decide), bs_size, fixT, List.length_append, List.length_append, List.length_append, List.length_take, List.length_drop, padD, List.length_append, List.length_replicate, sgn]
  split <;> simp <;> omega
theorem wordL_len (k : Int) : (wordL k).length ≤ 8 := by
  rcases kind_cases k with rfl | rfl | rfl | rfl | ⟨_, _, _, _, _, h6⟩
  iterate 4 decide
  rw [h6]; decide
/-- the words' sizes -/
theorem note_sizes {i h m k c : Int} (hb : notB i h m k c = true) : (numS i).size ≤ 21 ∧ (numS h).size ≤ 21 ∧ (monthS m).size ≤ 81 ∧ (bs (wordL k)).size ≤ 8 ∧ (fixS c 2).size ≤ 60 := by
  obtain ⟨b1, b2, b3, b4, b5, b6⟩ := notB_iff.1 hb
  have hid := idB_iff.1 b1
  exact ⟨numS_size i (by omega) (by omega), numS_size h (by omega) (by omega), monthS_len (monB_iff.2 (by omega)), by rw [bs_size]; exact wordL_len k, fix2_len c (by omega) (by omega)⟩
theorem noteT_list (i h m k c : Int) : noteT i h m k c = ⟨#[110, 111, 116, 105, 99, 101, 32]⟩ ++ numS i ++ ⟨#[32, 104, 111, 117, 115, 101, 104, 111, 108, 100, 32]⟩ ++ numS h ++ ⟨#[32, 109, 111, 110, 116, 104, 32]⟩ ++ monthS m ++ ⟨#[32]⟩ ++ bs (wordL k) ++ ⟨#[32]⟩ ++ fixS c 2 := by
  rw [← L_inj]
  simp only [L_append, noteT, L_bs, noteL, List.map_cons, List.map_nil, join_step, Lib.join_one]
  show _ = [110, 111, 116, 105, 99, 101, 32] ++ L (numS i) ++ [32, 104, 111, 117, 115, 101, 104, 111, 108, 100, 32] ++ L (numS h) ++ [32, 109, 111, 110, 116, 104, 32] ++ L (monthS m) ++ [32] ++ wordL k ++ [32] ++ L (fixS c 2)
  show [110, 111, 116, 105, 99, 101] ++ 32 :: (L (numS i) ++ 32 :: ([104, 111, 117, 115, 101, 104, 111, 108, 100] ++ 32 :: (L (numS h) ++ 32 :: ([109, 111, 110, 116, 104] ++ 32 :: (L (monthS m) ++ 32 :: (wordL k ++ 32 :: L (fixS c 2))))))) = _
  simp
theorem noteT_size {i h m k c : Int} (hb : notB i h m k c = true) : (noteT i h m k c).size ≤ 1000 ∧ 15 ≤ (noteT i h m k c).size := by
  obtain ⟨a1, a2, a3, a4, a5⟩ := note_sizes hb
  rw [noteT_list]
  simp only [ByteArray.size_append]
  show 7 + _ + 11 + _ + 7 + _ + 1 + _ + 1 + _ ≤ 1000 ∧ 15 ≤ 7 + _ + 11 + _ + 7 + _ + 1 + _ + 1 + _
  omega

set_option maxRecDepth 100000 in
set_option maxHeartbeats 8000000 in
theorem nformat_any (i h m k c : Int) (w : World) (hP : Pow w) : Calls Tryd.prog 34 #[.agg #[.int .i64 i, .int .i64 h, .int .i64 m, .int .i64 k, .int .i64 c]] w fun e w' => e = .returned (.string (noteS i h m k c)) ∧ Kept w w' := by
  have HV := Lib.hid (fun w => nvalid_any i h m k c w)
  cases hb : notB i h m k c
  · rw [hb] at HV
    have HR := Lib.hid (noteS_no hb)
    clear hb
    go_enter Tryd.func34, Tryd.ntmps34
    go_wp2_with (go_at_call 50; refine (HV.out _).mono ?_; rintro e w1 ⟨rfl, hk⟩)
    go_ret
    rw [HR.out]
    exact ⟨rfl, ((Kept.refl _).alloc _).trans hk⟩
  · rw [hb] at HV
    have HR := Lib.hid (noteS_yes hb)
    obtain ⟨b1, b2, b3, b4, b5, b6⟩ := notB_iff.1 hb
    have hid := idB_iff.1 b1
    have hsz := (noteT_size hb).1
    have HF1 := Lib.hid (fun w hP => fmtInt_any i (by omega) (by omega) w hP)
    have HF2 := Lib.hid (fun w hP => fmtInt_any h (by omega) (by omega) w hP)
    have HF3 := Lib.hid (fun w hP => mformat_any m w hP)
    have HF4 := Lib.hid (fun w => kindWord_any k w)
    have HF5 : Hid (∀ w, Pow w → Calls Tryd.prog 40 #[.int .i64 c, .int .i64 2] w fun e w' => e = .returned (.string (fixS c 2)) ∧ Kept w w') := Lib.hid (fun w hP => formatFixed_any c 2 (by omega) (by omega) w hP)
    have HJ := Lib.hid (fun (W : World) => Tryd.strings_Join W.heap.size 0 8 (noteL i h m k c) ⟨#[32]⟩ (W.alloc (.cells ((noteL i h m k c).map Value.string).toArray 9)) (strs_cells W (noteL i h m k c) 9) (by simp) (by simp [noteL]) (by simp [noteL])
      (by rw [noteT, bs_size] at hsz; exact Nat.le_trans hsz (by decide)))
    clear b1 b2 b3 b4 b5 b6 hid hb hsz
    have hL : noteL i h m k c = [⟨#[110, 111, 116, 105, 99, 101]⟩, numS i, ⟨#[104, 111, 117, 115, 101, 104, 111, 108, 100]⟩, numS h, ⟨#[109, 111, 110, 116, 104]⟩, monthS m, bs (wordL k), fixS c 2] := rfl
    have hNT : (⟨(Lib.join ((noteL i h m k c).map (·.data.toList)) (⟨#[32]⟩ : ByteArray).data.toList).toArray⟩ : ByteArray) = noteT i h m k c := rfl
    have HJ2 : Hid (∀ W : World, Calls Tryd.prog 53 #[.slice (some ⟨W.heap.size, 0, none⟩) 8 8, .string ⟨#[32]⟩] (W.alloc (.cells #[.string ⟨#[110, 111, 116, 105, 99, 101]⟩, .string (numS i), .string ⟨#[104, 111, 117, 115, 101, 104, 111, 108, 100]⟩, .string (numS h), .string ⟨#[109, 111, 110, 116, 104]⟩, .string (monthS m), .string (bs (wordL k)), .string (fixS c 2)] 9))
        fun e w' => e = .returned (.string (noteT i h m k c)) ∧ Kept (W.alloc (.cells #[.string ⟨#[110, 111, 116, 105, 99, 101]⟩, .string (numS i), .string ⟨#[104, 111, 117, 115, 101, 104, 111, 108, 100]⟩, .string (numS h), .string ⟨#[109, 111, 110, 116, 104]⟩, .string (monthS m), .string (bs (wordL k)), .string (fixS c 2)] 9)) w') := fun W => by
      have := HJ.out W
      rw [hNT] at this
      exact this
    clear HJ hL hNT
    generalize noteT i h m k c = NT at *
    generalize numS i = X1 at *
    generalize numS h = X2 at *
    generalize monthS m = X3 at *
    generalize bs (wordL k) = X4 at *
    generalize fixS c 2 = X5 at *
    go_enter Tryd.func34, Tryd.ntmps34
    go_wp2_with (go_at_call 50; refine (HV.out _).mono ?_; rintro e w1 ⟨rfl, hk⟩)
    have hK := ((Kept.refl w).alloc _).trans hk
    have B := hk.blk1
    have c0 := KW.cell B.lt (B.cell 0)
    have c1 := KW.cell B.lt (B.cell 1)
    have c2 := KW.cell B.lt (B.cell 2)
    have c3 := KW.cell B.lt (B.cell 3)
    have c4 := KW.cell B.lt (B.cell 4)
    have hPx := fun x : KW w1 => hP.kept (hK.trans x.h)
    clear B hk
    refine wp_region_kept_tail 15 (by kernel_rfl) (by kernel_rfl) ?_
    simp only [List.take_succ_cons, List.take_zero, List.drop_succ_cons, List.drop_zero]
    repeat (go_big_quiet_step (first
      | (go_at_call_of 39 (Value.int IntKind.i64 i); exact KW.call (HF1.out _ (hPx _)))
      | (go_at_call_of 39 (Value.int IntKind.i64 h); exact KW.call (HF2.out _ (hPx _)))
      | (go_at_call 51; exact KW.call (HF3.out _ (hPx _)))
      | (go_at_call 52; exact KW.pure (HF4.out _))
      | (go_at_call 40; exact KW.call (HF5.out _ (hPx _)))))
    refine wpQuiet_nil ?_
    rintro w2 ⟨⟨wx, hx2⟩, hh⟩
    obtain rfl : w2 = wx := hh
    go_wp2_with (go_at_call 53; refine (HJ2.out _).mono ?_; rintro e w3 ⟨rfl, hk⟩)
    go_ret
    rw [HR.out]
    exact ⟨rfl, ((hK.trans hx2).alloc _).trans hk⟩

set_option maxRecDepth 100000 in
set_option maxHeartbeats 8000000 in
theorem rnformat_any (i h m k c : Int) (w : World) : Calls Tryd.prog 35 #[.agg #[.int .i64 i, .int .i64 h, .int .i64 m, .int .i64 k, .int .i64 c]] w fun e w' => e = .returned (.string (noteS i h m k c)) ∧ Kept w w' := by
  have HV := Lib.hid (fun w => rnvalid_any i h m k c w)
  cases hb : notB i h m k c
  · rw [hb] at HV
    have HR := Lib.hid (noteS_no hb)
    clear hb
    go_enter Tryd.func35, Tryd.ntmps35
    go_wp2_with (go_at_call 54; refine (HV.out _).mono ?_; rintro e w1 ⟨rfl, hk⟩)
    go_ret
    rw [HR.out]
    exact ⟨rfl, ((Kept.refl _).alloc _).trans hk⟩
  · rw [hb] at HV
    have HR := Lib.hid ((noteS_yes hb).trans (noteT_list i h m k c))
    obtain ⟨b1, b2, b3, b4, b5, b6⟩ := notB_iff.1 hb
    have hid := idB_iff.1 b1
    obtain ⟨a1, a2, a3, a4, a5⟩ := note_sizes hb
    have HF1 := Lib.hid (fun w => rfmtInt_any i (by omega) (by omega) w)
    have HF2 := Lib.hid (fun w => rfmtInt_any h (by omega) (by omega) w)
    have HF3 := Lib.hid (fun w => rmformat_any m w)
    have HF4 := Lib.hid (fun w => rword_any k (by omega) (by omega) w)
    have HF5 : Hid (∀ w, Calls Tryd.prog 43 #[.int .i64 c, .int .i64 2] w fun e w' => e = .returned (.string (fixS c 2)) ∧ Kept w w') := Lib.hid (fun w => rformatFixed_any c 2 (by omega) (by omega) w)
    clear b1 b2 b3 b4 b5 b6 hid hb
    generalize numS i = X1 at *
    generalize numS h = X2 at *
    generalize monthS m = X3 at *
    generalize bs (wordL k) = X4 at *
    generalize fixS c 2 = X5 at *
    go_enter Tryd.func35, Tryd.ntmps35
    go_wp2_with (go_at_call 54; refine (HV.out _).mono ?_; rintro e w1 ⟨rfl, hk⟩)
    have hK := ((Kept.refl w).alloc _).trans hk
    have B := hk.blk1
    have c0 := KW.cell B.lt (B.cell 0)
    have c1 := KW.cell B.lt (B.cell 1)
    have c2 := KW.cell B.lt (B.cell 2)
    have c3 := KW.cell B.lt (B.cell 3)
    have c4 := KW.cell B.lt (B.cell 4)
    clear B hk
    refine wp_region_kept (by kernel_rfl) (by kernel_rfl) ?_
    repeat (go_big_quiet_step (first
      | (go_at_call_of 42 (Value.int IntKind.i64 i); exact KW.call (HF1.out _))
      | (go_at_call_of 42 (Value.int IntKind.i64 h); exact KW.call (HF2.out _))
      | (go_at_call 55; exact KW.call (HF3.out _))
      | (go_at_call 56; exact KW.pure (HF4.out _))
      | (go_at_call 43; exact KW.call (HF5.out _))))
    refine wpQuiet_nil ?_
    rintro w2 ⟨⟨wx, hx2⟩, hh⟩
    obtain rfl : w2 = wx := hh
    go_wp2_with fail
    go_ret
    rw [HR.out]
    exact ⟨rfl, hK.trans hx2⟩
end Go.Proofs.YtjdljholajacdaaDoor
/- What Parse of package notice computes. -/
namespace Go.Proofs.YtjdljholajacdaaDoor
open Go.RowKit

/-- the variable internal/bytealg.MaxLen holds some integer -/
def MaxL (w : World) : Prop := ∃ m, w.cell? ⟨1, 0, none⟩ = some (.int .i64 m)
theorem MaxL.kept {w w' : World} (h : MaxL w) (hk : Kept w w') : MaxL w' := by
  obtain ⟨m, hm⟩ := h
  refine ⟨m, hk.cell (p := ⟨1, 0, none⟩) ?_ hm⟩
  rcases Nat.lt_or_ge 1 w.heap.size with hlt | hge
  · exact hlt
  · simp [World.cell?, Array.getElem?_eq_none hge] at hm
theorem cellsOf_get {l : List ByteArray} {N j : Nat} {x : ByteArray} (h : l[j]? = some x) : (Lib.cellsOf l N)[j]? = some (.string x) := by
  unfold Lib.cellsOf
  rw [List.getElem?_toArray, List.getElem?_append_left (by rw [List.length_map]; exact (List.getElem?_eq_some_iff.1 h).1), List.getElem?_map, h]
  rfl
theorem strs_of_cells (w : World) (l : List ByteArray) (N : Nat) (t : TypeId) : Strs (w.alloc (.cells (Lib.cellsOf l N) t)) (.slice (some ⟨w.heap.size, 0, none⟩) l.length N) l := by
  refine ⟨_, _, rfl, fun _ => ⟨w.heap.size, 0, rfl, by simp, fun j hj => ?_⟩⟩
  rw [Nat.zero_add, World.cell?_alloc_at _ _ _ _ rfl]
  have hg : l[j]? = some l[j] := List.getElem?_eq_getElem hj
  rw [cellsOf_get hg, hg]; rfl
def SplitPost (s : ByteArray) (w : World) (e : Ending) (w' : World) : Prop := ∃ v, e = .returned v ∧ Strs w' v (Lib.splitB ⟨#[32]⟩ 0 (min 9 (s.size + 1) - 1) s) ∧ Kept w w'
theorem splitN_any (s : ByteArray) (hs : s.size ≤ 1000000) (w : World) (hX : MaxL w) : Calls Tryd.prog 57 #[.string s, .string ⟨#[32]⟩, .int .i64 9] w (SplitPost s w) := by
  obtain ⟨m, hm⟩ := hX
  refine (Tryd.strings_SplitN s ⟨#[32]⟩ 9 m w (by omega) hm (by decide) (by decide) (by decide)).mono ?_
  rintro e w' ⟨rfl, rfl⟩
  exact ⟨_, rfl, strs_of_cells _ _ _ _, (Kept.refl _).alloc _⟩
theorem splitB_sizes : ∀ (k : Nat) (s : ByteArray) (n : Nat), s.size ≤ n → ∀ x ∈ Lib.splitB ⟨#[32]⟩ 0 k s, x.size ≤ n
  | 0, s, n, hn, x, hx => by
    rw [Lib.splitB_zero] at hx
    obtain rfl : x = s := by simpa using hx
    exact hn
  | k + 1, s, n, hn, x, hx => by
    rw [Lib.splitB] at hx
    split at hx
    · obtain rfl : x = s := by simpa using hx
      exact hn
    · rcases List.mem_cons.1 hx with rfl | hx
      · rw [ByteArray.size_extract]; omega
      · exact splitB_sizes k _ n (by rw [ByteArray.size_extract]; omega) x hx
theorem beq_noN {a b : Int} (h : a ≠ b) : (a == b) = false := by simpa using h
theorem bne_noN {a b : Int} (h : a ≠ b) : (a != b) = true := by simpa using h
theorem neqN (X Y : ByteArray) : (X.toList == Y.toList) = decide (X = Y) := by
  rw [toList_L, toList_L]
  by_cases h : X = Y
  · subst h; simp
  · rw [decide_eq_false h]
    simpa using fun e => h (L_inj.1 e)
theorem cell_far {w : World} {b o g i : Nat} {u v : Value} (hne : b ≠ g) (h : w.cell? ⟨b, o, none⟩ = some v) : (w.setCell ⟨g, i, none⟩ u).cell? ⟨b, o, none⟩ = some v := by
  simp only [World.cell?, World.setCell] at h ⊢
  rw [Array.getElem?_modify, if_neg (Ne.symm hne)]
  exact h
theorem wordL_inj {a b : Int} (ha : 1 ≤ a ∧ a ≤ 4) (hb : 1 ≤ b ∧ b ≤ 4) (h : bs (wordL a) = bs (wordL b)) : a = b := by
  have h := bs_inj.1 h
  obtain rfl | rfl | rfl | rfl : a = 1 ∨ a = 2 ∨ a = 3 ∨ a = 4 := by omega
  all_goals
    obtain rfl | rfl | rfl | rfl : b = 1 ∨ b = 2 ∨ b = 3 ∨ b = 4 := by omega
    all_goals first | rfl | exact absurd h (by decide)
/-- a field of the words -/
theorem Strs.at8 {w : World} {v : Value} {xs : List ByteArray} (h : Strs w v xs) (h8 : xs.length = 8) : ∃ b off cap, v = .slice (some ⟨b, off, none⟩) 8 cap ∧ b < w.heap.size ∧ ∀ j x, xs[j]? = some x → w.cell? ⟨b, off + j, none⟩ = some (.string x) := by
  obtain ⟨A, cap, rfl, hx⟩ := h
  obtain ⟨b, off, rfl, hb, hc⟩ := hx (by omega)
  refine ⟨b, off, cap, by rw [h8], hb, fun j x hj => ?_⟩
  have := hc j (List.getElem?_eq_some_iff.1 hj).1
  rwa [hj] at this
/-- what holds at the head of the loop over the kinds -/
def NLoop (w : World) (b6 : Nat) (o6 : Nat) (X : ByteArray) (g : Nat) (i h m c : Int) (P : Nat → Int → Prop) (z : Value) (wr : World) : Prop :=
  ∃ (q : Nat) (kk : Int), 1 ≤ q ∧ q ≤ 5 ∧ z = .int .i64 q ∧ Blk wr g 54 #[.int .i64 i, .int .i64 h, .int .i64 m, .int .i64 kk, .int .i64 c] ∧ Blk wr w.heap.size 54 #[.int .i64 0, .int .i64 0, .int .i64 0, .int .i64 0, .int .i64 0] ∧
    wr.cell? ⟨b6, o6, none⟩ = some (.string X) ∧ b6 < wr.heap.size ∧ Kept w wr ∧ P q kk

set_option maxRecDepth 100000 in
set_option maxHeartbeats 16000000 in
theorem nparse_no (s : ByteArray) (hs : s.size ≤ 300) (hno : ∀ i h m k c, noteS i h m k c = s → notB i h m k c = false) (w : World) (hP : Pow w) (hX : MaxL w) :
    Calls Tryd.prog 36 #[.string s] w fun e w' => e = .returned (npV (0, 0, 0, 0, 0, 2)) ∧ Kept w w' := by
  have HS := Lib.hid (fun w hX => splitN_any s (by omega) w hX)
  have hsz := splitB_sizes (min 9 (s.size + 1) - 1) s 300 hs
  unfold SplitPost at HS
  generalize Lib.splitB ⟨#[32]⟩ 0 (min 9 (s.size + 1) - 1) s = xs at *
  by_cases h8 : xs.length = 8
  · match xs, h8 with
    | [x0, x1, x2, x3, x4, x5, x6, x7], h8 =>
    have H1 := Lib.hid (fun w => parseInt_any x1 (by have := hsz x1 (by simp); omega) w)
    have H3 := Lib.hid (fun w => parseInt_any x3 (by have := hsz x3 (by simp); omega) w)
    have H5 := Lib.hid (fun w => mparse_any x5 w)
    have H7 := Lib.hid (fun w => parseFixed_any x7 2 (by have := hsz x7 (by simp); omega) w)
    generalize parP (L x1) 0 = p1 at *
    generalize parP (L x3) 0 = p3 at *
    generalize mparS x5 = p5 at *
    generalize refP (L x7) 2 = p7 at *
    obtain ⟨i, e1⟩ := p1
    obtain ⟨h, e3⟩ := p3
    obtain ⟨m, e5⟩ := p5
    obtain ⟨c, e7⟩ := p7
    dsimp only at H1 H3 H5 H7
    clear hsz
    have hcd : (e1 ≠ 0 ∨ (e1 = 0 ∧ e3 ≠ 0) ∨ (e1 = 0 ∧ e3 = 0 ∧ e5 ≠ 0) ∨ (e1 = 0 ∧ e3 = 0 ∧ e5 = 0 ∧ e7 ≠ 0)) ∨ (e1 = 0 ∧ e3 = 0 ∧ e5 = 0 ∧ e7 = 0) := by omega
    rcases hcd with hcd | ⟨rfl, rfl, rfl, rfl⟩
    · rcases hcd with q1 | ⟨rfl, q1⟩ | ⟨rfl, rfl, q1⟩ | ⟨rfl, rfl, rfl, q1⟩
      all_goals
        have q2 := beq_noN q1
        have q3 := bne_noN q1
        clear q1
        go_enter Tryd.func36, Tryd.ntmps36
        go_wp2_with fail
        refine (HS.out _ (hX.kept ((Kept.refl _).alloc _))).mono ?_
        rintro e w1 ⟨v, rfl, hS, hk⟩
        obtain ⟨bw, off, cap, rfl, hb, hc⟩ := hS.at8 h8
        have hK := ((Kept.refl w).alloc _).trans hk
        have B := hk.blk1
        have y1 := hc 1 x1 rfl
        have y3 := hc 3 x3 rfl
        have y5 := hc 5 x5 rfl
        have y6 := hc 6 x6 rfl
        have y7 := hc 7 x7 rfl
        clear hc hk hS
        go_wp2_with fail
        refine (H1.out _).mono ?_
        rintro e w2 ⟨rfl, hk⟩
        have hK := hK.trans hk
        have B := B.kept hk
        have y3 := hk.cell (p := ⟨bw, _, none⟩) hb y3
        have y5 := hk.cell (p := ⟨bw, _, none⟩) hb y5
        have y6 := hk.cell (p := ⟨bw, _, none⟩) hb y6
        have y7 := hk.cell (p := ⟨bw, _, none⟩) hb y7
        have hb := Nat.lt_of_lt_of_le hb hk.size
        clear hk
        go_wp2_with fail
        refine (H3.out _).mono ?_
        rintro e w3 ⟨rfl, hk⟩
        have hK := hK.trans hk
        have B := B.kept hk
        have y5 := hk.cell (p := ⟨bw, _, none⟩) hb y5
        have y6 := hk.cell (p := ⟨bw, _, none⟩) hb y6
        have y7 := hk.cell (p := ⟨bw, _, none⟩) hb y7
        have hb := Nat.lt_of_lt_of_le hb hk.size
        clear hk
        go_wp2_with fail
        refine (H5.out _).mono ?_
        rintro e w4 ⟨rfl, hk⟩
        have hK := hK.trans hk
        have B := B.kept hk
        have y6 := hk.cell (p := ⟨bw, _, none⟩) hb y6
        have y7 := hk.cell (p := ⟨bw, _, none⟩) hb y7
        have hb := Nat.lt_of_lt_of_le hb hk.size
        clear hk
        go_wp2_with fail
        refine (H7.out _).mono ?_
        rintro e w5 ⟨rfl, hk⟩
        have hK := hK.trans hk
        have B := B.kept hk
        have y6 := hk.cell (p := ⟨bw, _, none⟩) hb y6
        have hb := Nat.lt_of_lt_of_le hb hk.size
        have b := B.cell
        have l := B.lt
        have f := B.frozen
        clear hk
        go_wp2_with fail
        refine bodyPost_ret (v := npV (0, 0, 0, 0, 0, 2)) (by simp [npV, results, Tryd.results36, go_sem, b]) rfl ⟨rfl, ?_⟩
        iterate 5 refine Kept.setCell ?_ (by simp) _
        exact hK
    go_enter Tryd.func36, Tryd.ntmps36
    go_wp2_with fail
    refine (HS.out _ (hX.kept ((Kept.refl _).alloc _))).mono ?_
    rintro e w1 ⟨v, rfl, hS, hk⟩
    obtain ⟨bw, off, cap, rfl, hb, hc⟩ := hS.at8 h8
    have hK := ((Kept.refl w).alloc _).trans hk
    have B := hk.blk1
    have y1 := hc 1 x1 rfl
    have y3 := hc 3 x3 rfl
    have y5 := hc 5 x5 rfl
    have y6 := hc 6 x6 rfl
    have y7 := hc 7 x7 rfl
    clear hc hk hS
    go_wp2_with fail
    refine (H1.out _).mono ?_
    rintro e w2 ⟨rfl, hk⟩
    have hK := hK.trans hk
    have B := B.kept hk
    have y3 := hk.cell (p := ⟨bw, _, none⟩) hb y3
    have y5 := hk.cell (p := ⟨bw, _, none⟩) hb y5
    have y6 := hk.cell (p := ⟨bw, _, none⟩) hb y6
    have y7 := hk.cell (p := ⟨bw, _, none⟩) hb y7
    have hb := Nat.lt_of_lt_of_le hb hk.size
    clear hk
    go_wp2_with fail
    refine (H3.out _).mono ?_
    rintro e w3 ⟨rfl, hk⟩
    have hK := hK.trans hk
    have B := B.kept hk
    have y5 := hk.cell (p := ⟨bw, _, none⟩) hb y5
    have y6 := hk.cell (p := ⟨bw, _, none⟩) hb y6
    have y7 := hk.cell (p := ⟨bw, _, none⟩) hb y7
    have hb := Nat.lt_of_lt_of_le hb hk.size
    clear hk
    go_wp2_with fail
    refine (H5.out _).mono ?_
    rintro e w4 ⟨rfl, hk⟩
    have hK := hK.trans hk
    have B := B.kept hk
    have y6 := hk.cell (p := ⟨bw, _, none⟩) hb y6
    have y7 := hk.cell (p := ⟨bw, _, none⟩) hb y7
    have hb := Nat.lt_of_lt_of_le hb hk.size
    clear hk
    go_wp2_with fail
    refine (H7.out _).mono ?_
    rintro e w5 ⟨rfl, hk⟩
    have hK := hK.trans hk
    have B := B.kept hk
    have y6 := hk.cell (p := ⟨bw, _, none⟩) hb y6
    have hb := Nat.lt_of_lt_of_le hb hk.size
    have b := B.cell
    have l := B.lt
    have f := B.frozen
    clear hk
    have hlt := B.lt
    go_wp2_with fail
    have BN := Blk.new w5 54 #[.int .i64 i, .int .i64 h, .int .i64 m, .int .i64 0, .int .i64 c]
    have BR := B.alloc (.cells #[.int .i64 i, .int .i64 h, .int .i64 m, .int .i64 0, .int .i64 c] 54)
    have hKW := hK.alloc (.cells #[.int .i64 i, .int .i64 h, .int .i64 m, .int .i64 0, .int .i64 c] 54)
    have y6 := ((Kept.refl w5).alloc (.cells #[.int .i64 i, .int .i64 h, .int .i64 m, .int .i64 0, .int .i64 c] 54)).cell (p := ⟨bw, _, none⟩) hb y6
    have hbw := Nat.lt_of_lt_of_le hb ((Kept.refl w5).alloc (.cells #[.int .i64 i, .int .i64 h, .int .i64 m, .int .i64 0, .int .i64 c] 54)).size
    generalize w5.alloc (.cells #[.int .i64 i, .int .i64 h, .int .i64 m, .int .i64 0, .int .i64 c] 54) = W at *
    have hgw : w.heap.size < w5.heap.size := hlt
    have hgb : bw < w5.heap.size := hb
    generalize w5.heap.size = g at *
    clear hb hlt B b l f hK
    go_loopw [14] (NLoop w bw (off + 6) x6 g i h m c (fun _ _ => True)) (fun z _ => (5 - intOf z).toNat)
    case atStart => exact ⟨1, 0, by omega, by omega, rfl, BN, BR, y6, hbw, hKW, trivial⟩
    case round =>
      obtain ⟨q, kk, hq1, hq5, rfl, BN, BR, y6, hbw, hKW, _⟩ := hrel
      by_cases hq : q ≤ 4
      · have hqi : (q : Int) ≤ 4 := by omega
        have HW := Lib.hid (fun w => kindWord_any (q : Int) w)
        generalize bs (wordL (q : Int)) = Wq at *
        have yy := KW.cell hbw y6
        go_wp2_with fail
        refine wp_region_kept (by kernel_rfl) (by kernel_rfl) ?_
        repeat (go_big_quiet_step (first
          | (go_at_call 52; exact KW.pure (HW.out _))))
        refine wpQuiet_nil ?_
        rintro w6 ⟨⟨wx, hx2⟩, hh⟩
        obtain rfl : w6 = wx := hh
        have BN := BN.kept hx2
        have BR := BR.kept hx2
        have y6 := hx2.cell (p := ⟨bw, _, none⟩) hbw y6
        have hbw := Nat.lt_of_lt_of_le hbw hx2.size
        have hKW := hKW.trans hx2
        have n3 := BN.cell 3
        have nl := BN.lt
        have nf := BN.frozen
        cases hd : (Wq.toList == x6.toList)
        · go_wp2_with fail
          go_roundw
          case rel => exact ⟨q + 1, _, by omega, by omega, by go_num, BN, BR, y6, hbw, hKW, trivial⟩
          case measure => simp only [intOf]; omega
        · go_wp2_with fail
          go_roundw
          case rel => exact ⟨q + 1, q, by omega, by omega, by go_num, BN.set_ 3 _, BR.far (by simp only; omega) _, cell_far (by omega) y6, by simpa using hbw, hKW.setCell (by simp only; omega) _, trivial⟩
          case measure => simp only [intOf]; omega
      · have hqi : ¬ ((q : Int) ≤ 4) := by omega
        have n0 := BN.cell 0
        have n1 := BN.cell 1
        have n2 := BN.cell 2
        have n3 := BN.cell 3
        have n4 := BN.cell 4
        have HV := Lib.hid (fun w => nvalid_any i h m kk c w)
        have HF := Lib.hid (fun w hP => nformat_any i h m kk c w hP)
        have hno2 := hno i h m kk c
        cases hb : notB i h m kk c
        · rw [hb] at HV
          clear hno2 hno hb
          go_wp2_with (go_at_call 50; refine (HV.out _).mono ?_; rintro e w7 ⟨rfl, hk⟩; have BR := BR.kept hk; have r := BR.cell; have rl := BR.lt; have rf := BR.frozen; have hKW := hKW.trans hk)
          refine bodyPost_ret (v := npV (0, 0, 0, 0, 0, 2)) (by simp [npV, results, Tryd.results36, go_sem, r]) rfl ⟨rfl, ?_⟩
          iterate 5 refine Kept.setCell ?_ (by simp) _
          exact hKW
        · rw [hb] at HV
          have hne : ((noteS i h m kk c).toList == s.toList) = false := by
            rw [neqN, decide_eq_false_iff_not]
            intro he
            rw [hno2 he] at hb
            cases hb
          clear hno2 hno hb
          generalize noteS i h m kk c = T at *
          go_wp2_with (first
            | (go_at_call 50; refine (HV.out _).mono ?_; rintro e w7 ⟨rfl, hk⟩; have BR := BR.kept hk; have BN := BN.kept hk; have n0 := BN.cell 0; have n1 := BN.cell 1; have n2 := BN.cell 2; have n3 := BN.cell 3; have n4 := BN.cell 4; have hKW := hKW.trans hk)
            | (go_at_call 34; refine (HF.out _ (hP.kept hKW)).mono ?_; rintro e w8 ⟨rfl, hk⟩; have BR := BR.kept hk; have r := BR.cell; have rl := BR.lt; have rf := BR.frozen; have hKW := hKW.trans hk))
          refine bodyPost_ret (v := npV (0, 0, 0, 0, 0, 2)) (by simp [npV, results, Tryd.results36, go_sem, r]) rfl ⟨rfl, ?_⟩
          iterate 5 refine Kept.setCell ?_ (by simp) _
          exact hKW
  · have h8b : ((xs.length : Int) == 8) = false := by simpa using (show (xs.length : Int) ≠ 8 by omega)
    go_enter Tryd.func36, Tryd.ntmps36
    go_wp2_with fail
    refine (HS.out _ (hX.kept ((Kept.refl _).alloc _))).mono ?_
    rintro e w1 ⟨v, rfl, hS, hk⟩
    obtain ⟨A, cap, rfl, _⟩ := hS
    have B := hk.blk1
    have b := B.cell
    have l := B.lt
    have f := B.frozen
    go_wp2_with fail
    refine bodyPost_ret (v := npV (0, 0, 0, 0, 0, 2)) (by simp [npV, results, Tryd.results36, go_sem, b]) rfl ⟨rfl, ?_⟩
    iterate 5 refine Kept.setCell ?_ (by simp) _
    exact ((Kept.refl _).alloc _).trans hk
end Go.Proofs.YtjdljholajacdaaDoor
/- What Parse of package notice computes of the text of a notice. -/
namespace Go.Proofs.YtjdljholajacdaaDoor
open Go.RowKit

/-- the kind that the loop over the kinds has found -/
def KindP (k : Int) (q : Nat) (kk : Int) : Prop := ((q : Int) ≤ k → kk = 0) ∧ (k < q → kk = k)
theorem KindP.zero {k : Int} (h : 1 ≤ k) : KindP k 1 0 := ⟨fun _ => rfl, fun h2 => by omega⟩
theorem KindP.no {k kk : Int} {q : Nat} (hd : ((bs (wordL (q : Int))).toList == (bs (wordL k)).toList) = false) (h : KindP k q kk) : KindP k (q + 1) kk := by
  have hne : (q : Int) ≠ k := by
    intro e
    rw [e] at hd
    simp at hd
  exact ⟨fun a => h.1 (by omega), fun a => h.2 (by omega)⟩
theorem KindP.yes {k kk : Int} {q : Nat} (h1 : 1 ≤ k) (h4 : k ≤ 4) (q1 : 1 ≤ q) (q4 : q ≤ 4) (hd : ((bs (wordL (q : Int))).toList == (bs (wordL k)).toList) = true) (_ : KindP k q kk) : KindP k (q + 1) q := by
  have e : (q : Int) = k := wordL_inj ⟨by omega, by omega⟩ ⟨h1, h4⟩ (by rw [neqN] at hd; simpa using hd)
  exact ⟨fun a => by omega, fun _ => e⟩
theorem rt_note {n : Int} (h0 : -1000000000000000 ≤ n) (h1 : n ≤ 5000000000) : rt n = (n, 0) := by rw [rt, if_neg (by omega)]

set_option maxRecDepth 100000 in
set_option maxHeartbeats 16000000 in
theorem nparse_yes (i h m k c : Int) (hb : notB i h m k c = true) (w : World) (hP : Pow w) (hX : MaxL w) :
    Calls Tryd.prog 36 #[.string (noteT i h m k c)] w fun e w' => e = .returned (npV (i, h, m, k, c, 0)) ∧ Kept w w' := by
    have hz := noteT_size hb
    have HS := Lib.hid (fun w hX => splitN_any (noteT i h m k c) (by omega) w hX)
    unfold SplitPost at HS
    rw [show min 9 ((noteT i h m k c).size + 1) - 1 = 8 by omega, note_split hb] at HS
    obtain ⟨b1, b2, hk1, hk4, b5, b6⟩ := notB_iff.1 hb
    have hid := idB_iff.1 b1
    obtain ⟨a1, a2, a3, a4, a5⟩ := note_sizes hb
    have H1 := Lib.hid (fun w => parseInt_any (numS i) (by omega) w)
    have H3 := Lib.hid (fun w => parseInt_any (numS h) (by omega) w)
    have H5 := Lib.hid (fun w => mparse_any (monthS m) w)
    have H7 := Lib.hid (fun w => parseFixed_any (fixS c 2) 2 (by omega) w)
    have e1 : parP (L (numS i)) 0 = (i, 0) := by rw [parP_refI, refI_num, rt_note (by omega) (by omega)]
    have e3 : parP (L (numS h)) 0 = (h, 0) := by rw [parP_refI, refI_num, rt_note (by omega) (by omega)]
    have e5 : mparS (monthS m) = (m, 0) := mparS_monthS (monB_iff.2 (by omega))
    have e7 : refP (L (fixS c 2)) 2 = (c, 0) := (refP_num c 2).trans (rt_in (by omega) (by omega))
    rw [e1] at H1
    rw [e3] at H3
    rw [e5] at H5
    rw [e7] at H7
    dsimp only at H1 H3 H5 H7
    have HV := Lib.hid (fun w => nvalid_any i h m k c w)
    have HF := Lib.hid (fun w hP => nformat_any i h m k c w hP)
    rw [noteS_yes hb] at HF
    rw [hb] at HV
    clear e1 e3 e5 e7 a1 a2 a3 a4 a5 hid b1 b2 b5 b6 hb hz
    unfold noteL at HS
    generalize noteT i h m k c = T at *
    obtain ⟨x6, hx6⟩ : ∃ x6, bs (wordL k) = x6 := ⟨_, rfl⟩
    rw [hx6] at HS
    have HX6 := Lib.hid hx6
    clear hx6
    generalize numS i = x1 at *
    generalize numS h = x3 at *
    generalize monthS m = x5 at *
    generalize fixS c 2 = x7 at *
    have h8 : ([⟨#[110, 111, 116, 105, 99, 101]⟩, x1, ⟨#[104, 111, 117, 115, 101, 104, 111, 108, 100]⟩, x3, ⟨#[109, 111, 110, 116, 104]⟩, x5, x6, x7] : List ByteArray).length = 8 := rfl
    have hself : (T.toList == T.toList) = true := by simp
    go_enter Tryd.func36, Tryd.ntmps36
    go_wp2_with fail
    refine (HS.out _ (hX.kept ((Kept.refl _).alloc _))).mono ?_
    rintro e w1 ⟨v, rfl, hS, hk⟩
    obtain ⟨bw, off, cap, rfl, hb, hc⟩ := hS.at8 h8
    have hK := ((Kept.refl w).alloc _).trans hk
    have B := hk.blk1
    have y1 := hc 1 x1 rfl
    have y3 := hc 3 x3 rfl
    have y5 := hc 5 x5 rfl
    have y6 := hc 6 x6 rfl
    have y7 := hc 7 x7 rfl
    clear hc hk hS
    go_wp2_with fail
    refine (H1.out _).mono ?_
    rintro e w2 ⟨rfl, hk⟩
    have hK := hK.trans hk
    have B := B.kept hk
    have y3 := hk.cell (p := ⟨bw, _, none⟩) hb y3
    have y5 := hk.cell (p := ⟨bw, _, none⟩) hb y5
    have y6 := hk.cell (p := ⟨bw, _, none⟩) hb y6
    have y7 := hk.cell (p := ⟨bw, _, none⟩) hb y7
    have hb := Nat.lt_of_lt_of_le hb hk.size
    clear hk
    go_wp2_with fail
    refine (H3.out _).mono ?_
    rintro e w3 ⟨rfl, hk⟩
    have hK := hK.trans hk
    have B := B.kept hk
    have y5 := hk.cell (p := ⟨bw, _, none⟩) hb y5
    have y6 := hk.cell (p := ⟨bw, _, none⟩) hb y6
    have y7 := hk.cell (p := ⟨bw, _, none⟩) hb y7
    have hb := Nat.lt_of_lt_of_le hb hk.size
    clear hk
    go_wp2_with fail
    refine (H5.out _).mono ?_
    rintro e w4 ⟨rfl, hk⟩
    have hK := hK.trans hk
    have B := B.kept hk
    have y6 := hk.cell (p := ⟨bw, _, none⟩) hb y6
    have y7 := hk.cell (p := ⟨bw, _, none⟩) hb y7
    have hb := Nat.lt_of_lt_of_le hb hk.size
    clear hk
    go_wp2_with fail
    refine (H7.out _).mono ?_
    rintro e w5 ⟨rfl, hk⟩
    have hK := hK.trans hk
    have B := B.kept hk
    have y6 := hk.cell (p := ⟨bw, _, none⟩) hb y6
    have hb := Nat.lt_of_lt_of_le hb hk.size
    have b := B.cell
    have l := B.lt
    have f := B.frozen
    clear hk
    have hlt := B.lt
    go_wp2_with fail
    have BN := Blk.new w5 54 #[.int .i64 i, .int .i64 h, .int .i64 m, .int .i64 0, .int .i64 c]
    have BR := B.alloc (.cells #[.int .i64 i, .int .i64 h, .int .i64 m, .int .i64 0, .int .i64 c] 54)
    have hKW := hK.alloc (.cells #[.int .i64 i, .int .i64 h, .int .i64 m, .int .i64 0, .int .i64 c] 54)
    have y6 := ((Kept.refl w5).alloc (.cells #[.int .i64 i, .int .i64 h, .int .i64 m, .int .i64 0, .int .i64 c] 54)).cell (p := ⟨bw, _, none⟩) hb y6
    have hbw := Nat.lt_of_lt_of_le hb ((Kept.refl w5).alloc (.cells #[.int .i64 i, .int .i64 h, .int .i64 m, .int .i64 0, .int .i64 c] 54)).size
    generalize w5.alloc (.cells #[.int .i64 i, .int .i64 h, .int .i64 m, .int .i64 0, .int .i64 c] 54) = W at *
    have hgw : w.heap.size < w5.heap.size := hlt
    have hgb : bw < w5.heap.size := hb
    generalize w5.heap.size = g at *
    clear hb hlt B b l f hK
    go_loopw [14] (NLoop w bw (off + 6) x6 g i h m c (KindP k)) (fun z _ => (5 - intOf z).toNat)
    case atStart => exact ⟨1, 0, by omega, by omega, rfl, BN, BR, y6, hbw, hKW, KindP.zero hk1⟩
    case round =>
      obtain ⟨q, kk, hq1, hq5, rfl, BN, BR, y6, hbw, hKW, hPQ⟩ := hrel
      by_cases hq : q ≤ 4
      · have hqi : (q : Int) ≤ 4 := by omega
        have HW := Lib.hid (fun w => kindWord_any (q : Int) w)
        have HN := Lib.hid (fun hd => KindP.no (by rw [HX6.out]; exact hd) hPQ)
        have HY := Lib.hid (fun hd => KindP.yes (kk := kk) hk1 hk4 hq1 hq (by rw [HX6.out]; exact hd) hPQ)
        clear hPQ
        generalize bs (wordL (q : Int)) = Wq at *
        have yy := KW.cell hbw y6
        go_wp2_with fail
        refine wp_region_kept (by kernel_rfl) (by kernel_rfl) ?_
        repeat (go_big_quiet_step (first
          | (go_at_call 52; exact KW.pure (HW.out _))))
        refine wpQuiet_nil ?_
        rintro w6 ⟨⟨wx, hx2⟩, hh⟩
        obtain rfl : w6 = wx := hh
        have BN := BN.kept hx2
        have BR := BR.kept hx2
        have y6 := hx2.cell (p := ⟨bw, _, none⟩) hbw y6
        have hbw := Nat.lt_of_lt_of_le hbw hx2.size
        have hKW := hKW.trans hx2
        have n3 := BN.cell 3
        have nl := BN.lt
        have nf := BN.frozen
        cases hd : (Wq.toList == x6.toList)
        · have hd2 := Lib.hid hd
          go_wp2_with fail
          go_roundw
          case rel => exact ⟨q + 1, _, by omega, by omega, by go_num, BN, BR, y6, hbw, hKW, HN.out hd2.out⟩
          case measure => simp only [intOf]; omega
        · have hd2 := Lib.hid hd
          go_wp2_with fail
          go_roundw
          case rel => exact ⟨q + 1, q, by omega, by omega, by go_num, BN.set_ 3 _, BR.far (by simp only; omega) _, cell_far (by omega) y6, by simpa using hbw, hKW.setCell (by simp only; omega) _, HY.out hd2.out⟩
          case measure => simp only [intOf]; omega
      · have hqi : ¬ ((q : Int) ≤ 4) := by omega
        have n0 := BN.cell 0
        have n1 := BN.cell 1
        have n2 := BN.cell 2
        have n3 := BN.cell 3
        have n4 := BN.cell 4
        obtain rfl : kk = k := hPQ.2 (by omega)
        go_wp2_with (first
          | (go_at_call 50; refine (HV.out _).mono ?_; rintro e w7 ⟨rfl, hk⟩; have BR := BR.kept hk; have BN := BN.kept hk; have n0 := BN.cell 0; have n1 := BN.cell 1; have n2 := BN.cell 2; have n3 := BN.cell 3; have n4 := BN.cell 4; have hKW := hKW.trans hk)
          | (go_at_call 34; refine (HF.out _ (hP.kept hKW)).mono ?_; rintro e w8 ⟨rfl, hk⟩; have BR := BR.kept hk; have BN := BN.kept hk; have n0 := BN.cell 0; have n1 := BN.cell 1; have n2 := BN.cell 2; have n3 := BN.cell 3; have n4 := BN.cell 4; have r := BR.cell; have rl := BR.lt; have rf := BR.frozen; have hKW := hKW.trans hk))
        refine bodyPost_ret (v := npV (i, h, m, kk, c, 0)) (by simp [npV, results, Tryd.results36, go_sem, r]) rfl ⟨rfl, ?_⟩
        iterate 5 refine Kept.setCell ?_ (by simp) _
        exact hKW
end Go.Proofs.YtjdljholajacdaaDoor
/- What Parse of the reference of package notice computes. -/
namespace Go.Proofs.YtjdljholajacdaaDoor
open Go.RowKit

theorem flds_sizes (s : ByteArray) : ∀ (l : List UInt8) (pos : Nat) (st : Int), ∀ x ∈ flds s l pos st, x.size ≤ s.size
  | [], pos, st, x, hx => by
    rw [flds] at hx
    split at hx
    · obtain rfl : x = s.extract st.toNat s.size := by simpa using hx
      rw [ByteArray.size_extract]; omega
    · simp at hx
  | c :: r, pos, st, x, hx => by
    rw [flds] at hx
    split at hx
    · split at hx
      · rcases List.mem_cons.1 hx with rfl | hx
        · rw [ByteArray.size_extract]; omega
        · exact flds_sizes s r _ _ x hx
      · exact flds_sizes s r _ _ x hx
    · exact flds_sizes s r _ _ x hx
/-- what holds at the head of the loop over the kinds -/
def RLoop (w : World) (g : Nat) (i h m c : Int) (P : Nat → Prop) (z : Value) (wr : World) : Prop :=
  ∃ (q : Nat) (kk : Int), 1 ≤ q ∧ q ≤ 5 ∧ z = .int .i64 q ∧ Blk wr g 54 #[.int .i64 i, .int .i64 h, .int .i64 m, .int .i64 kk, .int .i64 c] ∧ Blk wr w.heap.size 54 #[.int .i64 0, .int .i64 0, .int .i64 0, .int .i64 0, .int .i64 0] ∧ Kept w wr ∧ P q
theorem noteT_inj {i h m k q c : Int} (hb : notB i h m k c = true) (hb2 : notB i h m q c = true) (e : noteT i h m q c = noteT i h m k c) : q = k := by
  have h1 := note_flds hb
  have h2 := note_flds hb2
  rw [e, h1] at h2
  have h3 := congrArg (fun l => l[6]?) h2
  have h4 : bs (wordL k) = bs (wordL q) := Option.some.inj h3
  obtain ⟨_, _, k1, k4, _⟩ := notB_iff.1 hb
  obtain ⟨_, _, q1, q4, _⟩ := notB_iff.1 hb2
  exact wordL_inj ⟨q1, q4⟩ ⟨k1, k4⟩ h4.symm

set_option maxRecDepth 100000 in
set_option maxHeartbeats 16000000 in
theorem rnparse_no (s : ByteArray) (hs : s.size ≤ 300) (hno : ∀ i h m k c, noteS i h m k c = s → notB i h m k c = false) (w : World) :
    Calls Tryd.prog 37 #[.string s] w fun e w' => e = .returned (npV (0, 0, 0, 0, 0, 2)) ∧ Kept w w' := by
  have HS := Lib.hid (fun w => rfields_any s (by omega) w)
  have hsz := flds_sizes s (L s) 0 (-1)
  change ∀ x ∈ fldS s, x.size ≤ s.size at hsz
  have hne0 : (fldS s).length = 8 → s ≠ ⟨#[]⟩ := fun h e => by
    rw [e] at h
    exact absurd h (by decide)
  generalize fldS s = xs at *
  by_cases h8 : xs.length = 8
  · have hne0 := hne0 h8
    have HNE := Lib.hid (fun i h m c (q : Int) => (show ((noteS i h m q c).toList == s.toList) = false by
      rw [neqN, decide_eq_false_iff_not]
      intro e
      have hb := hno i h m q c e
      rw [noteS_no hb] at e
      exact hne0 e.symm))
    match xs, h8 with
    | [x0, x1, x2, x3, x4, x5, x6, x7], h8 =>
    have H1 := Lib.hid (fun w => rparseInt_any x1 (by have := hsz x1 (by simp); omega) w)
    have H3 := Lib.hid (fun w => rparseInt_any x3 (by have := hsz x3 (by simp); omega) w)
    have H5 := Lib.hid (fun w => rmparse_any x5 w)
    have H7 := Lib.hid (fun w => rparseFixed_any x7 2 (by have := hsz x7 (by simp); omega) w)
    generalize refI (L x1) = p1 at *
    generalize refI (L x3) = p3 at *
    generalize mparS x5 = p5 at *
    generalize refP (L x7) 2 = p7 at *
    obtain ⟨i, e1⟩ := p1
    obtain ⟨h, e3⟩ := p3
    obtain ⟨m, e5⟩ := p5
    obtain ⟨c, e7⟩ := p7
    dsimp only at H1 H3 H5 H7
    have HNE := Lib.hid (HNE.out i h m c)
    clear hsz hno hne0
    go_enter Tryd.func37, Tryd.ntmps37
    go_wp2_with fail
    refine (HS.out _).mono ?_
    rintro e w1 ⟨v, rfl, hS, hk⟩
    obtain ⟨bw, off, cap, rfl, hb, hc⟩ := hS.at8 h8
    have hK := ((Kept.refl w).alloc _).trans hk
    have B := hk.blk1
    have y1 := hc 1 x1 rfl
    have y3 := hc 3 x3 rfl
    have y5 := hc 5 x5 rfl
    have y7 := hc 7 x7 rfl
    clear hc hk hS
    go_wp2_with (first
      | (go_at_call_of 62 (Value.string x1); refine (H1.out _).mono ?_; rintro e w2 ⟨rfl, rfl⟩)
      | (go_at_call_of 62 (Value.string x3); refine (H3.out _).mono ?_; rintro e w2 ⟨rfl, rfl⟩))
    refine (H5.out _).mono ?_
    rintro e w4 ⟨rfl, hk⟩
    have hK := hK.trans hk
    have B := B.kept hk
    have y7 := hk.cell (p := ⟨bw, _, none⟩) hb y7
    have hb := Nat.lt_of_lt_of_le hb hk.size
    clear hk
    go_wp2_with fail
    refine (H7.out _).mono ?_
    rintro e w5 ⟨rfl, hk⟩
    have hK := hK.trans hk
    have B := B.kept hk
    have hb := Nat.lt_of_lt_of_le hb hk.size
    have b := B.cell
    have l := B.lt
    have f := B.frozen
    clear hk
    have hlt := B.lt
    go_wp2_with fail
    have BN := Blk.new w5 54 #[.int .i64 i, .int .i64 h, .int .i64 m, .int .i64 0, .int .i64 c]
    have BR := B.alloc (.cells #[.int .i64 i, .int .i64 h, .int .i64 m, .int .i64 0, .int .i64 c] 54)
    have hKW := hK.alloc (.cells #[.int .i64 i, .int .i64 h, .int .i64 m, .int .i64 0, .int .i64 c] 54)
    generalize w5.alloc (.cells #[.int .i64 i, .int .i64 h, .int .i64 m, .int .i64 0, .int .i64 c] 54) = W at *
    have hgw : w.heap.size < w5.heap.size := hlt
    generalize w5.heap.size = g at *
    clear hb hlt B b l f hK
    go_loopw [14] (RLoop w g i h m c (fun _ => True)) (fun z _ => (5 - intOf z).toNat)
    case atStart => exact ⟨1, 0, by omega, by omega, rfl, BN, BR, hKW, trivial⟩
    case round =>
      obtain ⟨q, kk, hq1, hq5, rfl, BN, BR, hKW, _⟩ := hrel
      by_cases hq : q ≤ 4
      · have hqi : (q : Int) ≤ 4 := by omega
        have HF := Lib.hid (fun w => rnformat_any i h m (q : Int) c w)
        have n3 := BN.cell 3
        have nl := BN.lt
        have nf := BN.frozen
        have BN2 := BN.set_ 3 (.int .i64 q)
        have BR2 := BR.far (p := ⟨g, 3, none⟩) (by simp only; omega) (.int .i64 q)
        have hKW2 := hKW.setCell (p := ⟨g, 3, none⟩) (by simp only; omega) (.int .i64 q)
        have m0 := BN2.cell 0
        have m1 := BN2.cell 1
        have m2 := BN2.cell 2
        have m3 := BN2.cell 3
        have m4 := BN2.cell 4
        have hne := HNE.out (q : Int)
        generalize noteS i h m (q : Int) c = T at *
        go_wp2_with (go_at_call 35; refine (HF.out _).mono ?_; rintro e w7 ⟨rfl, hk⟩; have BR3 := BR2.kept hk; have BN3 := BN2.kept hk; have hKW3 := hKW2.trans hk)
        go_roundw
        case rel => exact ⟨q + 1, _, by omega, by omega, by go_num, BN3, BR3, hKW3, trivial⟩
        case measure => simp only [intOf]; omega
      · have hqi : ¬ ((q : Int) ≤ 4) := by omega
        have r := BR.cell
        have rl := BR.lt
        have rf := BR.frozen
        go_wp2_with fail
        refine bodyPost_ret (v := npV (0, 0, 0, 0, 0, 2)) (by simp [npV, results, Tryd.results37, go_sem, r]) rfl ⟨rfl, ?_⟩
        iterate 5 refine Kept.setCell ?_ (by simp) _
        exact hKW
  · have h8b := beq_noN (show (xs.length : Int) ≠ 8 by omega)
    go_enter Tryd.func37, Tryd.ntmps37
    go_wp2_with fail
    refine (HS.out _).mono ?_
    rintro e w1 ⟨v, rfl, hS, hk⟩
    obtain ⟨A, cap, rfl, _⟩ := hS
    have B := hk.blk1
    have b := B.cell
    have l := B.lt
    have f := B.frozen
    go_wp2_with fail
    refine bodyPost_ret (v := npV (0, 0, 0, 0, 0, 2)) (by simp [npV, results, Tryd.results37, go_sem, b]) rfl ⟨rfl, ?_⟩
    iterate 5 refine Kept.setCell ?_ (by simp) _
    exact ((Kept.refl _).alloc _).trans hk

set_option maxRecDepth 100000 in
set_option maxHeartbeats 16000000 in
theorem rnparse_yes (i h m k c : Int) (hb : notB i h m k c = true) (w : World) :
    Calls Tryd.prog 37 #[.string (noteT i h m k c)] w fun e w' => e = .returned (npV (i, h, m, k, c, 0)) ∧ Kept w w' := by
    have hz := noteT_size hb
    have HS := Lib.hid (fun w => rfields_any (noteT i h m k c) (by omega) w)
    rw [note_flds hb] at HS
    obtain ⟨b1, b2, hk1, hk4, b5, b6⟩ := notB_iff.1 hb
    have hid := idB_iff.1 b1
    obtain ⟨a1, a2, a3, a4, a5⟩ := note_sizes hb
    have H1 := Lib.hid (fun w => rparseInt_any (numS i) (by omega) w)
    have H3 := Lib.hid (fun w => rparseInt_any (numS h) (by omega) w)
    have H5 := Lib.hid (fun w => rmparse_any (monthS m) w)
    have H7 := Lib.hid (fun w => rparseFixed_any (fixS c 2) 2 (by omega) w)
    have e1 : refI (L (numS i)) = (i, 0) := by rw [refI_num, rt_note (by omega) (by omega)]
    have e3 : refI (L (numS h)) = (h, 0) := by rw [refI_num, rt_note (by omega) (by omega)]
    have e5 : mparS (monthS m) = (m, 0) := mparS_monthS (monB_iff.2 (by omega))
    have e7 : refP (L (fixS c 2)) 2 = (c, 0) := (refP_num c 2).trans (rt_in (by omega) (by omega))
    rw [e1] at H1
    rw [e3] at H3
    rw [e5] at H5
    rw [e7] at H7
    dsimp only at H1 H3 H5 H7
    have HNT := Lib.hid (noteS_yes hb)
    have HNE := Lib.hid (fun (q : Int) (q1 : 1 ≤ q) (q4 : q ≤ 4) (hqk : q ≠ k) => (show ((noteS i h m q c).toList == (noteT i h m k c).toList) = false by
      rw [neqN, decide_eq_false_iff_not]
      intro e
      have hb2 : notB i h m q c = true := notB_iff.2 ⟨b1, b2, q1, q4, b5, b6⟩
      rw [noteS_yes hb2] at e
      exact hqk (noteT_inj hb hb2 e)))
    clear e1 e3 e5 e7 a1 a2 a3 a4 a5 hid b1 b2 b5 b6 hb hz
    unfold noteL at HS
    generalize noteT i h m k c = T at *
    generalize bs (wordL k) = x6 at *
    generalize numS i = x1 at *
    generalize numS h = x3 at *
    generalize monthS m = x5 at *
    generalize fixS c 2 = x7 at *
    have h8 : ([⟨#[110, 111, 116, 105, 99, 101]⟩, x1, ⟨#[104, 111, 117, 115, 101, 104, 111, 108, 100]⟩, x3, ⟨#[109, 111, 110, 116, 104]⟩, x5, x6, x7] : List ByteArray).length = 8 := rfl
    have hself : (T.toList == T.toList) = true := by simp
    go_enter Tryd.func37, Tryd.ntmps37
    go_wp2_with fail
    refine (HS.out _).mono ?_
    rintro e w1 ⟨v, rfl, hS, hk⟩
    obtain ⟨bw, off, cap, rfl, hb, hc⟩ := hS.at8 h8
    have hK := ((Kept.refl w).alloc _).trans hk
    have B := hk.blk1
    have y1 := hc 1 x1 rfl
    have y3 := hc 3 x3 rfl
    have y5 := hc 5 x5 rfl
    have y7 := hc 7 x7 rfl
    clear hc hk hS
    go_wp2_with (first
      | (go_at_call_of 62 (Value.string x1); refine (H1.out _).mono ?_; rintro e w2 ⟨rfl, rfl⟩)
      | (go_at_call_of 62 (Value.string x3); refine (H3.out _).mono ?_; rintro e w2 ⟨rfl, rfl⟩))
    refine (H5.out _).mono ?_
    rintro e w4 ⟨rfl, hk⟩
    have hK := hK.trans hk
    have B := B.kept hk
    have y7 := hk.cell (p := ⟨bw, _, none⟩) hb y7
    have hb := Nat.lt_of_lt_of_le hb hk.size
    clear hk
    go_wp2_with fail
    refine (H7.out _).mono ?_
    rintro e w5 ⟨rfl, hk⟩
    have hK := hK.trans hk
    have B := B.kept hk
    have hb := Nat.lt_of_lt_of_le hb hk.size
    have b := B.cell
    have l := B.lt
    have f := B.frozen
    clear hk
    have hlt := B.lt
    go_wp2_with fail
    have BN := Blk.new w5 54 #[.int .i64 i, .int .i64 h, .int .i64 m, .int .i64 0, .int .i64 c]
    have BR := B.alloc (.cells #[.int .i64 i, .int .i64 h, .int .i64 m, .int .i64 0, .int .i64 c] 54)
    have hKW := hK.alloc (.cells #[.int .i64 i, .int .i64 h, .int .i64 m, .int .i64 0, .int .i64 c] 54)
    generalize w5.alloc (.cells #[.int .i64 i, .int .i64 h, .int .i64 m, .int .i64 0, .int .i64 c] 54) = W at *
    have hgw : w.heap.size < w5.heap.size := hlt
    generalize w5.heap.size = g at *
    clear hb hlt B b l f hK
    go_loopw [14] (RLoop w g i h m c (fun q => (q : Int) ≤ k)) (fun z _ => (5 - intOf z).toNat)
    case atStart => exact ⟨1, 0, by omega, by omega, rfl, BN, BR, hKW, by omega⟩
    case round =>
      obtain ⟨q, kk, hq1, hq5, rfl, BN, BR, hKW, hPQ⟩ := hrel
      by_cases hq : q ≤ 4
      · have hqi : (q : Int) ≤ 4 := by omega
        have HF := Lib.hid (fun w => rnformat_any i h m (q : Int) c w)
        have n3 := BN.cell 3
        have nl := BN.lt
        have nf := BN.frozen
        have BN2 := BN.set_ 3 (.int .i64 q)
        have BR2 := BR.far (p := ⟨g, 3, none⟩) (by simp only; omega) (.int .i64 q)
        have hKW2 := hKW.setCell (p := ⟨g, 3, none⟩) (by simp only; omega) (.int .i64 q)
        have m0 := BN2.cell 0
        have m1 := BN2.cell 1
        have m2 := BN2.cell 2
        have m3 := BN2.cell 3
        have m4 := BN2.cell 4
        by_cases hqk : (q : Int) = k
        · subst hqk
          rw [HNT.out] at HF
          clear HNE hPQ
          go_wp2_with (go_at_call 35; refine (HF.out _).mono ?_; rintro e w7 ⟨rfl, hk⟩; have BR3 := BR2.kept hk; have BN3 := BN2.kept hk; have hKW3 := hKW2.trans hk; have n0 := BN3.cell 0; have n1 := BN3.cell 1; have n2 := BN3.cell 2; have n33 := BN3.cell 3; have n4 := BN3.cell 4; have r := BR3.cell; have rl := BR3.lt; have rf := BR3.frozen)
          refine bodyPost_ret (v := npV (i, h, m, (q : Int), c, 0)) (by simp [npV, results, Tryd.results37, go_sem, r]) rfl ⟨rfl, ?_⟩
          iterate 5 refine Kept.setCell ?_ (by simp) _
          exact hKW3
        · have hne := HNE.out (q : Int) (by omega) (by omega) hqk
          have hqk2 : q < k := by have : (q : Int) ≤ k := hPQ; omega
          clear hqk hPQ
          generalize noteS i h m (q : Int) c = T2 at *
          go_wp2_with (go_at_call 35; refine (HF.out _).mono ?_; rintro e w7 ⟨rfl, hk⟩; have BR3 := BR2.kept hk; have BN3 := BN2.kept hk; have hKW3 := hKW2.trans hk)
          go_roundw
          case rel => exact ⟨q + 1, _, by omega, by omega, by go_num, BN3, BR3, hKW3, by omega⟩
          case measure => simp only [intOf]; omega
      · have hqi : ¬ ((q : Int) ≤ 4) := by omega
        exact absurd (show (q : Int) ≤ k from hPQ) (by omega)
end Go.Proofs.YtjdljholajacdaaDoor
/- The fixed examples of the chapter on notices, and the walks of its laws. -/
namespace Go.Proofs.YtjdljholajacdaaDoor
open Go.RowKit

theorem itoa_ofN {l : List UInt8} {n : Int} (h : (val l 0 : Int) = n) (hd : l.all isDig = true) (hl : lead l = true) (hn : l ≠ []) : Lib.itoa n = l := by
  rw [Lib.itoa, if_neg (by omega), show n.toNat = val l 0 by omega, decDigits_val l hd hl hn]
theorem padS_ofN {l : List UInt8} {n k : Int} (h : (val l 0 : Int) = n) (hd : l.all isDig = true) (hl : lead l = true) (hn : l ≠ []) : padS n k = bs (List.replicate (k.toNat - l.length) 48 ++ l) := by
  rw [padS, numS, itoa_ofN h hd hl hn, bs_size]
theorem exN_month : monthS 1490 = ⟨#[50, 48, 50, 52, 45, 48, 51]⟩ := by
  rw [monthS_yes (by decide)]
  rw [show mY 1490 = 2024 from by decide, show mM 1490 = 3 from by decide, padS_ofN (l := [50, 48, 50, 52]) (by decide) (by decide) (by decide) (by decide), padS_ofN (l := [51]) (by decide) (by decide) (by decide) (by decide)]
  rfl
theorem exN_fix : fixS 500 2 = ⟨#[53, 46, 48, 48]⟩ := refP_canon (p := 2) (s := ⟨#[53, 46, 48, 48]⟩) (by decide)
theorem exN_text : noteT 5586 1 1490 2 500 = ⟨#[110, 111, 116, 105, 99, 101, 32, 53, 53, 56, 54, 32, 104, 111, 117, 115, 101, 104, 111, 108, 100, 32, 49, 32, 109, 111, 110, 116, 104, 32, 50, 48, 50, 52, 45, 48, 51, 32, 114, 101, 103, 117, 108, 97, 114, 32, 53, 46, 48, 48]⟩ := by
  rw [noteT_list, exN_month, exN_fix, numS, numS, itoa_ofN (l := [53, 53, 56, 54]) (by decide) (by decide) (by decide) (by decide), itoa_ofN (l := [49]) (by decide) (by decide) (by decide) (by decide)]
  rfl
theorem exN_id : idS 1 1490 = (5586, 0) := by decide
theorem exN_pay1 : payN 1 1490 500 [⟨0, 1490, 1, 500⟩] = (5586, 1, 1490, 2, 500, 0) := by kernel_rfl
theorem exN_pay2 : payN 1 1490 300 [⟨0, 1490, 1, 500⟩] = (5586, 1, 1490, 1, 500, 0) := by kernel_rfl
theorem posts_lit (w : World) (t : TypeId) (d m k c : Int) : Posts (w.alloc (.cells #[.int .i64 d, .int .i64 m, .int .i64 k, .int .i64 c] t)) (.slice (some ⟨w.heap.size, 0, none⟩) 1 1) [⟨d, m, k, c⟩] := by
  refine ⟨_, _, rfl, fun _ => ⟨w.heap.size, 0, rfl, by simp, fun j x hj i u hu => ?_⟩⟩
  match j, hj with
  | 0, hj =>
    obtain rfl : (⟨d, m, k, c⟩ : Post) = x := Option.some.inj hj
    rw [World.cell?_alloc_at _ _ _ _ rfl]
    match i, hu with
    | 0, hu => exact hu
    | 1, hu => exact hu
    | 2, hu => exact hu
    | 3, hu => exact hu
    | i + 4, hu => simp [postF] at hu

set_option maxRecDepth 100000 in
set_option maxHeartbeats 16000000 in
theorem awake45_any (w : World) (hP : Pow w) (hX : MaxL w) :
    Calls Tryd.prog 31 #[] w fun e w' => e = .returned (.bool true) ∧ Kept w w' := by
  have hPo := posts_lit w 52 0 1490 1 500
  have hK0 := (Kept.refl w).alloc (.cells #[.int .i64 0, .int .i64 1490, .int .i64 1, .int .i64 500] 52)
  have hNf := noteS_yes (show notB 5586 1 1490 2 500 = true by decide)
  rw [exN_text] at hNf
  have HF := Lib.hid (fun w hP => nformat_any 5586 1 1490 2 500 w hP)
  rw [hNf] at HF
  have HPr := Lib.hid (fun w hP hX => nparse_yes 5586 1 1490 2 500 (by decide) w hP hX)
  rw [exN_text] at HPr
  clear hNf
  go_enter Tryd.func31, Tryd.ntmps31
  go_wp2_with (go_at_call 29; refine (id_any 1 1490 _).mono ?_; rintro e w1 ⟨rfl, rfl⟩; rw [exN_id]; dsimp only)
  refine (forPay_any 1 1490 500 _ _ (by decide) _ hPo).mono ?_
  rintro e w1 ⟨rfl, hk⟩
  rw [exN_pay1, npV]
  dsimp only
  have hPo := (hPo.kept hk).kept ((Kept.refl w1).alloc (.cells #[.int .i64 5586, .int .i64 1, .int .i64 1490, .int .i64 2, .int .i64 500] 54))
  have hK := (hK0.trans hk).alloc (.cells #[.int .i64 5586, .int .i64 1, .int .i64 1490, .int .i64 2, .int .i64 500] 54)
  have A := Blk.new w1 54 #[.int .i64 5586, .int .i64 1, .int .i64 1490, .int .i64 2, .int .i64 500]
  clear hk hK0
  go_wp2_with fail
  refine (forPay_any 1 1490 300 _ _ (by decide) _ hPo).mono ?_
  rintro e w2 ⟨rfl, hk⟩
  rw [exN_pay2, npV]
  dsimp only
  have hK := (hK.trans hk).alloc (.cells #[.int .i64 5586, .int .i64 1, .int .i64 1490, .int .i64 1, .int .i64 500] 54)
  have A := (A.kept hk).alloc (.cells #[.int .i64 5586, .int .i64 1, .int .i64 1490, .int .i64 1, .int .i64 500] 54)
  have a3 := A.cell 3
  have a4 := A.cell 4
  clear hk hPo
  go_wp2_with fail
  refine (HPr.out _ (hP.kept hK) (hX.kept hK)).mono ?_
  rintro e w3 ⟨rfl, hk⟩
  rw [npV]
  dsimp only
  have hK := (hK.trans hk).alloc (.cells #[.int .i64 5586, .int .i64 1, .int .i64 1490, .int .i64 2, .int .i64 500] 54)
  have A := (A.kept hk).alloc (.cells #[.int .i64 5586, .int .i64 1, .int .i64 1490, .int .i64 2, .int .i64 500] 54)
  have C := Blk.new w3 54 #[.int .i64 5586, .int .i64 1, .int .i64 1490, .int .i64 2, .int .i64 500]
  have a0 := A.cell 0
  have a1 := A.cell 1
  have a2 := A.cell 2
  have a3 := A.cell 3
  have a4 := A.cell 4
  clear hk
  go_wp2_with fail
  refine (HF.out _ (hP.kept hK)).mono ?_
  rintro e w4 ⟨rfl, hk⟩
  have hK := hK.trans hk
  have A := A.kept hk
  have C := C.kept hk
  have a0 := A.cell 0
  have a1 := A.cell 1
  have a2 := A.cell 2
  have a3 := A.cell 3
  have a4 := A.cell 4
  have c0 := C.cell 0
  have c1 := C.cell 1
  have c2 := C.cell 2
  have c3 := C.cell 3
  have c4 := C.cell 4
  clear hk
  go_wp2_with fail
  go_ret
  exact ⟨rfl, hK⟩

set_option maxRecDepth 100000 in
set_option maxHeartbeats 8000000 in
theorem lawNoteId (h m : Int) (w : World) (hP : Pow w) (hX : MaxL w) : Calls Tryd.prog 9 #[.int .i64 h, .int .i64 m] w (LawPost w) := by
  unfold LawPost
  have HA := Lib.hid (fun w => id_any h m w)
  have HB := Lib.hid (fun w => rid_any h m w)
  generalize idS h m = R at *
  obtain ⟨a, b⟩ := R
  dsimp only at HA HB
  go_enter Tryd.func9, Tryd.ntmps9
  go_wp2_with (first
    | (go_at_call 29; refine (HA.out _).mono ?_; rintro e w1 ⟨rfl, rfl⟩)
    | (go_at_call 30; refine (HB.out _).mono ?_; rintro e w1 ⟨rfl, rfl⟩)
    | (go_at_call 31; refine (awake45_any _ hP hX).mono ?_; rintro e w' ⟨rfl, hk⟩))
  go_ret
  exact ⟨rfl, hk⟩

set_option maxRecDepth 100000 in
set_option maxHeartbeats 8000000 in
theorem lawNoteFormat (i h m k c : Int) (w : World) (hP : Pow w) (hX : MaxL w) : Calls Tryd.prog 11 #[.agg #[.int .i64 i, .int .i64 h, .int .i64 m, .int .i64 k, .int .i64 c]] w (LawPost w) := by
  unfold LawPost
  have HA := Lib.hid (fun w hP => nformat_any i h m k c w hP)
  have HB := Lib.hid (fun w => rnformat_any i h m k c w)
  generalize noteS i h m k c = T at *
  have hself : (T.toList == T.toList) = true := by simp
  have hK := (Kept.refl w).alloc (.cells #[.int .i64 i, .int .i64 h, .int .i64 m, .int .i64 k, .int .i64 c] 54)
  have B := Blk.new w 54 #[.int .i64 i, .int .i64 h, .int .i64 m, .int .i64 k, .int .i64 c]
  go_enter Tryd.func11, Tryd.ntmps11
  go_wp2_with fail
  generalize w.alloc (.cells #[.int .i64 i, .int .i64 h, .int .i64 m, .int .i64 k, .int .i64 c] 54) = W at *
  have c0 := KW.cell B.lt (B.cell 0)
  have c1 := KW.cell B.lt (B.cell 1)
  have c2 := KW.cell B.lt (B.cell 2)
  have c3 := KW.cell B.lt (B.cell 3)
  have c4 := KW.cell B.lt (B.cell 4)
  have hPx := fun x : KW W => hP.kept (hK.trans x.h)
  have hXx := fun x : KW W => hX.kept (hK.trans x.h)
  clear B
  refine wp_region_kept (by kernel_rfl) (by kernel_rfl) ?_
  repeat (go_big_quiet_step (first
    | (go_at_call 34; exact KW.call (HA.out _ (hPx _)))
    | (go_at_call 35; exact KW.call (HB.out _))
    | (go_at_call 31; exact KW.call (awake45_any _ (hPx _) (hXx _)))))
  refine wpQuiet_nil ?_
  rintro w2 ⟨⟨wx, hx2⟩, hh⟩
  obtain rfl : w2 = wx := hh
  go_wp2_with fail
  go_ret
  exact ⟨rfl, hK.trans hx2⟩

set_option maxRecDepth 100000 in
set_option maxHeartbeats 8000000 in
theorem lawNoteParse (s : ByteArray) (hs : s.size ≤ maxLen) (w : World) (hP : Pow w) (hX : MaxL w) : Calls Tryd.prog 12 #[.string s] w (LawPost w) := by
  unfold LawPost
  unfold maxLen at hs
  by_cases h3 : 300 < s.size
  · have h3i : 300 < (s.size : Int) := by omega
    go_enter Tryd.func12, Tryd.ntmps12
    go_wp2_with (go_at_call 31; refine (awake45_any _ hP hX).mono ?_; rintro e w' ⟨rfl, hk⟩)
    go_ret
    exact ⟨rfl, hk⟩
  · have h3i : ¬ (300 < (s.size : Int)) := by omega
    by_cases hy : ∃ i h m k c, notB i h m k c = true ∧ noteT i h m k c = s
    · obtain ⟨i, h, m, k, c, hb, rfl⟩ := hy
      have HA := Lib.hid (fun w hP hX => nparse_yes i h m k c hb w hP hX)
      have HB := Lib.hid (fun w => rnparse_yes i h m k c hb w)
      have HF := Lib.hid (fun w hP => nformat_any i h m k c w hP)
      rw [noteS_yes hb] at HF
      unfold npV at HA HB
      dsimp only at HA HB
      clear hb h3
      generalize noteT i h m k c = T at *
      have hself : (T.toList == T.toList) = true := by simp
      go_enter Tryd.func12, Tryd.ntmps12
      go_wp2_with fail
      refine (HA.out _ hP hX).mono ?_
      rintro e w1 ⟨rfl, hk⟩
      have hK := hk.alloc (.cells #[.int .i64 i, .int .i64 h, .int .i64 m, .int .i64 k, .int .i64 c] 54)
      have B := Blk.new w1 54 #[.int .i64 i, .int .i64 h, .int .i64 m, .int .i64 k, .int .i64 c]
      clear hk
      go_wp2_with fail
      refine (HB.out _).mono ?_
      rintro e w2 ⟨rfl, hk⟩
      have hK := (hK.trans hk).alloc (.cells #[.int .i64 i, .int .i64 h, .int .i64 m, .int .i64 k, .int .i64 c] 54)
      have B := (B.kept hk).alloc (.cells #[.int .i64 i, .int .i64 h, .int .i64 m, .int .i64 k, .int .i64 c] 54)
      have b0 := B.cell 0
      have b1 := B.cell 1
      have b2 := B.cell 2
      have b3 := B.cell 3
      have b4 := B.cell 4
      clear hk
      go_wp2_with (first
        | (go_at_call 34; refine (HF.out _ (hP.kept hK)).mono ?_; rintro e w3 ⟨rfl, hk⟩; have hK := hK.trans hk)
        | (go_at_call 31; refine (awake45_any _ (hP.kept hK) (hX.kept hK)).mono ?_; rintro e w' ⟨rfl, hk⟩; have hK := hK.trans hk))
      go_ret
      exact ⟨rfl, hK⟩
    · have hno : ∀ i h m k c, noteS i h m k c = s → notB i h m k c = false := by
        intro i h m k c e
        cases hb : notB i h m k c
        · rfl
        · rw [noteS_yes hb] at e
          exact absurd ⟨i, h, m, k, c, hb, e⟩ hy
      have HA := Lib.hid (fun w hP hX => nparse_no s (by omega) hno w hP hX)
      have HB := Lib.hid (fun w => rnparse_no s (by omega) hno w)
      unfold npV at HA HB
      dsimp only at HA HB
      clear hy hno h3
      go_enter Tryd.func12, Tryd.ntmps12
      go_wp2_with fail
      refine (HA.out _ hP hX).mono ?_
      rintro e w1 ⟨rfl, hk⟩
      have hK := hk.alloc (.cells #[.int .i64 0, .int .i64 0, .int .i64 0, .int .i64 0, .int .i64 0] 54)
      have B := Blk.new w1 54 #[.int .i64 0, .int .i64 0, .int .i64 0, .int .i64 0, .int .i64 0]
      clear hk
      go_wp2_with fail
      refine (HB.out _).mono ?_
      rintro e w2 ⟨rfl, hk⟩
      have hK := (hK.trans hk).alloc (.cells #[.int .i64 0, .int .i64 0, .int .i64 0, .int .i64 0, .int .i64 0] 54)
      have B := (B.kept hk).alloc (.cells #[.int .i64 0, .int .i64 0, .int .i64 0, .int .i64 0, .int .i64 0] 54)
      have b0 := B.cell 0
      have b1 := B.cell 1
      have b2 := B.cell 2
      have b3 := B.cell 3
      have b4 := B.cell 4
      clear hk
      go_wp2_with (first
        | (go_at_call 31; refine (awake45_any _ (hP.kept hK) (hX.kept hK)).mono ?_; rintro e w' ⟨rfl, hk⟩; have hK := hK.trans hk))
      go_ret
      exact ⟨rfl, hK⟩
end Go.Proofs.YtjdljholajacdaaDoor
/- The walks of the laws NoticeForPayment and NoticeUnique. -/
namespace Go.Proofs.YtjdljholajacdaaDoor
open Go.RowKit

set_option maxRecDepth 100000 in
set_option maxHeartbeats 16000000 in
theorem lawNotePay (h m due : Int) (v : Value) (xs : List Post) (hn : xs.length ≤ maxLen) (w : World) (hPo : Posts w v xs) (hP : Pow w) (hX : MaxL w) :
    Calls Tryd.prog 10 #[.int .i64 h, .int .i64 m, .int .i64 due, v] w (LawPost w) := by
  unfold LawPost
  unfold maxLen at hn
  have HA := Lib.hid (fun w hp => forPay_any h m due v xs hn w hp)
  have HB := Lib.hid (fun w hp => rforPay_any h m due v xs hn w hp)
  unfold npV at HA HB
  generalize payN h m due xs = R at *
  obtain ⟨a, b, c, d, e, f⟩ := R
  dsimp only at HA HB
  have hPo0 := hPo
  obtain ⟨A, cap, rfl, hx⟩ := hPo.at_
  obtain ⟨n, hxn⟩ : ∃ n, n = xs.length := ⟨_, rfl⟩
  rw [← hxn] at hx hn HA HB hPo0 ⊢
  have HX := Lib.hid hxn
  clear hxn hPo
  by_cases h2 : 200 < n
  · have h2i : 200 < (n : Int) := by omega
    go_enter Tryd.func10, Tryd.ntmps10
    go_wp2_with (go_at_call 31; refine (awake45_any _ hP hX).mono ?_; rintro e w' ⟨rfl, hk⟩)
    go_ret
    exact ⟨rfl, hk⟩
  · have h2i : ¬ (200 < (n : Int)) := by omega
    go_enter Tryd.func10, Tryd.ntmps10
    go_wp2_with fail
    go_loop [9] (fun z => ∃ pos : Nat, pos ≤ n ∧ z = .int .i64 pos) (fun z => (n - intOf z).toNat)
    case atStart => exact ⟨0, Nat.zero_le _, rfl⟩
    case round =>
      obtain ⟨pos, hps, rfl⟩ := hrel
      by_cases hp : pos < n
      · obtain ⟨b1, o1, rfl, hb1, hc1⟩ := hx (by omega)
        have hg : xs[pos]? = some (xs[pos]'(by have := HX.out; omega)) := List.getElem?_eq_getElem _
        obtain ⟨x0, x1, x2, x3⟩ := hc1 pos _ hg
        clear hc1 hx hg
        generalize (xs[pos]'(by have := HX.out; omega)).c = C at *
        clear x0 x1 x2
        have hpi : (pos : Int) < n := by omega
        by_cases q1 : 1099511627776 < C
        · go_wp2_with (go_at_call 31; refine (awake45_any _ hP hX).mono ?_; rintro e w' ⟨rfl, hk⟩)
          go_ret
          exact ⟨rfl, hk⟩
        · by_cases q2 : C < -1099511627776
          · go_wp2_with (go_at_call 31; refine (awake45_any _ hP hX).mono ?_; rintro e w' ⟨rfl, hk⟩)
            go_ret
            exact ⟨rfl, hk⟩
          · go_wp2_with fail
            go_round
            case rel => exact ⟨pos + 1, hp, by go_num⟩
            case measure => simp only [intOf]; omega
      · have hpi : ¬ ((pos : Int) < n) := by omega
        clear hx
        go_wp2_with fail
        refine (HA.out _ hPo0).mono ?_
        rintro r w1 ⟨rfl, hk⟩
        have hK := hk.alloc (.cells #[.int .i64 a, .int .i64 b, .int .i64 c, .int .i64 d, .int .i64 e] 54)
        have B := Blk.new w1 54 #[.int .i64 a, .int .i64 b, .int .i64 c, .int .i64 d, .int .i64 e]
        clear hk
        go_wp2_with fail
        refine (HB.out _ (hPo0.kept hK)).mono ?_
        rintro r w2 ⟨rfl, hk⟩
        have hK := (hK.trans hk).alloc (.cells #[.int .i64 a, .int .i64 b, .int .i64 c, .int .i64 d, .int .i64 e] 54)
        have B := (B.kept hk).alloc (.cells #[.int .i64 a, .int .i64 b, .int .i64 c, .int .i64 d, .int .i64 e] 54)
        have b0 := B.cell 0
        have b1 := B.cell 1
        have b2 := B.cell 2
        have b3 := B.cell 3
        have b4 := B.cell 4
        clear hk
        go_wp2_with (go_at_call 31; refine (awake45_any _ (hP.kept hK) (hX.kept hK)).mono ?_; rintro r w' ⟨rfl, hk⟩; have hK := hK.trans hk)
        go_ret
        exact ⟨rfl, hK⟩

theorem id_inj {h m h2 m2 : Int} (a : (idS h m).2 = 0) (b : (idS h2 m2).2 = 0) (e : (idS h m).1 = (idS h2 m2).1) : h = h2 ∧ m = m2 := by
  unfold idS at a b e
  split at a
  · rename_i q
    split at b
    · rename_i q2
      rw [if_pos q, if_pos q2] at e
      have := idB_iff.1 q
      have := idB_iff.1 q2
      simp only at e
      omega
    · simp at b
  · simp at a
theorem payK_bd (l : List Post) (due : Int) : 1 ≤ payK l due ∧ payK l due ≤ 4 := by
  unfold payK
  split
  · split
    · decide
    · split <;> decide
  · decide
theorem id_ok {h m : Int} (a : (idS h m).2 = 0) : idB h m = true ∧ (idS h m).1 = h * 4096 + m := by
  unfold idS at a ⊢
  split at a
  · rename_i q; rw [if_pos q]; exact ⟨q, rfl⟩
  · simp at a
theorem payN_eq (h m due : Int) (l : List Post) : (((idS h m).2 != 0) = true ∧ payN h m due l = (0, 0, 0, 0, 0, (idS h m).2)) ∨ ((idS h m).2 = 0 ∧ payN h m due l = ((idS h m).1, h, m, payK l due, cashS l, 0)) := by
  unfold payN
  by_cases hc : (idS h m).2 = 0
  · exact .inr ⟨hc, by rw [if_pos hc]⟩
  · exact .inl ⟨by simpa using hc, by rw [if_neg hc]⟩

set_option maxRecDepth 100000 in
set_option maxHeartbeats 16000000 in
theorem lawNoteUnique (ai ah am ak ac bi bh bm bk bc : Int) (v : Value) (xs : List Post) (hn : xs.length ≤ maxLen) (w : World) (hPo : Posts w v xs) (hP : Pow w) (hX : MaxL w) :
    Calls Tryd.prog 13 #[.agg #[.int .i64 ai, .int .i64 ah, .int .i64 am, .int .i64 ak, .int .i64 ac], .agg #[.int .i64 bi, .int .i64 bh, .int .i64 bm, .int .i64 bk, .int .i64 bc], v] w (LawPost w) := by
  unfold LawPost
  unfold maxLen at hn
  have HA := Lib.hid (fun w => id_any ah am w)
  have HB := Lib.hid (fun w => id_any bh bm w)
  have HC := Lib.hid (fun w hp => forPay_any ah am ac v xs hn w hp)
  have hinj := @id_inj ah am bh bm
  have hok := @id_ok ah am
  have hkk := payK_bd xs ac
  obtain ⟨A, cap, rfl, _⟩ := hPo.at_
  have hK0 := ((Kept.refl w).alloc (.cells #[.int .i64 ai, .int .i64 ah, .int .i64 am, .int .i64 ak, .int .i64 ac] 54)).alloc (.cells #[.int .i64 bi, .int .i64 bh, .int .i64 bm, .int .i64 bk, .int .i64 bc] 54)
  have hK0b := hK0
  obtain ⟨n, hxn⟩ : ∃ n, n = xs.length := ⟨_, rfl⟩
  have hPo1 := hPo.kept hK0
  rw [← hxn] at hn HC hPo1 ⊢
  clear hPo
  by_cases h2 : 200 < n
  · have h2i : 200 < (n : Int) := by omega
    clear hinj hok hxn
    go_enter Tryd.func13, Tryd.ntmps13
    go_wp2_with (go_at_call 31; refine (awake45_any _ (hP.kept hK0) (hX.kept hK0)).mono ?_; rintro r w' ⟨rfl, hk⟩)
    go_ret
    exact ⟨rfl, hK0.trans hk⟩
  have h2i : ¬ (200 < (n : Int)) := by omega
  clear hxn h2
  rcases payN_eq ah am ac xs with ⟨he, hR⟩ | ⟨he, hR⟩
  · rw [hR, npV] at HC
    dsimp only at HC
    generalize (idS ah am).1 = x at *
    generalize (idS ah am).2 = e at *
    generalize (idS bh bm).1 = y at *
    generalize (idS bh bm).2 = f at *
    have heb : (e == 0) = false := by rw [bne] at he; simpa using he
    clear hinj hok hR
    go_enter Tryd.func13, Tryd.ntmps13
    go_wp2_with (first
      | (go_at_call_of 29 (Value.int IntKind.i64 ah); refine (HA.out _).mono ?_; rintro r w1 ⟨rfl, rfl⟩)
      | (go_at_call_of 29 (Value.int IntKind.i64 bh); refine (HB.out _).mono ?_; rintro r w1 ⟨rfl, rfl⟩))
    refine (HC.out _ hPo1).mono ?_
    rintro r w2 ⟨rfl, hk⟩
    have hK := (hK0b.trans hk).alloc (.cells #[.int .i64 0, .int .i64 0, .int .i64 0, .int .i64 0, .int .i64 0] 54)
    go_wp2_with (go_at_call 31; refine (awake45_any _ (hP.kept hK) (hX.kept hK)).mono ?_; rintro r w' ⟨rfl, hk⟩; have hK := hK.trans hk)
    go_ret
    exact ⟨rfl, hK⟩
  · rw [hR, npV] at HC
    dsimp only at HC
    obtain ⟨hid, hx⟩ := hok he
    have hinj := hinj he
    rw [he] at HA
    clear hok hR he
    have hbid := Lib.hid (fun (a : 0 ≤ cashS xs) (b : cashS xs ≤ 1000000000000000) => (show notB (idS ah am).1 ah am (payK xs ac) (cashS xs) = true from notB_iff.2 ⟨hid, hx, hkk.1, hkk.2, a, b⟩))
    clear hid hx hkk
    generalize (idS ah am).1 = x at *
    generalize (idS bh bm).1 = y at *
    generalize (idS bh bm).2 = f at *
    generalize payK xs ac = kk at *
    generalize cashS xs = ca at *
    rcases (show (f == 0) = false ∨ f = 0 ∧ ((x == y) = false ∨ x = y) by
      by_cases hf : f = 0
      · refine .inr ⟨hf, ?_⟩
        by_cases hxy : x = y
        · exact .inr hxy
        · exact .inl (by simpa using hxy)
      · exact .inl (by simpa using hf)) with hf | ⟨rfl, hxy | rfl⟩
    case inr.inr =>
      obtain ⟨rfl, rfl⟩ := hinj rfl rfl
      clear hinj
      rcases (show ca < 0 ∨ (0 ≤ ca ∧ 1000000000000000 < ca) ∨ (0 ≤ ca ∧ ca ≤ 1000000000000000) by omega) with q1 | ⟨q1, q2⟩ | ⟨q1, q2⟩
      case inr.inr =>
        have hb := hbid.out q1 q2
        have HF := Lib.hid (fun w hP => nformat_any x ah am kk ca w hP)
        rw [noteS_yes hb] at HF
        have HPr := Lib.hid (fun w hP hX => nparse_yes x ah am kk ca hb w hP hX)
        rw [npV] at HPr
        dsimp only at HPr
        clear hb hbid
        generalize noteT x ah am kk ca = T at *
        go_enter Tryd.func13, Tryd.ntmps13
        go_wp2_with (first
          | (go_at_call_of 29 (Value.int IntKind.i64 ah); refine (HA.out _).mono ?_; rintro r w1 ⟨rfl, rfl⟩)
          | (go_at_call_of 29 (Value.int IntKind.i64 bh); refine (HB.out _).mono ?_; rintro r w1 ⟨rfl, rfl⟩))
        refine (HC.out _ hPo1).mono ?_
        rintro r w2 ⟨rfl, hk⟩
        have hK := (hK0b.trans hk).alloc (.cells #[.int .i64 x, .int .i64 ah, .int .i64 am, .int .i64 kk, .int .i64 ca] 54)
        have B := Blk.new w2 54 #[.int .i64 x, .int .i64 ah, .int .i64 am, .int .i64 kk, .int .i64 ca]
        clear hk
        have b0 := B.cell 0
        have b1 := B.cell 1
        have b2 := B.cell 2
        have b3 := B.cell 3
        have b4 := B.cell 4
        go_wp2_with fail
        refine (HF.out _ (hP.kept hK)).mono ?_
        rintro r w3 ⟨rfl, hk⟩
        have hK := hK.trans hk
        have B := B.kept hk
        clear hk
        go_wp2_with fail
        refine (HPr.out _ (hP.kept hK) (hX.kept hK)).mono ?_
        rintro r w4 ⟨rfl, hk⟩
        have hK := (hK.trans hk).alloc (.cells #[.int .i64 x, .int .i64 ah, .int .i64 am, .int .i64 kk, .int .i64 ca] 54)
        have B := (B.kept hk).alloc (.cells #[.int .i64 x, .int .i64 ah, .int .i64 am, .int .i64 kk, .int .i64 ca] 54)
        have b0 := B.cell 0
        have b1 := B.cell 1
        have b2 := B.cell 2
        have b3 := B.cell 3
        have b4 := B.cell 4
        clear hk
        go_wp2_with (go_at_call 31; refine (awake45_any _ (hP.kept hK) (hX.kept hK)).mono ?_; rintro r w' ⟨rfl, hk⟩; have hK := hK.trans hk)
        go_ret
        exact ⟨rfl, hK⟩
      all_goals
        clear hbid
        go_enter Tryd.func13, Tryd.ntmps13
        go_wp2_with (first
          | (go_at_call_of 29 (Value.int IntKind.i64 ah); refine (HA.out _).mono ?_; rintro r w1 ⟨rfl, rfl⟩)
          | (go_at_call_of 29 (Value.int IntKind.i64 bh); refine (HB.out _).mono ?_; rintro r w1 ⟨rfl, rfl⟩))
        refine (HC.out _ hPo1).mono ?_
        rintro r w2 ⟨rfl, hk⟩
        have hK := (hK0b.trans hk).alloc (.cells #[.int .i64 x, .int .i64 ah, .int .i64 am, .int .i64 kk, .int .i64 ca] 54)
        have B := Blk.new w2 54 #[.int .i64 x, .int .i64 ah, .int .i64 am, .int .i64 kk, .int .i64 ca]
        clear hk
        have b4 := B.cell 4
        go_wp2_with (go_at_call 31; refine (awake45_any _ (hP.kept hK) (hX.kept hK)).mono ?_; rintro r w' ⟨rfl, hk⟩; have hK := hK.trans hk)
        go_ret
        exact ⟨rfl, hK⟩
    all_goals
      clear hinj
      rcases (show ca < 0 ∨ (0 ≤ ca ∧ 1000000000000000 < ca) ∨ (0 ≤ ca ∧ ca ≤ 1000000000000000) by omega) with q1 | ⟨q1, q2⟩ | ⟨q1, q2⟩
      case inr.inr =>
        have hb := hbid.out q1 q2
        have HF := Lib.hid (fun w hP => nformat_any x ah am kk ca w hP)
        rw [noteS_yes hb] at HF
        have HPr := Lib.hid (fun w hP hX => nparse_yes x ah am kk ca hb w hP hX)
        rw [npV] at HPr
        dsimp only at HPr
        clear hb hbid
        generalize noteT x ah am kk ca = T at *
        go_enter Tryd.func13, Tryd.ntmps13
        go_wp2_with (first
          | (go_at_call_of 29 (Value.int IntKind.i64 ah); refine (HA.out _).mono ?_; rintro r w1 ⟨rfl, rfl⟩)
          | (go_at_call_of 29 (Value.int IntKind.i64 bh); refine (HB.out _).mono ?_; rintro r w1 ⟨rfl, rfl⟩))
        refine (HC.out _ hPo1).mono ?_
        rintro r w2 ⟨rfl, hk⟩
        have hK := (hK0b.trans hk).alloc (.cells #[.int .i64 x, .int .i64 ah, .int .i64 am, .int .i64 kk, .int .i64 ca] 54)
        have B := Blk.new w2 54 #[.int .i64 x, .int .i64 ah, .int .i64 am, .int .i64 kk, .int .i64 ca]
        clear hk
        have b0 := B.cell 0
        have b1 := B.cell 1
        have b2 := B.cell 2
        have b3 := B.cell 3
        have b4 := B.cell 4
        go_wp2_with fail
        refine (HF.out _ (hP.kept hK)).mono ?_
        rintro r w3 ⟨rfl, hk⟩
        have hK := hK.trans hk
        have B := B.kept hk
        clear hk
        go_wp2_with fail
        refine (HPr.out _ (hP.kept hK) (hX.kept hK)).mono ?_
        rintro r w4 ⟨rfl, hk⟩
        have hK := (hK.trans hk).alloc (.cells #[.int .i64 x, .int .i64 ah, .int .i64 am, .int .i64 kk, .int .i64 ca] 54)
        have B := (B.kept hk).alloc (.cells #[.int .i64 x, .int .i64 ah, .int .i64 am, .int .i64 kk, .int .i64 ca] 54)
        have b0 := B.cell 0
        have b1 := B.cell 1
        have b2 := B.cell 2
        have b3 := B.cell 3
        have b4 := B.cell 4
        clear hk
        go_wp2_with (go_at_call 31; refine (awake45_any _ (hP.kept hK) (hX.kept hK)).mono ?_; rintro r w' ⟨rfl, hk⟩; have hK := hK.trans hk)
        go_ret
        exact ⟨rfl, hK⟩
      all_goals
        clear hbid
        go_enter Tryd.func13, Tryd.ntmps13
        go_wp2_with (first
          | (go_at_call_of 29 (Value.int IntKind.i64 ah); refine (HA.out _).mono ?_; rintro r w1 ⟨rfl, rfl⟩)
          | (go_at_call_of 29 (Value.int IntKind.i64 bh); refine (HB.out _).mono ?_; rintro r w1 ⟨rfl, rfl⟩))
        refine (HC.out _ hPo1).mono ?_
        rintro r w2 ⟨rfl, hk⟩
        have hK := (hK0b.trans hk).alloc (.cells #[.int .i64 x, .int .i64 ah, .int .i64 am, .int .i64 kk, .int .i64 ca] 54)
        have B := Blk.new w2 54 #[.int .i64 x, .int .i64 ah, .int .i64 am, .int .i64 kk, .int .i64 ca]
        clear hk
        have b4 := B.cell 4
        go_wp2_with (go_at_call 31; refine (awake45_any _ (hP.kept hK) (hX.kept hK)).mono ?_; rintro r w' ⟨rfl, hk⟩; have hK := hK.trans hk)
        go_ret
        exact ⟨rfl, hK⟩
end Go.Proofs.YtjdljholajacdaaDoor
/- Notices and lists of postings that came in, opened; what the rows of the chapter on notices say of the listed tables. -/
namespace Go.Proofs.YtjdljholajacdaaDoor
open Go.ChangeShapes Go.WideShapes Go.ChangeAt Go.RowKit Go.Joins Go.Deep
section
variable {H : Type} {enc : TypeId × Value → H} {P : Program} {w : World} {base : Nat} {spare : Nat → Bool} {held : Bool}
theorem open_slice_fieldsN {t e : TypeId} {fs : Array Field} {fuel : Nat} {cs : List Value} {x : DataW H × List MemPlace} (ht : P.underlying t = some (.slice e)) (he : P.underlying e = some (.struct fs))
    (hone : oneCellFields P fs = true) (hC : P.cellsOf e = fs.size) (h : DataW.trod enc P w base spare held fuel t cs = some x) :
    (cs = [.slice none 0 0] ∧ x = (.nil, [])) ∨
    ∃ (a : Addr) (len cap m : Nat), cs = [.slice (some a) len cap] ∧ len ≤ cap ∧ cap ≤ maxLen ∧ m = (if spare a.block then cap else len) ∧
      ∀ i, i < m → ∀ (j : Nat) (f : Field), fs[j]? = some f → ∃ (v : Value) (y : DataW H × List MemPlace) (n : Nat), w.cell? (a.add (i * fs.size + j)) = some v ∧ DataW.trod enc P w base spare held n f.type [v] = some y := by
  rcases open_slice ht h with h0 | ⟨a, len, cap, m, n, D, Pl, hcs, hb, hl, hm, hmm, hx, hi⟩
  · exact .inl h0
  · refine .inr ⟨a, len, cap, m, hcs, hl, hm, hmm, fun i him j f hj => ?_⟩
    obtain ⟨cs', hc, ht'⟩ := hi i him
    rw [hC] at hc
    obtain ⟨ys, n', hn', hy, hlen, hyl, hf⟩ := DataW.trod_struct he ht'
    obtain ⟨_, hcl, hat⟩ := World.cells?_some hc
    obtain ⟨ho, hk⟩ := hone_of hone j f hj
    have hjl : j < fs.size := (Array.getElem?_eq_some_iff.1 hj).1
    have hcell := hat j hjl
    have hv : cs'[j]? = some (cs'[j]'(by omega)) := List.getElem?_eq_getElem (by omega)
    have h1 := hf j f hj
    rw [ho, hk] at h1
    have hone' : (cs'.drop j).take 1 = [cs'[j]'(by omega)] := by
      rw [List.drop_eq_getElem_cons (by omega)]
      rfl
    rw [hone'] at h1
    have hys : ys[j]? = some (ys[j]'(by omega)) := List.getElem?_eq_getElem (by omega)
    refine ⟨_, _, _, ?_, h1.trans hys⟩
    rw [← Go.Deep.add_add, hcell, hv]
end
section
variable {H : Type} {enc : TypeId × Value → H} {w : World}
theorem cellsNote : Tryd.prog.cellsOf 54 = 5 := by kernel_rfl
set_option maxRecDepth 100000 in
theorem open_note {base : Nat} {v : Value} {d : DataW H} {p : List MemPlace} (hv : Value.okWide Tryd.prog w .any base 54 v) (h : DataW.Trod enc Tryd.prog w 0 (fun _ => true) true 54 v d p) :
    ∃ i h m k c : Int, v = .agg #[.int .i64 i, .int .i64 h, .int .i64 m, .int .i64 k, .int .i64 c] := by
  obtain ⟨⟨cs⟩, rfl, hsz⟩ := okWide_struct Tryd.underlying54 hv
  rw [cellsNote] at hsz
  have hr := Reads.of h
  obtain ⟨x0, e0, _⟩ := hr.intAt Tryd.underlying54 0 0 _ rfl rfl rfl
  obtain ⟨x1, e1, _⟩ := hr.intAt Tryd.underlying54 1 1 _ rfl rfl rfl
  obtain ⟨x2, e2, _⟩ := hr.intAt Tryd.underlying54 2 2 _ rfl rfl rfl
  obtain ⟨x3, e3, _⟩ := hr.intAt Tryd.underlying54 3 3 _ rfl rfl rfl
  obtain ⟨x4, e4, _⟩ := hr.intAt Tryd.underlying54 4 4 _ rfl rfl rfl
  match cs, hsz with
  | [c0, c1, c2, c3, c4], _ =>
    simp at e0 e1 e2 e3 e4
    subst e0 e1 e2 e3 e4
    exact ⟨x0, x1, x2, x3, x4, rfl⟩
set_option maxRecDepth 100000 in
theorem open_posts {base : Nat} {v : Value} {d : DataW H} {p : List MemPlace} (hv : Value.okWide Tryd.prog w .any base 50 v) (h : DataW.Trod enc Tryd.prog w 0 (fun _ => true) true 50 v d p) :
    ∃ xs : List Post, Posts w v xs ∧ xs.length ≤ maxLen := by
  have hu : Tryd.prog.underlying 50 = some (.slice 52) := by kernel_rfl
  obtain ⟨A, len, cap, rfl⟩ := okWide_slice hu hv
  obtain ⟨fuel, hf⟩ := h
  rcases open_slice_fieldsN hu Tryd.underlying52 (by kernel_rfl) (by kernel_rfl) hf with ⟨hcs, _⟩ | ⟨a, len', cap', m, hcs, hl, hm, hmm, hi⟩
  · simp [Value.cells] at hcs
    obtain ⟨rfl, rfl, rfl⟩ := hcs
    exact ⟨[], Recs.nil _ _ _, by simp⟩
  · simp [Value.cells] at hcs
    obtain ⟨rfl, rfl, rfl⟩ := hcs
    simp only [if_true] at hmm
    subst hmm
    have hex : ∀ i, i < len → ∃ t : Post, w.cell? (a.add (i * 4)) = some (.int .i64 t.d) ∧ w.cell? (a.add (i * 4 + 1)) = some (.int .i64 t.m) ∧ w.cell? (a.add (i * 4 + 2)) = some (.int .i64 t.k) ∧ w.cell? (a.add (i * 4 + 3)) = some (.int .i64 t.c) := by
      intro i hil
      have him := hi i (by omega)
      obtain ⟨v0, y0, n0, c0, t0⟩ := him 0 _ rfl
      obtain ⟨v1, y1, n1, c1, t1⟩ := him 1 _ rfl
      obtain ⟨v2, y2, n2, c2, t2⟩ := him 2 _ rfl
      obtain ⟨v3, y3, n3, c3, t3⟩ := him 3 _ rfl
      obtain ⟨k0, e0, _, _⟩ := DataW.trod_int Tryd.underlying3 t0
      obtain ⟨k1, e1, _, _⟩ := DataW.trod_int Tryd.underlying3 t1
      obtain ⟨k2, e2, _, _⟩ := DataW.trod_int Tryd.underlying3 t2
      obtain ⟨k3, e3, _, _⟩ := DataW.trod_int Tryd.underlying3 t3
      simp only [List.cons.injEq, and_true] at e0 e1 e2 e3
      subst e0 e1 e2 e3
      exact ⟨⟨k0, k1, k2, k3⟩, c0, c1, c2, c3⟩
    obtain ⟨f, hf'⟩ := Classical.axiomOfChoice (r := fun (i : Fin len) (t : Post) => w.cell? (a.add (i.1 * 4)) = some (.int .i64 t.d) ∧ w.cell? (a.add (i.1 * 4 + 1)) = some (.int .i64 t.m) ∧ w.cell? (a.add (i.1 * 4 + 2)) = some (.int .i64 t.k) ∧ w.cell? (a.add (i.1 * 4 + 3)) = some (.int .i64 t.c)) (fun i => hex i.1 i.2)
    refine ⟨List.ofFn f, ⟨some a, m, by rw [List.length_ofFn], ?_⟩, by rw [List.length_ofFn]; omega⟩
    rw [List.length_ofFn]
    intro hp
    have c0 := (hf' ⟨0, hp⟩).1
    have hb := cell_lt c0
    rw [block_of_add] at hb
    obtain ⟨b, o, sp⟩ := a
    have hsn : sp = none := by
      have := World.cell?_spot c0
      simpa [Addr.add] using this
    subst hsn
    refine ⟨b, o, rfl, hb, ?_⟩
    have ea : ∀ q, (⟨b, o, none⟩ : Addr).add q = ⟨b, o + q, none⟩ := by
      intro q
      unfold Addr.add
      by_cases e : q = 0
      · subst e; rfl
      · simp [e]
    intro j x hj i u hu'
    have hjl : j < len := by
      have := (List.getElem?_eq_some_iff.1 hj).1
      simpa using this
    have hx : x = f ⟨j, hjl⟩ := by
      have : (List.ofFn f)[j]? = some (f ⟨j, hjl⟩) := by simp [hjl]
      rw [this] at hj
      exact (Option.some.inj hj).symm
    subst hx
    obtain ⟨q0, q1, q2, q3⟩ := hf' ⟨j, hjl⟩
    rw [ea] at q0 q1 q2 q3
    dsimp only at q0 q1 q2 q3
    simp only [← Nat.add_assoc] at q0 q1 q2 q3
    match i, hu' with
    | 0, hu' => simp only [postF, List.getElem?_cons_zero, Option.some.injEq] at hu'; subst hu'; exact q0
    | 1, hu' => simp only [postF, List.getElem?_cons_zero, List.getElem?_cons_succ, Option.some.injEq] at hu'; subst hu'; exact q1
    | 2, hu' => simp only [postF, List.getElem?_cons_zero, List.getElem?_cons_succ, Option.some.injEq] at hu'; subst hu'; exact q2
    | 3, hu' => simp only [postF, List.getElem?_cons_zero, List.getElem?_cons_succ, Option.some.injEq] at hu'; subst hu'; exact q3
    | i + 4, hu' => simp [postF] at hu'
end
/-- what the rows say of the listed tables -/
theorem env45 {W : World} (h : laidMetH Tryd.prog Rows.noticeIdRow.laid W) : Pow W := by
  have h0 : laidMet Tryd.prog Rows.noticeIdRow.laid W := h
  have h3 := h0.tail.tail
  exact Lib.tabIs_of_head (g := 2) (t := 128) (e := 79) (n := 20) (by kernel_rfl) (by kernel_rfl) (by kernel_rfl) (by kernel_rfl) (by kernel_rfl) (by kernel_rfl) h3
theorem envMax {W : World} (h : W.ShapedOpen Tryd.prog) : MaxL W :=
  cell_of_shapedOpen_int (g := 1) (t := 3) (zero := #[.int .i64 0]) h (of_decide_eq_true (by kernel_rfl)) (by kernel_rfl) rfl (by kernel_rfl) (by kernel_rfl) (by kernel_rfl)
end Go.Proofs.YtjdljholajacdaaDoor
