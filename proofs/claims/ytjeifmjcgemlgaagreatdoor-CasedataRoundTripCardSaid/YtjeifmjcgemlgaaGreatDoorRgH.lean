/- Expressions in postfix order and stack code: the definitions that both packages compute, in plain Lean. -/
import Derived.Test.YtjeifmjcgemlgaaGreatDoorRgA
import Derived.Deep.RegionLaw
import Derived.Deep.AppendLies
namespace Go.Proofs.YtjeifmjcgemlgaaGreatDoor
open Go.RowKit

/-- an operation of an expression or of code -/
structure Nd where
  o : Int
  n : Int
def ndF (x : Nd) : List Value := [.int .i64 x.o, .int .i64 x.n]
theorem ndF_len (x : Nd) : (ndF x).length = 2 := rfl
abbrev Nds (w : World) (v : Value) (xs : List Nd) : Prop := Recs w ndF 2 v xs
/-- how many operands an operation has, or -1 -/
def arS (op : Int) : Int :=
  if (1 ≤ op ∧ op ≤ 9) ∨ (35 ≤ op ∧ op ≤ 39) then 0
  else if op = 10 ∨ op = 25 ∨ op = 31 ∨ op = 32 ∨ op = 33 ∨ op = 34 then 1
  else if op = 26 then 3
  else if 11 ≤ op ∧ op ≤ 30 then 2 else -1
theorem arS_bd (op : Int) : -1 ≤ arS op ∧ arS op ≤ 3 := by
  unfold arS
  split
  · decide
  · split
    · decide
    · split
      · decide
      · split <;> decide
/-- where the subexpression that ends with a node begins -/
def frmS (i : Nat) (a : Nat) (stk : List Nat) : Nat := if a = 0 then i else stk[stk.length - a]?.getD 0
/-- the structure from node i on: the starts, the index and the code of the first error -/
def strF : List Nd → Nat → List Nat → List Nat → List Nat × Nat × Int
  | [], i, stk, sts => if 1 < stk.length then ([], i, 4) else (sts, 0, 0)
  | x :: r, i, stk, sts =>
    if arS x.o < 0 then ([], i, 2)
    else if (stk.length : Int) < arS x.o then ([], i, 5)
    else if 12 < (stk.take (stk.length - (arS x.o).toNat) ++ [frmS i (arS x.o).toNat stk]).length then ([], i, 16)
    else strF r (i + 1) (stk.take (stk.length - (arS x.o).toNat) ++ [frmS i (arS x.o).toNat stk]) (sts ++ [frmS i (arS x.o).toNat stk])
def strS (e : List Nd) : List Nat × Nat × Int :=
  if 48 < e.length then ([], 0, 4) else if e.length = 0 then ([], 0, 5) else strF e 0 [] []
/-- the operands of the node at: the last n of them, from index k back -/
def opsF (sts : List Nat) : Nat → Int → List Int → List Int
  | 0, _, acc => acc
  | n + 1, k, acc => opsF sts n (((sts[k.toNat]?.getD 0 : Nat) : Int) - 1) (k :: acc)
def opsS (e : List Nd) (at_ : Int) : List Int :=
  if (strS e).2.2 = 0 ∧ 0 ≤ at_ ∧ at_ < e.length then opsF (strS e).1 (arS (e[at_.toNat]?.getD ⟨0, 0⟩).o).toNat (at_ - 1) [] else []

/-- the N of a node is set -/
def setN (l : List Nd) (j : Nat) (v : Nat) : List Nd := l.modify j fun x => { x with n := v }
/-- the code of the subexpression that ends at index at, behind out -/
def emitF (e : List Nd) : Nat → List Nd → Nat → List Nd
  | 0, out, _ => out
  | f + 1, out, at_ =>
    let x := e[at_]?.getD ⟨0, 0⟩
    let k := opsS e at_
    if x.o = 23 ∨ x.o = 24 then
      let o1 := emitF e f out (k[0]?.getD 0).toNat
      let o2 := emitF e f (o1 ++ [⟨if x.o = 24 then 53 else 52, 0⟩]) (k[1]?.getD 0).toNat
      setN o2 o1.length o2.length
    else if x.o = 26 then
      let o1 := emitF e f out (k[0]?.getD 0).toNat
      let o2 := emitF e f (o1 ++ [⟨50, 0⟩]) (k[1]?.getD 0).toNat
      let o3 := setN (o2 ++ [⟨51, 0⟩]) o1.length (o2.length + 1)
      let o4 := emitF e f o3 (k[2]?.getD 0).toNat
      setN o4 o2.length o4.length
    else k.foldl (fun o q => emitF e f o q.toNat) out ++ [x]
def compS (e : List Nd) : List Nd × Int := if (strS e).2.2 = 0 then (emitF e e.length [] (e.length - 1), 0) else ([], (strS e).2.2)

/-! Checking code -/
def jmpB (op : Int) : Bool := decide (50 ≤ op) && decide (op ≤ 53)
def arC (op : Int) : Int := if op = 51 then 0 else if jmpB op then 1 else if op = 23 ∨ op = 24 ∨ op = 26 then -1 else arS op
/-- a depth is noted at an index -/
def reachS (ds : List Int) (at_ : Nat) (d : Int) : List Int × Int := if 0 ≤ ds[at_]?.getD 0 ∧ ds[at_]?.getD 0 ≠ d then (ds, 9) else (ds.set at_ d, 0)
def stepC (len : Nat) (x : Nd) (i : Nat) (ds : List Int) : List Int × Int :=
  let d := ds[i]?.getD 0
  if arC x.o < 0 ∨ (jmpB x.o = true ∧ (x.n ≤ i ∨ (len : Int) < x.n)) then (ds, 2)
  else if d < arC x.o then (ds, 5)
  else if x.o = 51 then reachS ds x.n.toNat d
  else if jmpB x.o then (if (reachS ds (i + 1) (d - 1)).2 = 0 then reachS (reachS ds (i + 1) (d - 1)).1 x.n.toNat (if x.o = 50 then d - 1 else d) else reachS ds (i + 1) (d - 1))
  else if 12 < d - arC x.o + 1 then (ds, 16) else reachS ds (i + 1) (d - arC x.o + 1)
/-- the run over the rest of the code, from index i on -/
def verF (len : Nat) : List Nd → Nat → List Int → List Int × Int
  | [], _, ds => (ds, 0)
  | x :: r, i, ds => if ds[i]?.getD 0 < 0 then verF len r (i + 1) ds else if (stepC len x i ds).2 = 0 then verF len r (i + 1) (stepC len x i ds).1 else (ds, (stepC len x i ds).2)
def maxS (l : List Int) : Int := l.foldl max 0
def verS (c : List Nd) : Int × Int :=
  if 128 < c.length then (0, 4) else if c.length = 0 then (0, 5)
  else
    let r := verF c.length c 0 (0 :: List.replicate c.length (-1))
    if r.2 = 0 then (if r.1[c.length]?.getD 0 < 1 then (0, 5) else if 1 < r.1[c.length]?.getD 0 then (0, 4) else (maxS r.1, 0)) else (0, r.2)
end Go.Proofs.YtjeifmjcgemlgaaGreatDoor
/- What Arity of package expr, and of its reference, computes. -/
namespace Go.Proofs.YtjeifmjcgemlgaaGreatDoor
open Go.RowKit

theorem beq_noB {a b : Int} (h : a ≠ b) : (a == b) = false := by simpa using h
theorem bne_noB {a b : Int} (h : a ≠ b) : (a != b) = true := by simpa using h
theorem arS_out {op : Int} (h : op < 1 ∨ 39 < op) : arS op = -1 := by
  unfold arS
  rw [if_neg (by omega), if_neg (by omega), if_neg (by omega), if_neg (by omega)]
set_option maxRecDepth 100000 in
set_option maxHeartbeats 16000000 in
theorem rarity_any (op : Int) (w : World) : Calls Tryz.prog 110 #[.int .i64 op] w fun e w' => e = .returned (.int .i64 (arS op)) ∧ w = w' := by
  rcases (show (op = 1 ∨ op = 2 ∨ op = 3 ∨ op = 4 ∨ op = 5 ∨ op = 6 ∨ op = 7 ∨ op = 8 ∨ op = 9 ∨ op = 10 ∨ op = 11 ∨ op = 12 ∨ op = 13 ∨ op = 14 ∨ op = 15 ∨ op = 16 ∨ op = 17 ∨ op = 18 ∨ op = 19 ∨ op = 20 ∨ op = 21 ∨ op = 22 ∨ op = 23 ∨ op = 24 ∨ op = 25 ∨ op = 26 ∨ op = 27 ∨ op = 28 ∨ op = 29 ∨ op = 30 ∨ op = 31 ∨ op = 32 ∨ op = 33 ∨ op = 34 ∨ op = 35 ∨ op = 36 ∨ op = 37 ∨ op = 38 ∨ op = 39) ∨ (op < 1 ∨ 39 < op) by omega) with hc | hc
  · rcases hc with rfl | rfl | rfl | rfl | rfl | rfl | rfl | rfl | rfl | rfl | rfl | rfl | rfl | rfl | rfl | rfl | rfl | rfl | rfl | rfl | rfl | rfl | rfl | rfl | rfl | rfl | rfl | rfl | rfl | rfl | rfl | rfl | rfl | rfl | rfl | rfl | rfl | rfl | rfl
    all_goals
      go_enter Tryz.func110, Tryz.ntmps110
      go_wp2_with fail
      go_ret
      exact ⟨rfl, rfl⟩
  · have HR := Lib.hid (arS_out hc)
    have e1 := beq_noB (show op ≠ 1 by omega)
    have e2 := beq_noB (show op ≠ 2 by omega)
    have e3 := beq_noB (show op ≠ 3 by omega)
    have e4 := beq_noB (show op ≠ 4 by omega)
    have e5 := beq_noB (show op ≠ 5 by omega)
    have e6 := beq_noB (show op ≠ 6 by omega)
    have e7 := beq_noB (show op ≠ 7 by omega)
    have e8 := beq_noB (show op ≠ 8 by omega)
    have e9 := beq_noB (show op ≠ 9 by omega)
    have e10 := beq_noB (show op ≠ 10 by omega)
    have e11 := beq_noB (show op ≠ 11 by omega)
    have e12 := beq_noB (show op ≠ 12 by omega)
    have e13 := beq_noB (show op ≠ 13 by omega)
    have e14 := beq_noB (show op ≠ 14 by omega)
    have e15 := beq_noB (show op ≠ 15 by omega)
    have e16 := beq_noB (show op ≠ 16 by omega)
    have e17 := beq_noB (show op ≠ 17 by omega)
    have e18 := beq_noB (show op ≠ 18 by omega)
    have e19 := beq_noB (show op ≠ 19 by omega)
    have e20 := beq_noB (show op ≠ 20 by omega)
    have e21 := beq_noB (show op ≠ 21 by omega)
    have e22 := beq_noB (show op ≠ 22 by omega)
    have e23 := beq_noB (show op ≠ 23 by omega)
    have e24 := beq_noB (show op ≠ 24 by omega)
    have e25 := beq_noB (show op ≠ 25 by omega)
    have e26 := beq_noB (show op ≠ 26 by omega)
    have e27 := beq_noB (show op ≠ 27 by omega)
    have e28 := beq_noB (show op ≠ 28 by omega)
    have e29 := beq_noB (show op ≠ 29 by omega)
    have e30 := beq_noB (show op ≠ 30 by omega)
    have e31 := beq_noB (show op ≠ 31 by omega)
    have e32 := beq_noB (show op ≠ 32 by omega)
    have e33 := beq_noB (show op ≠ 33 by omega)
    have e34 := beq_noB (show op ≠ 34 by omega)
    have e35 := beq_noB (show op ≠ 35 by omega)
    have e36 := beq_noB (show op ≠ 36 by omega)
    have e37 := beq_noB (show op ≠ 37 by omega)
    have e38 := beq_noB (show op ≠ 38 by omega)
    have e39 := beq_noB (show op ≠ 39 by omega)
    rcases hc with hc | hc
    · have f1 : ¬ 1 ≤ op := by omega
      have f2 : ¬ 35 ≤ op := by omega
      have f3 : ¬ 11 ≤ op := by omega
      go_enter Tryz.func110, Tryz.ntmps110
      go_wp2_with fail
      go_ret
      rw [HR.out]
      exact ⟨rfl, rfl⟩
    · have f1 : 1 ≤ op := by omega
      have f2 : ¬ op ≤ 9 := by omega
      have f3 : 35 ≤ op := by omega
      have f4 : ¬ op ≤ 39 := by omega
      have f5 : 11 ≤ op := by omega
      have f6 : ¬ op ≤ 30 := by omega
      go_enter Tryz.func110, Tryz.ntmps110
      go_wp2_with fail
      go_ret
      rw [HR.out]
      exact ⟨rfl, rfl⟩
end Go.Proofs.YtjeifmjcgemlgaaGreatDoor
/- What structure of package expr computes. -/
namespace Go.Proofs.YtjeifmjcgemlgaaGreatDoor
open Go.RowKit

def natF (n : Nat) : List Value := [.int .i64 (n : Int)]
theorem natF_len (n : Nat) : (natF n).length = 1 := rfl
theorem natF_one (n : Nat) : ∀ u ∈ natF n, u.oneCell' = true := by
  intro u hu
  simp only [natF, List.mem_cons, List.not_mem_nil, or_false] at hu
  subst hu; rfl
theorem natF_flat : ∀ l : List Nat, l.flatMap natF = l.map fun n : Nat => Value.int .i64 (n : Int)
  | [] => rfl
  | _ :: r => by rw [List.flatMap_cons, natF_flat r]; rfl
/-- the cells of a block of natural numbers -/
def natC (l : List Nat) : Array Value := (l.map fun n : Nat => Value.int .i64 (n : Int)).toArray
theorem natC_size (l : List Nat) : (natC l).size = l.length := by simp [natC]
theorem natC_get {l : List Nat} {i n : Nat} (h : l[i]? = some n) : (natC l)[i]? = some (.int .i64 (n : Int)) := by simp [natC, h]
theorem natC_set (l : List Nat) (i n : Nat) : (natC l).setIfInBounds i (.int .i64 (n : Int)) = natC (l.set i n) := by
  unfold natC
  rw [List.setIfInBounds_toArray, List.map_set]
theorem natC_recs {w : World} {g : Nat} {t : TypeId} {l : List Nat} {cap : Nat} (h : Blk w g t (natC l)) : Recs w natF 1 (.slice (some ⟨g, 0, none⟩) l.length cap) l := by
  refine ⟨_, _, rfl, fun _ => ⟨g, 0, rfl, h.lt, fun j x hj i u hu => ?_⟩⟩
  have hi : i < 1 := (List.getElem?_eq_some_iff.1 hu).1
  obtain rfl : i = 0 := by omega
  rw [show 0 + j * 1 + 0 = j by omega, h.cell, natC_get hj]
  exact hu
theorem natC_of_row {w : World} {B : Nat} {e : TypeId} {g n cap : Nat} {l : List Nat} (hl : l.length = n) (h : w.ownsRow B e 1 (.slice (some ⟨g, 0, none⟩) n cap) n (l.map fun n : Nat => Value.int .i64 (n : Int))) (hc : cap = n) : Blk w g e (natC l) := by
  subst hc
  rcases h.2 with ⟨hv, _⟩ | ⟨g', cap', cur, hv, _, hg, _, _, h3, h4⟩
  · cases hv
  · simp only [Value.slice.injEq, Option.some.injEq, Addr.mk.injEq] at hv
    obtain ⟨⟨rfl, _⟩, _, rfl⟩ := hv
    rw [List.take_of_length_le (by rw [Array.length_toList, h3]; exact Nat.le_refl _)] at h4
    unfold Blk natC
    rw [← h4, Array.toArray_toList]
    exact hg
theorem zeros_row (n : Nat) : List.replicate n (Value.int .i64 0) = (List.replicate n 0).map fun n : Nat => Value.int .i64 (n : Int) := by simp
theorem starts_set (sts : List Nat) (k n : Nat) : (sts ++ List.replicate (k + 1) 0).set sts.length n = (sts ++ [n]) ++ List.replicate k 0 := by
  rw [List.set_append_right _ _ (Nat.le_refl _), Nat.sub_self, List.replicate_succ, List.set_cons_zero]; simp
theorem GathR.far {α : Type} {f : α → List Value} {k : Nat} {w : World} {B : Nat} {e : TypeId} {v : Value} {xs : List α} (h : GathR w B e f k v xs) {p : Addr} (hp : p.block < B) (u : Value) : GathR (w.setCell p u) B e f k v xs := by
  refine ⟨h.1, ?_⟩
  rcases h.2 with hn | ⟨g, cap, cur, hv, hb, hg, r⟩
  · exact .inl hn
  · exact .inr ⟨g, cap, cur, hv, hb, (Below.heap_setCell w p u g (by omega)).trans hg, r⟩
theorem GathR.alloc {α : Type} {f : α → List Value} {k : Nat} {w : World} {B : Nat} {e : TypeId} {v : Value} {xs : List α} (h : GathR w B e f k v xs) (o : Obj) : GathR (w.alloc o) B e f k v xs :=
  h.keptOwn ((Kept.refl w).alloc o)
theorem nat_new {W : World} {s : Nat} {t : TypeId} : ∀ j u, (natF s)[j]? = some u → (W.alloc (.cells #[.int .i64 (s : Int)] t)).cell? ((⟨W.heap.size, 0, none⟩ : Addr).add j) = some u :=
  blk_cells (l := natF s)
/-- the head of a row that holds something -/
theorem GathR.row {w : World} {B : Nat} {e : TypeId} {v : Value} {xs : List Nat} (h : GathR w B e natF 1 v xs) (hp : 0 < xs.length) :
    ∃ g cap, v = .slice (some ⟨g, 0, none⟩) xs.length cap ∧ B ≤ g ∧ g < w.heap.size ∧ ∀ (j x : Nat), xs[j]? = some x → w.cell? ⟨g, j, none⟩ = some (.int .i64 (x : Int)) := by
  have hr := h.recs natF_len
  rcases h.2 with ⟨_, h0⟩ | ⟨g, cap, cur, rfl, hB, hg, _⟩
  · omega
  · refine ⟨g, cap, rfl, hB, (Array.getElem?_eq_some_iff.1 hg).1, fun j x hj => ?_⟩
    obtain ⟨A, c, hv, hx⟩ := hr
    simp only [Value.slice.injEq] at hv
    obtain ⟨rfl, _, rfl⟩ := hv
    obtain ⟨b, off, hA, _, hc⟩ := hx hp
    simp only [Option.some.injEq, Addr.mk.injEq] at hA
    obtain ⟨rfl, rfl, _⟩ := hA
    have := hc j x hj 0 _ rfl
    rwa [show 0 + j * 1 + 0 = j by omega] at this
theorem Tryz.infoInt : (Tryz.prog.info? 3).map (fun i => (i.zero, i.size, i.bytes)) = some (some (.int .i64 0), 1, 8) := by kernel_rfl
/-- a node's cells -/
theorem Nds.at_ {w : World} {v : Value} {xs : List Nd} (h : Nds w v xs) : ∃ A cap, v = .slice A xs.length cap ∧ (0 < xs.length → ∃ b off, A = some ⟨b, off, none⟩ ∧ b < w.heap.size ∧
    ∀ j t, xs[j]? = some t → w.cell? ⟨b, off + j * 2, none⟩ = some (.int .i64 t.o) ∧ w.cell? ⟨b, off + j * 2 + 1, none⟩ = some (.int .i64 t.n)) := by
  obtain ⟨A, cap, hv, hx⟩ := h
  refine ⟨A, cap, hv, fun hp => ?_⟩
  obtain ⟨b, off, hA, hb, hc⟩ := hx hp
  exact ⟨b, off, hA, hb, fun j t hj => ⟨hc j t hj 0 _ rfl, hc j t hj 1 _ rfl⟩⟩
def strPost (xs : List Nd) (w : World) (e : Ending) (w' : World) : Prop := ∃ v, e = .returned (.tuple #[v, .int .i64 ((strS xs).2.1 : Nat), .int .i64 (strS xs).2.2]) ∧ Recs w' natF 1 v (strS xs).1 ∧ Kept w w'
theorem strF_nil {xs : List Nd} {i n : Nat} {stk sts : List Nat} (h : strF (xs.drop i) i stk sts = strS xs) (hi : ¬ i < n) (hn : n = xs.length) (hl : stk.length ≤ 1) : strS xs = (sts, 0, 0) := by
  rw [← h, List.drop_eq_nil_iff.2 (by omega), strF, if_neg (by omega)]
theorem strF_long {xs : List Nd} {i n : Nat} {stk sts : List Nat} (h : strF (xs.drop i) i stk sts = strS xs) (hi : ¬ i < n) (hn : n = xs.length) (hl : 1 < stk.length) : strS xs = ([], i, 4) := by
  rw [← h, List.drop_eq_nil_iff.2 (by omega), strF, if_pos hl]
theorem strF_form {xs : List Nd} {i : Nat} {x : Nd} {stk sts : List Nat} (h : strF (xs.drop i) i stk sts = strS xs) (hx : xs[i]? = some x) (ha : arS x.o < 0) : strS xs = ([], i, 2) := by
  obtain ⟨hi, rfl⟩ := List.getElem?_eq_some_iff.1 hx
  rw [← h, List.drop_eq_getElem_cons hi, strF, if_pos ha]
theorem strF_trunc {xs : List Nd} {i a : Nat} {x : Nd} {stk sts : List Nat} (h : strF (xs.drop i) i stk sts = strS xs) (hx : xs[i]? = some x) (ha : arS x.o = a) (hl : stk.length < a) : strS xs = ([], i, 5) := by
  obtain ⟨hi, rfl⟩ := List.getElem?_eq_some_iff.1 hx
  rw [← h, List.drop_eq_getElem_cons hi, strF, if_neg (by omega), if_pos (by omega)]
theorem strF_deep {xs : List Nd} {i a m : Nat} {x : Nd} {stk sts : List Nat} (h : strF (xs.drop i) i stk sts = strS xs) (hx : xs[i]? = some x) (ha : arS x.o = a) (hl : stk.length = m + a) (hd : 12 < m + 1) : strS xs = ([], i, 16) := by
  obtain ⟨hi, rfl⟩ := List.getElem?_eq_some_iff.1 hx
  rw [← h, List.drop_eq_getElem_cons hi, strF, if_neg (by omega), if_neg (by omega), if_pos (by rw [List.length_append, List.length_take, ha]; simp; omega)]
theorem strF_next {xs : List Nd} {i a m : Nat} {x : Nd} {stk sts : List Nat} (h : strF (xs.drop i) i stk sts = strS xs) (hx : xs[i]? = some x) (ha : arS x.o = a) (hl : stk.length = m + a) (hd : ¬ 12 < m + 1) :
    strF (xs.drop (i + 1)) (i + 1) (stk.take m ++ [frmS i a stk]) (sts ++ [frmS i a stk]) = strS xs := by
  obtain ⟨hi, rfl⟩ := List.getElem?_eq_some_iff.1 hx
  have e : stk.length - a = m := by omega
  rw [← h, List.drop_eq_getElem_cons hi, strF, if_neg (by omega), if_neg (by omega), if_neg (by rw [List.length_append, List.length_take, ha]; simp; omega), ha]
  simp only [Int.toNat_natCast, e]
theorem frmS_zero (i : Nat) (stk : List Nat) : frmS i 0 stk = i := rfl
theorem frmS_pos {i a m x : Nat} {stk : List Nat} (ha : 0 < a) (hl : stk.length = m + a) (hx : stk[m]? = some x) : frmS i a stk = x := by
  unfold frmS
  rw [if_neg (by omega), show stk.length - a = m by omega, hx]; rfl

end Go.Proofs.YtjeifmjcgemlgaaGreatDoor
/- Rows of a call's own: what an append to one of them leaves of the others. -/
namespace Go.Proofs.YtjeifmjcgemlgaaGreatDoor
open Go.RowKit

section
variable {α : Type} {f : α → List Value} {k : Nat} {w : World} {B : Nat} {e : TypeId}
theorem GathR.block {v : Value} {xs : List α} (h : GathR w B e f k v xs) {g : Nat} (hv : v.ownBlock = some g) : ∃ cur, w.heap[g]? = some (.cells cur e (0, 0)) := by
  rcases h.2 with ⟨rfl, _⟩ | ⟨g', cap, cur, rfl, _, hg, _⟩
  · cases hv
  · obtain rfl : g' = g := Option.some.inj hv
    exact ⟨cur, hg⟩
theorem GathR.frozen {v : Value} {xs : List α} (h : GathR w B e f k v xs) {g : Nat} (hv : v.ownBlock = some g) (i : Nat) : w.frozen? ⟨g, i, none⟩ = false := by
  obtain ⟨cur, hc⟩ := h.block hv
  simp [World.frozen?, hc]
/-- a row that is not the row that has grown -/
theorem GathR.grown {w' : World} {v : Value} {xs : List α} {row : Option Nat} (h : GathR w B e f k v xs) (hg : w.grownBy w' row) (hne : ∀ b, v.ownBlock = some b → row ≠ some b) : GathR w' B e f k v xs := by
  refine ⟨h.1, ?_⟩
  rcases h.2 with hn | ⟨g, cap, cur, rfl, hb, hc, r⟩
  · exact .inl hn
  · exact .inr ⟨g, cap, cur, rfl, hb, (hg.block g (Array.getElem?_eq_some_iff.1 hc).1 (fun e => hne g rfl e.symm)).trans hc, r⟩
/-- behind an append of a block of its own -/
theorem append_grew {wr w1 : World} {v : Value} {o : Obj} {g n cap : Nat} (hg : (wr.alloc o).grownBy w1 v.ownBlock) (hat : v.ownBlock = some g ∨ g = (wr.alloc o).heap.size) : Grew wr w1 v (.slice (some ⟨g, 0, none⟩) n cap) := by
  refine (Grew.kept ((Kept.refl wr).alloc o)).trans ⟨hg, fun b hb => ?_⟩
  obtain rfl : g = b := Option.some.inj hb
  rcases hat with h | h
  · exact .inl h
  · exact .inr (by rw [h]; exact Nat.le_refl _)
/-- the cells of a row that holds something -/
theorem GathR.cells {v : Value} {xs : List α} (hf : ∀ x, (f x).length = k) (h : GathR w B e f k v xs) (hp : 0 < xs.length) :
    ∃ g cap, v = .slice (some ⟨g, 0, none⟩) xs.length cap ∧ v.ownBlock = some g ∧ B ≤ g ∧ g < w.heap.size ∧ xs.length ≤ cap ∧ ∀ (j : Nat) (x : α), xs[j]? = some x → ∀ i u, (f x)[i]? = some u → w.cell? ⟨g, j * k + i, none⟩ = some u := by
  have hr := h.recs hf
  rcases h.2 with ⟨_, h0⟩ | ⟨g, cap, cur, rfl, hB, hg, hc, _⟩
  · omega
  · refine ⟨g, cap, rfl, rfl, hB, (Array.getElem?_eq_some_iff.1 hg).1, hc, fun j x hj i u hu => ?_⟩
    obtain ⟨A, c, hv, hx⟩ := hr
    simp only [Value.slice.injEq] at hv
    obtain ⟨rfl, _, rfl⟩ := hv
    obtain ⟨b, off, hA, _, hcc⟩ := hx hp
    simp only [Option.some.injEq, Addr.mk.injEq] at hA
    obtain ⟨rfl, rfl, _⟩ := hA
    have := hcc j x hj i u hu
    rwa [show 0 + j * k + i = j * k + i by omega] at this
end
theorem own_len (A : Option Addr) (n m c d : Nat) : (Value.slice A n c).ownBlock = (Value.slice A m d).ownBlock := by cases A <;> rfl
/-- a slice of natural numbers, read -/
theorem natR_at {w : World} {v : Value} {xs : List Nat} (h : Recs w natF 1 v xs) : ∃ A cap, v = .slice A xs.length cap ∧ (0 < xs.length → ∃ b off, A = some ⟨b, off, none⟩ ∧ b < w.heap.size ∧ ∀ (j x : Nat), xs[j]? = some x → w.cell? ⟨b, off + j, none⟩ = some (.int .i64 (x : Int))) := by
  obtain ⟨A, cap, hv, hx⟩ := h
  refine ⟨A, cap, hv, fun hp => ?_⟩
  obtain ⟨b, off, hA, hb, hc⟩ := hx hp
  refine ⟨b, off, hA, hb, fun j x hj => ?_⟩
  have := hc j x hj 0 _ rfl
  rwa [show off + j * 1 + 0 = off + j by omega] at this
end Go.Proofs.YtjeifmjcgemlgaaGreatDoor
/- What structure of the reference of package expr computes. -/
namespace Go.Proofs.YtjeifmjcgemlgaaGreatDoor
open Go.RowKit

set_option maxRecDepth 100000 in
set_option maxHeartbeats 8000000 in
theorem rstructure_any (v : Value) (xs : List Nd) (w : World) (hN : Nds w v xs) (hn : xs.length ≤ 9223372036854775807) : Calls Tryz.prog 109 #[v] w (strPost xs w) := by
  obtain ⟨A, cap, rfl, hA⟩ := hN.at_
  obtain ⟨n, hxn⟩ : ∃ n, n = xs.length := ⟨_, rfl⟩
  rw [← hxn] at hA hn ⊢
  have HX := Lib.hid hxn
  clear hxn hN
  unfold strPost
  by_cases hb : 48 < n
  · have hbi : (48 : Int) < n := by omega
    have HR := Lib.hid (show strS xs = ([], 0, 4) by rw [strS, if_pos (by have := HX.out; omega)])
    go_enter Tryz.func109, Tryz.ntmps109
    go_wp2_with fail
    go_ret3
    rw [HR.out]
    exact ⟨_, rfl, Recs.nil _ _ _, Kept.refl _⟩
  by_cases h0 : n = 0
  · subst h0
    have HR := Lib.hid (show strS xs = ([], 0, 5) by rw [strS, if_neg (by have := HX.out; omega), if_pos (by have := HX.out; omega)])
    go_enter Tryz.func109, Tryz.ntmps109
    go_wp2_with fail
    go_ret3
    rw [HR.out]
    exact ⟨_, rfl, Recs.nil _ _ _, Kept.refl _⟩
  have HR0 := Lib.hid (show strF (xs.drop 0) 0 [] [] = strS xs by rw [strS, if_neg (by have := HX.out; omega), if_neg (by have := HX.out; omega)]; rfl)
  obtain ⟨i0, hi, hz0, hz1, hz2⟩ := info_parts Tryz.infoInt
  obtain ⟨b1, o1, rfl, hb1, hc1⟩ := hA (by omega)
  have hp : ¬ ((48 : Int) < n) := by omega
  have hq : ((n : Int) == 0) = false := by simp; omega
  clear hA hn
  have HC1 := Lib.hid hc1
  clear hc1
  go_enter Tryz.func109, Tryz.ntmps109
  go_wp2_with fail
  go_loopw [5, 6, 7] (fun z x y wr => ∃ (i : Nat) (stk sts : List Nat), y = .int .i64 i ∧ i ≤ n ∧ sts.length = i ∧ stk.length ≤ 12 ∧ Kept w wr ∧ GathR wr w.heap.size 3 natF 1 x stk ∧ GathR wr w.heap.size 3 natF 1 z sts ∧ (∀ b, x.ownBlock = some b → z.ownBlock ≠ some b) ∧ strF (xs.drop i) i stk sts = strS xs) (fun _ _ y _ => n - (intOf y).toNat)
  case atStart => exact ⟨0, [], [], rfl, Nat.zero_le _, rfl, by simp, Kept.refl _, GathR.nil _ _ _, GathR.nil _ _ _, fun b h => (by simp [Value.ownBlock] at h), HR0.out⟩
  case round =>
    obtain ⟨i, stk, sts, rfl, hin, hsl, hst, hK, hown, hown2, hdis, hrun⟩ := hrel
    obtain ⟨A2, scap2, hzv, hzc1, hzc2⟩ := hown2.form
    subst hzv
    by_cases hlt : i < n
    · have hg : xs[i]? = some (xs[i]'(by have := HX.out; omega)) := List.getElem?_eq_getElem _
      generalize xs[i]'(by have := HX.out; omega) = T at *
      obtain ⟨x0, x1⟩ := HC1.out i _ hg
      have X0 := hK.cell (p := ⟨b1, _, none⟩) hb1 x0
      clear x0 x1
      have hii : (i : Int) < n := by omega
      have h48 : (i : Int) ≤ 48 := by omega
      have hwr : w.heap.size ≤ wr.heap.size := hK.size
      by_cases hneg : arS T.o < 0
      · have HR := Lib.hid (strF_form hrun hg hneg)
        have HAR := Lib.hid (fun w => rarity_any T.o w)
        clear hown hown2 hdis hrun hg
        go_wp2_with (go_at_call 110; refine (HAR.out _).mono ?_; rintro e w' ⟨rfl, rfl⟩)
        go_ret3
        rw [HR.out]
        exact ⟨_, rfl, Recs.nil _ _ _, hK⟩
      · obtain ⟨a, ha⟩ : ∃ a : Nat, arS T.o = a := ⟨(arS T.o).toNat, by omega⟩
        have hab := (arS_bd T.o).2
        have HAR := Lib.hid (fun w => (by have := rarity_any T.o w; rwa [ha] at this : Calls Tryz.prog 110 #[.int .i64 T.o] w fun e w' => e = .returned (.int .i64 (a : Int)) ∧ w = w'))
        have ha3 : a ≤ 3 := by omega
        have ha0 : ¬ ((a : Int) < 0) := by omega
        by_cases htr : stk.length < a
        · have HR := Lib.hid (strF_trunc hrun hg ha htr)
          obtain ⟨A, scap, hv, _, _⟩ := hown.form
          subst hv
          have htri : (stk.length : Int) < a := by omega
          clear hown hown2 hdis hrun hg ha hab hneg
          go_wp2_with (go_at_call 110; refine (HAR.out _).mono ?_; rintro e w' ⟨rfl, rfl⟩)
          go_ret3
          rw [HR.out]
          exact ⟨_, rfl, Recs.nil _ _ _, hK⟩
        · obtain ⟨m, hm⟩ : ∃ m, stk.length = m + a := ⟨stk.length - a, by omega⟩
          obtain ⟨A, scap, hv, hsc1, hsc2⟩ := hown.form
          rw [hm] at hv hsc1
          subst hv
          have htri : ¬ ((m : Int) + a < a) := by omega
          have hm12 : m ≤ 12 := by omega
          have hwp : IntKind.i64.wrap (m : Int) = m := by rw [IntKind.wrap_i64]; omega
          have hst2 : m + a ≤ 12 := by omega
          have HT := hown.take natF_len (show m ≤ m + a by omega)
          have hlm : (stk.take m).length = m := by rw [List.length_take]; omega
          have hnx := fun hd => strF_next hrun hg ha hm hd
          have hdp := fun hd => strF_deep hrun hg ha hm hd
          obtain ⟨s, hfr⟩ : ∃ s, s = frmS i a stk := ⟨_, rfl⟩
          rw [← hfr] at hnx
          have HNX := Lib.hid hnx
          have HDP := Lib.hid hdp
          have HSL := Lib.hid hsl
          have HLM := Lib.hid hlm
          have HK := Lib.hid hK
          have HDIS := Lib.hid hdis
          have HO2 := Lib.hid hown2
          have hsi : (m : Int) ≤ scap := by omega
          have hmx : m + 1 ≤ maxLen := by unfold maxLen; omega
          have hix : i + 1 ≤ maxLen := by unfold maxLen; omega
          have HNEWS := Lib.hid (fun (W : World) => nat_new (W := W) (s := s) (t := 3))
          have HONE := Lib.hid (natF_one s)
          have HOW : Hid ((wr.alloc (.cells #[.int .i64 (s : Int)] 3)).ownsRow w.heap.size 3 1 (.slice A m scap) m ((stk.take m).flatMap natF)) := Lib.hid (by
            have h := GathR.alloc HT (.cells #[.int .i64 (s : Int)] 3)
            unfold GathR at h
            rwa [hlm] at h)
          -- what is left behind both appends
          have hend : ∀ (g1 c1 : Nat) (w1 : World), w1.ownsRow w.heap.size 3 1 (.slice (some ⟨g1, 0, none⟩) (m + 1) c1) (m + 1) ((stk.take m).flatMap natF ++ natF s) → (wr.alloc (.cells #[.int .i64 (s : Int)] 3)).grownBy w1 (Value.slice A m scap).ownBlock → ((Value.slice A m scap).ownBlock = some g1 ∨ g1 = (wr.alloc (.cells #[.int .i64 (s : Int)] 3)).heap.size) →
              Kept w w1 ∧ GathR w1 w.heap.size 3 natF 1 (.slice (some ⟨g1, 0, none⟩) (m + 1) c1) (stk.take m ++ [s]) ∧ (w1.alloc (.cells #[.int .i64 (s : Int)] 3)).ownsRow w.heap.size 3 1 (.slice A2 sts.length scap2) sts.length (sts.flatMap natF) ∧ (∀ b, (Value.slice (some ⟨g1, 0, none⟩) (m + 1) c1).ownBlock = some b → (Value.slice A2 sts.length scap2).ownBlock ≠ some b) ∧ w.heap.size ≤ w1.heap.size := by
            intro g1 c1 w1 h1 h2 h3
            have hG := append_grew (n := m + 1) (cap := c1) h2 h3
            have hz : ∀ b, (Value.slice A2 sts.length scap2).ownBlock = some b → (Value.slice A m scap).ownBlock ≠ some b := fun b hb hx => HDIS.out b (by rw [own_len A _ m scap scap]; exact hx) hb
            have hk1 := hG.below HK.out (fun b hb => (HT.owned hb).1)
            refine ⟨hk1, GathR.snoc (by rw [hlm]; exact h1), (HO2.out.grown hG.by_ hz).alloc _, fun b hb hz1 => ?_, hk1.size⟩
            rcases hG.own b hb with h4 | h4
            · exact hz b hz1 h4
            · have := (HO2.out.owned hz1).2
              omega
          -- what is left behind the second append
          have hend2 : ∀ (g1 c1 g2 c2 : Nat) (w1 w2 : World), Kept w w1 → GathR w1 w.heap.size 3 natF 1 (.slice (some ⟨g1, 0, none⟩) (m + 1) c1) (stk.take m ++ [s]) → (∀ b, (Value.slice (some ⟨g1, 0, none⟩) (m + 1) c1).ownBlock = some b → (Value.slice A2 sts.length scap2).ownBlock ≠ some b) →
              (w1.alloc (.cells #[.int .i64 (s : Int)] 3)).ownsRow w.heap.size 3 1 (.slice A2 sts.length scap2) sts.length (sts.flatMap natF) →
              w2.ownsRow w.heap.size 3 1 (.slice (some ⟨g2, 0, none⟩) (sts.length + 1) c2) (sts.length + 1) (sts.flatMap natF ++ natF s) → (w1.alloc (.cells #[.int .i64 (s : Int)] 3)).grownBy w2 (Value.slice A2 sts.length scap2).ownBlock → ((Value.slice A2 sts.length scap2).ownBlock = some g2 ∨ g2 = (w1.alloc (.cells #[.int .i64 (s : Int)] 3)).heap.size) →
              Kept w w2 ∧ GathR w2 w.heap.size 3 natF 1 (.slice (some ⟨g1, 0, none⟩) (m + 1) c1) (stk.take m ++ [s]) ∧ GathR w2 w.heap.size 3 natF 1 (.slice (some ⟨g2, 0, none⟩) (sts.length + 1) c2) (sts ++ [s]) ∧ (∀ b, (Value.slice (some ⟨g1, 0, none⟩) (m + 1) c1).ownBlock = some b → (Value.slice (some ⟨g2, 0, none⟩) (sts.length + 1) c2).ownBlock ≠ some b) := by
            intro g1 c1 g2 c2 w1 w2 k1 G1 D O2 h1 h2 h3
            have hG := append_grew (n := sts.length + 1) (cap := c2) h2 h3
            refine ⟨hG.below k1 (fun b hb => (GathR.owned (f := natF) (xs := sts) O2 hb).1), G1.grown hG.by_ (fun b hb => D b hb), GathR.snoc h1, fun b hb hz1 => ?_⟩
            rcases hG.own b hz1 with h4 | h4
            · exact D b hb h4
            · have := (G1.owned hb).2
              omega
          have HEND := Lib.hid hend
          have HEND2 := Lib.hid hend2
          have hsx : sts.length + 1 ≤ maxLen := by unfold maxLen; omega
          have hsx2 : (sts.length + 1) * 8 ≤ 140737488355328 := by omega
          clear hend hend2
          by_cases ha1 : a = 0
          · subst ha1
            obtain rfl : s = i := hfr.trans (frmS_zero i stk)
            clear hneg htr hrun hg ha hab hown hown2 hnx hdp HT hm hfr hsl hst hlm hK hdis
            by_cases hd : 12 < m + 1
            · have HR := Lib.hid (HDP.out hd)
              have hdi : (12 : Int) < m + 1 := by omega
              go_wp2_with (first
                | (go_at_call 110; refine (HAR.out _).mono ?_; rintro e w' ⟨rfl, rfl⟩)
                | (at_builtin; refine wpList_append_lies _ rfl (.tmp 52) (.tmp 54) 114 rfl w.heap.size 3 i0 (.int .i64 0) 1 8 Tryz.underlying114 hi hz0 hz1 hz2 rfl (by decide) _ m ((stk.take m).flatMap natF) rfl HOW.out ⟨wr.heap.size, 0, none⟩ 1 1 (natF s) rfl rfl (HNEWS.out _) HONE.out (by decide) hmx (by omega) (by simp; omega) _ rfl ?_; intro g1 c1 w1 h1 h2 h3 h4; obtain ⟨k1, G1, G2, D, hw1⟩ := HEND.out g1 c1 w1 h1 h2 h3)
                | (at_builtin; refine wpList_append_lies _ rfl (.tmp 56) (.tmp 58) 114 rfl w.heap.size 3 i0 (.int .i64 0) 1 8 Tryz.underlying114 hi hz0 hz1 hz2 rfl (by decide) _ sts.length (sts.flatMap natF) rfl G2 ⟨w1.heap.size, 0, none⟩ 1 1 (natF s) rfl rfl (HNEWS.out _) HONE.out (by decide) hsx hsx2 (by simp; omega) _ rfl ?_; intro g2 c2 w2 h5 h6 h7 h8; obtain ⟨k2, G3, G4, D2⟩ := HEND2.out g1 c1 g2 c2 w1 w2 k1 G1 D G2 h5 h6 h7))
              go_ret3
              rw [HR.out]
              exact ⟨_, rfl, Recs.nil _ _ _, k2⟩
            · have HN := Lib.hid (HNX.out hd)
              have hdi : ¬ ((12 : Int) < m + 1) := by omega
              go_wp2_with (first
                | (go_at_call 110; refine (HAR.out _).mono ?_; rintro e w' ⟨rfl, rfl⟩)
                | (at_builtin; refine wpList_append_lies _ rfl (.tmp 52) (.tmp 54) 114 rfl w.heap.size 3 i0 (.int .i64 0) 1 8 Tryz.underlying114 hi hz0 hz1 hz2 rfl (by decide) _ m ((stk.take m).flatMap natF) rfl HOW.out ⟨wr.heap.size, 0, none⟩ 1 1 (natF s) rfl rfl (HNEWS.out _) HONE.out (by decide) hmx (by omega) (by simp; omega) _ rfl ?_; intro g1 c1 w1 h1 h2 h3 h4; obtain ⟨k1, G1, G2, D, hw1⟩ := HEND.out g1 c1 w1 h1 h2 h3)
                | (at_builtin; refine wpList_append_lies _ rfl (.tmp 56) (.tmp 58) 114 rfl w.heap.size 3 i0 (.int .i64 0) 1 8 Tryz.underlying114 hi hz0 hz1 hz2 rfl (by decide) _ sts.length (sts.flatMap natF) rfl G2 ⟨w1.heap.size, 0, none⟩ 1 1 (natF s) rfl rfl (HNEWS.out _) HONE.out (by decide) hsx hsx2 (by simp; omega) _ rfl ?_; intro g2 c2 w2 h5 h6 h7 h8; obtain ⟨k2, G3, G4, D2⟩ := HEND2.out g1 c1 g2 c2 w1 w2 k1 G1 D G2 h5 h6 h7))
              go_roundw
              case rel =>
                exact ⟨s + 1, stk.take m ++ [s], sts ++ [s], rfl, hlt, by rw [List.length_append, HSL.out]; rfl, by rw [List.length_append, HLM.out]; simp; omega, k2, G3, G4, D2, HN.out⟩
              case measure => simp [intOf]; omega
          · have hpos : 0 < a := by omega
            have hpi : (0 : Int) < a := by omega
            obtain ⟨g, cap2, hv, hgB, hgl, hgc⟩ := hown.row (by omega)
            simp only [Value.slice.injEq] at hv
            obtain ⟨rfl, hml, rfl⟩ := hv
            clear hml
            have hgx : stk[m]? = some (stk[m]'(by omega)) := List.getElem?_eq_getElem _
            have hsx0 : s = stk[m]'(by omega) := hfr.trans (frmS_pos hpos hm hgx)
            rw [← hsx0] at hgx
            have e0 := hgc m s hgx
            have hma : (m : Int) < m + a := by omega
            clear hneg htr hrun hg ha hab hown hown2 hnx hdp HT hm hfr hsl hst hlm hK hdis hgx hsx0 hgc
            by_cases hd : 12 < m + 1
            · omega
            · have HN := Lib.hid (HNX.out hd)
              have hdi : ¬ ((12 : Int) < m + 1) := by omega
              go_wp2_with (first
                | (go_at_call 110; refine (HAR.out _).mono ?_; rintro e w' ⟨rfl, rfl⟩)
                | (at_builtin; refine wpList_append_lies _ rfl (.tmp 52) (.tmp 54) 114 rfl w.heap.size 3 i0 (.int .i64 0) 1 8 Tryz.underlying114 hi hz0 hz1 hz2 rfl (by decide) _ m ((stk.take m).flatMap natF) rfl HOW.out ⟨wr.heap.size, 0, none⟩ 1 1 (natF s) rfl rfl (HNEWS.out _) HONE.out (by decide) hmx (by omega) (by simp; omega) _ rfl ?_; intro g1 c1 w1 h1 h2 h3 h4; obtain ⟨k1, G1, G2, D, hw1⟩ := HEND.out g1 c1 w1 h1 h2 h3)
                | (at_builtin; refine wpList_append_lies _ rfl (.tmp 56) (.tmp 58) 114 rfl w.heap.size 3 i0 (.int .i64 0) 1 8 Tryz.underlying114 hi hz0 hz1 hz2 rfl (by decide) _ sts.length (sts.flatMap natF) rfl G2 ⟨w1.heap.size, 0, none⟩ 1 1 (natF s) rfl rfl (HNEWS.out _) HONE.out (by decide) hsx hsx2 (by simp; omega) _ rfl ?_; intro g2 c2 w2 h5 h6 h7 h8; obtain ⟨k2, G3, G4, D2⟩ := HEND2.out g1 c1 g2 c2 w1 w2 k1 G1 D G2 h5 h6 h7))
              go_roundw
              case rel =>
                exact ⟨i + 1, stk.take m ++ [s], sts ++ [s], rfl, hlt, by rw [List.length_append, HSL.out]; rfl, by rw [List.length_append, HLM.out]; simp; omega, k2, G3, G4, D2, HN.out⟩
              case measure => simp [intOf]; omega
    · obtain rfl : i = n := by omega
      have hlti : ¬ ((i : Int) < i) := by omega
      obtain ⟨A, scap, hv, hsc1, hsc2⟩ := hown.form
      subst hv
      have HK := Lib.hid hK
      by_cases hl : 1 < stk.length
      · have HR := Lib.hid (strF_long hrun hlt HX.out hl)
        have hli : (1 : Int) < stk.length := by omega
        clear hown hown2 hdis hrun hsl hst hK hsc1 hsc2
        go_wp2_with fail
        go_ret3
        rw [HR.out]
        exact ⟨_, rfl, Recs.nil _ _ _, HK.out⟩
      · have HR := Lib.hid (strF_nil hrun hlt HX.out (by omega))
        have hli : ¬ ((1 : Int) < stk.length) := by omega
        have HRC := Lib.hid (hown2.recs natF_len)
        clear hown hown2 hdis hrun hsl hst hK hsc1 hsc2
        go_wp2_with fail
        go_ret3
        rw [HR.out]
        exact ⟨_, rfl, HRC.out, HK.out⟩
end Go.Proofs.YtjeifmjcgemlgaaGreatDoor
/- Plain laws that keep the reference of package law from failing: the height of the operand stack, increasing lists of numbers. -/
namespace Go.Proofs.YtjeifmjcgemlgaaGreatDoor
open Go.RowKit

/-- the stack of operands is high enough for all nodes, and one operand is left -/
def HtOK : List Nd → Nat → Prop
  | [], h => h = 1
  | x :: r, h => ∃ a : Nat, arS x.o = a ∧ a ≤ h ∧ h - a + 1 ≤ 12 ∧ HtOK r (h - a + 1)
theorem strF_ht : ∀ (r : List Nd) (i : Nat) (stk sts : List Nat), (strF r i stk sts).2.2 = 0 → (r ≠ [] ∨ stk ≠ []) → HtOK r stk.length
  | [], i, stk, sts, h, hne => by
    rw [strF] at h
    split at h
    · exact absurd (show (4 : Int) = 0 from h) (by decide)
    · have : stk.length ≠ 0 := fun e => by
        rcases hne with h1 | h1
        · exact h1 rfl
        · exact h1 (List.length_eq_zero_iff.1 e)
      show stk.length = 1
      omega
  | x :: r, i, stk, sts, h, hne => by
    rw [strF] at h
    split at h
    · exact absurd (show (2 : Int) = 0 from h) (by decide)
    · rename_i h0
      split at h
      · exact absurd (show (5 : Int) = 0 from h) (by decide)
      · rename_i h1
        split at h
        · exact absurd (show (16 : Int) = 0 from h) (by decide)
        · rename_i h2
          have ih := strF_ht r (i + 1) _ _ h (.inr (by simp))
          have hl : (stk.take (stk.length - (arS x.o).toNat) ++ [frmS i (arS x.o).toNat stk]).length = stk.length - (arS x.o).toNat + 1 := by
            rw [List.length_append, List.length_take, Nat.min_eq_left (Nat.sub_le _ _)]; rfl
          rw [hl] at ih h2
          exact ⟨(arS x.o).toNat, by omega, by omega, by omega, ih⟩
theorem strS_ht {e : List Nd} (h : (strS e).2.2 = 0) : 0 < e.length ∧ e.length ≤ 48 ∧ HtOK e 0 := by
  unfold strS at h
  split at h
  · exact absurd (show (4 : Int) = 0 from h) (by decide)
  · rename_i h1
    split at h
    · exact absurd (show (5 : Int) = 0 from h) (by decide)
    · rename_i h2
      refine ⟨by omega, by omega, ?_⟩
      have := strF_ht e 0 [] [] h (.inl fun e0 => h2 (by rw [e0]; rfl))
      exact this
theorem HtOK.at_ {xs : List Nd} {i h : Nat} {x : Nd} (hx : xs[i]? = some x) (hh : HtOK (xs.drop i) h) : ∃ a : Nat, arS x.o = a ∧ a ≤ h ∧ h - a + 1 ≤ 12 ∧ HtOK (xs.drop (i + 1)) (h - a + 1) := by
  obtain ⟨hi, rfl⟩ := List.getElem?_eq_some_iff.1 hx
  rw [List.drop_eq_getElem_cons hi] at hh
  exact hh
theorem HtOK.end_ {xs : List Nd} {i h : Nat} (hi : ¬ i < xs.length) (hh : HtOK (xs.drop i) h) : h = 1 := by
  rw [List.drop_eq_nil_iff.2 (show xs.length ≤ i by omega)] at hh
  exact hh

/-- a number put into an increasing list, unless it is there -/
def insS (n : Int) : List Int → List Int
  | [] => [n]
  | x :: r => if n ≤ x then (if n < x then n :: x :: r else x :: r) else x :: insS n r
theorem insS_len (n : Int) : ∀ l : List Int, (insS n l).length ≤ l.length + 1
  | [] => Nat.le_refl _
  | x :: r => by
    rw [insS]
    split
    · split
      · simp
      · simp
    · have := insS_len n r
      simp only [List.length_cons]
      omega
theorem insS_mem (n : Int) : ∀ (l : List Int) (y : Int), y ∈ insS n l → y = n ∨ y ∈ l
  | [], y, h => .inl (by simpa [insS] using h)
  | x :: r, y, h => by
    rw [insS] at h
    split at h
    · split at h
      · rcases List.mem_cons.1 h with rfl | h
        · exact .inl rfl
        · exact .inr h
      · exact .inr h
    · rcases List.mem_cons.1 h with rfl | h
      · exact .inr (by simp)
      · rcases insS_mem n r y h with h1 | h1
        · exact .inl h1
        · exact .inr (by simp [h1])
/-- strictly increasing -/
def Inc (l : List Int) : Prop := l.Pairwise (· < ·)
theorem insS_inc (n : Int) : ∀ l : List Int, Inc l → Inc (insS n l)
  | [], _ => by simp [insS, Inc]
  | x :: r, h => by
    rw [insS]
    obtain ⟨h1, h2⟩ := List.pairwise_cons.1 h
    split
    · split
      · rename_i h3
        refine List.pairwise_cons.2 ⟨fun y hy => ?_, h⟩
        rcases List.mem_cons.1 hy with rfl | hy
        · exact h3
        · have := h1 y hy
          omega
      · exact h
    · rename_i h3
      refine List.pairwise_cons.2 ⟨fun y hy => ?_, insS_inc n r h2⟩
      rcases insS_mem n r y hy with rfl | hy
      · omega
      · exact h1 y hy
/-- an increasing list of indices is no longer than their range -/
theorem inc_len : ∀ (l : List Int) (lo hi : Int), Inc l → (∀ y ∈ l, lo ≤ y ∧ y < hi) → (l.length : Int) ≤ max 0 (hi - lo)
  | [], lo, hi, _, _ => by simp; omega
  | x :: r, lo, hi, h, hb => by
    obtain ⟨h1, h2⟩ := List.pairwise_cons.1 h
    have hx := hb x (by simp)
    have ih := inc_len r (x + 1) hi h2 (fun y hy => by
      have := h1 y hy
      have := hb y (by simp [hy])
      omega)
    rw [List.length_cons]
    omega
/-- indices of D definitions, increasing -/
def IdxL (D : Nat) (l : List Int) : Prop := Inc l ∧ ∀ y ∈ l, 0 ≤ y ∧ y < D
theorem IdxL.nil (D : Nat) : IdxL D [] := ⟨List.Pairwise.nil, fun y h => by cases h⟩
theorem IdxL.len {D : Nat} {l : List Int} (h : IdxL D l) : l.length ≤ D := by
  have := inc_len l 0 D h.1 h.2
  omega
theorem IdxL.ins {D : Nat} {l : List Int} {n : Int} (h : IdxL D l) (h0 : 0 ≤ n) (h1 : n < D) : IdxL D (insS n l) :=
  ⟨insS_inc n l h.1, fun y hy => by
    rcases insS_mem n l y hy with rfl | hy
    · exact ⟨h0, h1⟩
    · exact h.2 y hy⟩
/-- what is left to do of an insertion, d: the number stands already -/
def insR (n : Int) (d : Bool) (r : List Int) : List Int := if d then r else insS n r
theorem insR_high {n x : Int} {xs : List Int} {i : Nat} (hx : xs[i]? = some x) (h : n < x) : insR n false (xs.drop i) = [n, x] ++ insR n true (xs.drop (i + 1)) := by
  obtain ⟨hi, rfl⟩ := List.getElem?_eq_some_iff.1 hx
  rw [List.drop_eq_getElem_cons hi]
  show insS n _ = _
  rw [insS, if_pos (by omega), if_pos h]; rfl
theorem insR_same {n : Int} {xs : List Int} {i : Nat} (hx : xs[i]? = some n) : insR n false (xs.drop i) = [n] ++ insR n true (xs.drop (i + 1)) := by
  obtain ⟨hi, hx⟩ := List.getElem?_eq_some_iff.1 hx
  rw [List.drop_eq_getElem_cons hi, hx]
  show insS n _ = _
  rw [insS, if_pos (by omega), if_neg (by omega)]; rfl
theorem insR_low {n x : Int} {xs : List Int} {i : Nat} (hx : xs[i]? = some x) (h : x < n) : insR n false (xs.drop i) = [x] ++ insR n false (xs.drop (i + 1)) := by
  obtain ⟨hi, rfl⟩ := List.getElem?_eq_some_iff.1 hx
  rw [List.drop_eq_getElem_cons hi]
  show insS n _ = _ :: insS n _
  rw [insS, if_neg (by omega)]
theorem insR_done {n x : Int} {xs : List Int} {i : Nat} (hx : xs[i]? = some x) : insR n true (xs.drop i) = [x] ++ insR n true (xs.drop (i + 1)) := by
  obtain ⟨hi, rfl⟩ := List.getElem?_eq_some_iff.1 hx
  rw [List.drop_eq_getElem_cons hi]; rfl
theorem insR_end {n : Int} {d : Bool} {xs : List Int} {i : Nat} (hi : ¬ i < xs.length) : insR n d (xs.drop i) = if d then [] else [n] := by
  rw [List.drop_eq_nil_iff.2 (show xs.length ≤ i by omega)]
  cases d <;> rfl
end Go.Proofs.YtjeifmjcgemlgaaGreatDoor
/- A number is put into an increasing list: insert of the references of chapters 10 and 16. -/
namespace Go.Proofs.YtjeifmjcgemlgaaGreatDoor
open Go.RowKit

def inF (x : Int) : List Value := [.int .i64 x]
theorem inF_len (x : Int) : (inF x).length = 1 := rfl
theorem inF_one (x : Int) : ∀ v ∈ inF x, v.oneCell' = true := fun v hv => by
  simp only [inF, List.mem_singleton] at hv
  subst hv; rfl
/-- a list of numbers is returned, and what was is kept -/
def insPost (ys : List Int) (w : World) (e : Ending) (w' : World) : Prop := ∃ u, e = .returned u ∧ Recs w' inF 1 u ys ∧ Kept w w'
theorem inR_at {w : World} {v : Value} {xs : List Int} (h : Recs w inF 1 v xs) : ∃ A cap, v = .slice A xs.length cap ∧ (0 < xs.length → ∃ b off, A = some ⟨b, off, none⟩ ∧ b < w.heap.size ∧ ∀ (j : Nat) (x : Int), xs[j]? = some x → w.cell? ⟨b, off + j, none⟩ = some (.int .i64 x)) := by
  obtain ⟨A, cap, hv, hx⟩ := h
  refine ⟨A, cap, hv, fun hp => ?_⟩
  obtain ⟨b, off, hA, hb, hc⟩ := hx hp
  refine ⟨b, off, hA, hb, fun j x hj => ?_⟩
  have := hc j x hj 0 _ rfl
  rwa [show off + j * 1 + 0 = off + j by omega] at this
theorem in_new {W : World} {s : Int} {t : TypeId} : ∀ j u, (inF s)[j]? = some u → (W.alloc (.cells #[.int .i64 s] t)).cell? ((⟨W.heap.size, 0, none⟩ : Addr).add j) = some u :=
  blk_cells (l := inF s)
/-- behind an append of one number -/
theorem in_push {w wr w1 : World} {A : Option Addr} {n cap g1 c1 : Nat} {out : List Int} {s : Int} (hn : out.length = n) (hk : Kept w wr) (hO : GathR wr w.heap.size 3 inF 1 (.slice A n cap) out)
    (h1 : w1.ownsRow w.heap.size 3 1 (.slice (some ⟨g1, 0, none⟩) (n + 1) c1) (n + 1) (out.flatMap inF ++ inF s)) (h2 : (wr.alloc (.cells #[.int .i64 s] 3)).grownBy w1 (Value.slice A n cap).ownBlock) (h3 : (Value.slice A n cap).ownBlock = some g1 ∨ g1 = (wr.alloc (.cells #[.int .i64 s] 3)).heap.size) :
    Kept w w1 ∧ GathR w1 w.heap.size 3 inF 1 (.slice (some ⟨g1, 0, none⟩) (n + 1) c1) (out ++ [s]) := by
  subst hn
  exact ⟨(append_grew (n := out.length + 1) (cap := c1) h2 h3).below hk (fun _ hb => (hO.owned hb).1), GathR.snoc h1⟩
/-- the row that is appended to -/
theorem in_row {w wr : World} {A : Option Addr} {n cap : Nat} {out : List Int} (s : Int) (hn : out.length = n) (hO : GathR wr w.heap.size 3 inF 1 (.slice A n cap) out) :
    (wr.alloc (.cells #[.int .i64 s] 3)).ownsRow w.heap.size 3 1 (.slice A n cap) n (out.flatMap inF) := by
  subst hn
  exact GathR.alloc hO _
set_option maxRecDepth 100000 in
set_option maxHeartbeats 8000000 in
theorem guerdonref16_ins (v : Value) (xs : List Int) (m : Int) (w : World) (hN : Recs w inF 1 v xs) (hl : xs.length ≤ 8796093022208) : Calls Tryz.prog 76 #[v, .int .i64 m] w (insPost (insS m xs) w) := by
  obtain ⟨A, cap, rfl, hA⟩ := inR_at hN
  obtain ⟨n, hxn⟩ : ∃ n, n = xs.length := ⟨_, rfl⟩
  rw [← hxn] at hA hl ⊢
  have HX := Lib.hid hxn
  have HR0 := Lib.hid (show [] ++ insR m false (xs.drop 0) = insS m xs from rfl)
  clear hxn hN
  obtain ⟨i0, hi, hz0, hz1, hz2⟩ := info_parts Tryz.infoInt
  go_enter Tryz.func76, Tryz.ntmps76
  go_wp2_with fail
  go_loopw [5, 6, 7] (fun z d y wr => ∃ (i : Nat) (dn : Bool) (out : List Int), y = .int .i64 i ∧ d = .bool dn ∧ i ≤ n ∧ out.length ≤ i + (if dn then 1 else 0) ∧ Kept w wr ∧ GathR wr w.heap.size 3 inF 1 z out ∧ out ++ insR m dn (xs.drop i) = insS m xs) (fun _ _ y _ => n - (intOf y).toNat)
  case atStart => exact ⟨0, false, [], rfl, rfl, Nat.zero_le _, by simp, Kept.refl _, GathR.nil _ _ _, HR0.out⟩
  case round =>
    obtain ⟨i, dn, out, rfl, rfl, hin, hol, hK, hown, hrun⟩ := hrel
    obtain ⟨Ao, co, hv, hc1, hc2⟩ := hown.form
    subst hv
    by_cases hlt : i < n
    · obtain ⟨b1, o1, rfl, hb1, hcc⟩ := hA (by omega)
      have hg : xs[i]? = some (xs[i]'(by have := HX.out; omega)) := List.getElem?_eq_getElem _
      generalize xs[i]'(by have := HX.out; omega) = X at *
      have X0 := hK.cell (p := ⟨b1, _, none⟩) hb1 (hcc i _ hg)
      have XW := Lib.hid (hcc i _ hg)
      have hii : (i : Int) < n := by omega
      have HRUN := Lib.hid hrun
      have HG := Lib.hid hg
      have HK := Lib.hid hK
      have HOL := Lib.hid hol
      obtain ⟨no, hno⟩ : ∃ no, out.length = no := ⟨_, rfl⟩
      rw [hno] at hc1 hown
      have HN := Lib.hid hno
      have HO := Lib.hid hown
      have hno2 : no ≤ i + 1 := by
        have := HOL.out
        rw [hno] at this
        cases dn <;> simp at this <;> omega
      rw [hno]
      have hmx : no + 1 ≤ maxLen := by unfold maxLen; omega
      have hwr : w.heap.size ≤ wr.heap.size := HK.out.size
      clear hcc hA hrun hg hol hown hno hK
      cases dn
      · rcases Int.lt_trichotomy X m with hlo | heq | hhi
        · have hge : ¬ (m ≤ X) := by omega
          go_wp2_with (at_builtin; refine wpList_append_lies _ rfl (.tmp 34) (.tmp 39) 114 rfl w.heap.size 3 i0 (.int .i64 0) 1 8 Tryz.underlying114 hi hz0 hz1 hz2 rfl (by decide) _ no (out.flatMap inF) rfl (in_row X HN.out HO.out) ⟨wr.heap.size, 0, none⟩ 1 1 (inF X) rfl rfl in_new (inF_one _) (by decide) hmx (by omega) (by simp; omega) _ rfl ?_; intro g1 c1 w1 h1 h2 h3 h4; obtain ⟨k1, G1⟩ := in_push HN.out HK.out HO.out h1 h2 h3; have hk1s := k1.size)
          go_roundw
          case rel =>
            refine ⟨i + 1, false, out ++ [X], by go_num, rfl, hlt, ?_, k1, ?_, ?_⟩
            · rw [List.length_append, HN.out, List.length_singleton]; have := HOL.out; rw [HN.out] at this; simp at this ⊢; omega
            · exact G1
            · rw [List.append_assoc, ← insR_low HG.out hlo]; exact HRUN.out
          case measure => simp [intOf]; omega
        · subst heq
          have hge : X ≤ X := Int.le_refl _
          have hgt : ¬ (X < X) := by omega
          go_wp2_with (at_builtin; refine wpList_append_lies _ rfl (.tmp 34) (.tmp 39) 114 rfl w.heap.size 3 i0 (.int .i64 0) 1 8 Tryz.underlying114 hi hz0 hz1 hz2 rfl (by decide) _ no (out.flatMap inF) rfl (in_row X HN.out HO.out) ⟨wr.heap.size, 0, none⟩ 1 1 (inF X) rfl rfl in_new (inF_one _) (by decide) hmx (by omega) (by simp; omega) _ rfl ?_; intro g1 c1 w1 h1 h2 h3 h4; obtain ⟨k1, G1⟩ := in_push HN.out HK.out HO.out h1 h2 h3; have hk1s := k1.size)
          go_roundw
          case rel =>
            refine ⟨i + 1, true, out ++ [X], by go_num, rfl, hlt, ?_, k1, ?_, ?_⟩
            · rw [List.length_append, HN.out, List.length_singleton]; have := HOL.out; rw [HN.out] at this; simp at this ⊢; omega
            · exact G1
            · rw [List.append_assoc, ← insR_same HG.out]; exact HRUN.out
          case measure => simp [intOf]; omega
        · have hge : m ≤ X := by omega
          have hmx2 : no + 1 + 1 ≤ maxLen := by unfold maxLen; omega
          have HN2 := Lib.hid (show (out ++ [m]).length = no + 1 by rw [List.length_append, HN.out]; rfl)
          go_wp2_with (first
            | (at_builtin; refine wpList_append_lies _ rfl (.tmp 30) (.tmp 32) 114 rfl w.heap.size 3 i0 (.int .i64 0) 1 8 Tryz.underlying114 hi hz0 hz1 hz2 rfl (by decide) _ no (out.flatMap inF) rfl (in_row m HN.out HO.out) ⟨wr.heap.size, 0, none⟩ 1 1 (inF m) rfl rfl in_new (inF_one _) (by decide) hmx (by omega) (by simp; omega) _ rfl ?_; intro g1 c1 w1 h1 h2 h3 h4; obtain ⟨k1, G1⟩ := in_push HN.out HK.out HO.out h1 h2 h3; have hk1s := k1.size; have X1 := k1.cell (p := ⟨b1, _, none⟩) hb1 XW.out)
            | (at_builtin; refine wpList_append_lies _ rfl (.tmp 34) (.tmp 39) 114 rfl w.heap.size 3 i0 (.int .i64 0) 1 8 Tryz.underlying114 hi hz0 hz1 hz2 rfl (by decide) _ (no + 1) ((out ++ [m]).flatMap inF) rfl (in_row X HN2.out G1) ⟨w1.heap.size, 0, none⟩ 1 1 (inF X) rfl rfl in_new (inF_one _) (by decide) hmx2 (by omega) (by simp; omega) _ rfl ?_; intro g1b c1b w1b hb1 hb2 hb3 hb4; obtain ⟨k1b, G1b⟩ := in_push HN2.out k1 G1 hb1 hb2 hb3))
          go_roundw
          case rel =>
            refine ⟨i + 1, true, out ++ [m] ++ [X], by go_num, rfl, hlt, ?_, k1b, ?_, ?_⟩
            · rw [List.length_append, HN2.out, List.length_singleton]; have := HOL.out; rw [HN.out] at this; simp at this ⊢; omega
            · exact G1b
            · rw [List.append_assoc, List.append_assoc]
              have := insR_high HG.out hhi
              rw [show ([m, X] : List Int) = [m] ++ [X] from rfl, List.append_assoc] at this
              rw [← this]; exact HRUN.out
          case measure => simp [intOf]; omega
      · skip
        go_wp2_with (at_builtin; refine wpList_append_lies _ rfl (.tmp 34) (.tmp 39) 114 rfl w.heap.size 3 i0 (.int .i64 0) 1 8 Tryz.underlying114 hi hz0 hz1 hz2 rfl (by decide) _ no (out.flatMap inF) rfl (in_row X HN.out HO.out) ⟨wr.heap.size, 0, none⟩ 1 1 (inF X) rfl rfl in_new (inF_one _) (by decide) hmx (by omega) (by simp; omega) _ rfl ?_; intro g1 c1 w1 h1 h2 h3 h4; obtain ⟨k1, G1⟩ := in_push HN.out HK.out HO.out h1 h2 h3; have hk1s := k1.size)
        go_roundw
        case rel =>
          refine ⟨i + 1, true, out ++ [X], by go_num, rfl, hlt, ?_, k1, ?_, ?_⟩
          · rw [List.length_append, HN.out, List.length_singleton]; have := HOL.out; rw [HN.out] at this; simp at this ⊢; omega
          · exact G1
          · rw [List.append_assoc, ← insR_done HG.out]; exact HRUN.out
        case measure => simp [intOf]; omega
    · obtain rfl : n = i := by omega
      have hii : ¬ ((n : Int) < n) := by omega
      have hend := insR_end (n := m) (d := dn) (xs := xs) (i := n) (by rw [← HX.out]; omega)
      rw [hend] at hrun
      have HRUN := Lib.hid hrun
      have HK := Lib.hid hK
      have HOL := Lib.hid hol
      obtain ⟨no, hno⟩ : ∃ no, out.length = no := ⟨_, rfl⟩
      rw [hno] at hc1 hown
      have HN := Lib.hid hno
      have HO := Lib.hid hown
      have hno2 : no ≤ n + 1 := by
        rw [hno] at hol
        cases dn <;> simp at hol <;> omega
      have hmx : no + 1 ≤ maxLen := by unfold maxLen; omega
      have hwr : w.heap.size ≤ wr.heap.size := HK.out.size
      rw [hno]
      clear hrun hend hA hol hown hno hK
      cases dn
      · go_wp2_with (at_builtin; refine wpList_append_lies _ rfl (.tmp 43) (.tmp 45) 114 rfl w.heap.size 3 i0 (.int .i64 0) 1 8 Tryz.underlying114 hi hz0 hz1 hz2 rfl (by decide) _ no (out.flatMap inF) rfl (in_row m HN.out HO.out) ⟨wr.heap.size, 0, none⟩ 1 1 (inF m) rfl rfl in_new (inF_one _) (by decide) hmx (by omega) (by simp; omega) _ rfl ?_; intro g1 c1 w1 h1 h2 h3 h4; obtain ⟨k1, G1⟩ := in_push HN.out HK.out HO.out h1 h2 h3; have hk1s := k1.size)
        go_ret
        exact ⟨_, rfl, by rw [← HRUN.out]; exact G1.recs inF_len, k1⟩
      · go_wp2_with fail
        go_ret
        refine ⟨_, rfl, ?_, HK.out⟩
        have := HRUN.out
        simp only [if_true, List.append_nil] at this
        rw [← this]
        exact HO.out.recs inF_len
set_option maxRecDepth 100000 in
set_option maxHeartbeats 8000000 in
theorem guerdonref10_ins (v : Value) (xs : List Int) (m : Int) (w : World) (hN : Recs w inF 1 v xs) (hl : xs.length ≤ 8796093022208) : Calls Tryz.prog 112 #[v, .int .i64 m] w (insPost (insS m xs) w) := by
  obtain ⟨A, cap, rfl, hA⟩ := inR_at hN
  obtain ⟨n, hxn⟩ : ∃ n, n = xs.length := ⟨_, rfl⟩
  rw [← hxn] at hA hl ⊢
  have HX := Lib.hid hxn
  have HR0 := Lib.hid (show [] ++ insR m false (xs.drop 0) = insS m xs from rfl)
  clear hxn hN
  obtain ⟨i0, hi, hz0, hz1, hz2⟩ := info_parts Tryz.infoInt
  go_enter Tryz.func112, Tryz.ntmps112
  go_wp2_with fail
  go_loopw [5, 6, 7] (fun z d y wr => ∃ (i : Nat) (dn : Bool) (out : List Int), y = .int .i64 i ∧ d = .bool dn ∧ i ≤ n ∧ out.length ≤ i + (if dn then 1 else 0) ∧ Kept w wr ∧ GathR wr w.heap.size 3 inF 1 z out ∧ out ++ insR m dn (xs.drop i) = insS m xs) (fun _ _ y _ => n - (intOf y).toNat)
  case atStart => exact ⟨0, false, [], rfl, rfl, Nat.zero_le _, by simp, Kept.refl _, GathR.nil _ _ _, HR0.out⟩
  case round =>
    obtain ⟨i, dn, out, rfl, rfl, hin, hol, hK, hown, hrun⟩ := hrel
    obtain ⟨Ao, co, hv, hc1, hc2⟩ := hown.form
    subst hv
    by_cases hlt : i < n
    · obtain ⟨b1, o1, rfl, hb1, hcc⟩ := hA (by omega)
      have hg : xs[i]? = some (xs[i]'(by have := HX.out; omega)) := List.getElem?_eq_getElem _
      generalize xs[i]'(by have := HX.out; omega) = X at *
      have X0 := hK.cell (p := ⟨b1, _, none⟩) hb1 (hcc i _ hg)
      have XW := Lib.hid (hcc i _ hg)
      have hii : (i : Int) < n := by omega
      have HRUN := Lib.hid hrun
      have HG := Lib.hid hg
      have HK := Lib.hid hK
      have HOL := Lib.hid hol
      obtain ⟨no, hno⟩ : ∃ no, out.length = no := ⟨_, rfl⟩
      rw [hno] at hc1 hown
      have HN := Lib.hid hno
      have HO := Lib.hid hown
      have hno2 : no ≤ i + 1 := by
        have := HOL.out
        rw [hno] at this
        cases dn <;> simp at this <;> omega
      rw [hno]
      have hmx : no + 1 ≤ maxLen := by unfold maxLen; omega
      have hwr : w.heap.size ≤ wr.heap.size := HK.out.size
      clear hcc hA hrun hg hol hown hno hK
      cases dn
      · rcases Int.lt_trichotomy X m with hlo | heq | hhi
        · have hge : ¬ (m ≤ X) := by omega
          go_wp2_with (at_builtin; refine wpList_append_lies _ rfl (.tmp 34) (.tmp 39) 114 rfl w.heap.size 3 i0 (.int .i64 0) 1 8 Tryz.underlying114 hi hz0 hz1 hz2 rfl (by decide) _ no (out.flatMap inF) rfl (in_row X HN.out HO.out) ⟨wr.heap.size, 0, none⟩ 1 1 (inF X) rfl rfl in_new (inF_one _) (by decide) hmx (by omega) (by simp; omega) _ rfl ?_; intro g1 c1 w1 h1 h2 h3 h4; obtain ⟨k1, G1⟩ := in_push HN.out HK.out HO.out h1 h2 h3; have hk1s := k1.size)
          go_roundw
          case rel =>
            refine ⟨i + 1, false, out ++ [X], by go_num, rfl, hlt, ?_, k1, ?_, ?_⟩
            · rw [List.length_append, HN.out, List.length_singleton]; have := HOL.out; rw [HN.out] at this; simp at this ⊢; omega
            · exact G1
            · rw [List.append_assoc, ← insR_low HG.out hlo]; exact HRUN.out
          case measure => simp [intOf]; omega
        · subst heq
          have hge : X ≤ X := Int.le_refl _
          have hgt : ¬ (X < X) := by omega
          go_wp2_with (at_builtin; refine wpList_append_lies _ rfl (.tmp 34) (.tmp 39) 114 rfl w.heap.size 3 i0 (.int .i64 0) 1 8 Tryz.underlying114 hi hz0 hz1 hz2 rfl (by decide) _ no (out.flatMap inF) rfl (in_row X HN.out HO.out) ⟨wr.heap.size, 0, none⟩ 1 1 (inF X) rfl rfl in_new (inF_one _) (by decide) hmx (by omega) (by simp; omega) _ rfl ?_; intro g1 c1 w1 h1 h2 h3 h4; obtain ⟨k1, G1⟩ := in_push HN.out HK.out HO.out h1 h2 h3; have hk1s := k1.size)
          go_roundw
          case rel =>
            refine ⟨i + 1, true, out ++ [X], by go_num, rfl, hlt, ?_, k1, ?_, ?_⟩
            · rw [List.length_append, HN.out, List.length_singleton]; have := HOL.out; rw [HN.out] at this; simp at this ⊢; omega
            · exact G1
            · rw [List.append_assoc, ← insR_same HG.out]; exact HRUN.out
          case measure => simp [intOf]; omega
        · have hge : m ≤ X := by omega
          have hmx2 : no + 1 + 1 ≤ maxLen := by unfold maxLen; omega
          have HN2 := Lib.hid (show (out ++ [m]).length = no + 1 by rw [List.length_append, HN.out]; rfl)
          go_wp2_with (first
            | (at_builtin; refine wpList_append_lies _ rfl (.tmp 30) (.tmp 32) 114 rfl w.heap.size 3 i0 (.int .i64 0) 1 8 Tryz.underlying114 hi hz0 hz1 hz2 rfl (by decide) _ no (out.flatMap inF) rfl (in_row m HN.out HO.out) ⟨wr.heap.size, 0, none⟩ 1 1 (inF m) rfl rfl in_new (inF_one _) (by decide) hmx (by omega) (by simp; omega) _ rfl ?_; intro g1 c1 w1 h1 h2 h3 h4; obtain ⟨k1, G1⟩ := in_push HN.out HK.out HO.out h1 h2 h3; have hk1s := k1.size; have X1 := k1.cell (p := ⟨b1, _, none⟩) hb1 XW.out)
            | (at_builtin; refine wpList_append_lies _ rfl (.tmp 34) (.tmp 39) 114 rfl w.heap.size 3 i0 (.int .i64 0) 1 8 Tryz.underlying114 hi hz0 hz1 hz2 rfl (by decide) _ (no + 1) ((out ++ [m]).flatMap inF) rfl (in_row X HN2.out G1) ⟨w1.heap.size, 0, none⟩ 1 1 (inF X) rfl rfl in_new (inF_one _) (by decide) hmx2 (by omega) (by simp; omega) _ rfl ?_; intro g1b c1b w1b hb1 hb2 hb3 hb4; obtain ⟨k1b, G1b⟩ := in_push HN2.out k1 G1 hb1 hb2 hb3))
          go_roundw
          case rel =>
            refine ⟨i + 1, true, out ++ [m] ++ [X], by go_num, rfl, hlt, ?_, k1b, ?_, ?_⟩
            · rw [List.length_append, HN2.out, List.length_singleton]; have := HOL.out; rw [HN.out] at this; simp at this ⊢; omega
            · exact G1b
            · rw [List.append_assoc, List.append_assoc]
              have := insR_high HG.out hhi
              rw [show ([m, X] : List Int) = [m] ++ [X] from rfl, List.append_assoc] at this
              rw [← this]; exact HRUN.out
          case measure => simp [intOf]; omega
      · skip
        go_wp2_with (at_builtin; refine wpList_append_lies _ rfl (.tmp 34) (.tmp 39) 114 rfl w.heap.size 3 i0 (.int .i64 0) 1 8 Tryz.underlying114 hi hz0 hz1 hz2 rfl (by decide) _ no (out.flatMap inF) rfl (in_row X HN.out HO.out) ⟨wr.heap.size, 0, none⟩ 1 1 (inF X) rfl rfl in_new (inF_one _) (by decide) hmx (by omega) (by simp; omega) _ rfl ?_; intro g1 c1 w1 h1 h2 h3 h4; obtain ⟨k1, G1⟩ := in_push HN.out HK.out HO.out h1 h2 h3; have hk1s := k1.size)
        go_roundw
        case rel =>
          refine ⟨i + 1, true, out ++ [X], by go_num, rfl, hlt, ?_, k1, ?_, ?_⟩
          · rw [List.length_append, HN.out, List.length_singleton]; have := HOL.out; rw [HN.out] at this; simp at this ⊢; omega
          · exact G1
          · rw [List.append_assoc, ← insR_done HG.out]; exact HRUN.out
        case measure => simp [intOf]; omega
    · obtain rfl : n = i := by omega
      have hii : ¬ ((n : Int) < n) := by omega
      have hend := insR_end (n := m) (d := dn) (xs := xs) (i := n) (by rw [← HX.out]; omega)
      rw [hend] at hrun
      have HRUN := Lib.hid hrun
      have HK := Lib.hid hK
      have HOL := Lib.hid hol
      obtain ⟨no, hno⟩ : ∃ no, out.length = no := ⟨_, rfl⟩
      rw [hno] at hc1 hown
      have HN := Lib.hid hno
      have HO := Lib.hid hown
      have hno2 : no ≤ n + 1 := by
        rw [hno] at hol
        cases dn <;> simp at hol <;> omega
      have hmx : no + 1 ≤ maxLen := by unfold maxLen; omega
      have hwr : w.heap.size ≤ wr.heap.size := HK.out.size
      rw [hno]
      clear hrun hend hA hol hown hno hK
      cases dn
      · go_wp2_with (at_builtin; refine wpList_append_lies _ rfl (.tmp 43) (.tmp 45) 114 rfl w.heap.size 3 i0 (.int .i64 0) 1 8 Tryz.underlying114 hi hz0 hz1 hz2 rfl (by decide) _ no (out.flatMap inF) rfl (in_row m HN.out HO.out) ⟨wr.heap.size, 0, none⟩ 1 1 (inF m) rfl rfl in_new (inF_one _) (by decide) hmx (by omega) (by simp; omega) _ rfl ?_; intro g1 c1 w1 h1 h2 h3 h4; obtain ⟨k1, G1⟩ := in_push HN.out HK.out HO.out h1 h2 h3; have hk1s := k1.size)
        go_ret
        exact ⟨_, rfl, by rw [← HRUN.out]; exact G1.recs inF_len, k1⟩
      · go_wp2_with fail
        go_ret
        refine ⟨_, rfl, ?_, HK.out⟩
        have := HRUN.out
        simp only [if_true, List.append_nil] at this
        rw [← this]
        exact HO.out.recs inF_len
end Go.Proofs.YtjeifmjcgemlgaaGreatDoor
/- What an expression refers to: References of the reference of chapter 10. -/
namespace Go.Proofs.YtjeifmjcgemlgaaGreatDoor
open Go.RowKit

/-- three lists of numbers of at most n elements -/
def refPost (n : Nat) (w : World) (e : Ending) (w' : World) : Prop :=
  ∃ u1 u2 u3 l1 l2 l3, e = .returned (.tuple #[u1, u2, u3]) ∧ Recs w' inF 1 u1 l1 ∧ Recs w' inF 1 u2 l2 ∧ Recs w' inF 1 u3 l3 ∧ l1.length ≤ n ∧ l2.length ≤ n ∧ l3.length ≤ n ∧ Kept w w'
set_option maxRecDepth 100000 in
set_option maxHeartbeats 8000000 in
theorem rrefs_any (v : Value) (xs : List Nd) (w : World) (hN : Nds w v xs) (hl : xs.length ≤ 8796093022208) : Calls Tryz.prog 97 #[v] w (refPost xs.length w) := by
  obtain ⟨A, cap, rfl, hA⟩ := hN.at_
  obtain ⟨n, hxn⟩ : ∃ n, n = xs.length := ⟨_, rfl⟩
  rw [← hxn] at hA hl ⊢
  have HX := Lib.hid hxn
  have HINS := Lib.hid (fun (u : Value) (l : List Int) (m : Int) (w1 : World) h1 h2 => guerdonref10_ins u l m w1 h1 h2)
  unfold insPost at HINS
  clear hxn hN
  go_enter Tryz.func97, Tryz.ntmps97
  go_wp2_with fail
  go_loopw [5, 6, 7, 8] (fun a b c y wr => ∃ (i : Nat) (l1 l2 l3 : List Int), y = .int .i64 i ∧ i ≤ n ∧ Kept w wr ∧ Recs wr inF 1 a l1 ∧ Recs wr inF 1 b l2 ∧ Recs wr inF 1 c l3 ∧ l1.length ≤ i ∧ l2.length ≤ i ∧ l3.length ≤ i) (fun _ _ _ y _ => n - (intOf y).toNat)
  case atStart => exact ⟨0, [], [], [], rfl, Nat.zero_le _, Kept.refl _, Recs.nil _ _ _, Recs.nil _ _ _, Recs.nil _ _ _, by simp, by simp, by simp⟩
  case round =>
    obtain ⟨i, l1, l2, l3, rfl, hin, hK, r1, r2, r3, q1, q2, q3⟩ := hrel
    by_cases hlt : i < n
    · obtain ⟨b1, o1, rfl, hb1, hcc⟩ := hA (by omega)
      have hg : xs[i]? = some (xs[i]'(by have := HX.out; omega)) := List.getElem?_eq_getElem _
      obtain ⟨x0, x1⟩ := hcc i _ hg
      generalize xs[i]'(by have := HX.out; omega) = X at *
      obtain ⟨op, N⟩ := X
      have X0 := hK.cell (p := ⟨b1, _, none⟩) hb1 x0
      have X1 := hK.cell (p := ⟨b1, _, none⟩) hb1 x1
      have hii : (i : Int) < n := by omega
      dsimp only at X0 X1
      clear hcc hA hg x0 x1
      have hr1 := Lib.hid r1
      have hr2 := Lib.hid r2
      have hr3 := Lib.hid r3
      have HK := Lib.hid hK
      clear r1 r2 r3 hK
      rcases (show op = 7 ∨ op = 8 ∨ (36 ≤ op ∧ op ≤ 39) ∨ (op ≠ 7 ∧ op ≠ 8 ∧ op < 36) ∨ (op ≠ 7 ∧ op ≠ 8 ∧ 36 ≤ op ∧ 39 < op) by omega) with rfl | rfl | ⟨h1, h2⟩ | ⟨h1, h2, h3⟩ | ⟨h1, h2, h3, h4⟩
      · go_wp2_with (go_at_call 112; refine (HINS.out _ l1 N _ hr1.out (by omega)).mono ?_; rintro e w1 ⟨u, rfl, hu, k1⟩)
        go_roundw
        case rel => exact ⟨i + 1, insS N l1, l2, l3, by go_num, hlt, HK.out.trans k1, hu, hr2.out.kept k1, hr3.out.kept k1, Nat.le_trans (insS_len _ _) (by omega), by omega, by omega⟩
        case measure => simp [intOf]; omega
      · go_wp2_with (go_at_call 112; refine (HINS.out _ l2 N _ hr2.out (by omega)).mono ?_; rintro e w1 ⟨u, rfl, hu, k1⟩)
        go_roundw
        case rel => exact ⟨i + 1, l1, insS N l2, l3, by go_num, hlt, HK.out.trans k1, hr1.out.kept k1, hu, hr3.out.kept k1, by omega, Nat.le_trans (insS_len _ _) (by omega), by omega⟩
        case measure => simp [intOf]; omega
      · have e7 : (op == 7) = false := by simp; omega
        have e8 : (op == 8) = false := by simp; omega
        go_wp2_with (go_at_call 112; refine (HINS.out _ l3 N _ hr3.out (by omega)).mono ?_; rintro e w1 ⟨u, rfl, hu, k1⟩)
        go_roundw
        case rel => exact ⟨i + 1, l1, l2, insS N l3, by go_num, hlt, HK.out.trans k1, hr1.out.kept k1, hr2.out.kept k1, hu, by omega, by omega, Nat.le_trans (insS_len _ _) (by omega)⟩
        case measure => simp [intOf]; omega
      · have e7 : (op == 7) = false := by simpa using h1
        have e8 : (op == 8) = false := by simpa using h2
        have e36 : ¬ (36 ≤ op) := by omega
        go_wp2_with fail
        go_roundw
        case rel => exact ⟨i + 1, l1, l2, l3, by go_num, hlt, HK.out, hr1.out, hr2.out, hr3.out, by omega, by omega, by omega⟩
        case measure => simp [intOf]; omega
      · have e7 : (op == 7) = false := by simpa using h1
        have e8 : (op == 8) = false := by simpa using h2
        have e39 : ¬ (op ≤ 39) := by omega
        go_wp2_with fail
        go_roundw
        case rel => exact ⟨i + 1, l1, l2, l3, by go_num, hlt, HK.out, hr1.out, hr2.out, hr3.out, by omega, by omega, by omega⟩
        case measure => simp [intOf]; omega
    · obtain rfl : n = i := by omega
      have hii : ¬ ((n : Int) < n) := by omega
      clear hA
      go_wp2_with fail
      go_ret3
      exact ⟨_, _, _, l1, l2, l3, rfl, r1, r2, r3, q1, q2, q3, hK⟩
end Go.Proofs.YtjeifmjcgemlgaaGreatDoor
