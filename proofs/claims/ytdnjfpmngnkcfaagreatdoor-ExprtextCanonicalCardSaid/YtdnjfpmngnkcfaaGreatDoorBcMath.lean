/- Expressions in postfix order and stack code: the definitions that both packages compute, in plain Lean. -/
import Derived.Test.YtdnjfpmngnkcfaaGreatDoorGrew
namespace Go.Proofs.YtdnjfpmngnkcfaaGreatDoor
open Go.RowKit

/-- an operation of an expression or of code -/
structure Nd where
  o : Int
  n : Int
def ndF (x : Nd) : List Value := [.int .i64 x.o, .int .i64 x.n]
theorem ndF_len (x : Nd) : (ndF x).length = 2 := rfl
abbrev Nds (w : World) (v : Value) (xs : List Nd) : Prop := Recs w ndF 2 v xs
/-- how many operands an operation has, or -1 -/
def arS (op : Int) : Int :=
  if (1 ≤ op ∧ op ≤ 9) ∨ (35 ≤ op ∧ op ≤ 39) then 0
  else if op = 10 ∨ op = 25 ∨ op = 31 ∨ op = 32 ∨ op = 33 ∨ op = 34 then 1
  else if op = 26 then 3
  else if 11 ≤ op ∧ op ≤ 30 then 2 else -1
theorem arS_bd (op : Int) : -1 ≤ arS op ∧ arS op ≤ 3 := by
  unfold arS
  split
  · decide
  · split
    · decide
    · split
      · decide
      · split <;> decide
/-- where the subexpression that ends with a node begins -/
def frmS (i : Nat) (a : Nat) (stk : List Nat) : Nat := if a = 0 then i else stk[stk.length - a]?.getD 0
/-- the structure from node i on: the starts, the index and the code of the first error -/
def strF : List Nd → Nat → List Nat → List Nat → List Nat × Nat × Int
  | [], i, stk, sts => if 1 < stk.length then ([], i, 4) else (sts, 0, 0)
  | x :: r, i, stk, sts =>
    if arS x.o < 0 then ([], i, 2)
    else if (stk.length : Int) < arS x.o then ([], i, 5)
    else if 12 < (stk.take (stk.length - (arS x.o).toNat) ++ [frmS i (arS x.o).toNat stk]).length then ([], i, 16)
    else strF r (i + 1) (stk.take (stk.length - (arS x.o).toNat) ++ [frmS i (arS x.o).toNat stk]) (sts ++ [frmS i (arS x.o).toNat stk])
def strS (e : List Nd) : List Nat × Nat × Int :=
  if 48 < e.length then ([], 0, 4) else if e.length = 0 then ([], 0, 5) else strF e 0 [] []
/-- the operands of the node at: the last n of them, from index k back -/
def opsF (sts : List Nat) : Nat → Int → List Int → List Int
  | 0, _, acc => acc
  | n + 1, k, acc => opsF sts n (((sts[k.toNat]?.getD 0 : Nat) : Int) - 1) (k :: acc)
def opsS (e : List Nd) (at_ : Int) : List Int :=
  if (strS e).2.2 = 0 ∧ 0 ≤ at_ ∧ at_ < e.length then opsF (strS e).1 (arS (e[at_.toNat]?.getD ⟨0, 0⟩).o).toNat (at_ - 1) [] else []

/-- the N of a node is set -/
def setN (l : List Nd) (j : Nat) (v : Nat) : List Nd := l.modify j fun x => { x with n := v }
/-- the code of the subexpression that ends at index at, behind out -/
def emitF (e : List Nd) : Nat → List Nd → Nat → List Nd
  | 0, out, _ => out
  | f + 1, out, at_ =>
    let x := e[at_]?.getD ⟨0, 0⟩
    let k := opsS e at_
    if x.o = 23 ∨ x.o = 24 then
      let o1 := emitF e f out (k[0]?.getD 0).toNat
      let o2 := emitF e f (o1 ++ [⟨if x.o = 24 then 53 else 52, 0⟩]) (k[1]?.getD 0).toNat
      setN o2 o1.length o2.length
    else if x.o = 26 then
      let o1 := emitF e f out (k[0]?.getD 0).toNat
      let o2 := emitF e f (o1 ++ [⟨50, 0⟩]) (k[1]?.getD 0).toNat
      let o3 := setN (o2 ++ [⟨51, 0⟩]) o1.length (o2.length + 1)
      let o4 := emitF e f o3 (k[2]?.getD 0).toNat
      setN o4 o2.length o4.length
    else k.foldl (fun o q => emitF e f o q.toNat) out ++ [x]
def compS (e : List Nd) : List Nd × Int := if (strS e).2.2 = 0 then (emitF e e.length [] (e.length - 1), 0) else ([], (strS e).2.2)

/-! Checking code -/
def jmpB (op : Int) : Bool := decide (50 ≤ op) && decide (op ≤ 53)
def arC (op : Int) : Int := if op = 51 then 0 else if jmpB op then 1 else if op = 23 ∨ op = 24 ∨ op = 26 then -1 else arS op
/-- a depth is noted at an index -/
def reachS (ds : List Int) (at_ : Nat) (d : Int) : List Int × Int := if 0 ≤ ds[at_]?.getD 0 ∧ ds[at_]?.getD 0 ≠ d then (ds, 9) else (ds.set at_ d, 0)
def stepC (len : Nat) (x : Nd) (i : Nat) (ds : List Int) : List Int × Int :=
  let d := ds[i]?.getD 0
  if arC x.o < 0 ∨ (jmpB x.o = true ∧ (x.n ≤ i ∨ (len : Int) < x.n)) then (ds, 2)
  else if d < arC x.o then (ds, 5)
  else if x.o = 51 then reachS ds x.n.toNat d
  else if jmpB x.o then (if (reachS ds (i + 1) (d - 1)).2 = 0 then reachS (reachS ds (i + 1) (d - 1)).1 x.n.toNat (if x.o = 50 then d - 1 else d) else reachS ds (i + 1) (d - 1))
  else if 12 < d - arC x.o + 1 then (ds, 16) else reachS ds (i + 1) (d - arC x.o + 1)
/-- the run over the rest of the code, from index i on -/
def verF (len : Nat) : List Nd → Nat → List Int → List Int × Int
  | [], _, ds => (ds, 0)
  | x :: r, i, ds => if ds[i]?.getD 0 < 0 then verF len r (i + 1) ds else if (stepC len x i ds).2 = 0 then verF len r (i + 1) (stepC len x i ds).1 else (ds, (stepC len x i ds).2)
def maxS (l : List Int) : Int := l.foldl max 0
def verS (c : List Nd) : Int × Int :=
  if 128 < c.length then (0, 4) else if c.length = 0 then (0, 5)
  else
    let r := verF c.length c 0 (0 :: List.replicate c.length (-1))
    if r.2 = 0 then (if r.1[c.length]?.getD 0 < 1 then (0, 5) else if 1 < r.1[c.length]?.getD 0 then (0, 4) else (maxS r.1, 0)) else (0, r.2)
end Go.Proofs.YtdnjfpmngnkcfaaGreatDoor
