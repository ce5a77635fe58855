/- The text of expressions: what package exprtext prints and reads, in plain Lean. -/
import Derived.Test.YtdnjfpmngnkcfaaGreatDoorVlM
import Derived.Test.YtdnjfpmngnkcfaaGreatDoorBcMath
import Derived.Test.YtdnjfpmngnkcfaaGreatDoorLxM
namespace Go.Proofs.YtdnjfpmngnkcfaaGreatDoor

/-- the text of a part: its bytes, its class, is it a number -/
structure Pc where
  t : ByteArray
  c : Int
  b : Bool
def pc0 : Pc := ⟨⟨#[]⟩, 0, false⟩
/-- names: of the enumerations, of their members, of tables, inputs, definitions, definitions of members -/
structure Nm where
  en : List ByteArray
  ms : List (List ByteArray)
  tb : List ByteArray
  ins : List ByteArray
  ds : List ByteArray
  md : List ByteArray
def usesB (op : Int) : Bool := decide (1 ≤ op ∧ op ≤ 8) || (decide (14 ≤ op ∧ op ≤ 16) || (decide (33 ≤ op ∧ op ≤ 34) || decide (36 ≤ op ∧ op ≤ 39)))
/-- the word of a call -/
def callW (op : Int) : ByteArray :=
  if op = 14 then ⟨#[115, 104, 97, 114, 101]⟩ else
  if op = 15 then ⟨#[100, 105, 118]⟩ else
  if op = 16 then ⟨#[114, 111, 117, 110, 100]⟩ else
  if op = 17 then ⟨#[109, 105, 110]⟩ else
  if op = 18 then ⟨#[109, 97, 120]⟩ else
  if op = 27 then ⟨#[112, 108, 117, 115]⟩ else
  if op = 28 then ⟨#[109, 111, 110, 116, 104, 115]⟩ else
  if op = 29 then ⟨#[100, 97, 121, 115]⟩ else
  if op = 30 then ⟨#[121, 101, 97, 114, 115]⟩ else
  if op = 31 then ⟨#[121, 101, 97, 114]⟩ else
  if op = 32 then ⟨#[109, 111, 110, 116, 104]⟩ else
  if op = 33 then ⟨#[116, 97, 98]⟩ else
  if op = 34 then ⟨#[98, 97, 110, 100]⟩ else
  if op = 35 then ⟨#[99, 111, 117, 110, 116]⟩ else
  if op = 36 then ⟨#[115, 117, 109]⟩ else
  if op = 37 then ⟨#[97, 108, 108]⟩ else
  if op = 38 then ⟨#[97, 110, 121]⟩ else
  if op = 39 then ⟨#[109, 111, 115, 116]⟩ else ⟨#[]⟩
/-- the word of a rounding mode -/
def modeW (m : Int) : ByteArray :=
  if m = 0 then ⟨#[100, 111, 119, 110]⟩ else if m = 1 then ⟨#[117, 112]⟩ else if m = 2 then ⟨#[122, 101, 114, 111]⟩ else if m = 3 then ⟨#[97, 119, 97, 121]⟩ else if m = 4 then ⟨#[104, 97, 108, 102]⟩ else if m = 5 then ⟨#[101, 118, 101, 110]⟩ else ⟨#[]⟩
/-- the sign of a binary operation, and its class -/
def opSg (op : Int) : ByteArray × Int :=
  if op = 11 then (⟨#[43]⟩, 4) else
  if op = 12 then (⟨#[45]⟩, 4) else
  if op = 13 then (⟨#[42]⟩, 5) else
  if op = 19 then (⟨#[61, 61]⟩, 3) else
  if op = 20 then (⟨#[33, 61]⟩, 3) else
  if op = 21 then (⟨#[60]⟩, 3) else
  if op = 22 then (⟨#[60, 61]⟩, 3) else
  if op = 23 then (⟨#[97, 110, 100]⟩, 2) else
  if op = 24 then (⟨#[111, 114]⟩, 1) else (⟨#[]⟩, 0)
def withS (p : Pc) (c : Int) : ByteArray := if p.c < c then ⟨#[40]⟩ ++ p.t ++ ⟨#[41]⟩ else p.t
def atomP (t : ByteArray) : Pc := ⟨t, 7, false⟩
def argP (a : List Pc) (i : Nat) : Pc := a[i]?.getD pc0
def nameAt (l : List ByteArray) (i : Int) (pre post : ByteArray) : Pc × Int := if i < 0 ∨ (l.length : Int) ≤ i then (pc0, 6) else (atomP (pre ++ l[i.toNat]?.getD ⟨#[]⟩ ++ post), 0)
/-- the index of a table -/
def tabI (x : Nd) : Int := if x.o = 34 ∧ 0 < x.n then x.n / 8 else x.n
/-- the text of a node with the given operands -/
noncomputable def rend (nm : Nm) (x : Nd) (a : List Pc) : Pc × Int :=
  if 1 ≤ x.o ∧ x.o ≤ 5 then (if (vfmtS x.o 0 x.n []).2 = 0 then (⟨(vfmtS x.o 0 x.n []).1, if (2 ≤ x.o ∧ x.o ≤ 4) ∧ x.n < 0 then 6 else 7, decide (2 ≤ x.o ∧ x.o ≤ 4)⟩, 0) else (pc0, 3))
  else if x.o = 6 then (if x.n < 0 ∨ (nm.ms.length : Int) ≤ x.n / 16 then (pc0, 6) else nameAt (nm.ms[(x.n / 16).toNat]?.getD []) (x.n % 16) (nm.en[(x.n / 16).toNat]?.getD ⟨#[]⟩ ++ ⟨#[58]⟩) ⟨#[]⟩)
  else if x.o = 7 then nameAt nm.ins x.n ⟨#[]⟩ ⟨#[]⟩
  else if x.o = 8 then nameAt nm.ds x.n ⟨#[]⟩ ⟨#[]⟩
  else if 36 ≤ x.o ∧ x.o ≤ 39 then nameAt nm.md x.n (callW x.o ++ ⟨#[40]⟩) ⟨#[41]⟩
  else if x.o = 33 ∨ x.o = 34 then
    (if tabI x < 0 ∨ (nm.tb.length : Int) ≤ tabI x then (pc0, 6)
    else if x.o = 34 then (if modeW (x.n % 8) = ⟨#[]⟩ then (pc0, 3) else (atomP (callW x.o ++ ⟨#[40]⟩ ++ nm.tb[(tabI x).toNat]?.getD ⟨#[]⟩ ++ ⟨#[44, 32]⟩ ++ (argP a 0).t ++ (⟨#[44, 32]⟩ ++ modeW (x.n % 8)) ++ ⟨#[41]⟩), 0))
    else (atomP (callW x.o ++ ⟨#[40]⟩ ++ nm.tb[(tabI x).toNat]?.getD ⟨#[]⟩ ++ ⟨#[44, 32]⟩ ++ (argP a 0).t ++ ⟨#[41]⟩), 0))
  else if x.o = 9 then (atomP ⟨#[116, 111, 100, 97, 121]⟩, 0)
  else if x.o = 35 then (atomP ⟨#[99, 111, 117, 110, 116, 40, 41]⟩, 0)
  else if x.o = 31 ∨ x.o = 32 then (atomP (callW x.o ++ ⟨#[40]⟩ ++ (argP a 0).t ++ ⟨#[41]⟩), 0)
  else if x.o = 17 ∨ x.o = 18 ∨ x.o = 27 ∨ x.o = 28 ∨ x.o = 29 ∨ x.o = 30 then (atomP (callW x.o ++ ⟨#[40]⟩ ++ (argP a 0).t ++ ⟨#[44, 32]⟩ ++ (argP a 1).t ++ ⟨#[41]⟩), 0)
  else if x.o = 14 ∨ x.o = 15 ∨ x.o = 16 then (if modeW x.n = ⟨#[]⟩ then (pc0, 3) else (atomP (callW x.o ++ ⟨#[40]⟩ ++ (argP a 0).t ++ ⟨#[44, 32]⟩ ++ (argP a 1).t ++ ⟨#[44, 32]⟩ ++ modeW x.n ++ ⟨#[41]⟩), 0))
  else if x.o = 26 then (⟨⟨#[105, 102, 32]⟩ ++ (argP a 0).t ++ ⟨#[32, 116, 104, 101, 110, 32]⟩ ++ (argP a 1).t ++ ⟨#[32, 101, 108, 115, 101, 32]⟩ ++ (argP a 2).t, 0, false⟩, 0)
  else if x.o = 25 then (⟨⟨#[110, 111, 116, 32]⟩ ++ withS (argP a 0) 6, 6, false⟩, 0)
  else if x.o = 10 then (⟨⟨#[45]⟩ ++ (if (argP a 0).b then ⟨#[40]⟩ ++ (argP a 0).t ++ ⟨#[41]⟩ else withS (argP a 0) 6), 6, false⟩, 0)
  else (⟨withS (argP a 0) (if (opSg x.o).2 = 3 then 4 else (opSg x.o).2) ++ ⟨#[32]⟩ ++ (opSg x.o).1 ++ ⟨#[32]⟩ ++ withS (argP a 1) ((opSg x.o).2 + 1), (opSg x.o).2, false⟩, 0)
/-- the text of the rest of the nodes, over the texts of the parts so far -/
noncomputable def fmtE (nm : Nm) : List Nd → List Pc → ByteArray × Int
  | [], stk => ((argP stk 0).t, 0)
  | x :: r, stk =>
    if x.n ≠ 0 ∧ usesB x.o = false then (⟨#[]⟩, 2)
    else if (rend nm x (stk.drop (stk.length - (arS x.o).toNat))).2 = 0 then fmtE nm r (stk.take (stk.length - (arS x.o).toNat) ++ [(rend nm x (stk.drop (stk.length - (arS x.o).toNat))).1])
    else (⟨#[]⟩, (rend nm x (stk.drop (stk.length - (arS x.o).toNat))).2)
noncomputable def fmtX (nm : Nm) (e : List Nd) : ByteArray × Int := if (strS e).2.2 = 0 then fmtE nm e [] else (⟨#[]⟩, (strS e).2.2)

/-! The parser: the tokens that are left, the nodes so far, the place and the code of a failure -/
structure PS where
  ts : List Tok
  ns : List Nd
  off : Int
  code : Int
def tok0 : Tok := ⟨0, [], 0, 0⟩
def hdT (ts : List Tok) (k : Nat) : Tok := ts[k]?.getD tok0
def PS.adv (s : PS) (k : Nat) : PS := { s with ts := s.ts.drop k }
def PS.em (s : PS) (o n : Int) : PS := { s with ns := s.ns ++ [⟨o, n⟩] }
def offE (E : Int) : List Tok → Int
  | [] => E
  | t :: _ => t.o
def PS.bad (E : Int) (s : PS) (c : Int) : PS := { s with code := c, off := offE E s.ts }
def atB (s : PS) (k : Int) (t : List UInt8) : Bool := decide ((hdT s.ts 0).k = k) && decide ((hdT s.ts 0).t = t)
abbrev PR := Option (Bool × PS)
/-- go on where what was read was read well -/
def thenP : PR → (PS → PR) → PR
  | some (true, s), f => f s
  | r, _ => r
def expP (E k : Int) (t : List UInt8) (s : PS) : PR := if atB s k t then some (true, s.adv 1) else some (false, s.bad E 2)
def emP (o n : Int) (s : PS) : PR := some (true, s.em o n)
def badP (E c : Int) (s : PS) : PR := some (false, s.bad E c)
/-- the binary operation of a token, and its class -/
def opOf (t : Tok) : Int × Int :=
  if t.k ≠ 7 ∧ t.k ≠ 1 then (0, 0) else
  if t.t = [43] then (11, 4) else
  if t.t = [45] then (12, 4) else
  if t.t = [42] then (13, 5) else
  if t.t = [61, 61] then (19, 3) else
  if t.t = [33, 61] then (20, 3) else
  if t.t = [60] then (21, 3) else
  if t.t = [60, 61] then (22, 3) else
  if t.t = [97, 110, 100] then (23, 2) else
  if t.t = [111, 114] then (24, 1) else (0, 0)
def litO (t : Tok) : Int := if 2 ≤ t.k ∧ t.k ≤ 4 then t.k else 0
/-- the call that a word denotes -/
def callO (t : List UInt8) : Int :=
  if t = [115, 104, 97, 114, 101] then 14 else
  if t = [100, 105, 118] then 15 else
  if t = [114, 111, 117, 110, 100] then 16 else
  if t = [109, 105, 110] then 17 else
  if t = [109, 97, 120] then 18 else
  if t = [112, 108, 117, 115] then 27 else
  if t = [109, 111, 110, 116, 104, 115] then 28 else
  if t = [100, 97, 121, 115] then 29 else
  if t = [121, 101, 97, 114, 115] then 30 else
  if t = [121, 101, 97, 114] then 31 else
  if t = [109, 111, 110, 116, 104] then 32 else
  if t = [116, 97, 98] then 33 else
  if t = [98, 97, 110, 100] then 34 else
  if t = [99, 111, 117, 110, 116] then 35 else
  if t = [115, 117, 109] then 36 else
  if t = [97, 108, 108] then 37 else
  if t = [97, 110, 121] then 38 else
  if t = [109, 111, 115, 116] then 39 else 0
/-- the mode that a word denotes -/
def modeO (t : List UInt8) : Int :=
  if t = [100, 111, 119, 110] then 0 else if t = [117, 112] then 1 else if t = [122, 101, 114, 111] then 2 else if t = [97, 119, 97, 121] then 3 else if t = [104, 97, 108, 102] then 4 else if t = [101, 118, 101, 110] then 5 else -1
/-- a name in a list -/
def findR (E : Int) (l : List ByteArray) (s : PS) : Option Nat × PS :=
  if (hdT s.ts 0).k ≠ 1 ∨ idB (hdT s.ts 0).t = false then (none, s.bad E 2)
  else match findS (bs (hdT s.ts 0).t) l 0 with
    | none => (none, s.bad E 6)
    | some i => (some i, s.adv 1)
def modeR (E : Int) (s : PS) : Option Int × PS :=
  if (hdT s.ts 0).k ≠ 1 ∨ modeO (hdT s.ts 0).t < 0 then (none, s.bad E 2) else (some (modeO (hdT s.ts 0).t), s.adv 1)
def withR {α : Type} (r : Option α × PS) (f : α → PS → PR) : PR := match r with
  | (some i, s) => f i s
  | (none, s) => some (false, s)
def nameR (E : Int) (nm : Nm) (s : PS) : PR :=
  if idB (hdT s.ts 0).t = false then badP E 2 s
  else if (hdT s.ts 1).k = 7 ∧ (hdT s.ts 1).t = [58] then
    match findS (bs (hdT s.ts 0).t) nm.en 0 with
      | none => badP E 6 s
      | some i => withR (findR E (nm.ms[i]?.getD []) (s.adv 2)) fun m => emP 6 (16 * i + m)
  else match findS (bs (hdT s.ts 0).t) nm.ins 0 with
    | some i => emP 7 i (s.adv 1)
    | none => withR (findR E nm.ds s) fun d => emP 8 d
/-- what is read -/
inductive NT where
  | expr
  | bin (c : Int)
  | loop (c g : Int)
  | un
  | atom
  | call (op : Int)
def symP (E : Int) (t : List UInt8) (s : PS) : PR := expP E 7 t s
def parR (E : Int) (nm : Nm) : Nat → NT → PS → PR
  | 0, _, _ => none
  | f + 1, .expr, s =>
    if atB s 1 [105, 102] then
      thenP (parR E nm f .expr (s.adv 1)) fun s => thenP (expP E 1 [116, 104, 101, 110] s) fun s => thenP (parR E nm f .expr s) fun s => thenP (expP E 1 [101, 108, 115, 101] s) fun s => thenP (parR E nm f .expr s) (emP 26 0)
    else parR E nm f (.bin 1) s
  | f + 1, .bin c, s => thenP (parR E nm f .un s) (parR E nm f (.loop c 5))
  | f + 1, .loop c g, s =>
    if (opOf (hdT s.ts 0)).1 = 0 ∨ (opOf (hdT s.ts 0)).2 < c ∨ g < (opOf (hdT s.ts 0)).2 then some (true, s)
    else thenP (parR E nm f (.bin ((opOf (hdT s.ts 0)).2 + 1)) (s.adv 1)) fun s' => parR E nm f (.loop c (if (opOf (hdT s.ts 0)).2 = 3 then 2 else (opOf (hdT s.ts 0)).2)) (s'.em (opOf (hdT s.ts 0)).1 0)
  | f + 1, .un, s =>
    if atB s 7 [45] then
      (if litO (hdT s.ts 1) ≠ 0 then emP (litO (hdT s.ts 1)) (-(hdT s.ts 1).n) (s.adv 2)
      else thenP (parR E nm f .un (s.adv 1)) (emP 10 0))
    else if atB s 1 [110, 111, 116] then thenP (parR E nm f .un (s.adv 1)) (emP 25 0)
    else parR E nm f .atom s
  | f + 1, .atom, s =>
    if litO (hdT s.ts 0) ≠ 0 then emP (litO (hdT s.ts 0)) (hdT s.ts 0).n (s.adv 1)
    else if (hdT s.ts 0).k = 5 then emP 5 (hdT s.ts 0).n (s.adv 1)
    else if atB s 7 [40] then thenP (parR E nm f .expr (s.adv 1)) (symP E [41])
    else if (hdT s.ts 0).k ≠ 1 then badP E 2 s
    else if (hdT s.ts 0).t = [116, 114, 117, 101] then emP 1 1 (s.adv 1)
    else if (hdT s.ts 0).t = [102, 97, 108, 115, 101] then emP 1 0 (s.adv 1)
    else if (hdT s.ts 0).t = [116, 111, 100, 97, 121] then emP 9 0 (s.adv 1)
    else if callO (hdT s.ts 0).t ≠ 0 then thenP (symP E [40] (s.adv 1)) fun s' => thenP (parR E nm f (.call (callO (hdT s.ts 0).t)) s') (symP E [41])
    else nameR E nm s
  | f + 1, .call op, s =>
    if op = 35 then emP 35 0 s
    else if 36 ≤ op ∧ op ≤ 39 then withR (findR E nm.md s) fun d => emP op d
    else if op = 33 ∨ op = 34 then
      withR (findR E nm.tb s) fun i s => thenP (symP E [44] s) fun s => thenP (parR E nm f .expr s) fun s =>
        if op = 33 then emP 33 i s else thenP (symP E [44] s) fun s => withR (modeR E s) fun m => emP 34 (8 * i + m)
    else thenP (parR E nm f .expr s) fun s =>
      if op = 31 ∨ op = 32 then emP op 0 s
      else thenP (symP E [44] s) fun s => thenP (parR E nm f .expr s) fun s =>
        if op = 14 ∨ op = 15 ∨ op = 16 then thenP (symP E [44] s) fun s => withR (modeR E s) fun m => emP op m
        else emP op 0 s
/-- how much there is to read -/
def rankN : NT → Nat
  | .expr => 6 | .bin _ => 5 | .loop _ _ => 1 | .un => 4 | .atom => 3 | .call _ => 7
/-- the nodes of a text, the place of an error, its code -/
noncomputable def parX (nm : Nm) (s : ByteArray) : List Nd × Int × Int :=
  if (tokR (L s)).2.2 ≠ 0 then ([], (tokR (L s)).2.1, (tokR (L s)).2.2)
  else match parR s.size nm (8 * (tokR (L s)).1.length + 7) .expr ⟨(tokR (L s)).1, [], 0, 0⟩ with
    | none => ([], 0, 2)
    | some (b, p) =>
      if b = true ∧ p.ts ≠ [] then ([], (p.bad s.size 2).off, 2)
      else if p.code ≠ 0 then ([], p.off, p.code)
      else if (strS p.ns).2.2 ≠ 0 then ([], 0, (strS p.ns).2.2)
      else if (fmtX nm p.ns).2 = 0 ∧ (fmtX nm p.ns).1 = s then (p.ns, 0, 0) else ([], 0, 2)
end Go.Proofs.YtdnjfpmngnkcfaaGreatDoor
