/- Pieces of an expression's text, as tokens, and how the parser reads them, in plain Lean. -/
import Derived.Test.YtdnjfpmngnkcfaaGreatDoorEtC
import Derived.Test.YtdnjfpmngnkcfaaGreatDoorLxM
import Derived.Test.YtdnjfpmngnkcfaaGreatDoorRoundMath
import Derived.Test.YtdnjfpmngnkcfaaGreatDoorCanonMath
import Derived.Test.YtdnjfpmngnkcfaaGreatDoorDateTextMath
import Derived.Test.YtdnjfpmngnkcfaaGreatDoorEtA
import Derived.Test.YtdnjfpmngnkcfaaGreatDoorVlM
import Derived.Test.YtdnjfpmngnkcfaaGreatDoorEtD
namespace Go.Proofs.YtdnjfpmngnkcfaaGreatDoor

/-- a token without its offset -/
abbrev ET := Int × List UInt8 × Int
def er (t : Tok) : ET := (t.k, t.t, t.n)
def hE (a : List ET) (i : Nat) : ET := a[i]?.getD (0, [], 0)
theorem er_hd (ts : List Tok) (i : Nat) : er (hdT ts i) = hE (ts.map er) i := by
  unfold hdT hE
  rw [List.getElem?_map]
  cases ts[i]? <;> rfl
def tkE (e : ET) : Tok := ⟨e.1, e.2.1, e.2.2, 0⟩
def opE (e : ET) : Int × Int := opOf (tkE e)
theorem opOf_er (t : Tok) : opOf t = opE (er t) := rfl
def litE (e : ET) : Int := litO (tkE e)
theorem litO_er (t : Tok) : litO t = litE (er t) := rfl
def atE (a : List ET) (k : Int) (t : List UInt8) : Bool := decide ((hE a 0).1 = k) && decide ((hE a 0).2.1 = t)
theorem atB_er (s : PS) (k : Int) (t : List UInt8) : atB s k t = atE (s.ts.map er) k t := by
  unfold atB atE
  rw [← er_hd]; rfl
/-- what a state has become: nodes more, tokens left -/
structure Got (s : PS) (ns : List Nd) (b : List ET) (s' : PS) : Prop where
  ts : s'.ts.map er = b
  ns : s'.ns = s.ns ++ ns
  off : s'.off = s.off
  code : s'.code = s.code
theorem Got.refl {s : PS} {a : List ET} (h : s.ts.map er = a) : Got s [] a s := ⟨h, by rw [List.append_nil], rfl, rfl⟩
theorem Got.trans {s s1 s2 : PS} {n1 n2 : List Nd} {b1 b2 : List ET} (h : Got s n1 b1 s1) (k : Got s1 n2 b2 s2) : Got s (n1 ++ n2) b2 s2 :=
  ⟨k.ts, by rw [k.ns, h.ns, List.append_assoc], k.off.trans h.off, k.code.trans h.code⟩
theorem Got.adv {s : PS} {a : List ET} {x : ET} (h : s.ts.map er = x :: a) : Got s [] a (s.adv 1) :=
  ⟨by show (s.ts.drop 1).map er = a; rw [List.map_drop, h]; rfl, by rw [List.append_nil]; rfl, rfl, rfl⟩
theorem Got.adv2 {s : PS} {a : List ET} {x y : ET} (h : s.ts.map er = x :: y :: a) : Got s [] a (s.adv 2) :=
  ⟨by show (s.ts.drop 2).map er = a; rw [List.map_drop, h]; rfl, by rw [List.append_nil]; rfl, rfl, rfl⟩
theorem Got.em {s s' : PS} {n : List Nd} {b : List ET} (h : Got s n b s') (o k : Int) : Got s (n ++ [⟨o, k⟩]) b (s'.em o k) :=
  ⟨h.ts, by show s'.ns ++ [_] = _; rw [h.ns, List.append_assoc], h.off, h.code⟩
/-- from the tokens a the parser reads the nodes ns, and leaves b -/
def OKP (E : Int) (nm : Nm) (nt : NT) (a : List ET) (ns : List Nd) (b : List ET) : Prop :=
  ∀ s : PS, s.ts.map er = a → ∃ f s', parR E nm f nt s = some (true, s') ∧ Got s ns b s'
section
variable {E : Int} {nm : Nm}
theorem hE_cons (x : ET) (a : List ET) : hE (x :: a) 0 = x := rfl
theorem hE_two (x y : ET) (a : List ET) : hE (x :: y :: a) 1 = y := rfl
theorem exp_er {s : PS} {k : Int} {t : List UInt8} {n : Int} {a : List ET} (h : s.ts.map er = (k, t, n) :: a) : expP E k t s = some (true, s.adv 1) := by
  unfold expP
  rw [if_pos (by rw [atB_er, h]; simp [atE, hE_cons])]
theorem okp_loop_stop {c g : Int} {a : List ET} (h : (opE (hE a 0)).1 = 0 ∨ (opE (hE a 0)).2 < c ∨ g < (opE (hE a 0)).2) : OKP E nm (.loop c g) a [] a := fun s hs =>
  ⟨1, s, by rw [parR, if_pos (by rw [opOf_er, er_hd, hs]; exact h)], Got.refl hs⟩
theorem okp_loop_step {c g o k : Int} {e : ET} {a r b : List ET} {n1 n2 : List Nd} (he : opE e = (o, k)) (ho : o ≠ 0) (hc : c ≤ k) (hg : k ≤ g) (h1 : OKP E nm (.bin (k + 1)) a n1 r)
    (h2 : OKP E nm (.loop c (if k = 3 then 2 else k)) r n2 b) : OKP E nm (.loop c g) (e :: a) (n1 ++ ⟨o, 0⟩ :: n2) b := by
  intro s hs
  obtain ⟨f1, s1, p1, g1⟩ := h1 (s.adv 1) (Got.adv hs).ts
  obtain ⟨f2, s2, p2, g2⟩ := h2 (s1.em o 0) g1.ts
  have ho' : opOf (hdT s.ts 0) = (o, k) := by rw [opOf_er, er_hd, hs]; exact he
  refine ⟨f1 + f2 + 1, s2, ?_, ?_⟩
  · rw [parR, ho', if_neg (by intro h; rcases h with h | h | h; exact ho h; exact absurd h (by show ¬ k < c; omega); exact absurd h (by show ¬ g < k; omega))]
    dsimp only
    rw [parR_more p1 (by omega)]
    show parR E nm (f1 + f2) (.loop c (if k = 3 then 2 else k)) (s1.em o 0) = _
    exact parR_more p2 (by omega)
  · have := (((Got.adv hs).trans g1).em o 0).trans g2
    simpa using this
theorem okp_bin {c : Int} {a r b : List ET} {n1 n2 : List Nd} (h1 : OKP E nm .un a n1 r) (h2 : OKP E nm (.loop c 5) r n2 b) : OKP E nm (.bin c) a (n1 ++ n2) b := by
  intro s hs
  obtain ⟨f1, s1, p1, g1⟩ := h1 s hs
  obtain ⟨f2, s2, p2, g2⟩ := h2 s1 g1.ts
  refine ⟨f1 + f2 + 1, s2, ?_, g1.trans g2⟩
  rw [parR, parR_more p1 (by omega)]
  exact parR_more p2 (by omega)
theorem okp_expr_bin {a b : List ET} {n : List Nd} (hif : atE a 1 [105, 102] = false) (h : OKP E nm (.bin 1) a n b) : OKP E nm .expr a n b := by
  intro s hs
  obtain ⟨f1, s1, p1, g1⟩ := h s hs
  refine ⟨f1 + 1, s1, ?_, g1⟩
  rw [parR, if_neg (by rw [atB_er, hs, hif]; decide)]
  exact p1
theorem okp_if {a1 a2 a3 b : List ET} {n1 n2 n3 : List Nd} {z1 z2 z3 : Int} (h1 : OKP E nm .expr a1 n1 ((1, [116, 104, 101, 110], z2) :: a2)) (h2 : OKP E nm .expr a2 n2 ((1, [101, 108, 115, 101], z3) :: a3)) (h3 : OKP E nm .expr a3 n3 b) :
    OKP E nm .expr ((1, [105, 102], z1) :: a1) (n1 ++ (n2 ++ (n3 ++ [⟨26, 0⟩]))) b := by
  intro s hs
  obtain ⟨f1, s1, p1, g1⟩ := h1 (s.adv 1) (Got.adv hs).ts
  obtain ⟨f2, s2, p2, g2⟩ := h2 (s1.adv 1) (Got.adv g1.ts).ts
  obtain ⟨f3, s3, p3, g3⟩ := h3 (s2.adv 1) (Got.adv g2.ts).ts
  refine ⟨f1 + f2 + f3 + 1, s3.em 26 0, ?_, ?_⟩
  · rw [parR, if_pos (by rw [atB_er, hs]; simp [atE, hE_cons]), parR_more p1 (by omega)]
    show thenP (expP E 1 [116, 104, 101, 110] s1) _ = _
    rw [exp_er g1.ts]
    show thenP (parR E nm (f1 + f2 + f3) .expr (s1.adv 1)) _ = _
    rw [parR_more p2 (by omega)]
    show thenP (expP E 1 [101, 108, 115, 101] s2) _ = _
    rw [exp_er g2.ts]
    show thenP (parR E nm (f1 + f2 + f3) .expr (s2.adv 1)) _ = _
    rw [parR_more p3 (by omega)]
    rfl
  · have := ((((((Got.adv hs).trans g1).trans (Got.adv g1.ts)).trans g2).trans (Got.adv g2.ts)).trans g3).em 26 0
    simpa using this
theorem okp_un_lit {k n z : Int} {t : List UInt8} {r : List ET} (hk : litE (k, t, n) ≠ 0) : OKP E nm .un ((7, [45], z) :: (k, t, n) :: r) [⟨litE (k, t, n), -n⟩] r := by
  intro s hs
  have h1 : er (hdT s.ts 1) = (k, t, n) := by rw [er_hd, hs]; rfl
  refine ⟨1, (s.adv 2).em (litE (k, t, n)) (-n), ?_, by simpa using (Got.adv2 hs).em _ _⟩
  rw [parR, if_pos (by rw [atB_er, hs]; simp [atE, hE_cons]), litO_er, h1, if_pos hk]
  have h2 : (hdT s.ts 1).n = n := congrArg (fun x : ET => x.2.2) h1
  rw [h2]; rfl
theorem okp_un_neg {z : Int} {a b : List ET} {n : List Nd} (hl : litE (hE a 0) = 0) (h : OKP E nm .un a n b) : OKP E nm .un ((7, [45], z) :: a) (n ++ [⟨10, 0⟩]) b := by
  intro s hs
  obtain ⟨f1, s1, p1, g1⟩ := h (s.adv 1) (Got.adv hs).ts
  refine ⟨f1 + 1, s1.em 10 0, ?_, ?_⟩
  · have h1 : er (hdT s.ts 1) = hE a 0 := by rw [er_hd, hs]; rfl
    rw [parR, if_pos (by rw [atB_er, hs]; simp [atE, hE_cons]), litO_er, h1, if_neg (by rw [hl]; decide), p1]
    rfl
  · simpa using ((Got.adv hs).trans g1).em 10 0
theorem okp_un_not {z : Int} {a b : List ET} {n : List Nd} (h : OKP E nm .un a n b) : OKP E nm .un ((1, [110, 111, 116], z) :: a) (n ++ [⟨25, 0⟩]) b := by
  intro s hs
  obtain ⟨f1, s1, p1, g1⟩ := h (s.adv 1) (Got.adv hs).ts
  refine ⟨f1 + 1, s1.em 25 0, ?_, ?_⟩
  · rw [parR, if_neg (by rw [atB_er, hs]; simp [atE, hE_cons]), if_pos (by rw [atB_er, hs]; simp [atE, hE_cons]), p1]
    rfl
  · simpa using ((Got.adv hs).trans g1).em 25 0
theorem okp_un_atom {a b : List ET} {n : List Nd} (h1 : atE a 7 [45] = false) (h2 : atE a 1 [110, 111, 116] = false) (h : OKP E nm .atom a n b) : OKP E nm .un a n b := by
  intro s hs
  obtain ⟨f1, s1, p1, g1⟩ := h s hs
  refine ⟨f1 + 1, s1, ?_, g1⟩
  rw [parR, if_neg (by rw [atB_er, hs, h1]; decide), if_neg (by rw [atB_er, hs, h2]; decide)]
  exact p1
/-! atoms -/
theorem okp_lit {k n : Int} {t : List UInt8} {r : List ET} (hk : litE (k, t, n) ≠ 0) : OKP E nm .atom ((k, t, n) :: r) [⟨litE (k, t, n), n⟩] r := by
  intro s hs
  have h1 : er (hdT s.ts 0) = (k, t, n) := by rw [er_hd, hs]; rfl
  refine ⟨1, (s.adv 1).em (litE (k, t, n)) n, ?_, by simpa using (Got.adv hs).em _ _⟩
  rw [parR, litO_er, h1, if_pos hk]
  have h2 : (hdT s.ts 0).n = n := congrArg (fun x : ET => x.2.2) h1
  rw [h2]; rfl
theorem okp_date {n : Int} {t : List UInt8} {r : List ET} : OKP E nm .atom ((5, t, n) :: r) [⟨5, n⟩] r := by
  intro s hs
  have h1 : er (hdT s.ts 0) = (5, t, n) := by rw [er_hd, hs]; rfl
  have h2 : (hdT s.ts 0).n = n := congrArg (fun x : ET => x.2.2) h1
  have h3 : (hdT s.ts 0).k = 5 := congrArg (fun x : ET => x.1) h1
  refine ⟨1, (s.adv 1).em 5 n, ?_, by simpa using (Got.adv hs).em _ _⟩
  rw [parR, litO, if_neg (by rw [if_neg (by rw [h3]; decide)]; decide), if_pos h3, h2]; rfl
theorem okp_paren {z z2 : Int} {a b : List ET} {n : List Nd} (h : OKP E nm .expr a n ((7, [41], z2) :: b)) : OKP E nm .atom ((7, [40], z) :: a) n b := by
  intro s hs
  obtain ⟨f1, s1, p1, g1⟩ := h (s.adv 1) (Got.adv hs).ts
  have h1 : er (hdT s.ts 0) = (7, [40], z) := by rw [er_hd, hs]; rfl
  have h3 : (hdT s.ts 0).k = 7 := congrArg (fun x : ET => x.1) h1
  refine ⟨f1 + 1, s1.adv 1, ?_, ?_⟩
  · rw [parR, litO, if_neg (by rw [if_neg (by rw [h3]; decide)]; decide), if_neg (by rw [h3]; decide), if_pos (by rw [atB_er, hs]; simp [atE, hE_cons]), p1]
    exact exp_er g1.ts
  · simpa using ((Got.adv hs).trans g1).trans (Got.adv g1.ts)
/-- a word: what an atom that begins with it is -/
theorem atom_word {s : PS} {t : List UInt8} {z : Int} {a : List ET} (hs : s.ts.map er = (1, t, z) :: a) (f : Nat) : parR E nm (f + 1) .atom s =
    if t = [116, 114, 117, 101] then emP 1 1 (s.adv 1) else if t = [102, 97, 108, 115, 101] then emP 1 0 (s.adv 1) else if t = [116, 111, 100, 97, 121] then emP 9 0 (s.adv 1)
    else if callO t ≠ 0 then thenP (symP E [40] (s.adv 1)) fun s' => thenP (parR E nm f (.call (callO t)) s') (symP E [41]) else nameR E nm s := by
  have h1 : er (hdT s.ts 0) = (1, t, z) := by rw [er_hd, hs]; rfl
  have h2 : (hdT s.ts 0).t = t := congrArg (fun x : ET => x.2.1) h1
  have h3 : (hdT s.ts 0).k = 1 := congrArg (fun x : ET => x.1) h1
  rw [parR, litO, if_neg (by rw [if_neg (by rw [h3]; decide)]; decide), if_neg (by rw [h3]; decide), if_neg (by rw [atB_er, hs]; simp [atE, hE_cons]), if_neg (by rw [h3]; decide), h2]
theorem okp_true {z : Int} {r : List ET} : OKP E nm .atom ((1, [116, 114, 117, 101], z) :: r) [⟨1, 1⟩] r := fun s hs =>
  ⟨1, (s.adv 1).em 1 1, by rw [atom_word hs, if_pos rfl]; rfl, by simpa using (Got.adv hs).em 1 1⟩
theorem okp_false {z : Int} {r : List ET} : OKP E nm .atom ((1, [102, 97, 108, 115, 101], z) :: r) [⟨1, 0⟩] r := fun s hs =>
  ⟨1, (s.adv 1).em 1 0, by rw [atom_word hs, if_neg (by decide), if_pos rfl]; rfl, by simpa using (Got.adv hs).em 1 0⟩
theorem okp_today {z : Int} {r : List ET} : OKP E nm .atom ((1, [116, 111, 100, 97, 121], z) :: r) [⟨9, 0⟩] r := fun s hs =>
  ⟨1, (s.adv 1).em 9 0, by rw [atom_word hs, if_neg (by decide), if_neg (by decide), if_pos rfl]; rfl, by simpa using (Got.adv hs).em 9 0⟩
theorem okp_call {t : List UInt8} {z z1 z2 : Int} {a b : List ET} {n : List Nd} (ht : t ≠ [116, 114, 117, 101] ∧ t ≠ [102, 97, 108, 115, 101] ∧ t ≠ [116, 111, 100, 97, 121]) (hc : callO t ≠ 0) (h : OKP E nm (.call (callO t)) a n ((7, [41], z2) :: b)) :
    OKP E nm .atom ((1, t, z) :: (7, [40], z1) :: a) n b := by
  intro s hs
  have ha := Got.adv hs
  have hb := Got.adv ha.ts
  obtain ⟨f1, s1, p1, g1⟩ := h ((s.adv 1).adv 1) hb.ts
  refine ⟨f1 + 1, s1.adv 1, ?_, by simpa using ((ha.trans hb).trans g1).trans (Got.adv g1.ts)⟩
  rw [atom_word hs, if_neg ht.1, if_neg ht.2.1, if_neg ht.2.2, if_pos hc]
  show thenP (expP E 7 [40] (s.adv 1)) _ = _
  rw [exp_er ha.ts]
  show thenP (parR E nm f1 (.call (callO t)) ((s.adv 1).adv 1)) _ = _
  rw [p1]
  exact exp_er g1.ts
/-- a name of an input, a definition, a member of an enumeration -/
theorem find_er {l : List ByteArray} {s : PS} {t : List UInt8} {z : Int} {a : List ET} {i : Nat} (hs : s.ts.map er = (1, t, z) :: a) (hid : idB t = true) (hi : findS (bs t) l 0 = some i) : findR E l s = (some i, s.adv 1) := by
  have h1 : er (hdT s.ts 0) = (1, t, z) := by rw [er_hd, hs]; rfl
  have h2 : (hdT s.ts 0).t = t := congrArg (fun x : ET => x.2.1) h1
  have h3 : (hdT s.ts 0).k = 1 := congrArg (fun x : ET => x.1) h1
  unfold findR
  rw [if_neg (by rw [h3, h2, hid]; simp), h2, hi]
theorem mode_er {s : PS} {t : List UInt8} {z : Int} {a : List ET} (hs : s.ts.map er = (1, t, z) :: a) (hm : 0 ≤ modeO t) : modeR E s = (some (modeO t), s.adv 1) := by
  have h1 : er (hdT s.ts 0) = (1, t, z) := by rw [er_hd, hs]; rfl
  have h2 : (hdT s.ts 0).t = t := congrArg (fun x : ET => x.2.1) h1
  have h3 : (hdT s.ts 0).k = 1 := congrArg (fun x : ET => x.1) h1
  unfold modeR
  rw [if_neg (by rw [h3, h2]; omega), h2]
theorem okp_name {t : List UInt8} {z : Int} {r : List ET} {ns : List Nd} (ht : t ≠ [116, 114, 117, 101] ∧ t ≠ [102, 97, 108, 115, 101] ∧ t ≠ [116, 111, 100, 97, 121]) (hc : callO t = 0) (hid : idB t = true)
    (hcol : ¬ ((hE r 0).1 = 7 ∧ (hE r 0).2.1 = [58]))
    (h : (∃ i : Nat, findS (bs t) nm.ins 0 = some i ∧ ns = [⟨7, i⟩]) ∨ (findS (bs t) nm.ins 0 = none ∧ ∃ i : Nat, findS (bs t) nm.ds 0 = some i ∧ ns = [⟨8, i⟩])) : OKP E nm .atom ((1, t, z) :: r) ns r := by
  intro s hs
  have h1 : er (hdT s.ts 0) = (1, t, z) := by rw [er_hd, hs]; rfl
  have h2 : (hdT s.ts 0).t = t := congrArg (fun x : ET => x.2.1) h1
  have h4 : er (hdT s.ts 1) = hE r 0 := by rw [er_hd, hs]; rfl
  have h5 : (hdT s.ts 1).k = (hE r 0).1 := congrArg (fun x : ET => x.1) h4
  have h6 : (hdT s.ts 1).t = (hE r 0).2.1 := congrArg (fun x : ET => x.2.1) h4
  have hn : nameR E nm s = match findS (bs t) nm.ins 0 with
      | some i => emP 7 i (s.adv 1)
      | none => withR (findR E nm.ds s) fun d => emP 8 d := by
    unfold nameR
    rw [h2, if_neg (by rw [hid]; decide), h5, h6, if_neg hcol]
    cases findS (bs t) nm.ins 0 <;> rfl
  have hw := atom_word (E := E) (nm := nm) hs 0
  rw [if_neg ht.1, if_neg ht.2.1, if_neg ht.2.2, if_neg (by rw [hc]; decide), hn] at hw
  rcases h with ⟨i, hi, rfl⟩ | ⟨hi, j, hj, rfl⟩
  · refine ⟨1, (s.adv 1).em 7 i, ?_, by simpa using (Got.adv hs).em 7 i⟩
    rw [hw, hi]; rfl
  · refine ⟨1, (s.adv 1).em 8 j, ?_, by simpa using (Got.adv hs).em 8 j⟩
    rw [hw, hi]
    show withR (findR E nm.ds s) _ = _
    rw [find_er hs hid hj]; rfl
theorem okp_enum {t u : List UInt8} {z z1 z2 : Int} {r : List ET} {i m : Nat} (ht : t ≠ [116, 114, 117, 101] ∧ t ≠ [102, 97, 108, 115, 101] ∧ t ≠ [116, 111, 100, 97, 121]) (hc : callO t = 0) (hid : idB t = true)
    (hi : findS (bs t) nm.en 0 = some i) (hu : idB u = true) (hm : findS (bs u) (nm.ms[i]?.getD []) 0 = some m) : OKP E nm .atom ((1, t, z) :: (7, [58], z1) :: (1, u, z2) :: r) [⟨6, 16 * i + m⟩] r := by
  intro s hs
  have h1 : er (hdT s.ts 0) = (1, t, z) := by rw [er_hd, hs]; rfl
  have h2 : (hdT s.ts 0).t = t := congrArg (fun x : ET => x.2.1) h1
  have h4 : er (hdT s.ts 1) = (7, [58], z1) := by rw [er_hd, hs]; rfl
  have h5 : (hdT s.ts 1).k = 7 := congrArg (fun x : ET => x.1) h4
  have h6 : (hdT s.ts 1).t = [58] := congrArg (fun x : ET => x.2.1) h4
  have ha := Got.adv2 hs
  have hb := Got.adv ha.ts
  refine ⟨1, ((s.adv 2).adv 1).em 6 (16 * i + m), ?_, by simpa using (ha.trans hb).em 6 (16 * i + m)⟩
  rw [atom_word hs, if_neg ht.1, if_neg ht.2.1, if_neg ht.2.2, if_neg (by rw [hc]; decide)]
  unfold nameR
  rw [h2, if_neg (by rw [hid]; decide), if_pos ⟨h5, h6⟩, hi]
  show withR (findR E (nm.ms[i]?.getD []) (s.adv 2)) _ = _
  rw [find_er ha.ts hu hm]; rfl
/-! what stands between the parentheses of a call -/
theorem okp_count {a : List ET} : OKP E nm (.call 35) a [⟨35, 0⟩] a := fun s hs =>
  ⟨1, s.em 35 0, by rw [parR, if_pos rfl]; rfl, by simpa using (Got.refl hs).em 35 0⟩
theorem okp_member {op z : Int} {t : List UInt8} {a : List ET} {i : Nat} (ho : 36 ≤ op ∧ op ≤ 39) (hid : idB t = true) (hi : findS (bs t) nm.md 0 = some i) : OKP E nm (.call op) ((1, t, z) :: a) [⟨op, i⟩] a := fun s hs =>
  ⟨1, (s.adv 1).em op i, by rw [parR, if_neg (by omega), if_pos ho, find_er hs hid hi]; rfl, by simpa using (Got.adv hs).em op i⟩
theorem okp_tab {z z1 : Int} {t : List UInt8} {a b : List ET} {n : List Nd} {i : Nat} (hid : idB t = true) (hi : findS (bs t) nm.tb 0 = some i) (h : OKP E nm .expr a n b) : OKP E nm (.call 33) ((1, t, z) :: (7, [44], z1) :: a) (n ++ [⟨33, i⟩]) b := by
  intro s hs
  have ha := Got.adv hs
  have hb := Got.adv ha.ts
  obtain ⟨f1, s1, p1, g1⟩ := h ((s.adv 1).adv 1) hb.ts
  refine ⟨f1 + 1, s1.em 33 i, ?_, by simpa using ((ha.trans hb).trans g1).em 33 i⟩
  rw [parR, if_neg (by decide), if_neg (by decide), if_pos (.inl rfl), find_er hs hid hi]
  show thenP (expP E 7 [44] (s.adv 1)) _ = _
  rw [exp_er ha.ts]
  show thenP (parR E nm f1 .expr ((s.adv 1).adv 1)) _ = _
  rw [p1]; rfl
theorem okp_band {z z1 z2 z3 : Int} {t m : List UInt8} {a b : List ET} {n : List Nd} {i : Nat} (hid : idB t = true) (hi : findS (bs t) nm.tb 0 = some i) (hm : 0 ≤ modeO m) (h : OKP E nm .expr a n ((7, [44], z2) :: (1, m, z3) :: b)) :
    OKP E nm (.call 34) ((1, t, z) :: (7, [44], z1) :: a) (n ++ [⟨34, 8 * i + modeO m⟩]) b := by
  intro s hs
  have ha := Got.adv hs
  have hb := Got.adv ha.ts
  obtain ⟨f1, s1, p1, g1⟩ := h ((s.adv 1).adv 1) hb.ts
  have hc := Got.adv g1.ts
  have hd := Got.adv hc.ts
  refine ⟨f1 + 1, ((s1.adv 1).adv 1).em 34 (8 * i + modeO m), ?_, by simpa using ((((ha.trans hb).trans g1).trans hc).trans hd).em 34 (8 * i + modeO m)⟩
  rw [parR, if_neg (by decide), if_neg (by decide), if_pos (.inr rfl), find_er hs hid hi]
  show thenP (expP E 7 [44] (s.adv 1)) _ = _
  rw [exp_er ha.ts]
  show thenP (parR E nm f1 .expr ((s.adv 1).adv 1)) _ = _
  rw [p1]
  show thenP (expP E 7 [44] s1) _ = _
  rw [exp_er g1.ts]
  show withR (modeR E (s1.adv 1)) _ = _
  rw [mode_er hc.ts hm]; rfl
theorem okp_arg1 {op : Int} {a b : List ET} {n : List Nd} (ho : op = 31 ∨ op = 32) (h : OKP E nm .expr a n b) : OKP E nm (.call op) a (n ++ [⟨op, 0⟩]) b := by
  intro s hs
  obtain ⟨f1, s1, p1, g1⟩ := h s hs
  refine ⟨f1 + 1, s1.em op 0, ?_, g1.em op 0⟩
  rw [parR, if_neg (by omega), if_neg (by omega), if_neg (by omega), p1]
  show (if op = 31 ∨ op = 32 then _ else _) = _
  rw [if_pos ho]; rfl
theorem okp_arg2 {op z : Int} {a1 a2 b : List ET} {n1 n2 : List Nd} (ho : op = 17 ∨ op = 18 ∨ op = 27 ∨ op = 28 ∨ op = 29 ∨ op = 30) (h1 : OKP E nm .expr a1 n1 ((7, [44], z) :: a2)) (h2 : OKP E nm .expr a2 n2 b) :
    OKP E nm (.call op) a1 (n1 ++ (n2 ++ [⟨op, 0⟩])) b := by
  intro s hs
  obtain ⟨f1, s1, p1, g1⟩ := h1 s hs
  have ha := Got.adv g1.ts
  obtain ⟨f2, s2, p2, g2⟩ := h2 (s1.adv 1) ha.ts
  refine ⟨f1 + f2 + 1, s2.em op 0, ?_, by simpa using ((g1.trans ha).trans g2).em op 0⟩
  rw [parR, if_neg (by omega), if_neg (by omega), if_neg (by omega), parR_more p1 (by omega)]
  show (if op = 31 ∨ op = 32 then _ else _) = _
  rw [if_neg (by omega)]
  show thenP (expP E 7 [44] s1) _ = _
  rw [exp_er g1.ts]
  show thenP (parR E nm (f1 + f2) .expr (s1.adv 1)) _ = _
  rw [parR_more p2 (by omega)]
  show (if op = 14 ∨ op = 15 ∨ op = 16 then _ else _) = _
  rw [if_neg (by omega)]; rfl
theorem okp_arg2m {op z z2 z3 : Int} {m : List UInt8} {a1 a2 b : List ET} {n1 n2 : List Nd} (ho : op = 14 ∨ op = 15 ∨ op = 16) (hm : 0 ≤ modeO m) (h1 : OKP E nm .expr a1 n1 ((7, [44], z) :: a2)) (h2 : OKP E nm .expr a2 n2 ((7, [44], z2) :: (1, m, z3) :: b)) :
    OKP E nm (.call op) a1 (n1 ++ (n2 ++ [⟨op, modeO m⟩])) b := by
  intro s hs
  obtain ⟨f1, s1, p1, g1⟩ := h1 s hs
  have ha := Got.adv g1.ts
  obtain ⟨f2, s2, p2, g2⟩ := h2 (s1.adv 1) ha.ts
  have hc := Got.adv g2.ts
  have hd := Got.adv hc.ts
  refine ⟨f1 + f2 + 1, ((s2.adv 1).adv 1).em op (modeO m), ?_, by simpa using ((((g1.trans ha).trans g2).trans hc).trans hd).em op (modeO m)⟩
  rw [parR, if_neg (by omega), if_neg (by omega), if_neg (by omega), parR_more p1 (by omega)]
  show (if op = 31 ∨ op = 32 then _ else _) = _
  rw [if_neg (by omega)]
  show thenP (expP E 7 [44] s1) _ = _
  rw [exp_er g1.ts]
  show thenP (parR E nm (f1 + f2) .expr (s1.adv 1)) _ = _
  rw [parR_more p2 (by omega)]
  show (if op = 14 ∨ op = 15 ∨ op = 16 then _ else _) = _
  rw [if_pos ho]
  show thenP (expP E 7 [44] s2) _ = _
  rw [exp_er g2.ts]
  show withR (modeR E (s2.adv 1)) _ = _
  rw [mode_er hc.ts hm]; rfl
end
end Go.Proofs.YtdnjfpmngnkcfaaGreatDoor
/- The pieces of an expression's text: each is read back as its nodes, at every place that its class allows. -/
namespace Go.Proofs.YtdnjfpmngnkcfaaGreatDoor

def gOf (k : Int) : Int := if 6 ≤ k then 5 else if k = 3 then 2 else k
/-- what follows is no binary operator; does not bind closer than the class; is no colon -/
def stopR (r : List ET) : Prop := (opE (hE r 0)).1 = 0
def condR (k : Int) (r : List ET) : Prop := k ≤ 5 → (opE (hE r 0)).1 = 0 ∨ (opE (hE r 0)).2 ≤ k
def restR (r : List ET) : Prop := ¬ ((hE r 0).1 = 7 ∧ (hE r 0).2.1 = [58])
theorem hE_app {tk r : List ET} (h : tk ≠ []) : hE (tk ++ r) 0 = hE tk 0 := by
  cases tk with
  | nil => exact absurd rfl h
  | cons x a => rfl
theorem atE_app {tk r : List ET} (h : tk ≠ []) (k : Int) (t : List UInt8) : atE (tk ++ r) k t = atE tk k t := by
  unfold atE
  rw [hE_app h]
structure Pz (E : Int) (nm : Nm) (tk : List ET) (k : Int) (l : Bool) (ns : List Nd) : Prop where
  k0 : 0 ≤ k ∧ k ≤ 7
  ne : tk ≠ []
  e : ∀ r, stopR r → restR r → OKP E nm .expr (tk ++ r) ns r
  b : 1 ≤ k → ∀ c r n2 b, c ≤ k → condR k r → restR r → OKP E nm (.loop c (gOf k)) r n2 b → OKP E nm (.bin c) (tk ++ r) (ns ++ n2) b
  u : 6 ≤ k → ∀ r, restR r → OKP E nm .un (tk ++ r) ns r
  nl : l = false → 6 ≤ k → litE (hE tk 0) = 0
section
variable {E : Int} {nm : Nm} {tk t1 t2 t3 : List ET} {k k1 k2 k3 : Int} {l l1 l2 l3 : Bool} {ns n1 n2 n3 : List Nd}
theorem pz_b (hne : tk ≠ []) (hif : 1 ≤ k → atE tk 1 [105, 102] = false) (hk : 1 ≤ k) (b : ∀ c r n2 b, c ≤ k → condR k r → restR r → OKP E nm (.loop c (gOf k)) r n2 b → OKP E nm (.bin c) (tk ++ r) (ns ++ n2) b) :
    ∀ r, stopR r → restR r → OKP E nm .expr (tk ++ r) ns r := by
  intro r hs hr
  refine okp_expr_bin (by rw [atE_app hne]; exact hif hk) ?_
  have := b 1 r [] r hk (fun _ => .inl hs) hr (okp_loop_stop (.inl hs))
  rwa [List.append_nil] at this
/-- a unary -/
theorem Pz.ofUn (hk : k = 6 ∨ k = 7) (hne : tk ≠ []) (hif : atE tk 1 [105, 102] = false) (u : ∀ r, restR r → OKP E nm .un (tk ++ r) ns r) (nl : l = false → litE (hE tk 0) = 0) : Pz E nm tk k l ns := by
  have b : ∀ c r n2 b, c ≤ k → condR k r → restR r → OKP E nm (.loop c (gOf k)) r n2 b → OKP E nm (.bin c) (tk ++ r) (ns ++ n2) b := fun c r n2 b _ _ hr h => by
    refine okp_bin (u r hr) ?_
    have hg : gOf k = 5 := by unfold gOf; rw [if_pos (by omega)]
    rwa [hg] at h
  exact ⟨by omega, hne, pz_b hne (fun _ => hif) (by omega) b, fun _ => b, fun _ => u, fun h _ => nl h⟩
/-- an atom -/
theorem Pz.ofAtom (hne : tk ≠ []) (hif : atE tk 1 [105, 102] = false) (hm : atE tk 7 [45] = false) (hn : atE tk 1 [110, 111, 116] = false) (a : ∀ r, restR r → OKP E nm .atom (tk ++ r) ns r) (nl : l = false → litE (hE tk 0) = 0) : Pz E nm tk 7 l ns :=
  Pz.ofUn (.inr rfl) hne hif (fun r hr => okp_un_atom (by rw [atE_app hne]; exact hm) (by rw [atE_app hne]; exact hn) (a r hr)) nl
theorem rest_sym {t : List UInt8} {n : Int} {r : List ET} (h : t ≠ [58]) : restR ((7, t, n) :: r) := fun ⟨_, h2⟩ => h h2
theorem rest_word {t : List UInt8} {n : Int} {r : List ET} : restR ((1, t, n) :: r) := fun ⟨h1, _⟩ => absurd h1 (show ¬ (1 : Int) = 7 by decide)
theorem stop_close {n : Int} {r : List ET} : stopR ((7, [41], n) :: r) := by show (opE (7, [41], n)).1 = 0; rfl
theorem stop_comma {n : Int} {r : List ET} : stopR ((7, [44], n) :: r) := by show (opE (7, [44], n)).1 = 0; rfl
theorem stop_then {n : Int} {r : List ET} : stopR ((1, [116, 104, 101, 110], n) :: r) := by show (opE (1, _, n)).1 = 0; rfl
theorem stop_else {n : Int} {r : List ET} : stopR ((1, [101, 108, 115, 101], n) :: r) := by show (opE (1, _, n)).1 = 0; rfl
def opn : ET := (7, [40], 0)
def cls : ET := (7, [41], 0)
def com : ET := (7, [44], 0)
theorem Pz.paren (h : Pz E nm tk k l ns) : Pz E nm (opn :: (tk ++ [cls])) 7 false ns := by
  refine Pz.ofAtom (by simp) rfl rfl rfl (fun r hr => ?_) (fun _ => rfl)
  have := okp_paren (z := 0) (h.e (cls :: r) stop_close (rest_sym (by decide)))
  simpa [opn] using this
theorem Pz.not_ (h : Pz E nm tk k l ns) (hk : 6 ≤ k) : Pz E nm ((1, [110, 111, 116], 0) :: tk) 6 false (ns ++ [⟨25, 0⟩]) :=
  Pz.ofUn (.inl rfl) (by simp) rfl (fun r hr => okp_un_not (h.u hk r hr)) (fun _ => rfl)
theorem Pz.neg_ (h : Pz E nm tk k false ns) (hk : 6 ≤ k) : Pz E nm ((7, [45], 0) :: tk) 6 false (ns ++ [⟨10, 0⟩]) :=
  Pz.ofUn (.inl rfl) (by simp) rfl (fun r hr => okp_un_neg (a := tk ++ r) (by rw [hE_app h.ne]; exact h.nl rfl hk) (h.u hk r hr)) (fun _ => rfl)
theorem Pz.bin_ {o ks : Int} {sg : List UInt8} (hop : opE (ks, sg, 0) = (o, k)) (ho : o ≠ 0) (hk : 1 ≤ k ∧ k ≤ 5) (hsg : sg ≠ [58]) (h1 : Pz E nm t1 k1 l1 n1) (hk1 : k ≤ k1) (h3 : k = 3 → 4 ≤ k1) (h2 : Pz E nm t2 k2 l2 n2) (hk2 : k + 1 ≤ k2) (hif : atE t1 1 [105, 102] = false) :
    Pz E nm (t1 ++ (ks, sg, 0) :: t2) k false (n1 ++ (n2 ++ [⟨o, 0⟩])) := by
  have hne : t1 ++ (ks, sg, 0) :: t2 ≠ [] := by simp
  have b : ∀ c r n b, c ≤ k → condR k r → restR r → OKP E nm (.loop c (gOf k)) r n b → OKP E nm (.bin c) ((t1 ++ (ks, sg, 0) :: t2) ++ r) ((n1 ++ (n2 ++ [⟨o, 0⟩])) ++ n) b := by
    intro c r n b hc hcond hr h
    have hstop : (opE (hE r 0)).1 = 0 ∨ (opE (hE r 0)).2 < k + 1 ∨ gOf k2 < (opE (hE r 0)).2 := by
      rcases hcond hk.2 with h | h
      · exact .inl h
      · exact .inr (.inl (by omega))
    have s1 := h2.b (by omega) (k + 1) r [] r hk2 (fun _ => by rcases hcond hk.2 with h | h; exact .inl h; exact .inr (by omega)) hr (okp_loop_stop hstop)
    rw [List.append_nil] at s1
    have hg : gOf k = if k = 3 then 2 else k := by unfold gOf; rw [if_neg (by omega)]
    rw [hg] at h
    have hg1 : k ≤ gOf k1 := by
      unfold gOf
      split
      · omega
      · split
        · omega
        · omega
    have s2 := okp_loop_step (g := gOf k1) hop ho hc hg1 s1 h
    have s3 := h1.b (by omega) c ((ks, sg, 0) :: (t2 ++ r)) _ b (by omega) (fun _ => .inr (by show (opE (ks, sg, 0)).2 ≤ k1; rw [hop]; exact hk1)) (fun ⟨_, hh⟩ => hsg hh) s2
    simpa using s3
  refine ⟨by omega, hne, pz_b hne (fun _ => ?_) hk.1 b, fun _ => b, fun h6 => by omega, fun _ h6 => by omega⟩
  rw [atE_app h1.ne]
  exact hif
theorem Pz.if_ (h1 : Pz E nm t1 k1 l1 n1) (h2 : Pz E nm t2 k2 l2 n2) (h3 : Pz E nm t3 k3 l3 n3) :
    Pz E nm ((1, [105, 102], 0) :: (t1 ++ (1, [116, 104, 101, 110], 0) :: (t2 ++ (1, [101, 108, 115, 101], 0) :: t3))) 0 false (n1 ++ (n2 ++ (n3 ++ [⟨26, 0⟩]))) := by
  refine ⟨by decide, by simp, fun r hs hr => ?_, fun h => absurd h (by decide), fun h => absurd h (by decide), fun _ h => absurd h (by decide)⟩
  have := okp_if (z1 := 0) (h1.e ((1, [116, 104, 101, 110], 0) :: (t2 ++ ((1, [101, 108, 115, 101], 0) :: (t3 ++ r)))) stop_then rest_word)
    (h2.e ((1, [101, 108, 115, 101], 0) :: (t3 ++ r)) stop_else rest_word) (h3.e r hs hr)
  simpa using this
/-! calls -/
def wordOK (t : List UInt8) : Prop := (t ≠ [116, 114, 117, 101] ∧ t ≠ [102, 97, 108, 115, 101] ∧ t ≠ [116, 111, 100, 97, 121]) ∧ t ≠ [105, 102] ∧ t ≠ [110, 111, 116]
theorem at_word {t u : List UInt8} {n : Int} {r : List ET} (h : t ≠ u) : atE ((1, t, n) :: r) 1 u = false := by
  unfold atE
  rw [hE_cons]
  simp [h]
theorem at_word7 {t u : List UInt8} {n : Int} {r : List ET} : atE ((1, t, n) :: r) 7 u = false := by
  unfold atE
  rw [hE_cons]
  simp
theorem Pz.word {t : List UInt8} {r0 : List ET} (ht : wordOK t) (a : ∀ r, restR r → OKP E nm .atom ((1, t, 0) :: (r0 ++ r)) ns r) : Pz E nm ((1, t, 0) :: r0) 7 false ns :=
  Pz.ofAtom (by simp) (at_word ht.2.1) at_word7 (at_word ht.2.2) a (fun _ => rfl)
theorem Pz.call_ {t : List UInt8} {a : List ET} (ht : wordOK t) (hc : callO t ≠ 0) (h : ∀ r, OKP E nm (.call (callO t)) (a ++ cls :: r) ns (cls :: r)) : Pz E nm ((1, t, 0) :: opn :: (a ++ [cls])) 7 false ns :=
  Pz.word ht (fun r _ => by
    have := okp_call (z := 0) (z1 := 0) ht.1 hc (h r)
    simpa [opn, cls] using this)
end
end Go.Proofs.YtdnjfpmngnkcfaaGreatDoor
/- The text of an expression's pieces is split into their tokens, whatever follows. No program stands here. -/
namespace Go.Proofs.YtdnjfpmngnkcfaaGreatDoor

/-- a text is split into these tokens, wherever it lies -/
def LexE (l : List UInt8) (ts : List ET) : Prop := ∀ f o, l.length < f → ∃ T, lexF f l o = (T, 0, 0) ∧ T.map er = ts
theorem LexE.nil : LexE [] [] := fun f o _ => ⟨[], lexF_nil f o, rfl⟩
theorem LexE.sp {l : List UInt8} {ts : List ET} (h : LexE l ts) : LexE (32 :: l) ts := by
  intro f o hf
  rw [List.length_cons] at hf
  obtain ⟨f, rfl⟩ : ∃ f', f = f' + 1 := ⟨f - 1, by omega⟩
  obtain ⟨T, h1, h2⟩ := h (f + 1) (o + 1) (by omega)
  refine ⟨T, ?_, h2⟩
  have hs : skipL false (32 :: l) = skipL false l + 1 := by rw [skipL]; rfl
  rw [← h1, lexF, lexF, hs, List.drop_succ_cons, show o + (skipL false l + 1) = o + 1 + skipL false l by omega]
theorem LexE.tok {a b t : List UInt8} {k n : Int} {ts : List ET} (hne : a ≠ []) (hs : skipL false (a ++ b) = 0) (hsc : lxScan (a ++ b) = ⟨0, k, t, n, a.length⟩) (hb : LexE b ts) : LexE (a ++ b) ((k, t, n) :: ts) := by
  intro f o hf
  have hl : 0 < a.length := List.length_pos_iff.2 hne
  rw [List.length_append] at hf
  obtain ⟨f, rfl⟩ : ∃ f', f = f' + 1 := ⟨f - 1, by omega⟩
  obtain ⟨T, h1, h2⟩ := hb f (o + 0 + a.length) (by omega)
  refine ⟨⟨k, t, n, ((o + 0 : Nat) : Int)⟩ :: T, ?_, by rw [List.map_cons, h2]; rfl⟩
  rw [lexF, hs, List.drop_zero, if_neg (by simp [hne]), hsc]
  dsimp only
  rw [List.drop_left' rfl, h1]
  rfl
/-- what may follow a piece -/
def okN (b : List UInt8) : Prop := b.head? = none ∨ b.head? = some 32 ∨ b.head? = some 41 ∨ b.head? = some 44
theorem okN_p {p : UInt8 → Bool} {b : List UInt8} (h : okN b) (h1 : p 32 = false) (h2 : p 41 = false) (h3 : p 44 = false) : b.head? = none ∨ ∃ c, b.head? = some c ∧ p c = false := by
  rcases h with h | h | h | h
  · exact .inl h
  · exact .inr ⟨32, h, h1⟩
  · exact .inr ⟨41, h, h2⟩
  · exact .inr ⟨44, h, h3⟩
theorem okN_glued {b : List UInt8} (h : okN b) : gluedAt b.head? = false := by
  rcases h with h | h | h | h <;> rw [h] <;> decide
theorem okN_no {b : List UInt8} (h : okN b) (c : UInt8) (h1 : c ≠ 32) (h2 : c ≠ 41) (h3 : c ≠ 44) : b.head? ≠ some c := by
  intro e
  rcases h with h | h | h | h <;> rw [h] at e
  · cases e
  · exact h1 (Option.some.inj e).symm
  · exact h2 (Option.some.inj e).symm
  · exact h3 (Option.some.inj e).symm
theorem okN_cl (r : List UInt8) : okN (41 :: r) := .inr (.inr (.inl rfl))
theorem okN_co (r : List UInt8) : okN (44 :: r) := .inr (.inr (.inr rfl))
theorem okN_sp (r : List UInt8) : okN (32 :: r) := .inr (.inl rfl)
theorem okN_nil : okN [] := .inl rfl
/-- a text is split into these tokens, and then comes what comes -/
def Lx (a : List UInt8) (tk : List ET) : Prop := ∀ b ts, okN b → LexE b ts → LexE (a ++ b) (tk ++ ts)
/-- a word -/
theorem word_scan {t b : List UInt8} (h1 : lowH t = true) (h2 : t.all wordB = true) (h3 : t.length ≤ 16) (hb : b.head? = none ∨ ∃ c, b.head? = some c ∧ wordB c = false) :
    t ≠ [] ∧ skipL false (t ++ b) = 0 ∧ lxScan (t ++ b) = ⟨0, 1, t, 0, t.length⟩ := by
  cases t with
  | nil => cases h1
  | cons c r =>
    have h1' : lowB c = true := h1
    have hlow : 97 ≤ c.toNat ∧ c.toNat ≤ 122 := by simpa [lowB] using h1'
    refine ⟨by simp, ?_, ?_⟩
    · rw [List.cons_append]
      exact skip_head (by omega) (by omega) (by omega)
    · have hl := lead_of_app (p := wordB) h2 hb
      rw [List.cons_append] at hl ⊢
      rw [lxScan, if_neg (by omega), if_pos h1', lxName, hl, if_neg (by omega), ← List.cons_append, List.take_left' rfl]
theorem LexE.word {t b : List UInt8} {ts : List ET} (h1 : lowH t = true) (h2 : t.all wordB = true) (h3 : t.length ≤ 16) (hb : b.head? = none ∨ ∃ c, b.head? = some c ∧ wordB c = false) (h : LexE b ts) : LexE (t ++ b) ((1, t, 0) :: ts) := by
  obtain ⟨a1, a2, a3⟩ := word_scan h1 h2 h3 hb
  exact LexE.tok a1 a2 a3 h
theorem Lx.word {t : List UInt8} (h1 : lowH t = true) (h2 : t.all wordB = true) (h3 : t.length ≤ 16) : Lx t [(1, t, 0)] :=
  fun _ _ hb h => LexE.word h1 h2 h3 (okN_p hb (by decide) (by decide) (by decide)) h
/-- a symbol of one byte -/
theorem LexE.sym {c : UInt8} {b : List UInt8} {ts : List ET} (h1 : sym1 c = true) (h2 : lowB c = false) (h3 : isDig c = false) (h4 : c.toNat ≠ 34 ∧ c.toNat ≠ 35 ∧ c.toNat ≠ 32 ∧ c.toNat ≠ 9 ∧ c.toNat ≠ 10) (h5 : ¬ (b.head? = some 61 ∧ sym2 c = true)) (h : LexE b ts) :
    LexE (c :: b) ((7, [c], 0) :: ts) := by
  refine LexE.tok (a := [c]) (by simp) (skip_head h4.2.1 h4.2.2.1 h4.2.2.2.1) ?_ h
  show lxScan (c :: b) = _
  rw [lxScan, if_neg h4.2.2.2.2, if_neg (by rw [h2]; decide), if_neg (by rw [h3]; decide), if_neg h4.1, lxSym, if_neg h5, if_pos h1]
  rfl
theorem LexE.op {b : List UInt8} {ts : List ET} (h : LexE b ts) : LexE (40 :: b) (opn :: ts) := LexE.sym (by decide) (by decide) (by decide) (by decide) (fun h => absurd h.2 (by decide)) h
theorem LexE.cl {b : List UInt8} {ts : List ET} (h : LexE b ts) : LexE (41 :: b) (cls :: ts) := LexE.sym (by decide) (by decide) (by decide) (by decide) (fun h => absurd h.2 (by decide)) h
theorem LexE.co {b : List UInt8} {ts : List ET} (h : LexE b ts) : LexE (44 :: b) (com :: ts) := LexE.sym (by decide) (by decide) (by decide) (by decide) (fun h => absurd h.2 (by decide)) h
theorem LexE.colon {b : List UInt8} {ts : List ET} (h : LexE b ts) : LexE (58 :: b) ((7, [58], 0) :: ts) := LexE.sym (by decide) (by decide) (by decide) (by decide) (fun h => absurd h.2 (by decide)) h
theorem LexE.minus {b : List UInt8} {ts : List ET} (h : LexE b ts) : LexE (45 :: b) ((7, [45], 0) :: ts) := LexE.sym (by decide) (by decide) (by decide) (by decide) (fun h => absurd h.2 (by decide)) h
/-- a symbol of two bytes -/
theorem LexE.sym2 {c : UInt8} {b : List UInt8} {ts : List ET} (h1 : Go.Proofs.YtdnjfpmngnkcfaaGreatDoor.sym2 c = true) (h2 : lowB c = false) (h3 : isDig c = false) (h4 : c.toNat ≠ 34 ∧ c.toNat ≠ 35 ∧ c.toNat ≠ 32 ∧ c.toNat ≠ 9 ∧ c.toNat ≠ 10) (h : LexE b ts) :
    LexE (c :: 61 :: b) ((7, [c, 61], 0) :: ts) := by
  refine LexE.tok (a := [c, 61]) (by simp) (skip_head h4.2.1 h4.2.2.1 h4.2.2.2.1) ?_ h
  show lxScan (c :: 61 :: b) = _
  rw [lxScan, if_neg h4.2.2.2.2, if_neg (by rw [h2]; decide), if_neg (by rw [h3]; decide), if_neg h4.1, lxSym, if_pos ⟨rfl, h1⟩]
  rfl
/-! numbers -/
theorem not_datedN {t b : List UInt8} (ht : t.all numCh = true) (hb : okN b) : datedB (t ++ b) = false := by
  rw [Bool.eq_false_iff]
  intro h
  simp only [datedB, Bool.and_eq_true, decide_eq_true_eq, beq_iff_eq] at h
  obtain ⟨hl, hd, h4, _⟩ := h
  rcases Nat.lt_trichotomy t.length 4 with hlt | he | hgt
  · have hbl : t.length < (t ++ b).length := by omega
    have hb0 : b ≠ [] := by intro e; rw [e] at hbl; simp at hbl
    obtain ⟨c, r, rfl⟩ : ∃ c r, b = c :: r := by cases b with | nil => exact absurd rfl hb0 | cons c r => exact ⟨c, r, rfl⟩
    have hc : ((t ++ c :: r).take 4)[t.length]? = some c := by
      rw [List.getElem?_take_of_lt hlt, List.getElem?_append_right (Nat.le_refl _), Nat.sub_self]; rfl
    have hc2 := all_at (p := isDig) hd hc
    rcases hb with hb | hb | hb | hb
    · cases hb
    all_goals
      have hc3 := Option.some.inj hb
      subst hc3
      revert hc2; decide
  · rw [List.getElem?_append_right (by omega), he, Nat.sub_self, ← List.head?_eq_getElem?] at h4
    exact okN_no hb 45 (by decide) (by decide) (by decide) h4
  · rw [List.getElem?_append_left hgt] at h4
    have := all_at ht h4
    revert this; decide
theorem dig_num {l : List UInt8} (h : l.all isDig = true) : l.all numCh = true := by
  rw [List.all_eq_true] at h ⊢
  intro x hx
  rw [numCh, h x hx]; rfl
theorem dig_filter {l : List UInt8} (h : l.all isDig = true) : l.filter isDig = l := List.filter_eq_self.2 (List.all_eq_true.1 h)
theorem digN_glue {t b : List UInt8} {k : Nat} (hk : t.length = k) (hb : okN b) : gluedAt (t ++ b)[k]? = false := by
  rw [List.getElem?_append_right (by omega), hk, Nat.sub_self, ← List.head?_eq_getElem?]
  exact okN_glued hb
theorem num_tok {c : UInt8} {r b : List UInt8} {k n : Int} {ts : List ET} (hc : isDig c = true) (h : lxNum ((c :: r) ++ b) = ⟨0, k, c :: r, n, (c :: r).length⟩) (hb : LexE b ts) : LexE ((c :: r) ++ b) ((k, c :: r, n) :: ts) := by
  have hd := isDig_iff.1 hc
  refine LexE.tok (by simp) (skip_head (by omega) (by omega) (by omega)) ?_ hb
  rw [← h]
  show lxScan (c :: (r ++ b)) = lxNum (c :: (r ++ b))
  rw [lxScan, if_neg (by omega), if_neg (by simp [lowB]; omega), if_pos hc]
theorem head_dig {l : List UInt8} (h : l.all isDig = true) (hn : l ≠ []) : ∃ c r, l = c :: r ∧ isDig c = true := by
  cases l with
  | nil => exact absurd rfl hn
  | cons c r => exact ⟨c, r, rfl, List.all_eq_true.1 h c (by simp)⟩
/-- whole numbers -/
theorem LexE.int {n : Int} (h0 : 0 ≤ n) (h1 : n ≤ 1000000000000) {b : List UInt8} {ts : List ET} (hb : okN b) (h : LexE b ts) : LexE (absD n ++ b) ((2, absD n, n) :: ts) := by
  have hd := absD_dig n
  obtain ⟨c, r, hcr, hc⟩ := head_dig hd (absD_ne n)
  have hlead : lead_of isDig (absD n ++ b) = (absD n).length := lead_of_app hd (okN_p hb (by decide) (by decide) (by decide))
  have hnd := not_datedN (dig_num hd) hb
  have hpt : ∀ q, pointB (absD n ++ b) q = false := by
    intro q
    rw [pointB, hlead, List.getElem?_append_right (Nat.le_refl _), Nat.sub_self, ← List.head?_eq_getElem?]
    have := okN_no hb 46 (by decide) (by decide) (by decide)
    rw [beq_eq_false_iff_ne.2 this]; rfl
  have hkl : lxKL (absD n ++ b) = (2, (absD n).length) := by
    unfold lxKL
    rw [hnd, hpt 2, rateB, hpt 4, hlead]; rfl
  have hz : zeroB (absD n ++ b) = false := by
    unfold zeroB
    rw [hnd, hlead]
    rcases lead_iff.1 (absD_lead n) with h | h
    · rw [h]; rfl
    · have : (absD n ++ b)[0]? = (absD n).head? := by rw [hcr]; rfl
      rw [this, beq_eq_false_iff_ne.2 h, Bool.and_false, Bool.and_false]
  have hv : lxVal 2 (absD n) = (n, 0) := by
    have e : (digsN (absD n) : Int) = n := by
      rw [digsN, dig_filter hd, absD_val]; omega
    rw [lxVal, if_neg (by decide), if_neg (by rw [e]; show ¬ ((1000000000000 : Int) < n); omega), e]
  have : lxNum (absD n ++ b) = ⟨0, 2, absD n, n, (absD n).length⟩ := by
    unfold lxNum
    rw [hz, hkl, digN_glue rfl hb, List.take_left' rfl, hv]
    rfl
  rw [hcr] at this ⊢
  exact num_tok hc this h
/-- the digits of a number with places: ahead of the point, behind it -/
theorem pad_parts (n : Int) (q : Nat) : ∃ W F : List UInt8, padD n q = W ++ F ∧ F.length = q ∧ W ≠ [] ∧ W.all isDig = true ∧ F.all isDig = true ∧ (W.length = 1 ∨ W.head? ≠ some 48) ∧
    (padD n q).take ((padD n q).length - q) = W ∧ (padD n q).drop ((padD n q).length - q) = F := by
  have hl := padD_len n q
  have hd := padD_dig n q
  refine ⟨_, _, (List.take_append_drop ((padD n q).length - q) _).symm, by rw [List.length_drop]; omega, ?_, ?_, ?_, ?_, rfl, rfl⟩
  · intro e
    have := congrArg List.length e
    rw [List.length_take] at this
    simp only [List.length_nil] at this
    omega
  · rw [List.all_eq_true] at hd ⊢
    exact fun x hx => hd x (List.mem_of_mem_take hx)
  · rw [List.all_eq_true] at hd ⊢
    exact fun x hx => hd x (List.mem_of_mem_drop hx)
  · rw [List.length_take]
    by_cases hs : (absD n).length ≤ q + 1
    · left
      have : (padD n q).length = q + 1 := by rw [padD, List.length_append, List.length_replicate]; omega
      omega
    · right
      have e : padD n q = absD n := by rw [padD, show q + 1 - (absD n).length = 0 by omega]; rfl
      rw [List.head?_take, if_neg (by omega), e]
      rcases lead_iff.1 (absD_lead n) with h | h
      · omega
      · exact h
theorem num_zero {W X : List UInt8} (hW : W ≠ []) (hl : lead_of isDig (W ++ X) = W.length) (h : W.length = 1 ∨ W.head? ≠ some 48) : zeroB (W ++ X) = false := by
  unfold zeroB
  rw [hl]
  rcases h with h | h
  · rw [h, show decide (1 < 1) = false from rfl, Bool.false_and, Bool.and_false]
  · have : (W ++ X)[0]? = W.head? := by
      cases W with
      | nil => exact absurd rfl hW
      | cons c r => rfl
    rw [this, beq_eq_false_iff_ne.2 h, Bool.and_false, Bool.and_false]
/-- amounts -/
theorem LexE.money {n : Int} (h0 : 0 ≤ n) (h1 : n ≤ 1000000000000000) {b : List UInt8} {ts : List ET} (hb : okN b) (h : LexE b ts) : LexE (fixT n 2 ++ b) ((3, fixT n 2, n) :: ts) := by
  obtain ⟨W, F, hp, hF, hW, hWd, hFd, hWz, e1, e2⟩ := pad_parts n 2
  have ht : fixT n 2 = W ++ (46 :: F) := by rw [fixT, e1, e2, sgn, if_neg (by omega)]; rfl
  have hv0 : (digsN (fixT n 2) : Int) = n := by
    rw [digsN, ht, List.filter_append, dig_filter hWd, List.filter_cons_of_neg (by decide), dig_filter hFd, ← hp, padD_val]; omega
  have hlen : (fixT n 2).length = W.length + 3 := by rw [ht, List.length_append, List.length_cons, hF]
  have hsp : fixT n 2 ++ b = W ++ (46 :: (F ++ b)) := by rw [ht]; simp
  have hlead : lead_of isDig (fixT n 2 ++ b) = W.length := by rw [hsp]; exact lead_of_app hWd (.inr ⟨46, rfl, dig_not46⟩)
  have hnum : (fixT n 2).all numCh = true := by rw [ht, List.all_append, List.all_cons, dig_num hWd, dig_num hFd]; decide
  have hnd := not_datedN hnum hb
  have hget : (fixT n 2 ++ b)[W.length]? = some 46 := by rw [hsp, List.getElem?_append_right (Nat.le_refl _), Nat.sub_self]; rfl
  have hl2 : lead_of isDig ((fixT n 2 ++ b).drop (W.length + 1)) = 2 := by
    rw [hsp, ← List.drop_drop, List.drop_left' rfl]
    show lead_of isDig (F ++ b) = 2
    rw [lead_of_app hFd (okN_p hb (by decide) (by decide) (by decide)), hF]
  have hpt : pointB (fixT n 2 ++ b) 2 = true := by rw [pointB, hlead, hget, hl2]; rfl
  have hkl : lxKL (fixT n 2 ++ b) = (3, W.length + 3) := by
    unfold lxKL
    rw [hnd, hpt, hlead]; rfl
  have hz : zeroB (fixT n 2 ++ b) = false := by rw [hsp] at hlead ⊢; exact num_zero hW hlead hWz
  have hv : lxVal 3 (fixT n 2) = (n, 0) := by
    rw [lxVal, if_neg (by decide), if_neg (by rw [hv0]; show ¬ ((1000000000000000 : Int) < n); omega), hv0]
  have hN : lxNum (fixT n 2 ++ b) = ⟨0, 3, fixT n 2, n, (fixT n 2).length⟩ := by
    unfold lxNum
    rw [hz, hkl]
    dsimp only
    rw [digN_glue hlen hb, List.take_left' hlen, hv, hlen]
    rfl
  obtain ⟨c, r, hcr, hc⟩ := head_dig hWd hW
  have ht2 : fixT n 2 = c :: (r ++ 46 :: F) := by rw [ht, hcr]; rfl
  rw [ht2] at hN ⊢
  exact num_tok hc hN h
/-- rates -/
theorem LexE.rate {n : Int} (h0 : 0 ≤ n) (h1 : n ≤ 1000000000) {b : List UInt8} {ts : List ET} (hb : okN b) (h : LexE b ts) : LexE ((fixT n 4 ++ [37]) ++ b) ((4, fixT n 4 ++ [37], n) :: ts) := by
  obtain ⟨W, F, hp, hF, hW, hWd, hFd, hWz, e1, e2⟩ := pad_parts n 4
  obtain ⟨T, hT⟩ : ∃ T, T = fixT n 4 ++ [37] := ⟨_, rfl⟩
  rw [← hT]
  have ht : T = W ++ (46 :: (F ++ [37])) := by rw [hT, fixT, e1, e2, sgn, if_neg (by omega)]; simp
  have hv0 : (digsN T : Int) = n := by
    rw [digsN, ht, List.filter_append, dig_filter hWd, List.filter_cons_of_neg (by decide), List.filter_append, dig_filter hFd, List.filter_cons_of_neg (by decide), List.filter_nil, List.append_nil, ← hp, padD_val]; omega
  have hlen : T.length = W.length + 6 := by rw [ht, List.length_append, List.length_cons, List.length_append, hF]; rfl
  have hsp : T ++ b = W ++ (46 :: (F ++ (37 :: b))) := by rw [ht]; simp
  have hlead : lead_of isDig (T ++ b) = W.length := by rw [hsp]; exact lead_of_app hWd (.inr ⟨46, rfl, dig_not46⟩)
  have hnum : T.all numCh = true := by rw [ht, List.all_append, List.all_cons, List.all_append, dig_num hWd, dig_num hFd]; decide
  have hnd := not_datedN hnum hb
  have hget : (T ++ b)[W.length]? = some 46 := by rw [hsp, List.getElem?_append_right (Nat.le_refl _), Nat.sub_self]; rfl
  have hl4 : lead_of isDig ((T ++ b).drop (W.length + 1)) = 4 := by
    rw [hsp, ← List.drop_drop, List.drop_left' rfl]
    show lead_of isDig (F ++ 37 :: b) = 4
    rw [lead_of_app hFd (.inr ⟨37, rfl, by decide⟩), hF]
  have hpt : ∀ q, pointB (T ++ b) q = (4 == q) := by intro q; rw [pointB, hlead, hget, hl4]; rfl
  have h37 : (T ++ b)[W.length + 5]? = some 37 := by
    rw [hsp, List.getElem?_append_right (by omega), show W.length + 5 - W.length = 4 + 1 by omega, List.getElem?_cons_succ, List.getElem?_append_right (by omega), hF]; rfl
  have hkl : lxKL (T ++ b) = (4, W.length + 6) := by
    unfold lxKL
    rw [hnd, hpt 2, rateB, hpt 4, hlead, h37]; rfl
  have hz : zeroB (T ++ b) = false := by rw [hsp] at hlead ⊢; exact num_zero hW hlead hWz
  have hv : lxVal 4 T = (n, 0) := by
    rw [lxVal, if_neg (by decide), if_neg (by rw [hv0]; show ¬ ((1000000000 : Int) < n); omega), hv0]
  have hN : lxNum (T ++ b) = ⟨0, 4, T, n, T.length⟩ := by
    unfold lxNum
    rw [hz, hkl]
    dsimp only
    rw [digN_glue hlen hb, List.take_left' hlen, hv, hlen]
    rfl
  obtain ⟨c, r, hcr, hc⟩ := head_dig hWd hW
  have ht2 : T = c :: (r ++ 46 :: (F ++ [37])) := by rw [ht, hcr]; rfl
  rw [ht2] at hN ⊢
  exact num_tok hc hN h
/-- dates -/
theorem LexE.date {n : Int} (hn : isDate n = true) {b : List UInt8} {ts : List ET} (hb : okN b) (h : LexE b ts) : LexE (L (dateS n) ++ b) ((5, L (dateS n), n) :: ts) := by
  have hbd := toS_bd hn
  have h' := isDate_iff.1 hn
  have hs := toS_spec n h'.1 h'.2
  have hdl := dimS_le (toS n).1 (toS n).2.1
  obtain ⟨a, ea, la, da, va⟩ := padS_dig (n := (toS n).1) (k := 4) (by omega) (by omega) (by show (toS n).1.toNat < 10000; omega)
  obtain ⟨b2, eb, lb, db, vb⟩ := padS_dig (n := (toS n).2.1) (k := 2) (by omega) (by omega) (by show (toS n).2.1.toNat < 100; omega)
  obtain ⟨c, ec, lc, dc, vc⟩ := padS_dig (n := (toS n).2.2) (k := 2) (by omega) (by omega) (by show (toS n).2.2.toNat < 100; omega)
  have e : L (dateS n) = a ++ [45] ++ b2 ++ [45] ++ c := by
    rw [dateS_yes hn, ea, eb, ec]
    show L (bs a ++ bs [45] ++ bs b2 ++ bs [45] ++ bs c) = _
    rw [bs_append, bs_append, bs_append, bs_append, L_bs]
  have hdp := dparS_dateS hn
  rw [← bs_L (dateS n)] at hdp
  generalize L (dateS n) = T at *
  match a, la, b2, lb, c, lc with
  | [a0, a1, a2, a3], _, [b0, b1], _, [c0, c1], _ =>
    subst e
    have hdB : datedB (([a0, a1, a2, a3] ++ [45] ++ [b0, b1] ++ [45] ++ [c0, c1]) ++ b) = true := by
      unfold datedB
      show (decide (10 ≤ _ + 1 + 1 + 1 + 1 + 1 + 1 + 1 + 1 + 1 + 1) && (digB [a0, a1, a2, a3] && (true && (digB [b0, b1] && (true && digB [c0, c1]))))) = true
      rw [da, db, dc]
      simp
    have hkl : lxKL (([a0, a1, a2, a3] ++ [45] ++ [b0, b1] ++ [45] ++ [c0, c1]) ++ b) = (5, 10) := by unfold lxKL; rw [hdB]; rfl
    have hz : zeroB (([a0, a1, a2, a3] ++ [45] ++ [b0, b1] ++ [45] ++ [c0, c1]) ++ b) = false := by unfold zeroB; rw [hdB]; rfl
    have hv : lxVal 5 ([a0, a1, a2, a3] ++ [45] ++ [b0, b1] ++ [45] ++ [c0, c1]) = (n, 0) := by rw [lxVal, if_pos rfl, hdp]; rfl
    have hN : lxNum (([a0, a1, a2, a3] ++ [45] ++ [b0, b1] ++ [45] ++ [c0, c1]) ++ b) = ⟨0, 5, [a0, a1, a2, a3] ++ [45] ++ [b0, b1] ++ [45] ++ [c0, c1], n, 10⟩ := by
      unfold lxNum
      rw [hz, hkl]
      dsimp only
      rw [digN_glue (t := [a0, a1, a2, a3] ++ [45] ++ [b0, b1] ++ [45] ++ [c0, c1]) (k := 10) rfl hb, List.take_left' (l₁ := [a0, a1, a2, a3] ++ [45] ++ [b0, b1] ++ [45] ++ [c0, c1]) (i := 10) rfl, hv]
      rfl
    exact num_tok (List.all_eq_true.1 da a0 (by simp)) hN h
end Go.Proofs.YtdnjfpmngnkcfaaGreatDoor
/- The text of a node over the texts of its operands is read back as the node behind theirs. No program stands here. -/
namespace Go.Proofs.YtdnjfpmngnkcfaaGreatDoor

theorem findS_fromR {s : ByteArray} : ∀ (xs : List ByteArray) (i p : Nat), xs[p]? = some s → (∀ m, m < p → xs[m]? ≠ some s) → findS s xs i = some (i + p)
  | [], i, p, h, _ => by simp at h
  | x :: r, i, p, h, hn => by
    rw [findS]
    cases p with
    | zero => rw [if_pos (Option.some.inj h)]; rfl
    | succ p =>
      rw [if_neg (fun e => hn 0 (by omega) (by rw [e]; rfl)), findS_fromR r (i + 1) p (by simpa using h) (fun m hm => by have := hn (m + 1) (by omega); simpa using this)]
      congr 1; omega
theorem findS_noR {s : ByteArray} : ∀ (xs : List ByteArray) (i : Nat), (∀ m, m < xs.length → xs[m]? ≠ some s) → findS s xs i = none
  | [], i, _ => rfl
  | x :: r, i, hn => by
    rw [findS, if_neg (fun e => hn 0 (by simp) (by rw [e]; rfl)), findS_noR r (i + 1) (fun m hm => by have := hn (m + 1) (by rw [List.length_cons]; omega); simpa using this)]
/-- a piece is read back as these nodes -/
def PcOK (E : Int) (nm : Nm) (p : Pc) (ns : List Nd) : Prop :=
  ∃ tk l, Lx (L p.t) tk ∧ Pz E nm tk p.c l ns ∧ (l = true → p.b = true) ∧ (1 ≤ p.c → atE tk 1 [105, 102] = false)
section
variable {E : Int} {nm : Nm}
theorem lex_paren {t : List UInt8} {tk : List ET} (h : Lx t tk) : Lx (40 :: (t ++ [41])) (opn :: (tk ++ [cls])) := by
  intro b ts hb hl
  have := (h (41 :: b) (cls :: ts) (okN_cl b) hl.cl).op
  simpa using this
theorem L1 (c : UInt8) : L ⟨#[c]⟩ = [c] := rfl
/-- a piece at a place that allows its class, or in parentheses -/
theorem within_ok {p : Pc} {ns : List Nd} (h : PcOK E nm p ns) (c : Int) (hc : c ≤ 7) : ∃ tk k l, Lx (L (withS p c)) tk ∧ Pz E nm tk k l ns ∧ c ≤ k ∧ (l = true → p.b = true) ∧ (1 ≤ c → atE tk 1 [105, 102] = false) := by
  obtain ⟨tk, l, h1, h2, h3, h4⟩ := h
  unfold withS
  by_cases hlt : p.c < c
  · rw [if_pos hlt]
    refine ⟨opn :: (tk ++ [cls]), 7, false, ?_, h2.paren, hc, (fun h => by cases h), fun _ => rfl⟩
    have : L (⟨#[40]⟩ ++ p.t ++ ⟨#[41]⟩) = 40 :: (L p.t ++ [41]) := by rw [L_append, L_append, L1, L1]; simp
    rw [this]
    exact lex_paren h1
  · rw [if_neg hlt]
    exact ⟨tk, p.c, l, h1, h2, by omega, h3, fun h => h4 (by omega)⟩
theorem ite_ind {α : Type} {P : α → Prop} {c : Prop} [Decidable c] {a b : α} (h1 : c → P a) (h2 : P b) : P (if c then a else b) := by
  by_cases h : c
  · rw [if_pos h]; exact h1 h
  · rw [if_neg h]; exact h2
/-- the words of calls and modes: empty, or words -/
def CwOK (X : ByteArray) : Prop := X = ⟨#[]⟩ ∨ (lowH (L X) = true ∧ (L X).all wordB = true ∧ (L X).length ≤ 16 ∧ ((L X ≠ [116, 114, 117, 101] ∧ L X ≠ [102, 97, 108, 115, 101] ∧ L X ≠ [116, 111, 100, 97, 121]) ∧ L X ≠ [105, 102] ∧ L X ≠ [110, 111, 116]))
theorem callW_lex {o : Int} (h : callW o ≠ ⟨#[]⟩) : lowH (L (callW o)) = true ∧ (L (callW o)).all wordB = true ∧ (L (callW o)).length ≤ 16 ∧ wordOK (L (callW o)) := by
  have hx : CwOK (callW o) := by
    unfold callW
    repeat (refine ite_ind (P := CwOK) (fun _ => ?_) ?_; · (unfold CwOK; decide))
    exact .inl rfl
  rcases hx with hx | hx
  · exact absurd hx h
  · exact hx
theorem modeW_lex {m : Int} (h : modeW m ≠ ⟨#[]⟩) : lowH (L (modeW m)) = true ∧ (L (modeW m)).all wordB = true ∧ (L (modeW m)).length ≤ 16 ∧ 0 ≤ m ∧ m ≤ 5 := by
  have hx : CwOK (modeW m) := by
    unfold modeW
    repeat (refine ite_ind (P := CwOK) (fun _ => ?_) ?_; · (unfold CwOK; decide))
    exact .inl rfl
  rcases hx with hx | hx
  · exact absurd hx h
  · refine ⟨hx.1, hx.2.1, hx.2.2.1, ?_⟩
    by_cases hm : 0 ≤ m ∧ m ≤ 5
    · exact hm
    · refine absurd ?_ h
      rw [modeW, if_neg (by omega), if_neg (by omega), if_neg (by omega), if_neg (by omega), if_neg (by omega), if_neg (by omega)]
/-- a call with what stands between its parentheses -/
theorem call_ok {o : Int} {B : List UInt8} {a : List ET} {ns : List Nd} {T : ByteArray} (hw : callW o ≠ ⟨#[]⟩) (ht : L T = L (callW o) ++ 40 :: (B ++ [41])) (hB : ∀ b ts, LexE b ts → LexE (B ++ 41 :: b) (a ++ cls :: ts))
    (hp : ∀ r, OKP E nm (.call o) (a ++ cls :: r) ns (cls :: r)) : PcOK E nm (atomP T) ns := by
  obtain ⟨h1, h2, h3, h4⟩ := callW_lex hw
  have hc := callO_of hw
  have h0 : o ≠ 0 := by rintro rfl; exact hw rfl
  refine ⟨(1, L (callW o), 0) :: opn :: (a ++ [cls]), false, ?_, Pz.call_ h4 (by rw [hc]; exact h0) (by rw [hc]; exact hp), (fun h => by cases h), fun _ => at_word h4.2.1⟩
  intro b ts hb hl
  show LexE (L T ++ b) _
  rw [ht]
  have := LexE.word h1 h2 h3 (b := 40 :: (B ++ 41 :: b)) (.inr ⟨40, rfl, by decide⟩) (hB b ts hl).op
  simpa using this
/-- identifiers -/
theorem id_lex {t : List UInt8} (h : idB t = true) : lowH t = true ∧ t.all wordB = true ∧ t.length ≤ 16 ∧ wordOK t ∧ callO t = 0 := by
  unfold idB at h
  simp only [Bool.and_eq_true, decide_eq_true_eq, Bool.not_eq_true'] at h
  obtain ⟨_, h1, h2, h3, h4⟩ := h
  have hn : ∀ u, resB u = true → t ≠ u := fun u hu e => by rw [e, hu] at h4; cases h4
  refine ⟨h2, h3, h1, ⟨⟨hn _ (by decide), hn _ (by decide), hn _ (by decide)⟩, hn _ (by decide), hn _ (by decide)⟩, ?_⟩
  have hx : callO t = 0 ∨ resB t = true := by
    unfold callO
    repeat refine ite_ind (P := fun x : Int => x = 0 ∨ resB t = true) (fun e => .inr (by rw [e]; decide)) ?_
    exact .inl rfl
  rcases hx with hx | hx
  · exact hx
  · rw [hx] at h4; cases h4
theorem id_lx {t : List UInt8} (h : idB t = true) : Lx t [(1, t, 0)] := by
  obtain ⟨h1, h2, h3, _, _⟩ := id_lex h
  exact Lx.word h1 h2 h3
theorem findS_nodup {l : List ByteArray} {i : Nat} {x : ByteArray} (hx : l[i]? = some x) (hn : l.Nodup) : findS x l 0 = some i := by
  rw [findS_fromR l 0 i hx ?_, Nat.zero_add]
  intro m hm e
  have h1 := (List.getElem?_eq_some_iff.1 hx)
  have h2 := (List.getElem?_eq_some_iff.1 e)
  obtain ⟨a1, a2⟩ := h1
  obtain ⟨b1, b2⟩ := h2
  have h3 := List.pairwise_iff_getElem.1 hn m i b1 a1 hm
  exact h3 (by rw [a2, b2])
/-- names that can be told apart -/
structure Dis (nm : Nm) : Prop where
  el : nm.en.length = nm.ms.length
  en : (∀ x ∈ nm.en, idB (L x) = true) ∧ nm.en.Nodup
  ms : ∀ l ∈ nm.ms, (∀ x ∈ l, idB (L x) = true) ∧ l.Nodup ∧ l.length ≤ 16
  tb : (∀ x ∈ nm.tb, idB (L x) = true) ∧ nm.tb.Nodup
  md : (∀ x ∈ nm.md, idB (L x) = true) ∧ nm.md.Nodup
  io : (∀ x ∈ nm.ins ++ nm.ds, idB (L x) = true) ∧ (nm.ins ++ nm.ds).Nodup
theorem nameAt_ok {l : List ByteArray} {i : Int} {pre post : ByteArray} (h : (nameAt l i pre post).2 = 0) : ∃ (j : Nat) (s : ByteArray), i = j ∧ l[j]? = some s ∧ nameAt l i pre post = (atomP (pre ++ s ++ post), 0) := by
  unfold nameAt at h ⊢
  by_cases hi : i < 0 ∨ (l.length : Int) ≤ i
  · rw [if_pos hi] at h; cases h
  · have hlt : i.toNat < l.length := by omega
    refine ⟨i.toNat, l[i.toNat], by omega, List.getElem?_eq_getElem hlt, ?_⟩
    rw [if_neg hi, List.getElem?_eq_getElem hlt]; rfl
theorem nodup_left {a b : List ByteArray} (h : (a ++ b).Nodup) : a.Nodup := (List.nodup_append.1 h).1
theorem nodup_right {a b : List ByteArray} (h : (a ++ b).Nodup) : b.Nodup := (List.nodup_append.1 h).2.1
theorem findS_other {a b : List ByteArray} {j : Nat} {x : ByteArray} (hx : b[j]? = some x) (h : (a ++ b).Nodup) : findS x a 0 = none := by
  refine findS_noR a 0 fun m hm e => ?_
  exact (List.nodup_append.1 h).2.2 x (List.mem_of_getElem? e) x (List.mem_of_getElem? hx) rfl
/-- a name alone: an input or a definition -/
theorem name_ok {s : ByteArray} {ns : List Nd} (hid : idB (L s) = true) (h : (∃ i : Nat, findS s nm.ins 0 = some i ∧ ns = [⟨7, i⟩]) ∨ (findS s nm.ins 0 = none ∧ ∃ i : Nat, findS s nm.ds 0 = some i ∧ ns = [⟨8, i⟩])) :
    PcOK E nm (atomP (⟨#[]⟩ ++ s ++ ⟨#[]⟩)) ns := by
  obtain ⟨h1, h2, h3, h4, h5⟩ := id_lex hid
  have e : L (atomP (⟨#[]⟩ ++ s ++ ⟨#[]⟩)).t = L s := by
    show L (⟨#[]⟩ ++ s ++ ⟨#[]⟩) = L s
    rw [L_append, L_append]
    show [] ++ L s ++ [] = L s
    simp
  refine ⟨[(1, L s, 0)], false, by rw [e]; exact id_lx hid, Pz.word (r0 := []) h4 (fun r hr => okp_name h4.1 h5 hid hr (by rw [bs_L]; exact h)), (fun h => by cases h), fun _ => at_word h4.2.1⟩
/-- the sign of a binary operation -/
theorem opSg_lex {o : Int} (h : o = 11 ∨ o = 12 ∨ o = 13 ∨ o = 19 ∨ o = 20 ∨ o = 21 ∨ o = 22 ∨ o = 23 ∨ o = 24) :
    ∃ ks : Int, opE (ks, L (opSg o).1, 0) = (o, (opSg o).2) ∧ L (opSg o).1 ≠ [58] ∧ 1 ≤ (opSg o).2 ∧ (opSg o).2 ≤ 5 ∧ ∀ b ts, LexE b ts → LexE (L (opSg o).1 ++ 32 :: b) ((ks, L (opSg o).1, 0) :: ts) := by
  rcases h with rfl | rfl | rfl | rfl | rfl | rfl | rfl | rfl | rfl
  · exact ⟨7, rfl, by decide, by decide, by decide, fun b ts h => LexE.sym (c := 43) (by decide) (by decide) (by decide) (by decide) (fun h => absurd h.2 (by decide)) h.sp⟩
  · exact ⟨7, rfl, by decide, by decide, by decide, fun b ts h => LexE.sym (c := 45) (by decide) (by decide) (by decide) (by decide) (fun h => absurd h.2 (by decide)) h.sp⟩
  · exact ⟨7, rfl, by decide, by decide, by decide, fun b ts h => LexE.sym (c := 42) (by decide) (by decide) (by decide) (by decide) (fun h => absurd h.2 (by decide)) h.sp⟩
  · exact ⟨7, rfl, by decide, by decide, by decide, fun b ts h => LexE.sym2 (c := 61) (by decide) (by decide) (by decide) (by decide) h.sp⟩
  · exact ⟨7, rfl, by decide, by decide, by decide, fun b ts h => LexE.sym2 (c := 33) (by decide) (by decide) (by decide) (by decide) h.sp⟩
  · exact ⟨7, rfl, by decide, by decide, by decide, fun b ts h => LexE.sym (c := 60) (by decide) (by decide) (by decide) (by decide) (fun h => absurd h.1 (by show ¬ (some (32 : UInt8) = some 61); decide)) h.sp⟩
  · exact ⟨7, rfl, by decide, by decide, by decide, fun b ts h => LexE.sym2 (c := 60) (by decide) (by decide) (by decide) (by decide) h.sp⟩
  · exact ⟨1, rfl, by decide, by decide, by decide, fun b ts h => LexE.word (t := [97, 110, 100]) (by decide) (by decide) (by decide) (.inr ⟨32, rfl, by decide⟩) h.sp⟩
  · exact ⟨1, rfl, by decide, by decide, by decide, fun b ts h => LexE.word (t := [111, 114]) (by decide) (by decide) (by decide) (.inr ⟨32, rfl, by decide⟩) h.sp⟩
/-! literals -/
theorem fixT_neg {n : Int} (h : n < 0) (q : Nat) : fixT n q = 45 :: fixT (-n) q := by
  have e : absD n = absD (-n) := by rw [absD, absD, Int.natAbs_neg]
  rw [fixT, fixT, sgn, sgn, if_pos h, if_neg (by omega), padD, padD, e]; rfl
theorem absD_neg (n : Int) : absD (-n) = absD n := by rw [absD, absD, Int.natAbs_neg]
theorem litE_of {k n : Int} {t : List UInt8} (h : 2 ≤ k ∧ k ≤ 4) : litE (k, t, n) = k := by
  show litO ⟨k, t, n, 0⟩ = k
  rw [litO, if_pos h]
/-- a literal of the kinds 2 to 4: its text from zero up, and with a sign -/
theorem lit_ok {k n : Int} {f : Int → List UInt8} {T : ByteArray} (hk : 2 ≤ k ∧ k ≤ 4) (hT : L T = if n < 0 then 45 :: f (-n) else f n) (hf : ∀ m, m = (if n < 0 then -n else n) → ∀ b ts, okN b → LexE b ts → LexE (f m ++ b) ((k, f m, m) :: ts)) :
    PcOK E nm ⟨T, if (2 ≤ k ∧ k ≤ 4) ∧ n < 0 then 6 else 7, decide (2 ≤ k ∧ k ≤ 4)⟩ [⟨k, n⟩] := by
  have hl : ∀ m, litE (k, f m, m) ≠ 0 := fun m => by rw [litE_of hk]; omega
  by_cases hn : n < 0
  · rw [if_pos hn] at hT hf
    rw [if_pos ⟨hk, hn⟩]
    refine ⟨[(7, [45], 0), (k, f (-n), -n)], false, ?_, Pz.ofUn (.inl rfl) (by simp) rfl (fun r hr => ?_) (fun _ => rfl), (fun h => by cases h), fun _ => rfl⟩
    · intro b ts hb h
      show LexE (L T ++ b) _
      rw [hT]
      exact (hf _ rfl b ts hb h).minus
    · have := okp_un_lit (E := E) (nm := nm) (z := 0) (r := r) (hl (-n))
      rw [litE_of hk, Int.neg_neg] at this
      exact this
  · rw [if_neg hn] at hT hf
    rw [if_neg (fun h => hn h.2)]
    refine ⟨[(k, f n, n)], true, ?_, Pz.ofAtom (by simp) ?_ ?_ ?_ (fun r hr => ?_) (fun h => by cases h), fun _ => decide_eq_true hk, fun _ => ?_⟩
    · intro b ts hb h
      show LexE (L T ++ b) _
      rw [hT]
      exact hf _ rfl b ts hb h
    · unfold atE; rw [hE_cons, decide_eq_false (by show ¬ k = 1; omega), Bool.false_and]
    · unfold atE; rw [hE_cons, decide_eq_false (by show ¬ k = 7; omega), Bool.false_and]
    · unfold atE; rw [hE_cons, decide_eq_false (by show ¬ k = 1; omega), Bool.false_and]
    · have := okp_lit (E := E) (nm := nm) (r := r) (hl n)
      rw [litE_of hk] at this
      exact this
    · unfold atE; rw [hE_cons, decide_eq_false (by show ¬ k = 1; omega), Bool.false_and]
theorem vfmt_lit {o n : Int} (ho : 1 ≤ o ∧ o ≤ 5) (h : (vfmtS o 0 n []).2 = 0) : (vfmtS o 0 n []).1 = vtext o 0 n [] ∧ (bndV o 0 []).1 ≤ n ∧ n ≤ (bndV o 0 []).2 := by
  unfold vfmtS at h ⊢
  have hv : vtB o 0 [] = true := by
    rw [vtB_low (by omega)]
    simp; omega
  rw [hv, if_pos rfl] at h ⊢
  cases hi : inB n o 0 []
  · rw [hi] at h; cases h
  · unfold inB bndS at hi
    rw [hv] at hi
    simp only [if_true, Bool.and_eq_true, decide_eq_true_eq] at hi
    exact ⟨by rw [if_pos rfl], hi.1, hi.2⟩
theorem literal_ok {o n : Int} (ho : 1 ≤ o ∧ o ≤ 5) (h : (vfmtS o 0 n []).2 = 0) : PcOK E nm ⟨(vfmtS o 0 n []).1, if (2 ≤ o ∧ o ≤ 4) ∧ n < 0 then 6 else 7, decide (2 ≤ o ∧ o ≤ 4)⟩ [⟨o, n⟩] := by
  obtain ⟨e, h1, h2⟩ := vfmt_lit ho h
  rw [e]
  rcases (show o = 1 ∨ o = 2 ∨ o = 3 ∨ o = 4 ∨ o = 5 by omega) with rfl | rfl | rfl | rfl | rfl
  · have hn : n = 0 ∨ n = 1 := by
      have h1' : (0 : Int) ≤ n := h1
      have h2' : n ≤ (1 : Int) := h2
      omega
    rcases hn with rfl | rfl
    · exact ⟨[(1, [102, 97, 108, 115, 101], 0)], false, Lx.word (by decide) (by decide) (by decide), Pz.ofAtom (by simp) rfl rfl rfl (fun r _ => okp_false) (fun _ => rfl), (fun h => by cases h), fun _ => rfl⟩
    · exact ⟨[(1, [116, 114, 117, 101], 0)], false, Lx.word (by decide) (by decide) (by decide), Pz.ofAtom (by simp) rfl rfl rfl (fun r _ => okp_true) (fun _ => rfl), (fun h => by cases h), fun _ => rfl⟩
  · have h1' : (-1000000000000 : Int) ≤ n := h1
    have h2' : n ≤ (1000000000000 : Int) := h2
    refine lit_ok (f := absD) (by decide) ?_ (fun m hm b ts hb hl => LexE.int (by rw [hm]; split <;> omega) (by rw [hm]; split <;> omega) hb hl)
    show L (numS n) = _
    by_cases hn : n < 0
    · rw [if_pos hn, numS_neg hn, L_bs, absD_neg]
    · rw [if_neg hn, numS_pos hn, L_bs]
  · have h1' : (-1000000000000000 : Int) ≤ n := h1
    have h2' : n ≤ (1000000000000000 : Int) := h2
    refine lit_ok (f := fun m => fixT m 2) (by decide) ?_ (fun m hm b ts hb hl => LexE.money (by rw [hm]; split <;> omega) (by rw [hm]; split <;> omega) hb hl)
    show L (fixS n 2) = _
    rw [fixS, if_neg (by decide), L_bs]
    by_cases hn : n < 0
    · rw [if_pos hn]; exact fixT_neg hn 2
    · rw [if_neg hn]; rfl
  · have h1' : (-1000000000 : Int) ≤ n := h1
    have h2' : n ≤ (1000000000 : Int) := h2
    refine lit_ok (f := fun m => fixT m 4 ++ [37]) (by decide) ?_ (fun m hm b ts hb hl => LexE.rate (by rw [hm]; split <;> omega) (by rw [hm]; split <;> omega) hb hl)
    show L (fixS n 4 ++ ⟨#[37]⟩) = _
    rw [L_append, fixS, if_neg (by decide), L_bs, L1]
    by_cases hn : n < 0
    · rw [if_pos hn]
      show fixT n 4 ++ _ = _
      rw [fixT_neg hn 4]; rfl
    · rw [if_neg hn]; rfl
  · have h1' : (0 : Int) ≤ n := h1
    have h2' : n ≤ (109572 : Int) := h2
    refine ⟨[(5, L (dateS n), n)], false, fun b ts hb hl => LexE.date (isDate_iff.2 ⟨h1', h2'⟩) hb hl, Pz.ofAtom (by simp) ?_ ?_ ?_ (fun r _ => okp_date) (fun _ => rfl), (fun h => by cases h), fun _ => ?_⟩
    all_goals (unfold atE; rw [hE_cons]; rfl)
end
end Go.Proofs.YtdnjfpmngnkcfaaGreatDoor
/- The parser of expressions in plain Lean: the numbers of the nodes and the places of errors stay within bounds. Tokens too. -/
namespace Go.Proofs.YtdnjfpmngnkcfaaGreatDoor

/-- a state with small numbers and places within the text -/
structure GS (E : Int) (s : PS) : Prop where
  ts : ∀ t ∈ s.ts, (-1000000000000000000 ≤ t.n ∧ t.n ≤ 1000000000000000000) ∧ 0 ≤ t.o ∧ t.o ≤ E
  ns : ∀ x ∈ s.ns, -1000000000000000000 ≤ x.n ∧ x.n ≤ 1000000000000000000
  off : 0 ≤ s.off ∧ s.off ≤ E
  e0 : 0 ≤ E
/-- lists of names that are not too long -/
structure NmB (nm : Nm) : Prop where
  el : nm.en.length ≤ 1000000
  ml : ∀ l ∈ nm.ms, l.length ≤ 1000000
  tl : nm.tb.length ≤ 1000000
  il : nm.ins.length ≤ 1000000
  dl : nm.ds.length ≤ 1000000
  mdl : nm.md.length ≤ 1000000
def gsR (E : Int) (r : PR) : Prop := ∀ b s, r = some (b, s) → GS E s
section
variable {E : Int} {nm : Nm}
theorem GS.adv {s : PS} (h : GS E s) (k : Nat) : GS E (s.adv k) := ⟨fun t ht => h.ts t (List.mem_of_mem_drop ht), h.ns, h.off, h.e0⟩
theorem GS.em {s : PS} (h : GS E s) (o : Int) {n : Int} (hn : -1000000000000000000 ≤ n ∧ n ≤ 1000000000000000000) : GS E (s.em o n) :=
  ⟨h.ts, fun x hx => by
    rcases List.mem_append.1 hx with hx | hx
    · exact h.ns x hx
    · rw [List.mem_singleton.1 hx]; exact hn, h.off, h.e0⟩
theorem GS.bad {s : PS} (h : GS E s) (c : Int) : GS E (s.bad E c) := by
  refine ⟨h.ts, h.ns, ?_, h.e0⟩
  show 0 ≤ offE E s.ts ∧ offE E s.ts ≤ E
  cases hs : s.ts with
  | nil => exact ⟨h.e0, Int.le_refl _⟩
  | cons t r => exact (h.ts t (by rw [hs]; simp)).2
theorem GS.hd {s : PS} (h : GS E s) (k : Nat) : -1000000000000000000 ≤ (hdT s.ts k).n ∧ (hdT s.ts k).n ≤ 1000000000000000000 := by
  unfold hdT
  cases hx : s.ts[k]? with
  | none => decide
  | some t => exact (h.ts t (List.mem_of_getElem? hx)).1
theorem gs_some {b : Bool} {s : PS} (h : GS E s) : gsR E (some (b, s)) := by
  intro b' s' e
  have := Option.some.inj e
  rw [← show s = s' from congrArg Prod.snd this]
  exact h
theorem gs_then {r : PR} {f : PS → PR} (h : gsR E r) (hf : ∀ s, GS E s → gsR E (f s)) : gsR E (thenP r f) := by
  intro b s e
  match r, h, e with
  | none, _, e => cases e
  | some (true, s1), h, e => exact hf s1 (h _ _ rfl) b s e
  | some (false, s1), h, e =>
    have := Option.some.inj e
    rw [← show s1 = s from congrArg Prod.snd this]
    exact h _ _ rfl
theorem gs_exp {s : PS} (h : GS E s) (k : Int) (t : List UInt8) : gsR E (expP E k t s) := by
  unfold expP
  split
  · exact gs_some (h.adv 1)
  · exact gs_some (h.bad 2)
theorem gs_ite {c : Prop} [Decidable c] {a b : PR} (h1 : gsR E a) (h2 : gsR E b) : gsR E (if c then a else b) := by
  split
  · exact h1
  · exact h2
theorem gs_find {l : List ByteArray} (hl : l.length ≤ 1000000) {s : PS} (h : GS E s) {f : Nat → PS → PR} (hf : ∀ i s', i < 1000000 → GS E s' → gsR E (f i s')) : gsR E (withR (findR E l s) f) := by
  unfold findR
  split
  · exact gs_some (h.bad 2)
  · split
    · exact gs_some (h.bad 6)
    · rename_i i hi
      have := findS_lt l 0 i hi
      exact hf i _ (by omega) (h.adv 1)
theorem gs_mode {s : PS} (h : GS E s) {f : Int → PS → PR} (hf : ∀ i s', 0 ≤ i → i ≤ 5 → GS E s' → gsR E (f i s')) : gsR E (withR (modeR E s) f) := by
  unfold modeR
  split
  · exact gs_some (h.bad 2)
  · rename_i hk
    have h0 : 0 ≤ modeO (hdT s.ts 0).t := by
      rcases Int.lt_or_le (modeO (hdT s.ts 0).t) 0 with h | h
      · exact absurd (.inr h) hk
      · exact h
    exact hf _ _ h0 (by have := (modeO_word h0).2; omega) (h.adv 1)
theorem gs_em {s : PS} (h : GS E s) (o : Int) {n : Int} (hn : -1000000000000000000 ≤ n ∧ n ≤ 1000000000000000000) : gsR E (emP o n s) := gs_some (h.em o hn)
theorem parR_gs (hN : NmB nm) : ∀ (f : Nat) (nt : NT) (s : PS), GS E s → gsR E (parR E nm f nt s)
  | 0, nt, s, _ => fun b s' e => by rw [parR] at e; cases e
  | f + 1, .expr, s, h => by
    rw [parR]
    exact gs_ite (gs_then (parR_gs hN f .expr _ (h.adv 1)) fun s1 h1 => gs_then (gs_exp h1 1 _) fun s2 h2 => gs_then (parR_gs hN f .expr s2 h2) fun s3 h3 => gs_then (gs_exp h3 1 _) fun s4 h4 => gs_then (parR_gs hN f .expr s4 h4) fun s5 h5 => gs_em h5 26 (by decide))
      (parR_gs hN f (.bin 1) s h)
  | f + 1, .bin c, s, h => by
    rw [parR]
    exact gs_then (parR_gs hN f .un s h) fun s1 h1 => parR_gs hN f (.loop c 5) s1 h1
  | f + 1, .loop c g, s, h => by
    rw [parR]
    exact gs_ite (gs_some h) (gs_then (parR_gs hN f (.bin _) _ (h.adv 1)) fun s1 h1 => parR_gs hN f (.loop c _) _ (h1.em _ (by decide)))
  | f + 1, .un, s, h => by
    rw [parR]
    have hd := h.hd 1
    exact gs_ite (gs_ite (gs_em (h.adv 2) _ (by omega)) (gs_then (parR_gs hN f .un _ (h.adv 1)) fun s1 h1 => gs_em h1 10 (by decide)))
      (gs_ite (gs_then (parR_gs hN f .un _ (h.adv 1)) fun s1 h1 => gs_em h1 25 (by decide)) (parR_gs hN f .atom s h))
  | f + 1, .atom, s, h => by
    rw [parR]
    have hd := h.hd 0
    refine gs_ite (gs_em (h.adv 1) _ hd) (gs_ite (gs_em (h.adv 1) _ hd) (gs_ite (gs_then (parR_gs hN f .expr _ (h.adv 1)) fun s1 h1 => gs_exp h1 7 _) (gs_ite (gs_some (h.bad 2)) (gs_ite (gs_em (h.adv 1) _ (by decide)) (gs_ite (gs_em (h.adv 1) _ (by decide)) (gs_ite (gs_em (h.adv 1) _ (by decide))
      (gs_ite (gs_then (gs_exp (h.adv 1) 7 _) fun s1 h1 => gs_then (parR_gs hN f (.call _) s1 h1) fun s2 h2 => gs_exp h2 7 _) ?_)))))))
    unfold nameR
    refine gs_ite (gs_some (h.bad 2)) (gs_ite ?_ ?_)
    · split
      · exact gs_some (h.bad 6)
      · rename_i i hi
        have := findS_lt nm.en 0 i hi
        have := hN.el
        refine gs_find ?_ (h.adv 2) fun m s1 hm h1 => gs_em h1 6 (by omega)
        cases hg : nm.ms[i]? with
        | none => decide
        | some l => exact hN.ml l (List.mem_of_getElem? hg)
    · split
      · rename_i i hi
        have := findS_lt nm.ins 0 i hi
        have := hN.il
        exact gs_em (h.adv 1) 7 (by omega)
      · exact gs_find hN.dl h fun d s1 hd h1 => gs_em h1 8 (by omega)
  | f + 1, .call op, s, h => by
    rw [parR]
    refine gs_ite (gs_em h 35 (by decide)) (gs_ite (gs_find hN.mdl h fun d s1 hd h1 => gs_em h1 op (by omega)) (gs_ite ?_ ?_))
    · exact gs_find hN.tl h fun i s1 hi h1 => gs_then (gs_exp h1 7 _) fun s2 h2 => gs_then (parR_gs hN f .expr s2 h2) fun s3 h3 =>
        gs_ite (gs_em h3 33 (by omega)) (gs_then (gs_exp h3 7 _) fun s4 h4 => gs_mode h4 fun m s5 m0 m5 h5 => gs_em h5 34 (by omega))
    · exact gs_then (parR_gs hN f .expr s h) fun s1 h1 => gs_ite (gs_em h1 op (by decide)) (gs_then (gs_exp h1 7 _) fun s2 h2 => gs_then (parR_gs hN f .expr s2 h2) fun s3 h3 =>
        gs_ite (gs_then (gs_exp h3 7 _) fun s4 h4 => gs_mode h4 fun m s5 m0 m5 h5 => gs_em h5 op (by omega)) (gs_em h3 op (by decide)))
end
/-! tokens -/
theorem dparS_bd (s : ByteArray) (h : (dparS s).2 = 0) : 0 ≤ (dparS s).1 ∧ (dparS s).1 ≤ 109572 := by
  have := (dparS_canon (s := s) (n := (dparS s).1) (Prod.ext rfl h)).1
  exact isDate_iff.1 this
theorem lxVal_bd {k : Int} {t : List UInt8} (h : (lxVal k t).2 = 0) : 0 ≤ (lxVal k t).1 ∧ (lxVal k t).1 ≤ 1000000000000000 := by
  unfold lxVal at h ⊢
  by_cases h5 : k = 5
  · rw [if_pos h5] at h ⊢
    by_cases hd : (dparS (bs t)).2 = 0
    · rw [if_pos hd] at h ⊢
      have := dparS_bd _ hd
      omega
    · rw [if_neg hd] at h; cases h
  · rw [if_neg h5] at h ⊢
    by_cases hm : mostK k < digsN t
    · rw [if_pos hm] at h; cases h
    · rw [if_neg hm]
      have : mostK k ≤ 1000000000000000 := by unfold mostK; split; decide; split <;> decide
      show 0 ≤ ((digsN t : Nat) : Int) ∧ ((digsN t : Nat) : Int) ≤ _
      omega
theorem lxScan_n {l : List UInt8} (h : (lxScan l).code = 0) : 0 ≤ (lxScan l).n ∧ (lxScan l).n ≤ 1000000000000000 := by
  cases l with
  | nil => cases h
  | cons c r =>
    rw [lxScan] at h ⊢
    split at h
    · rename_i h1; rw [if_pos h1]; decide
    · rename_i h1
      rw [if_neg h1]
      split at h
      · rename_i h2
        rw [if_pos h2]
        unfold lxName at h ⊢
        split
        · decide
        · exact ⟨Int.le_refl _, by show (0 : Int) ≤ _; decide⟩
      · rename_i h2
        rw [if_neg h2]
        split at h
        · rename_i h3
          rw [if_pos h3]
          obtain ⟨e, _, _, hv⟩ := lxNum_len h
          rw [e]
          exact lxVal_bd hv
        · rename_i h3
          rw [if_neg h3]
          split at h
          · rename_i h4
            rw [if_pos h4]
            unfold lxStr
            repeat' split
            all_goals exact ⟨Int.le_refl _, by show (0 : Int) ≤ _; decide⟩
          · rename_i h4
            rw [if_neg h4, lxSym]
            repeat' split
            all_goals exact ⟨Int.le_refl _, by show (0 : Int) ≤ _; decide⟩
theorem lexF_n : ∀ (f : Nat) (l : List UInt8) (o : Nat), ∀ t ∈ (lexF f l o).1, 0 ≤ t.n ∧ t.n ≤ 1000000000000000
  | 0, l, o, t, ht => by rw [lexF] at ht; cases ht
  | f + 1, l, o, t, ht => by
    rw [lexF] at ht
    split at ht
    · cases ht
    · split at ht
      · rename_i hc
        split at ht
        · rcases List.mem_cons.1 ht with rfl | ht
          · exact lxScan_n hc
          · exact lexF_n f _ _ t ht
        · exact lexF_n f _ _ t ht
      · cases ht
/-- the tokens of a text: their number, their sizes, their numbers, their places -/
theorem tokR_bd {l : List UInt8} (h : (tokR l).2.2 = 0) : l.length ≤ 65536 ∧ (tokR l).1.length ≤ 65537 ∧ ∀ t ∈ (tokR l).1, t.t.length ≤ 65536 ∧ (0 ≤ t.n ∧ t.n ≤ 1000000000000000) ∧ 0 ≤ t.o ∧ t.o ≤ l.length := by
  unfold tokR at h ⊢
  by_cases hb : 65536 < l.length
  · rw [if_pos hb] at h; cases h
  · rw [if_neg hb] at h ⊢
    have h0 : l = l.drop 0 := rfl
    have ht := lexF_toks l (l.length + 1) 0 h
    refine ⟨by omega, ?_, fun t hm => ?_⟩
    · -- the places rise
      have hr : ∀ (i : Nat) t, (lexF (l.length + 1) l 0).1[i]? = some t → (i : Int) ≤ t.o ∧ t.o ≤ l.length := by
        intro i
        induction i with
        | zero =>
          intro t hi
          obtain ⟨⟨p, hp, hq, _⟩, h1, _⟩ := ht 0 t hi
          omega
        | succ i ih =>
          intro t hi
          obtain ⟨⟨p, hp, hq, _⟩, h1, h2⟩ := ht (i + 1) t hi
          have hlt := (List.getElem?_eq_some_iff.1 hi).1
          have hg : (lexF (l.length + 1) (l.drop 0) 0).1[i + 1 - 1]? = some ((lexF (l.length + 1) l 0).1[i]'(by omega)) := List.getElem?_eq_getElem (l := (lexF (l.length + 1) l 0).1) (by omega)
          have h3 := h2 _ (by omega) hg
          have h4 := ih _ (List.getElem?_eq_getElem (by omega))
          omega
      rcases Nat.lt_or_ge l.length ((lexF (l.length + 1) l 0).1.length - 1) with hlt | hge
      · have := hr ((lexF (l.length + 1) l 0).1.length - 1) _ (List.getElem?_eq_getElem (by omega))
        omega
      · omega
    · obtain ⟨i, hi⟩ := List.getElem?_of_mem hm
      obtain ⟨⟨p, hp, hq, _⟩, h1, _⟩ := ht i t hi
      exact ⟨by omega, lexF_n _ _ _ t hm, by omega, by omega⟩
end Go.Proofs.YtdnjfpmngnkcfaaGreatDoor
/- An expression's text is read back as the expression. No program stands here. -/
namespace Go.Proofs.YtdnjfpmngnkcfaaGreatDoor

theorem nameAt_sizeK {K : Nat} (l : List ByteArray) (i : Int) (pre post : ByteArray) (h : (l[i.toNat]?.getD ⟨#[]⟩).size ≤ K) : (nameAt l i pre post).1.t.size ≤ pre.size + K + post.size := by
  unfold nameAt
  split
  · exact Nat.zero_le _
  · show (pre ++ _ ++ post).size ≤ _
    rw [ByteArray.size_append, ByteArray.size_append]; omega
set_option maxHeartbeats 2000000 in
theorem rend_sizeK {K : Nat} (hK : 10 ≤ K) (nm : Nm) (x : Nd) (hs : ∀ s ∈ refN nm x, s.size ≤ K) (hvf : (vfmtS x.o 0 x.n []).1.size ≤ K) (a : List Pc) : (rend nm x a).1.t.size ≤ (a.map fun p => p.t.size).sum + (2 * K + 200) := by
  have h3 := arg_sum a
  have hm := modeW_sizeX x.n
  have hm8 := modeW_sizeX (x.n % 8)
  have hc := callW_size x.o
  have ho := opSg_size x.o
  have hw0 := fun c => withS_sizeX (argP a 0) c
  have hw1 := fun c => withS_sizeX (argP a 1) c
  change _ ≤ szP a + (2 * K + 200)
  generalize szP a = z at *
  generalize hp0 : (argP a 0).t.size = z0 at *
  generalize hp1 : (argP a 1).t.size = z1 at *
  generalize hp2 : (argP a 2).t.size = z2 at *
  by_cases h1 : 1 ≤ x.o ∧ x.o ≤ 5
  · rw [rend, if_pos h1]
    split
    · have := hvf
      show (vfmtS x.o 0 x.n []).1.size ≤ _
      omega
    · exact Nat.zero_le _
  by_cases h6 : x.o = 6
  · rw [rend, if_neg h1, if_pos h6]
    unfold refN at hs
    rw [if_pos h6] at hs
    split
    · exact Nat.zero_le _
    · have e1 := hs _ (by simp : nm.en[(x.n / 16).toNat]?.getD ⟨#[]⟩ ∈ _)
      have e2 := hs _ (by simp : (nm.ms[(x.n / 16).toNat]?.getD [])[(x.n % 16).toNat]?.getD ⟨#[]⟩ ∈ _)
      have := nameAt_sizeK (nm.ms[(x.n / 16).toNat]?.getD []) (x.n % 16) (nm.en[(x.n / 16).toNat]?.getD ⟨#[]⟩ ++ ⟨#[58]⟩) ⟨#[]⟩ e2
      rw [ByteArray.size_append] at this
      have e3 : (⟨#[58]⟩ : ByteArray).size = 1 := rfl
      have e4 : (⟨#[]⟩ : ByteArray).size = 0 := rfl
      omega
  by_cases h7 : x.o = 7
  · rw [rend, if_neg h1, if_neg h6, if_pos h7]
    unfold refN at hs
    rw [if_neg h6, if_pos h7] at hs
    have e2 := hs _ (List.mem_singleton.2 rfl)
    have := nameAt_sizeK nm.ins x.n ⟨#[]⟩ ⟨#[]⟩ e2
    have e4 : (⟨#[]⟩ : ByteArray).size = 0 := rfl
    omega
  by_cases h8 : x.o = 8
  · rw [rend, if_neg h1, if_neg h6, if_neg h7, if_pos h8]
    unfold refN at hs
    rw [if_neg h6, if_neg h7, if_pos h8] at hs
    have e2 := hs _ (List.mem_singleton.2 rfl)
    have := nameAt_sizeK nm.ds x.n ⟨#[]⟩ ⟨#[]⟩ e2
    have e4 : (⟨#[]⟩ : ByteArray).size = 0 := rfl
    omega
  by_cases h36 : 36 ≤ x.o ∧ x.o ≤ 39
  · rw [rend, if_neg h1, if_neg h6, if_neg h7, if_neg h8, if_pos h36]
    unfold refN at hs
    rw [if_neg h6, if_neg h7, if_neg h8, if_neg (by omega), if_pos h36] at hs
    have e2 := hs _ (List.mem_singleton.2 rfl)
    have := nameAt_sizeK nm.md x.n (callW x.o ++ ⟨#[40]⟩) ⟨#[41]⟩ e2
    rw [ByteArray.size_append] at this
    have e3 : (⟨#[40]⟩ : ByteArray).size = 1 := rfl
    have e4 : (⟨#[41]⟩ : ByteArray).size = 1 := rfl
    omega
  have ht : (x.o = 33 ∨ x.o = 34) → (nm.tb[(tabI x).toNat]?.getD ⟨#[]⟩).size ≤ K := fun h => by
    unfold refN at hs
    rw [if_neg h6, if_neg h7, if_neg h8, if_pos h] at hs
    exact hs _ (List.mem_singleton.2 rfl)
  rw [rend, if_neg h1, if_neg h6, if_neg h7, if_neg h8, if_neg h36]
  have k1 : ∀ u : UInt8, (⟨#[u]⟩ : ByteArray).size = 1 := fun _ => rfl
  have k2 : ∀ u v : UInt8, (⟨#[u, v]⟩ : ByteArray).size = 2 := fun _ _ => rfl
  have k3 : (⟨#[105, 102, 32]⟩ : ByteArray).size = 3 := rfl
  have k4 : (⟨#[32, 116, 104, 101, 110, 32]⟩ : ByteArray).size = 6 := rfl
  have k5 : (⟨#[32, 101, 108, 115, 101, 32]⟩ : ByteArray).size = 6 := rfl
  have k6 : (⟨#[110, 111, 116, 32]⟩ : ByteArray).size = 4 := rfl
  have q0 := hw0 6
  have q1 := hw0 (if (opSg x.o).2 = 3 then 4 else (opSg x.o).2)
  have q2 := hw1 ((opSg x.o).2 + 1)
  split
  · rename_i hh
    have := ht hh
    split
    · exact Nat.zero_le _
    · split
      · split
        · exact Nat.zero_le _
        · simp only [atomP, ByteArray.size_append, k1, k2, hp0]; omega
      · simp only [atomP, ByteArray.size_append, k1, k2, hp0]; omega
  split
  · show 5 ≤ _; omega
  split
  · show 7 ≤ _; omega
  split
  · simp only [atomP, ByteArray.size_append, k1, hp0]; omega
  split
  · simp only [atomP, ByteArray.size_append, k1, k2, hp0, hp1]; omega
  split
  · split
    · exact Nat.zero_le _
    · simp only [atomP, ByteArray.size_append, k1, k2, hp0, hp1]; omega
  split
  · simp only [ByteArray.size_append, k3, k4, k5, hp0, hp1, hp2]; omega
  split
  · simp only [ByteArray.size_append, k6]; omega
  split
  · split
    · simp only [ByteArray.size_append, k1, hp0]; omega
    · simp only [ByteArray.size_append, k1]; omega
  · simp only [ByteArray.size_append, k1]; omega
/-- pieces and the nodes that each stands for -/
def Stk (E : Int) (nm : Nm) : List Pc → List (List Nd) → Prop
  | [], [] => True
  | p :: r, n :: s => PcOK E nm p n ∧ Stk E nm r s
  | _, _ => False
section
variable {E : Int} {nm : Nm}
theorem Stk.app : ∀ {a b : List Pc} {n m : List (List Nd)}, Stk E nm a n → Stk E nm b m → Stk E nm (a ++ b) (n ++ m)
  | [], _, [], _, _, h => h
  | _ :: _, _, _ :: _, _, h, k => ⟨h.1, Stk.app h.2 k⟩
  | [], _, _ :: _, _, h, _ => h.elim
  | _ :: _, _, [], _, h, _ => h.elim
theorem Stk.cut : ∀ (m : Nat) {a : List Pc} {n : List (List Nd)}, Stk E nm a n → Stk E nm (a.take m) (n.take m) ∧ Stk E nm (a.drop m) (n.drop m)
  | 0, _, _, h => ⟨trivial, h⟩
  | _ + 1, [], [], _ => ⟨trivial, trivial⟩
  | m + 1, _ :: _, _ :: _, h => ⟨⟨h.1, (Stk.cut m h.2).1⟩, (Stk.cut m h.2).2⟩
  | _ + 1, [], _ :: _, h => h.elim
  | _ + 1, _ :: _, [], h => h.elim
theorem arS_zeroX {o : Int} (h : arS o = 0) : (o = 1 ∨ o = 2 ∨ o = 3 ∨ o = 4 ∨ o = 5) ∨ (o = 6 ∨ o = 7 ∨ o = 8 ∨ o = 36 ∨ o = 37 ∨ o = 38 ∨ o = 39) ∨ o = 9 ∨ o = 35 := arS_zero h
theorem n_zero {x : Nd} (h : ¬ (x.n ≠ 0 ∧ usesB x.o = false)) (hu : usesB x.o = false) : x.n = 0 := by
  by_cases h0 : x.n = 0
  · exact h0
  · exact absurd ⟨h0, hu⟩ h
theorem callW_ne {o : Int} (h : o = 14 ∨ o = 15 ∨ o = 16 ∨ o = 17 ∨ o = 18 ∨ o = 27 ∨ o = 28 ∨ o = 29 ∨ o = 30 ∨ o = 31 ∨ o = 32 ∨ o = 33 ∨ o = 34 ∨ o = 35 ∨ o = 36 ∨ o = 37 ∨ o = 38 ∨ o = 39) : callW o ≠ ⟨#[]⟩ := by
  rcases h with rfl | rfl | rfl | rfl | rfl | rfl | rfl | rfl | rfl | rfl | rfl | rfl | rfl | rfl | rfl | rfl | rfl | rfl <;> decide
theorem Lcs : L ⟨#[44, 32]⟩ = [44, 32] := rfl
/-- a comma and a blank -/
theorem lex_comma {a b : List UInt8} {tk ts : List ET} (h : Lx a tk) (hb : LexE b ts) : LexE (a ++ 44 :: 32 :: b) (tk ++ com :: ts) := h _ _ (okN_co _) hb.sp.co
theorem lex_close {a b : List UInt8} {tk ts : List ET} (h : Lx a tk) (hb : LexE b ts) : LexE (a ++ 41 :: b) (tk ++ cls :: ts) := h _ _ (okN_cl _) hb.cl
theorem id_comma {t b : List UInt8} {ts : List ET} (h : idB t = true) (hb : LexE b ts) : LexE (t ++ 44 :: 32 :: b) ((1, t, 0) :: com :: ts) := lex_comma (id_lx h) hb
/-- names of members, of tables: from a place in the list to what is read -/
theorem rend_zero (hD : Dis nm) {o n : Int} (ho : arS o = 0) (hu : ¬ (n ≠ 0 ∧ usesB o = false)) (h : (rend nm ⟨o, n⟩ []).2 = 0) : PcOK E nm (rend nm ⟨o, n⟩ []).1 [⟨o, n⟩] := by
  rcases arS_zeroX ho with h5 | hn | rfl | rfl
  · have h15 : 1 ≤ o ∧ o ≤ 5 := by omega
    have e : rend nm ⟨o, n⟩ [] = if (vfmtS o 0 n []).2 = 0 then (⟨(vfmtS o 0 n []).1, if (2 ≤ o ∧ o ≤ 4) ∧ n < 0 then 6 else 7, decide (2 ≤ o ∧ o ≤ 4)⟩, 0) else (pc0, 3) := by rw [rend, if_pos h15]
    rw [e] at h ⊢
    by_cases hv : (vfmtS o 0 n []).2 = 0
    · rw [if_pos hv]
      exact literal_ok h15 hv
    · rw [if_neg hv] at h; cases h
  · rcases hn with rfl | rfl | rfl | h36
    · have e : rend nm ⟨6, n⟩ [] = if n < 0 ∨ (nm.ms.length : Int) ≤ n / 16 then (pc0, 6) else nameAt (nm.ms[(n / 16).toNat]?.getD []) (n % 16) (nm.en[(n / 16).toNat]?.getD ⟨#[]⟩ ++ ⟨#[58]⟩) ⟨#[]⟩ := rfl
      rw [e] at h ⊢
      by_cases hout : n < 0 ∨ (nm.ms.length : Int) ≤ n / 16
      · rw [if_pos hout] at h; cases h
      · rw [if_neg hout] at h ⊢
        obtain ⟨i, hi⟩ : ∃ i : Nat, n / 16 = i := ⟨(n / 16).toNat, by omega⟩
        rw [hi, Int.toNat_natCast] at h ⊢
        have hlt : i < nm.ms.length := by omega
        have hlt2 : i < nm.en.length := by rw [hD.el]; exact hlt
        have hm := List.getElem?_eq_getElem hlt
        have he := List.getElem?_eq_getElem hlt2
        generalize nm.ms[i] = l at *
        generalize nm.en[i] = x at *
        rw [hm, he, Option.getD_some, Option.getD_some] at h ⊢
        obtain ⟨j, s, hj, hs, e2⟩ := nameAt_ok h
        rw [e2]
        have hl := hD.ms l (List.mem_of_getElem? hm)
        have hids := hl.1 s (List.mem_of_getElem? hs)
        have hidx := hD.en.1 x (List.mem_of_getElem? he)
        obtain ⟨a1, a2, a3, a4, a5⟩ := id_lex hidx
        have hT : L (atomP (x ++ ⟨#[58]⟩ ++ s ++ ⟨#[]⟩)).t = L x ++ 58 :: L s := by
          show L (x ++ ⟨#[58]⟩ ++ s ++ ⟨#[]⟩) = _
          rw [L_append, L_append, L_append, L1]
          show L x ++ [58] ++ L s ++ [] = _
          simp
        refine ⟨[(1, L x, 0), (7, [58], 0), (1, L s, 0)], false, ?_, Pz.word (r0 := [(7, [58], 0), (1, L s, 0)]) a4 (fun r _ => ?_), (fun h => by cases h), fun _ => at_word a4.2.1⟩
        · intro b ts hb hl
          rw [hT]
          have := LexE.word a1 a2 a3 (b := 58 :: (L s ++ b)) (.inr ⟨58, rfl, by decide⟩) (id_lx hids b ts hb hl).colon
          simpa using this
        · have := okp_enum (E := E) (nm := nm) (z := 0) (z1 := 0) (z2 := 0) (r := r) a4.1 a5 hidx (by rw [bs_L]; exact findS_nodup he hD.en.2) hids (by rw [bs_L, hm]; exact findS_nodup hs hl.2.1)
          rw [show (16 * (i : Int) + j) = n by omega] at this
          exact this
    · have e : rend nm ⟨7, n⟩ [] = nameAt nm.ins n ⟨#[]⟩ ⟨#[]⟩ := rfl
      rw [e] at h ⊢
      obtain ⟨j, s, rfl, hs, e2⟩ := nameAt_ok h
      rw [e2]
      exact name_ok (hD.io.1 s (List.mem_append_left _ (List.mem_of_getElem? hs))) (.inl ⟨j, findS_nodup hs (nodup_left hD.io.2), rfl⟩)
    · have e : rend nm ⟨8, n⟩ [] = nameAt nm.ds n ⟨#[]⟩ ⟨#[]⟩ := rfl
      rw [e] at h ⊢
      obtain ⟨j, s, rfl, hs, e2⟩ := nameAt_ok h
      rw [e2]
      exact name_ok (hD.io.1 s (List.mem_append_right _ (List.mem_of_getElem? hs))) (.inr ⟨findS_other hs hD.io.2, j, findS_nodup hs (nodup_right hD.io.2), rfl⟩)
    · have e : rend nm ⟨o, n⟩ [] = nameAt nm.md n (callW o ++ ⟨#[40]⟩) ⟨#[41]⟩ := by
        rw [rend, if_neg (show ¬ (1 ≤ o ∧ o ≤ 5) by omega), if_neg (show ¬ o = 6 by omega), if_neg (show ¬ o = 7 by omega), if_neg (show ¬ o = 8 by omega), if_pos (show 36 ≤ o ∧ o ≤ 39 by omega)]
      rw [e] at h ⊢
      obtain ⟨j, s, rfl, hs, e2⟩ := nameAt_ok h
      rw [e2]
      have hid := hD.md.1 s (List.mem_of_getElem? hs)
      refine call_ok (o := o) (B := L s) (a := [(1, L s, 0)]) (callW_ne (by omega)) ?_ (fun b ts hl => lex_close (id_lx hid) hl) (fun r => okp_member (by omega) hid (by rw [bs_L]; exact findS_nodup hs hD.md.2))
      rw [L_append, L_append, L_append, L1, L1]
      simp
  · obtain rfl : n = 0 := n_zero (x := ⟨9, n⟩) hu rfl
    exact ⟨[(1, [116, 111, 100, 97, 121], 0)], false, (Lx.word (by decide) (by decide) (by decide) : Lx [116, 111, 100, 97, 121] _), Pz.ofAtom (by simp) rfl rfl rfl (fun r _ => okp_today) (fun _ => rfl), (fun h => by cases h), fun _ => rfl⟩
  · obtain rfl : n = 0 := n_zero (x := ⟨35, n⟩) hu rfl
    exact call_ok (o := 35) (B := []) (a := []) (T := ⟨#[99, 111, 117, 110, 116, 40, 41]⟩) (callW_ne (by omega)) rfl (fun b ts hl => hl.cl) (fun r => okp_count)
theorem rend_one (hD : Dis nm) {o n : Int} {p : Pc} {ns : List Nd} (ho : arS o = 1) (hu : ¬ (n ≠ 0 ∧ usesB o = false)) (hp : PcOK E nm p ns) (h : (rend nm ⟨o, n⟩ [p]).2 = 0) : PcOK E nm (rend nm ⟨o, n⟩ [p]).1 (ns ++ [⟨o, n⟩]) := by
  rcases arS_one ho with hc | hc | rfl | rfl
  · obtain ⟨tk, l, h1, h2, h3, h4⟩ := hp
    have e : rend nm ⟨o, n⟩ [p] = (atomP (callW o ++ ⟨#[40]⟩ ++ p.t ++ ⟨#[41]⟩), 0) := by rcases hc with rfl | rfl <;> rfl
    have hn : n = 0 := n_zero (x := ⟨o, n⟩) hu (by rcases hc with rfl | rfl <;> rfl)
    subst hn
    rw [e]
    refine call_ok (o := o) (B := L p.t) (a := tk) (callW_ne (by omega)) ?_ (fun b ts hl => lex_close h1 hl) (fun r => okp_arg1 hc (h2.e (cls :: r) stop_close (rest_sym (by decide))))
    rw [L_append, L_append, L_append, L1, L1]
    simp
  · obtain ⟨tk, l, h1, h2, h3, h4⟩ := hp
    have hx := h2.e
    by_cases hout : tabI ⟨o, n⟩ < 0 ∨ (nm.tb.length : Int) ≤ tabI ⟨o, n⟩
    · exfalso
      have e : rend nm ⟨o, n⟩ [p] = (pc0, 6) := by
        rw [rend, if_neg (show ¬ (1 ≤ o ∧ o ≤ 5) by omega), if_neg (show ¬ o = 6 by omega), if_neg (show ¬ o = 7 by omega), if_neg (show ¬ o = 8 by omega), if_neg (show ¬ (36 ≤ o ∧ o ≤ 39) by omega), if_pos (show o = 33 ∨ o = 34 from hc), if_pos hout]
      rw [e] at h; cases h
    · obtain ⟨i, hi⟩ : ∃ i : Nat, tabI ⟨o, n⟩ = i := ⟨(tabI ⟨o, n⟩).toNat, by omega⟩
      have hlt : i < nm.tb.length := by omega
      have he := List.getElem?_eq_getElem hlt
      generalize nm.tb[i] = s at *
      have hid := hD.tb.1 s (List.mem_of_getElem? he)
      have hfi : findS (bs (L s)) nm.tb 0 = some i := by rw [bs_L]; exact findS_nodup he hD.tb.2
      rcases hc with rfl | rfl
      · have e : rend nm ⟨33, n⟩ [p] = (atomP (callW 33 ++ ⟨#[40]⟩ ++ s ++ ⟨#[44, 32]⟩ ++ p.t ++ ⟨#[41]⟩), 0) := by
          rw [rend, if_neg (by simp), if_neg (by simp), if_neg (by simp), if_neg (by simp), if_neg (by simp), if_pos (.inl rfl), if_neg hout, if_neg (by simp), hi, Int.toNat_natCast, he]; rfl
        have hn : n = i := hi
        subst hn
        rw [e]
        refine call_ok (o := 33) (B := L s ++ (44 :: 32 :: L p.t)) (a := (1, L s, 0) :: com :: tk) (callW_ne (by omega)) ?_ (fun b ts hl => ?_) (fun r => okp_tab hid hfi (hx (cls :: r) stop_close (rest_sym (by decide))))
        · simp only [L_append, L1, Lcs]
          simp
        · have := id_comma hid (lex_close h1 hl)
          simpa using this
      · by_cases hm : modeW (n % 8) = ⟨#[]⟩
        · exfalso
          have e : rend nm ⟨34, n⟩ [p] = (pc0, 3) := by
            rw [rend, if_neg (by simp), if_neg (by simp), if_neg (by simp), if_neg (by simp), if_neg (by simp), if_pos (.inr rfl), if_neg hout, if_pos rfl, if_pos hm]
          rw [e] at h; cases h
        · have e : rend nm ⟨34, n⟩ [p] = (atomP (callW 34 ++ ⟨#[40]⟩ ++ s ++ ⟨#[44, 32]⟩ ++ p.t ++ (⟨#[44, 32]⟩ ++ modeW (n % 8)) ++ ⟨#[41]⟩), 0) := by
            rw [rend, if_neg (by simp), if_neg (by simp), if_neg (by simp), if_neg (by simp), if_neg (by simp), if_pos (.inr rfl), if_neg hout, if_pos rfl, if_neg hm, hi, Int.toNat_natCast, he]; rfl
          obtain ⟨m1, m2, m3, m4, m5⟩ := modeW_lex hm
          have hmo := modeO_of (m := n % 8) ⟨m4, m5⟩
          have hn : n = 8 * (i : Int) + modeO (L (modeW (n % 8))) := by
            rw [hmo]
            have hi2 : (if (34 : Int) = 34 ∧ 0 < n then n / 8 else n) = (i : Int) := hi
            split at hi2 <;> omega
          rw [e]
          refine call_ok (o := 34) (B := L s ++ (44 :: 32 :: (L p.t ++ (44 :: 32 :: L (modeW (n % 8)))))) (a := (1, L s, 0) :: com :: (tk ++ [com, (1, L (modeW (n % 8)), 0)])) (callW_ne (by omega)) ?_ (fun b ts hl => ?_) (fun r => ?_)
          · simp only [L_append, L1, Lcs]
            simp
          · have := id_comma hid (lex_comma h1 (lex_close (Lx.word m1 m2 m3) hl))
            simpa using this
          · have := okp_band (E := E) (nm := nm) (z := 0) (z1 := 0) (z2 := 0) (z3 := 0) (b := cls :: r) hid hfi (by rw [hmo]; exact m4) (hx (com :: (1, L (modeW (n % 8)), 0) :: cls :: r) stop_comma (rest_sym (by decide)))
            rw [← hn] at this
            simpa [com] using this
  · obtain rfl : n = 0 := n_zero (x := ⟨25, n⟩) hu rfl
    obtain ⟨tk, k, l, h1, h2, h3, h4, h5⟩ := within_ok hp 6 (by decide)
    refine ⟨(1, [110, 111, 116], 0) :: tk, false, ?_, h2.not_ h3, (fun h => by cases h), fun _ => rfl⟩
    intro b ts hb hl
    have := LexE.word (t := [110, 111, 116]) (by decide) (by decide) (by decide) (b := 32 :: (L (withS p 6) ++ b)) (.inr ⟨32, rfl, by decide⟩) (h1 b ts hb hl).sp
    have e : L (rend nm ⟨25, 0⟩ [p]).1.t = [110, 111, 116, 32] ++ L (withS p 6) := by
      show L (⟨#[110, 111, 116, 32]⟩ ++ withS p 6) = _
      rw [L_append]; rfl
    rw [e]
    simpa using this
  · obtain rfl : n = 0 := n_zero (x := ⟨10, n⟩) hu rfl
    have hq : ∃ tk k, Lx (L (if p.b then ⟨#[40]⟩ ++ p.t ++ ⟨#[41]⟩ else withS p 6)) tk ∧ Pz E nm tk k false ns ∧ 6 ≤ k := by
      cases hb : p.b
      · obtain ⟨tk, k, l, h1, h2, h3, h4, h5⟩ := within_ok hp 6 (by decide)
        cases l
        · exact ⟨tk, k, h1, h2, h3⟩
        · have := h4 rfl
          rw [hb] at this; cases this
      · obtain ⟨tk, l, h1, h2, h3, h4⟩ := hp
        refine ⟨opn :: (tk ++ [cls]), 7, ?_, h2.paren, by decide⟩
        rw [if_pos rfl]
        have : L (⟨#[40]⟩ ++ p.t ++ ⟨#[41]⟩) = 40 :: (L p.t ++ [41]) := by rw [L_append, L_append, L1, L1]; simp
        rw [this]
        exact lex_paren h1
    obtain ⟨tk, k, h1, h2, h3⟩ := hq
    refine ⟨(7, [45], 0) :: tk, false, ?_, h2.neg_ h3, (fun h => by cases h), fun _ => rfl⟩
    intro b ts hb hl
    have := (h1 b ts hb hl).minus
    have e : L (rend nm ⟨10, 0⟩ [p]).1.t = 45 :: L (if p.b then ⟨#[40]⟩ ++ p.t ++ ⟨#[41]⟩ else withS p 6) := by
      show L (⟨#[45]⟩ ++ _) = _
      rw [L_append]; rfl
    rw [e]
    exact this
theorem rend_two {o n : Int} {p q : Pc} {n1 n2 : List Nd} (ho : arS o = 2) (hu : ¬ (n ≠ 0 ∧ usesB o = false)) (hp : PcOK E nm p n1) (hq : PcOK E nm q n2) (h : (rend nm ⟨o, n⟩ [p, q]).2 = 0) : PcOK E nm (rend nm ⟨o, n⟩ [p, q]).1 (n1 ++ (n2 ++ [⟨o, n⟩])) := by
  rcases arS_two ho with hc | hc | hc
  · have e : rend nm ⟨o, n⟩ [p, q] = (atomP (callW o ++ ⟨#[40]⟩ ++ p.t ++ ⟨#[44, 32]⟩ ++ q.t ++ ⟨#[41]⟩), 0) := by rcases hc with rfl | rfl | rfl | rfl | rfl | rfl <;> rfl
    have hn : n = 0 := n_zero (x := ⟨o, n⟩) hu (by rcases hc with rfl | rfl | rfl | rfl | rfl | rfl <;> rfl)
    subst hn
    rw [e]
    obtain ⟨t1, l1, a1, a2, a3, a4⟩ := hp
    obtain ⟨t2, l2, b1, b2, b3, b4⟩ := hq
    refine call_ok (o := o) (B := L p.t ++ (44 :: 32 :: L q.t)) (a := t1 ++ com :: t2) (callW_ne (by omega)) ?_ (fun b ts hl => ?_) (fun r => ?_)
    · simp only [L_append, L1, Lcs]
      simp
    · have := lex_comma a1 (lex_close b1 hl)
      simpa using this
    · have := okp_arg2 (E := E) (nm := nm) (z := 0) hc (a2.e (com :: (t2 ++ cls :: r)) stop_comma (rest_sym (by decide))) (b2.e (cls :: r) stop_close (rest_sym (by decide)))
      simpa using this
  · obtain ⟨t1, l1, a1, a2, a3, a4⟩ := hp
    obtain ⟨t2, l2, b1, b2, b3, b4⟩ := hq
    by_cases hm : modeW n = ⟨#[]⟩
    · exfalso
      have e : rend nm ⟨o, n⟩ [p, q] = (pc0, 3) := by
        rcases hc with rfl | rfl | rfl
        all_goals (rw [rend, if_neg (by simp), if_neg (by simp), if_neg (by simp), if_neg (by simp), if_neg (by simp), if_neg (by simp), if_neg (by simp), if_neg (by simp), if_neg (by simp), if_neg (by simp), if_pos (by simp), if_pos hm])
      rw [e] at h; cases h
    · have e : rend nm ⟨o, n⟩ [p, q] = (atomP (callW o ++ ⟨#[40]⟩ ++ p.t ++ ⟨#[44, 32]⟩ ++ q.t ++ ⟨#[44, 32]⟩ ++ modeW n ++ ⟨#[41]⟩), 0) := by
        rcases hc with rfl | rfl | rfl
        all_goals (rw [rend, if_neg (by simp), if_neg (by simp), if_neg (by simp), if_neg (by simp), if_neg (by simp), if_neg (by simp), if_neg (by simp), if_neg (by simp), if_neg (by simp), if_neg (by simp), if_pos (by simp), if_neg hm]; rfl)
      obtain ⟨m1, m2, m3, m4, m5⟩ := modeW_lex hm
      have hmo := modeO_of (m := n) ⟨m4, m5⟩
      rw [e]
      refine call_ok (o := o) (B := L p.t ++ (44 :: 32 :: (L q.t ++ (44 :: 32 :: L (modeW n))))) (a := t1 ++ com :: (t2 ++ [com, (1, L (modeW n), 0)])) (callW_ne (by omega)) ?_ (fun b ts hl => ?_) (fun r => ?_)
      · simp only [L_append, L1, Lcs]
        simp
      · have := lex_comma a1 (lex_comma b1 (lex_close (Lx.word m1 m2 m3) hl))
        simpa using this
      · have := okp_arg2m (E := E) (nm := nm) (z := 0) (z2 := 0) (z3 := 0) (m := L (modeW n)) (b := cls :: r) hc (by rw [hmo]; exact m4) (a2.e (com :: (t2 ++ com :: (1, L (modeW n), 0) :: cls :: r)) stop_comma (rest_sym (by decide))) (b2.e (com :: (1, L (modeW n), 0) :: cls :: r) stop_comma (rest_sym (by decide)))
        rw [hmo] at this
        simpa [com] using this
  · have hc' : o = 11 ∨ o = 12 ∨ o = 13 ∨ o = 19 ∨ o = 20 ∨ o = 21 ∨ o = 22 ∨ o = 23 ∨ o = 24 := hc
    have hn : n = 0 := n_zero (x := ⟨o, n⟩) hu (by rcases hc with rfl | rfl | rfl | rfl | rfl | rfl | rfl | rfl | rfl <;> rfl)
    subst hn
    have e : rend nm ⟨o, 0⟩ [p, q] = (⟨withS p (if (opSg o).2 = 3 then 4 else (opSg o).2) ++ ⟨#[32]⟩ ++ (opSg o).1 ++ ⟨#[32]⟩ ++ withS q ((opSg o).2 + 1), (opSg o).2, false⟩, 0) := by
      rcases hc with rfl | rfl | rfl | rfl | rfl | rfl | rfl | rfl | rfl <;> rfl
    obtain ⟨ks, s1, s2, s3, s4, s5⟩ := opSg_lex hc'
    obtain ⟨t1, k1, l1, a1, a2, a3, a4, a5⟩ := within_ok hp (if (opSg o).2 = 3 then 4 else (opSg o).2) (by split <;> omega)
    obtain ⟨t2, k2, l2, b1, b2, b3, b4, b5⟩ := within_ok hq ((opSg o).2 + 1) (by omega)
    have hif := a5 (by split <;> omega)
    rw [e]
    refine ⟨t1 ++ (ks, L (opSg o).1, 0) :: t2, false, ?_, a2.bin_ (k := (opSg o).2) s1 (by omega) ⟨s3, s4⟩ s2 (by split at a3 <;> omega) (fun h3 => by rw [if_pos h3] at a3; exact a3) b2 b3 hif, (fun h => by cases h), fun _ => by rw [atE_app a2.ne]; exact hif⟩
    intro b ts hb hl
    have := a1 (32 :: (L (opSg o).1 ++ 32 :: (L (withS q ((opSg o).2 + 1)) ++ b))) _ (okN_sp _) (s5 _ _ (b1 b ts hb hl)).sp
    simp only [L_append, L1]
    simpa using this
theorem rend_three {o n : Int} {p q v : Pc} {n1 n2 n3 : List Nd} (ho : arS o = 3) (hu : ¬ (n ≠ 0 ∧ usesB o = false)) (hp : PcOK E nm p n1) (hq : PcOK E nm q n2) (hv : PcOK E nm v n3) : PcOK E nm (rend nm ⟨o, n⟩ [p, q, v]).1 (n1 ++ (n2 ++ (n3 ++ [⟨o, n⟩]))) := by
  obtain rfl := arS_three ho
  obtain rfl : n = 0 := n_zero (x := ⟨26, n⟩) hu rfl
  obtain ⟨t1, l1, a1, a2, a3, a4⟩ := hp
  obtain ⟨t2, l2, b1, b2, b3, b4⟩ := hq
  obtain ⟨t3, l3, c1, c2, c3, c4⟩ := hv
  have e : L (rend nm ⟨26, 0⟩ [p, q, v]).1.t = [105, 102] ++ (32 :: (L p.t ++ (32 :: ([116, 104, 101, 110] ++ (32 :: (L q.t ++ (32 :: ([101, 108, 115, 101] ++ (32 :: L v.t))))))))) := by
    show L (⟨#[105, 102, 32]⟩ ++ p.t ++ ⟨#[32, 116, 104, 101, 110, 32]⟩ ++ q.t ++ ⟨#[32, 101, 108, 115, 101, 32]⟩ ++ v.t) = _
    simp only [L_append]
    show [105, 102, 32] ++ L p.t ++ [32, 116, 104, 101, 110, 32] ++ L q.t ++ [32, 101, 108, 115, 101, 32] ++ L v.t = _
    simp
  refine ⟨_, false, ?_, Pz.if_ a2 b2 c2, (fun h => by cases h), fun h => absurd h (by show ¬ (1 : Int) ≤ 0; decide)⟩
  intro b ts hb hl
  have w3 := LexE.word (t := [101, 108, 115, 101]) (by decide) (by decide) (by decide) (b := 32 :: (L v.t ++ b)) (.inr ⟨32, rfl, by decide⟩) (c1 b ts hb hl).sp
  have w2 := LexE.word (t := [116, 104, 101, 110]) (by decide) (by decide) (by decide) (b := 32 :: (L q.t ++ 32 :: ([101, 108, 115, 101] ++ 32 :: (L v.t ++ b)))) (.inr ⟨32, rfl, by decide⟩) (b1 _ _ (okN_sp _) w3.sp).sp
  have w1 := LexE.word (t := [105, 102]) (by decide) (by decide) (by decide) (b := 32 :: (L p.t ++ 32 :: ([116, 104, 101, 110] ++ 32 :: (L q.t ++ 32 :: ([101, 108, 115, 101] ++ 32 :: (L v.t ++ b)))))) (.inr ⟨32, rfl, by decide⟩) (a1 _ _ (okN_sp _) w2.sp).sp
  rw [e]
  simpa using w1
theorem rend_ok (hD : Dis nm) {x : Nd} {a : List Pc} {nss : List (List Nd)} (hS : Stk E nm a nss) (har : arS x.o = a.length) (hl : a.length ≤ 3) (hu : ¬ (x.n ≠ 0 ∧ usesB x.o = false)) (h : (rend nm x a).2 = 0) : PcOK E nm (rend nm x a).1 (nss.flatten ++ [x]) := by
  obtain ⟨o, n⟩ := x
  match a, nss, hS, har, hl, h with
  | [], [], _, har, _, h => exact rend_zero hD har hu h
  | [p], [n1], hS, har, _, h => simpa using rend_one hD har hu hS.1 h
  | [p, q], [n1, n2], hS, har, _, h => simpa using rend_two har hu hS.1 hS.2.1 h
  | [p, q, v], [n1, n2, n3], hS, har, _, h => simpa using rend_three har hu hS.1 hS.2.1 hS.2.2.1
  | _ :: _ :: _ :: _ :: _, _, _, _, hl, _ => simp at hl
/-! the whole expression -/
theorem refN_small (hD : Dis nm) (x : Nd) : ∀ s ∈ refN nm x, s.size ≤ 60 := by
  have hid : ∀ s : ByteArray, idB (L s) = true → s.size ≤ 60 := fun s h => by
    have := (id_lex h).2.2.1
    rw [L_length] at this; omega
  have hget : ∀ (l : List ByteArray) (i : Nat), (∀ x ∈ l, idB (L x) = true) → (l[i]?.getD ⟨#[]⟩).size ≤ 60 := fun l i h => by
    cases hx : l[i]? with
    | none => decide
    | some y => exact hid _ (h _ (List.mem_of_getElem? hx))
  intro s hs
  unfold refN at hs
  split at hs
  · rcases List.mem_cons.1 hs with rfl | hs
    · exact hget _ _ hD.en.1
    · rw [List.mem_singleton.1 hs]
      cases hl : nm.ms[(x.n / 16).toNat]? with
      | none => exact Nat.zero_le _
      | some l => exact hget _ _ (hD.ms l (List.mem_of_getElem? hl)).1
  split at hs
  · rw [List.mem_singleton.1 hs]; exact hget _ _ fun y hy => hD.io.1 y (List.mem_append_left _ hy)
  split at hs
  · rw [List.mem_singleton.1 hs]; exact hget _ _ fun y hy => hD.io.1 y (List.mem_append_right _ hy)
  split at hs
  · rw [List.mem_singleton.1 hs]; exact hget _ _ hD.tb.1
  split at hs
  · rw [List.mem_singleton.1 hs]; exact hget _ _ hD.md.1
  · cases hs
theorem fixS_60 (n : Int) (p : Int) (h0 : -9223372036854775808 ≤ n) (h1 : n ≤ 9223372036854775807) (hp : p ≤ 9) : (fixS n p).size ≤ 50 := by
  have hl := absD_len n h0 h1
  unfold fixS
  split
  · have := numS_size n h0 h1; omega
  · rw [bs_size, fixT, List.length_append, List.length_append, List.length_append, List.length_take, List.length_drop, padD, List.length_append, List.length_replicate, sgn]
    split <;> simp <;> omega
theorem vfmt_60 (o n : Int) : (vfmtS o 0 n []).1.size ≤ 60 := by
  unfold vfmtS
  cases hv : vtB o 0 []
  · exact Nat.zero_le _
  rw [if_pos rfl]
  cases hi : inB n o 0 []
  · exact Nat.zero_le _
  rw [if_pos rfl]
  have hb := (inB_iff hv).1 hi
  rcases vt_true hv with ⟨hk, _⟩ | ⟨_, j, _, hj⟩
  · rcases hk with rfl | rfl | rfl | rfl | rfl
    · show (if n = 0 then (⟨#[102, 97, 108, 115, 101]⟩ : ByteArray) else ⟨#[116, 114, 117, 101]⟩).size ≤ _
      split <;> decide
    · obtain ⟨b0, b1⟩ : -1000000000000 ≤ n ∧ n ≤ 1000000000000 := hb
      have := numS_size n (by omega) (by omega)
      show (numS n).size ≤ _
      omega
    · obtain ⟨b0, b1⟩ : -1000000000000000 ≤ n ∧ n ≤ 1000000000000000 := hb
      have := fixS_60 n 2 (by omega) (by omega) (by decide)
      show (fixS n 2).size ≤ _
      omega
    · obtain ⟨b0, b1⟩ : -1000000000 ≤ n ∧ n ≤ 1000000000 := hb
      have := fixS_60 n 4 (by omega) (by omega) (by decide)
      show (fixS n 4 ++ ⟨#[37]⟩).size ≤ _
      rw [ByteArray.size_append]
      show _ + 1 ≤ _
      omega
    · obtain ⟨b0, b1⟩ : 0 ≤ n ∧ n ≤ 109572 := hb
      show (dateS n).size ≤ _
      rw [dateS_sizeX (isDate_iff.2 ⟨b0, b1⟩)]; decide
  · cases hj
theorem fmt_start {xs : List Nd} (hv : (strS xs).2.2 = 0) : FmAt nm xs 0 [] ∧ 0 < xs.length ∧ xs.length ≤ 48 := by
  refine ⟨⟨⟨[], [], rfl, by decide, ?_⟩, by rw [fmtX, if_pos hv]; rfl, by simp, fun h => absurd h (by decide)⟩, ?_⟩
  · have := hv
    unfold strS at this ⊢
    split at this
    · cases this
    · split at this
      · cases this
      · rename_i h1 h2; rw [if_neg h1, if_neg h2]; rfl
  · unfold strS at hv
    split at hv
    · cases hv
    · split at hv
      · cases hv
      · omega
theorem fmt_at (hD : Dis nm) {xs : List Nd} (hv : (strS xs).2.2 = 0) (hf : (fmtX nm xs).2 = 0) : ∀ i, i ≤ xs.length → ∃ stk nss, FmAt nm xs i stk ∧ Stk E nm stk nss ∧ nss.flatten = xs.take i ∧ szP stk ≤ i * 320
  | 0, _ => ⟨[], [], (fmt_start hv).1, trivial, by simp, by simp [szP]⟩
  | i + 1, hi => by
    obtain ⟨stk, nss, h1, h2, h3, h4⟩ := fmt_at hD hv hf i (by omega)
    have hx : xs[i]? = some (xs[i]'(by omega)) := List.getElem?_eq_getElem _
    have htk : xs.take (i + 1) = xs.take i ++ [xs[i]'(by omega)] := by rw [List.take_succ_eq_append_getElem (by omega)]
    generalize xs[i]'(by omega) = x at *
    have hsm := refN_small hD x
    obtain ⟨a, m, q1, q2, q3, q4, q5, q6, q7⟩ := h1.step hv hx (fun b => rend_size nm x (fun s hs => Nat.le_trans (hsm s hs) (by decide)) b)
    have hu : ¬ (x.n ≠ 0 ∧ usesB x.o = false) := fun ⟨u1, u2⟩ => by rw [q5 u1 u2] at hf; cases hf
    have hr : (rend nm x (stk.drop m)).2 = 0 := by
      by_cases h0 : (rend nm x (stk.drop m)).2 = 0
      · exact h0
      · rw [q6 hu h0] at hf; exact hf
    obtain ⟨c1, c2⟩ := Stk.cut m h2
    have hla : (stk.drop m).length = a := by rw [List.length_drop]; omega
    have hok := rend_ok hD c2 (by rw [hla]; exact q1) (by omega) hu hr
    refine ⟨_, nss.take m ++ [(nss.drop m).flatten ++ [x]], q7 hu hr, c1.app ⟨hok, trivial⟩, ?_, ?_⟩
    · rw [htk, ← h3, List.flatten_append, List.flatten_singleton, ← List.append_assoc, ← List.flatten_append, List.take_append_drop]
    · have z1 := sum_cut stk m
      have z2 := rend_sizeK (K := 60) (by decide) nm x hsm (vfmt_60 x.o x.n) (stk.drop m)
      unfold szP at h4 ⊢
      rw [List.map_append, List.sum_append_nat]
      simp only [List.map_cons, List.map_nil, List.sum_cons, List.sum_nil]
      omega
/-- the text of an expression with names that can be told apart: its tokens are read back -/
theorem fmt_ok (hD : Dis nm) {xs : List Nd} (hf : (fmtX nm xs).2 = 0) : ∃ tk k l, Lx (L (fmtX nm xs).1) tk ∧ Pz E nm tk k l xs ∧ (fmtX nm xs).1.size ≤ 15360 := by
  have hv : (strS xs).2.2 = 0 := by
    by_cases h : (strS xs).2.2 = 0
    · exact h
    · rw [fmtX, if_neg h] at hf; exact hf
  obtain ⟨_, hp, h48⟩ := fmt_start (nm := nm) hv
  obtain ⟨stk, nss, h1, h2, h3, h4⟩ := fmt_at (E := E) hD hv hf xs.length (Nat.le_refl _)
  obtain ⟨p, rfl, he⟩ := h1.done hv hp
  match nss, h2, h3 with
  | [n1], h2, h3 =>
    rw [List.take_length] at h3
    have h3' : n1 = xs := by simpa using h3
    subst h3'
    obtain ⟨tk, l, a1, a2, _, _⟩ := h2.1
    rw [he]
    refine ⟨tk, p.c, l, a1, a2, ?_⟩
    simp [szP] at h4
    show p.t.size ≤ _
    omega
end
end Go.Proofs.YtdnjfpmngnkcfaaGreatDoor
/- What is known of the parser's answers: a text that is read is the text of the result; the text of an expression is read; parentheses and blanks around it are not. No program stands here. -/
namespace Go.Proofs.YtdnjfpmngnkcfaaGreatDoor

section
variable {nm : Nm}
theorem parX_canon (hN : NmB nm) (s : ByteArray) : ((parX nm s).2.2 = 0 → fmtX nm (parX nm s).1 = (s, 0) ∧ (parX nm s).2.1 = 0) ∧ ((parX nm s).2.2 ≠ 0 → (parX nm s).1 = [] ∧ 0 ≤ (parX nm s).2.1 ∧ (parX nm s).2.1 ≤ s.size) := by
  unfold parX
  by_cases ht : (tokR (L s)).2.2 ≠ 0
  · rw [if_pos ht]
    refine ⟨fun h => absurd h ht, fun _ => ⟨rfl, ?_⟩⟩
    show 0 ≤ (tokR (L s)).2.1 ∧ (tokR (L s)).2.1 ≤ s.size
    unfold tokR at ht ⊢
    by_cases hb : 65536 < (L s).length
    · rw [if_pos hb]
      exact ⟨Int.le_refl _, by show (0 : Int) ≤ _; omega⟩
    · rw [if_neg hb] at ht ⊢
      have := lexF_err (L s) ((L s).length + 1) 0 (by omega) ht
      rw [L_length] at this
      exact ⟨this.2.1, this.2.2⟩
  · rw [if_neg ht]
    have ht0 : (tokR (L s)).2.2 = 0 := Decidable.not_not.1 ht
    obtain ⟨_, _, hb⟩ := tokR_bd ht0
    have hg : GS s.size ⟨(tokR (L s)).1, [], 0, 0⟩ := ⟨fun t h => by
      obtain ⟨_, h1, h2⟩ := hb t h
      rw [L_length] at h2
      exact ⟨by omega, h2⟩, fun x h => (by cases h), ⟨Int.le_refl _, by show (0 : Int) ≤ _; omega⟩, by omega⟩
    have hgs := parR_gs hN (8 * (tokR (L s)).1.length + 7) .expr _ hg
    generalize parR s.size nm (8 * (tokR (L s)).1.length + 7) .expr ⟨(tokR (L s)).1, [], 0, 0⟩ = r at *
    have hz : (0 : Int) ≤ 0 ∧ (0 : Int) ≤ s.size := ⟨Int.le_refl _, by omega⟩
    cases r with
    | none => exact ⟨(fun h => by cases h), fun _ => ⟨rfl, hz⟩⟩
    | some x =>
      obtain ⟨b, p⟩ := x
      have hp := hgs b p rfl
      dsimp only
      split
      · exact ⟨(fun h => by cases h), fun _ => ⟨rfl, (hp.bad 2).off⟩⟩
      · split
        · rename_i hc
          exact ⟨fun h => absurd h hc, fun _ => ⟨rfl, hp.off⟩⟩
        · split
          · rename_i hc
            exact ⟨fun h => absurd h hc, fun _ => ⟨rfl, hz⟩⟩
          · split
            · rename_i hf
              exact ⟨fun _ => ⟨Prod.ext hf.2 hf.1, rfl⟩, fun h => absurd rfl h⟩
            · exact ⟨(fun h => by cases h), fun _ => ⟨rfl, hz⟩⟩
/-- a text whose tokens are read to their end -/
theorem parX_of {s : ByteArray} {tk : List ET} {ns : List Nd} (hs : s.size ≤ 65536) (hl : LexE (L s) tk) (hp : OKP s.size nm .expr tk ns []) (hv : (strS ns).2.2 = 0) :
    parX nm s = if (fmtX nm ns).2 = 0 ∧ (fmtX nm ns).1 = s then (ns, 0, 0) else ([], 0, 2) := by
  obtain ⟨T, h1, h2⟩ := hl ((L s).length + 1) 0 (by omega)
  have ht : tokR (L s) = (T, 0, 0) := by rw [tokR, if_neg (by rw [L_length]; omega), h1]
  obtain ⟨f, s', p1, g1⟩ := hp ⟨T, [], 0, 0⟩ h2
  obtain ⟨b, s1, p2, _, _⟩ := parR_tot s.size nm (8 * T.length + 7) .expr ⟨T, [], 0, 0⟩ (by show 8 * T.length + 6 < _; omega)
  have e := (parR_more p1 (Nat.le_max_left f (8 * T.length + 7))).symm.trans (parR_more p2 (Nat.le_max_right f (8 * T.length + 7)))
  have e' := Option.some.inj e
  have e1 : true = b := congrArg Prod.fst e'
  have e2 : s' = s1 := congrArg Prod.snd e'
  subst e1; subst e2
  have hts : s'.ts = [] := List.map_eq_nil_iff.1 g1.ts
  have hns : s'.ns = ns := by rw [g1.ns]; rfl
  have hcode : s'.code = 0 := g1.code
  unfold parX
  rw [ht]
  dsimp only
  rw [if_neg (by simp), p2]
  dsimp only
  rw [if_neg (by rw [hts]; simp), if_neg (by rw [hcode]; simp), hns, if_neg (by rw [hv]; simp)]
theorem fmt_str {xs : List Nd} (hf : (fmtX nm xs).2 = 0) : (strS xs).2.2 = 0 := by
  by_cases h : (strS xs).2.2 = 0
  · exact h
  · rw [fmtX, if_neg h] at hf; exact hf
/-- the round trip, and what stands around a text -/
theorem parX_round (hD : Dis nm) {xs : List Nd} (hf : (fmtX nm xs).2 = 0) : parX nm (fmtX nm xs).1 = (xs, 0, 0) ∧ parX nm (⟨#[40]⟩ ++ (fmtX nm xs).1 ++ ⟨#[41]⟩) = ([], 0, 2) ∧
    parX nm (⟨#[32]⟩ ++ (fmtX nm xs).1) = ([], 0, 2) ∧ parX nm ((fmtX nm xs).1 ++ ⟨#[32]⟩) = ([], 0, 2) ∧ (fmtX nm xs).1.size ≤ 15360 := by
  have hv := fmt_str hf
  have hlen : ∀ E, ∃ tk k l, Lx (L (fmtX nm xs).1) tk ∧ Pz E nm tk k l xs ∧ (fmtX nm xs).1.size ≤ 15360 := fun E => fmt_ok hD hf
  obtain ⟨_, _, _, _, _, hsz⟩ := hlen 0
  have z1 : ∀ c : UInt8, (⟨#[c]⟩ : ByteArray).size = 1 := fun _ => rfl
  have hne : ∀ s : ByteArray, (fmtX nm xs).1.size < s.size → ¬ ((fmtX nm xs).2 = 0 ∧ (fmtX nm xs).1 = s) := fun s h ⟨_, e⟩ => by rw [e] at h; omega
  refine ⟨?_, ?_, ?_, ?_, hsz⟩
  · obtain ⟨tk, k, l, h1, h2, _⟩ := hlen (fmtX nm xs).1.size
    have hl := h1 [] [] okN_nil LexE.nil
    rw [List.append_nil, List.append_nil] at hl
    have hp := h2.e [] rfl (fun h => absurd h.1 (by decide))
    rw [List.append_nil] at hp
    rw [parX_of (by omega) hl hp hv, if_pos ⟨hf, rfl⟩]
  · have hz : (⟨#[40]⟩ ++ (fmtX nm xs).1 ++ ⟨#[41]⟩ : ByteArray).size = (fmtX nm xs).1.size + 2 := by rw [ByteArray.size_append, ByteArray.size_append, z1, z1]; omega
    obtain ⟨tk, k, l, h1, h2, _⟩ := hlen (⟨#[40]⟩ ++ (fmtX nm xs).1 ++ ⟨#[41]⟩ : ByteArray).size
    have hl := (h1 [41] [cls] (okN_cl _) LexE.nil.cl).op
    have hp := h2.paren.e [] rfl (fun h => absurd h.1 (by decide))
    rw [List.append_nil] at hp
    rw [parX_of (tk := opn :: (tk ++ [cls])) (by omega) (by rw [L_append, L_append, L1, L1]; simpa using hl) hp hv, if_neg (hne _ (by omega))]
  · have hz : (⟨#[32]⟩ ++ (fmtX nm xs).1 : ByteArray).size = (fmtX nm xs).1.size + 1 := by rw [ByteArray.size_append, z1]; omega
    obtain ⟨tk, k, l, h1, h2, _⟩ := hlen (⟨#[32]⟩ ++ (fmtX nm xs).1 : ByteArray).size
    have hl := (h1 [] [] okN_nil LexE.nil).sp
    rw [List.append_nil, List.append_nil] at hl
    have hp := h2.e [] rfl (fun h => absurd h.1 (by decide))
    rw [List.append_nil] at hp
    rw [parX_of (tk := tk) (by omega) (by rw [L_append, L1]; exact hl) hp hv, if_neg (hne _ (by omega))]
  · have hz : ((fmtX nm xs).1 ++ ⟨#[32]⟩ : ByteArray).size = (fmtX nm xs).1.size + 1 := by rw [ByteArray.size_append, z1]
    obtain ⟨tk, k, l, h1, h2, _⟩ := hlen ((fmtX nm xs).1 ++ ⟨#[32]⟩ : ByteArray).size
    have hl := h1 [32] [] (okN_sp _) LexE.nil.sp
    rw [List.append_nil] at hl
    have hp := h2.e [] rfl (fun h => absurd h.1 (by decide))
    rw [List.append_nil] at hp
    rw [parX_of (tk := tk) (by omega) (by rw [L_append, L1]; exact hl) hp hv, if_neg (hne _ (by omega))]
end
end Go.Proofs.YtdnjfpmngnkcfaaGreatDoor
/- The texts of package guerdonlaw11's examples. No program stands here. -/
namespace Go.Proofs.YtdnjfpmngnkcfaaGreatDoor

/-- the inputs x and y -/
def nm0 : Nm := ⟨[], [], [], [⟨#[120]⟩, ⟨#[121]⟩], [], []⟩
theorem nm0_b : NmB nm0 := ⟨by decide, fun l h => (by cases h), by decide, by decide, by decide, by decide⟩
theorem dig2 : Lib.decDigits 2 = [50] := by rw [Lib.decDigits, dif_pos (by decide)]; rfl
theorem lit2 : vfmtS 2 0 2 [] = (⟨#[50]⟩, 0) := by
  have h : vfmtS 2 0 2 [] = (numS 2, 0) := rfl
  rw [h, numS, Lib.itoa, if_neg (by decide), show (2 : Int).toNat = 2 from rfl, dig2]; rfl
theorem lit2n : vfmtS 2 0 (-2) [] = (⟨#[45, 50]⟩, 0) := by
  have h : vfmtS 2 0 (-2) [] = (numS (-2), 0) := rfl
  rw [h, numS_neg (by decide), absD, show (-2 : Int).natAbs = 2 from rfl, dig2]; rfl
theorem fmt_step {nm : Nm} {x : Nd} {r : List Nd} {stk : List Pc} {p : Pc} (h1 : ¬ (x.n ≠ 0 ∧ usesB x.o = false)) (h2 : rend nm x (stk.drop (stk.length - (arS x.o).toNat)) = (p, 0)) :
    fmtE nm (x :: r) stk = fmtE nm r (stk.take (stk.length - (arS x.o).toNat) ++ [p]) := by
  rw [fmtE, if_neg h1, h2, if_pos rfl]
theorem fmt_all {nm : Nm} {xs : List Nd} (h : (strS xs).2.2 = 0) : fmtX nm xs = fmtE nm xs [] := by rw [fmtX, if_pos h]
theorem rend_litE {nm : Nm} {o n : Int} {a : List Pc} {t : ByteArray} (ho : 1 ≤ o ∧ o ≤ 5) (h : vfmtS o 0 n [] = (t, 0)) : rend nm ⟨o, n⟩ a = (⟨t, if (2 ≤ o ∧ o ≤ 4) ∧ n < 0 then 6 else 7, decide (2 ≤ o ∧ o ≤ 4)⟩, 0) := by
  rw [rend, if_pos ho, h, if_pos rfl]
/-- (x + 2) * y -/
theorem ev_fmt : fmtX nm0 [⟨7, 0⟩, ⟨2, 2⟩, ⟨11, 0⟩, ⟨7, 1⟩, ⟨13, 0⟩] = (⟨#[40, 120, 32, 43, 32, 50, 41, 32, 42, 32, 121]⟩, 0) := by
  rw [fmt_all (by decide)]
  rw [fmt_step (p := ⟨⟨#[120]⟩, 7, false⟩) (by decide) rfl]
  rw [fmt_step (p := ⟨⟨#[50]⟩, 7, true⟩) (by decide) (rend_litE (by decide) lit2)]
  rw [fmt_step (p := ⟨⟨#[120, 32, 43, 32, 50]⟩, 4, false⟩) (by decide) rfl]
  rw [fmt_step (p := ⟨⟨#[121]⟩, 7, false⟩) (by decide) rfl]
  rw [fmt_step (p := ⟨⟨#[40, 120, 32, 43, 32, 50, 41, 32, 42, 32, 121]⟩, 5, false⟩) (by decide) rfl]
  rfl
/-- x + 2 -/
theorem ev_fmt2 : fmtX nm0 [⟨7, 0⟩, ⟨2, 2⟩, ⟨11, 0⟩] = (⟨#[120, 32, 43, 32, 50]⟩, 0) := by
  rw [fmt_all (by decide)]
  rw [fmt_step (p := ⟨⟨#[120]⟩, 7, false⟩) (by decide) rfl]
  rw [fmt_step (p := ⟨⟨#[50]⟩, 7, true⟩) (by decide) (rend_litE (by decide) lit2)]
  rw [fmt_step (p := ⟨⟨#[120, 32, 43, 32, 50]⟩, 4, false⟩) (by decide) rfl]
  rfl
/-- x - -2 -/
theorem ev_fmt3 : fmtX nm0 [⟨7, 0⟩, ⟨2, -2⟩, ⟨12, 0⟩] = (⟨#[120, 32, 45, 32, 45, 50]⟩, 0) := by
  rw [fmt_all (by decide)]
  rw [fmt_step (p := ⟨⟨#[120]⟩, 7, false⟩) (by decide) rfl]
  rw [fmt_step (p := ⟨⟨#[45, 50]⟩, 6, true⟩) (by decide) (rend_litE (by decide) lit2n)]
  rw [fmt_step (p := ⟨⟨#[120, 32, 45, 32, 45, 50]⟩, 4, false⟩) (by decide) rfl]
  rfl
/-- -(2) -/
theorem ev_fmt4 : fmtX nm0 [⟨2, 2⟩, ⟨10, 0⟩] = (⟨#[45, 40, 50, 41]⟩, 0) := by
  rw [fmt_all (by decide)]
  rw [fmt_step (p := ⟨⟨#[50]⟩, 7, true⟩) (by decide) (rend_litE (by decide) lit2)]
  rw [fmt_step (p := ⟨⟨#[45, 40, 50, 41]⟩, 6, false⟩) (by decide) rfl]
  rfl
theorem nm0_dis : Dis nm0 := by
  refine ⟨rfl, ⟨fun x h => (by cases h), by decide⟩, fun l h => (by cases h), ⟨fun x h => (by cases h), by decide⟩, ⟨fun x h => (by cases h), by decide⟩, ?_, ?_⟩
  · intro x hx
    rcases List.mem_cons.1 (show x ∈ ([⟨#[120]⟩, ⟨#[121]⟩] : List ByteArray) from hx) with rfl | hx
    · decide
    · rw [List.mem_singleton.1 hx]; decide
  · show List.Nodup ([⟨#[120]⟩, ⟨#[121]⟩] : List ByteArray)
    decide
theorem ev_par3 : parX nm0 ⟨#[120, 32, 45, 32, 45, 50]⟩ = ([⟨7, 0⟩, ⟨2, -2⟩, ⟨12, 0⟩], 0, 0) := by
  have := (parX_round nm0_dis (xs := [⟨7, 0⟩, ⟨2, -2⟩, ⟨12, 0⟩]) (by rw [ev_fmt3])).1
  rwa [ev_fmt3] at this
theorem ev_par4 : parX nm0 ⟨#[45, 40, 50, 41]⟩ = ([⟨2, 2⟩, ⟨10, 0⟩], 0, 0) := by
  have := (parX_round nm0_dis (xs := [⟨2, 2⟩, ⟨10, 0⟩]) (by rw [ev_fmt4])).1
  rwa [ev_fmt4] at this
/-- x+2: the tokens are those of x + 2, the text is not -/
theorem ev_par2 : parX nm0 ⟨#[120, 43, 50]⟩ = ([], 0, 2) := by
  have hx := name_ok (E := 3) (nm := nm0) (s := ⟨#[120]⟩) (ns := [⟨7, 0⟩]) (by decide) (.inl ⟨0, rfl, rfl⟩)
  obtain ⟨t1, l1, a1, a2, a3, a4⟩ := hx
  have h2 : LexE [50] [(2, [50], 2)] := by
    have := LexE.int (n := 2) (by decide) (by decide) (b := []) okN_nil LexE.nil
    rw [absD, show (2 : Int).natAbs = 2 from rfl, dig2] at this
    exact this
  have hl : LexE (L ⟨#[120, 43, 50]⟩) [(1, [120], 0), (7, [43], 0), (2, [50], 2)] :=
    LexE.word (t := [120]) (by decide) (by decide) (by decide) (.inr ⟨43, rfl, by decide⟩) (LexE.sym (c := 43) (by decide) (by decide) (by decide) (by decide) (fun h => absurd h.2 (by decide)) h2)
  have p1 : Pz 3 nm0 [(1, [120], 0)] 7 false [⟨7, 0⟩] := Pz.word (r0 := []) (by unfold wordOK; decide) (fun r hr => okp_name (by decide) (by decide) (by decide) hr (.inl ⟨0, rfl, rfl⟩))
  have p2 : Pz 3 nm0 [(2, [50], 2)] 7 true [⟨2, 2⟩] := Pz.ofAtom (by simp) rfl rfl rfl (fun r _ => okp_lit (by decide)) (fun h => by cases h)
  have p3 := (p1.bin_ (ks := 7) (sg := [43]) (o := 11) (k := 4) rfl (by decide) (by decide) (by decide) (by decide) (fun h => absurd h (by decide)) p2 (by decide) rfl).e [] rfl (fun h => absurd h.1 (by decide))
  rw [parX_of (s := ⟨#[120, 43, 50]⟩) (by decide) hl p3 (by decide)]
  show (if (fmtX nm0 [⟨7, 0⟩, ⟨2, 2⟩, ⟨11, 0⟩]).2 = 0 ∧ (fmtX nm0 [⟨7, 0⟩, ⟨2, 2⟩, ⟨11, 0⟩]).1 = _ then _ else _) = _
  rw [ev_fmt2, if_neg]
  intro h
  have := congrArg ByteArray.size h.2
  revert this; decide
theorem fmt_err {nm : Nm} : ∀ (xs : List Nd) (stk : List Pc), (fmtE nm xs stk).2 ≠ 0 → (fmtE nm xs stk).1 = ⟨#[]⟩
  | [], stk, h => absurd rfl h
  | x :: r, stk, h => by
    rw [fmtE] at h ⊢
    split
    · rfl
    · rename_i h1
      rw [if_neg h1] at h
      split
      · rename_i h2
        rw [if_pos h2] at h
        exact fmt_err r _ h
      · rfl
theorem fmtX_err {nm : Nm} {xs : List Nd} (h : (fmtX nm xs).2 ≠ 0) : (fmtX nm xs).1 = ⟨#[]⟩ := by
  unfold fmtX at h ⊢
  split
  · rename_i h1
    rw [if_pos h1] at h
    exact fmt_err xs [] h
  · rfl
end Go.Proofs.YtdnjfpmngnkcfaaGreatDoor
