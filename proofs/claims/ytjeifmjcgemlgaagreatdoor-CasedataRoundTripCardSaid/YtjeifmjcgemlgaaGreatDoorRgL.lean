/- A text that Parse accepts is the text of the case, and the case is valid. -/
import Derived.Test.YtjeifmjcgemlgaaGreatDoorRgI
import Derived.Test.YtjeifmjcgemlgaaGreatDoorRgF
import Derived.Test.YtjeifmjcgemlgaaGreatDoorShelf
import Derived.Test.YtjeifmjcgemlgaaGreatDoorRgA
import Derived.Shelf.Strings.BuilderK
import Derived.Shelf.Strings.Builder2
namespace Go.Proofs.YtjeifmjcgemlgaaGreatDoor
open Go.RowKit

theorem spl_text : ∀ (l acc : List UInt8), ∃ x ws, spl acc l = x :: ws ∧ x ++ ws.flatMap (fun w => 32 :: w) = acc ++ l
  | [], acc => ⟨acc, [], rfl, by simp⟩
  | c :: r, acc => by
    rw [spl]
    by_cases h : c = 32
    · rw [if_pos h]
      obtain ⟨x, ws, e, ht⟩ := spl_text r []
      refine ⟨acc, x :: ws, by rw [e], ?_⟩
      rw [List.flatMap_cons, h]
      rw [List.nil_append] at ht
      rw [← ht]; simp
    · rw [if_neg h]
      obtain ⟨x, ws, e, ht⟩ := spl_text r (acc ++ [c])
      exact ⟨x, ws, e, by rw [ht]; simp⟩
theorem vpar_ok {s : ByteArray} {k e : Int} {ms : List (List ByteArray)} (h : (vparS s k e ms).2.2.2 = 0) : ∃ n, vparS s k e ms = (k, e, n, 0) ∧ vtB k e ms = true ∧ inB n k e ms = true ∧ vtext k e n ms = s := by
  unfold vparS at h ⊢
  cases hv : vtB k e ms
  · rw [hv] at h; exact absurd (show (8 : Int) = 0 from h) (by decide)
  · rw [hv, if_pos rfl] at h
    rw [if_pos rfl]
    by_cases hc : (vnumS s k e ms).2 = 0
    · rw [if_pos hc] at h ⊢
      cases hi : inB (vnumS s k e ms).1 k e ms
      · rw [hi] at h; exact absurd (show (3 : Int) = 0 from h) (by decide)
      · exact ⟨_, rfl, rfl, hi, vtext_num hv (Prod.ext rfl hc)⟩
    · rw [if_neg hc] at h; exact absurd h hc
/-- the values that are read: their texts, their types, their bounds -/
theorem parV_ok (ms : List (List ByteArray)) : ∀ (ts : List Ty) (ws : List (List UInt8)) (acc : List Vl), ts.length = ws.length → (parV ms ts ws acc).2 = 0 →
    ∃ vs, (parV ms ts ws acc).1 = acc ++ vs ∧ vs.length = ts.length ∧ (vs.flatMap fun v => 32 :: L (vfmtS v.k v.e v.n ms).1) = ws.flatMap (fun w => 32 :: w) ∧ ∀ i, chkF ms i ts vs = (0, 0)
  | [], [], acc, _, h => ⟨[], by simp [parV], rfl, rfl, fun i => rfl⟩
  | t :: ts, w :: ws, acc, hl, h => by
    rw [parV] at h ⊢
    by_cases hc : (vparS (bs w) t.k t.e ms).2.2.2 = 0
    · rw [if_pos hc] at h ⊢
      obtain ⟨n, hp, hv, hi, ht⟩ := vpar_ok hc
      rw [hp] at h ⊢
      dsimp only at h ⊢
      obtain ⟨vs, e1, e2, e3, e4⟩ := parV_ok ms ts ws _ (by simpa using hl) h
      refine ⟨⟨t.k, t.e, n⟩ :: vs, by rw [e1]; simp, by simp [e2], ?_, fun i => ?_⟩
      · rw [List.flatMap_cons, List.flatMap_cons, e3]
        dsimp only
        rw [show vfmtS t.k t.e n ms = (vtext t.k t.e n ms, 0) by rw [vfmtS, hv, hi]; rfl, ht, L_bs]
      · rw [chkF, if_pos ⟨rfl, rfl⟩]
        dsimp only
        rw [if_pos hi]
        exact e4 (i + 1)
    · rw [if_neg hc] at h; exact absurd h hc
  | [], _ :: _, _, hl, _ => by simp at hl
  | _ :: _, [], _, hl, _ => by simp at hl
theorem parI_ok {ms : List (List ByteArray)} {word : List UInt8} {ts : List Ty} {l : List UInt8} (h : (parI ms word ts l).2 = 0) : lineV ms word (parI ms word ts l).1 = l ∧ chkV ms ts (parI ms word ts l).1 = (0, 0) := by
  obtain ⟨x, ws, e, ht⟩ := spl_text l []
  rw [List.nil_append] at ht
  unfold parI at h ⊢
  rw [e] at h ⊢
  rw [List.head?_cons, List.drop_one, List.tail_cons] at h ⊢
  split at h
  · exact absurd (show (2 : Int) = 0 from h) (by decide)
  · rename_i h1
    split at h
    · exact absurd (show (5 : Int) = 0 from h) (by decide)
    · rename_i h2
      split at h
      · exact absurd (show (4 : Int) = 0 from h) (by decide)
      · rename_i h3
        rw [if_neg h1, if_neg h2, if_neg h3]
        obtain ⟨vs, e1, e2, e3, e4⟩ := parV_ok ms ts ws [] (by omega) h
        rw [e1, List.nil_append]
        have hx : x = word := by
          by_cases hx : x = word
          · exact hx
          · exact absurd (.inl (by simpa using hx)) h1
        refine ⟨by unfold lineV; rw [e3, ← hx]; exact ht, ?_⟩
        unfold chkV
        rw [if_neg (by omega), if_neg (by omega)]
        exact e4 0
theorem parM_ok (ms : List (List ByteArray)) (ts : List Ty) (lim : Nat) : ∀ (ls : List (List UInt8)) (i : Nat) (acc : List (List Vl)), acc.length ≤ lim → (parM ms ts lim i ls acc).2.2 = 0 →
    ∃ mem, (parM ms ts lim i ls acc).1 = acc ++ mem ∧ mem.map (lineV ms [109, 101, 109, 98, 101, 114]) = ls ∧ acc.length + mem.length ≤ lim ∧ ∀ m, chkM ms ts m mem = (0, 0, 0)
  | [], i, acc, ha, h => ⟨[], by rw [parM]; simp, rfl, by simpa using ha, fun m => rfl⟩
  | l :: r, i, acc, ha, h => by
    rw [parM] at h ⊢
    split at h
    · exact absurd (show (4 : Int) = 0 from h) (by decide)
    · rename_i h1
      rw [if_neg h1]
      split at h
      · rename_i h2
        rw [if_pos h2]
        obtain ⟨b1, b2⟩ := parI_ok h2
        obtain ⟨mem, e1, e2, e3, e4⟩ := parM_ok ms ts lim r (i + 1) (acc ++ [(parI ms [109, 101, 109, 98, 101, 114] ts l).1]) (by simp; omega) h
        refine ⟨(parI ms [109, 101, 109, 98, 101, 114] ts l).1 :: mem, by rw [e1]; simp, by rw [List.map_cons, b1, e2], by rw [List.length_append] at e3; simp at e3 ⊢; omega, fun m => ?_⟩
        rw [chkM, b2]
        dsimp only
        rw [if_pos rfl]
        exact e4 (m + 1)
      · rename_i h2
        exact absurd h h2
/-- **a text that is read is the text of the case, which is valid** -/
theorem cs_canon {ms : List (List ByteArray)} {scs : List Sc} {sc : Int} {s : ByteArray} (h : (parCs ms scs sc s).2.2 = 0) :
    valC ms scs sc (parCs ms scs sc s).1.d (parCs ms scs sc s).1.ins (parCs ms scs sc s).1.mem = (0, 0, 0) ∧ bs (textL (caseT ms (parCs ms scs sc s).1.d (parCs ms scs sc s).1.ins (parCs ms scs sc s).1.mem)) = s := by
  unfold parCs at h ⊢
  split at h
  · exact absurd (show (6 : Int) = 0 from h) (by decide)
  · rename_i h1
    rw [if_neg h1]
    split at h
    · rename_i h2; exact absurd h h2
    · rename_i h2
      rw [if_neg h2]
      have hlin : linR s = ((linR s).1, 0) := Prod.ext rfl (by simpa using h2)
      have hcan := linR_canon hlin
      generalize (linR s).1.map L = ls at *
      match ls, h with
      | [], h => exact absurd (show (5 : Int) = 0 from h) (by decide)
      | l0 :: r, h =>
        dsimp only at h ⊢
        split at h
        · exact absurd (show (2 : Int) = 0 from h) (by decide)
        · rename_i h3
          rw [if_neg h3]
          split at h
          · rename_i h4; exact absurd h h4
          · rename_i h4
            rw [if_neg h4]
            match r, h with
            | [], h => exact absurd (show (5 : Int) = 0 from h) (by decide)
            | l1 :: r, h =>
              dsimp only at h ⊢
              split at h
              · rename_i h5; exact absurd h h5
              · rename_i h5
                rw [if_neg h5]
                split at h
                · rename_i h6; exact absurd h h6
                · rename_i h6
                  rw [if_neg h6]
                  dsimp only
                  obtain ⟨x, hx⟩ : ∃ x, scs[sc.toNat]?.getD ⟨0, []⟩ = x := ⟨_, rfl⟩
                  rw [hx] at h5 h6 ⊢
                  obtain ⟨b1, b2⟩ := parI_ok (ms := ms) (word := [105, 110]) (ts := x.ins) (l := l1) (by simpa using h5)
                  obtain ⟨mem, e1, e2, e3, e4⟩ := parM_ok ms (memI scs x).1 (memI scs x).2 r 2 [] (Nat.zero_le _) (by simpa using h6)
                  rw [List.nil_append] at e1
                  rw [e1]
                  have hd : dparS (bs (l0.drop 5)) = ((dparS (bs (l0.drop 5))).1, 0) := Prod.ext rfl (by simpa using h4)
                  obtain ⟨d1, d2⟩ := dparS_canon hd
                  have hdb := isDate_iff.1 d1
                  generalize (parI ms [105, 110] x.ins l1).1 = ins at *
                  generalize (dparS (bs (l0.drop 5))).1 = d at *
                  refine ⟨?_, ?_⟩
                  · unfold valC
                    rw [if_neg h1, if_neg (by omega)]
                    dsimp only
                    rw [hx, b2]
                    dsimp only
                    rw [if_pos rfl, if_neg (by rw [List.length_nil, Nat.zero_add] at e3; omega)]
                    exact e4 0
                  · have hl0 : [100, 97, 116, 101, 32] ++ L (dateS d) = l0 := by
                      rw [d2, L_bs]
                      have h3 : l0.take 5 = datW := by simpa using h3
                      rw [show ([100, 97, 116, 101, 32] : List UInt8) = l0.take 5 from h3.symm, List.take_append_drop]
                    unfold caseT
                    rw [hl0, b1, e2]
                    exact hcan
end Go.Proofs.YtjeifmjcgemlgaaGreatDoor
/- A text split at each blank, and what slices.Contains and slices.Index tell of a list of strings. -/
namespace Go.Proofs.YtjeifmjcgemlgaaGreatDoor
open Go.RowKit

theorem spl_app : ∀ (a acc r : List UInt8), 32 ∉ a → spl acc (a ++ 32 :: r) = (acc ++ a) :: spl [] r
  | [], acc, r, _ => by rw [List.nil_append, spl, if_pos rfl, List.append_nil]
  | c :: a, acc, r, h => by
    rw [List.cons_append, spl, if_neg (fun e => h (by rw [e]; simp)), spl_app a (acc ++ [c]) r (fun hm => h (List.mem_cons_of_mem _ hm)), List.append_assoc]
    rfl
theorem spl_no : ∀ (l acc : List UInt8), 32 ∉ l → spl acc l = [acc ++ l]
  | [], acc, _ => by rw [spl, List.append_nil]
  | c :: l, acc, h => by
    rw [spl, if_neg (fun e => h (by rw [e]; simp)), spl_no l (acc ++ [c]) (fun hm => h (List.mem_cons_of_mem _ hm)), List.append_assoc]
    rfl
theorem idxB (s : ByteArray) : Lib.indexB s ⟨#[32]⟩ = Lib.indexByte (L s) 32 := Lib.one s ⟨#[32]⟩ rfl
theorem split_spl : ∀ (k : Nat) (s : ByteArray), Lib.countB s ⟨#[32]⟩ = k → (Lib.splitB ⟨#[32]⟩ 0 k s).map L = spl [] (L s) := by
  intro k
  induction k with
  | zero =>
    intro s hk
    rcases Lib.indexB_cases s ⟨#[32]⟩ with h | ⟨i, h, _⟩
    · rw [Lib.splitB_miss _ _ _ _ h]
      rw [idxB] at h
      have h2 := Lib.indexByte_none h
      rw [spl_no _ _ (fun hm => by
        obtain ⟨j, hj⟩ := List.getElem?_of_mem hm
        exact h2 j hj)]
      rfl
    · rw [Lib.countB_hit s ⟨#[32]⟩ i (Nat.le_refl _) h] at hk; omega
  | succ k ih =>
    intro s hk
    rcases Lib.indexB_cases s ⟨#[32]⟩ with h | ⟨i, h, hi⟩
    · rw [Lib.countB_miss s _ h] at hk; omega
    · rw [Lib.countB_hit s ⟨#[32]⟩ i (Nat.le_refl _) h] at hk
      rw [Lib.splitB_hit _ _ _ _ i h, List.map_cons, ih _ (by omega)]
      rw [idxB] at h
      obtain ⟨h1, h2⟩ := Lib.indexByte_some h
      have hs1 : (⟨#[32]⟩ : ByteArray).size = 1 := rfl
      have hil : i < (L s).length := (List.getElem?_eq_some_iff.1 h1).1
      have e1 : L s = (L s).take i ++ 32 :: (L s).drop (i + 1) := by
        conv => lhs; rw [← List.take_append_drop i (L s)]
        rw [List.drop_eq_getElem_cons hil]
        congr 2
        exact (List.getElem?_eq_some_iff.1 h1).2
      have e2 : L (s.extract 0 (i + 0)) = (L s).take i := by rw [L_extract]; simp
      have e3 : L (s.extract (i + (⟨#[32]⟩ : ByteArray).size) s.size) = (L s).drop (i + 1) := by
        rw [L_extract, hs1, List.take_of_length_le (by rw [List.length_drop, L_length]; omega)]
      rw [e2, e3]
      conv => rhs; rw [e1]
      rw [spl_app _ _ _ (fun hm => by
        obtain ⟨j, hj⟩ := List.getElem?_of_mem hm
        have hjl := (List.getElem?_eq_some_iff.1 hj).1
        rw [List.length_take] at hjl
        rw [List.getElem?_take_of_lt (by omega)] at hj
        exact h2 j (by omega) hj)]
      rfl
theorem Strs.at3 {w : World} {v : Value} {xs : List ByteArray} (h : Strs w v xs) : ∃ A cap, v = .slice A xs.length cap ∧ (0 < xs.length → ∃ b off, A = some ⟨b, off, none⟩ ∧ b < w.heap.size ∧ ∀ (j : Nat) x, xs[j]? = some x → w.cell? ⟨b, off + j, none⟩ = some (.string x)) := by
  obtain ⟨A, cap, hv, hx⟩ := h
  refine ⟨A, cap, hv, fun hp => ?_⟩
  obtain ⟨b, off, hA, hb, hc⟩ := hx hp
  refine ⟨b, off, hA, hb, fun j x hj => ?_⟩
  have := hc j (List.getElem?_eq_some_iff.1 hj).1
  rwa [hj, Option.getD_some] at this
theorem neqS (X Y : ByteArray) : (X.toList == Y.toList) = decide (X = Y) := by
  rw [toList_L, toList_L]
  by_cases h : X = Y
  · subst h; simp
  · rw [decide_eq_false h]
    simpa using fun e => h (L_inj.1 e)
/-- where a text stands first in a list -/
def idxS (s : ByteArray) (xs : List ByteArray) : Int := match findS s xs 0 with | some i => (i : Int) | none => -1
theorem findS_from {s : ByteArray} : ∀ (xs : List ByteArray) (i p : Nat), xs[p]? = some s → (∀ m, m < p → xs[m]? ≠ some s) → findS s xs i = some (i + p)
  | [], i, p, h, _ => by simp at h
  | x :: r, i, p, h, hn => by
    rw [findS]
    cases p with
    | zero => rw [if_pos (Option.some.inj h)]; rfl
    | succ p =>
      rw [if_neg (fun e => hn 0 (by omega) (by rw [e]; rfl)), findS_from r (i + 1) p (by simpa using h) (fun m hm => by have := hn (m + 1) (by omega); simpa using this)]
      congr 1; omega
theorem findS_no {s : ByteArray} : ∀ (xs : List ByteArray) (i : Nat), (∀ m, m < xs.length → xs[m]? ≠ some s) → findS s xs i = none
  | [], i, _ => rfl
  | x :: r, i, hn => by
    rw [findS, if_neg (fun e => hn 0 (by simp) (by rw [e]; rfl)), findS_no r (i + 1) (fun m hm => by have := hn (m + 1) (by rw [List.length_cons]; omega); simpa using this)]
theorem idxS_at {s : ByteArray} {xs : List ByteArray} {p : Nat} (h : xs[p]? = some s) (hn : ∀ m, m < p → xs[m]? ≠ some s) : idxS s xs = p := by
  rw [idxS, findS_from xs 0 p h hn, Nat.zero_add]
theorem idxS_end {s : ByteArray} {xs : List ByteArray} (hn : ∀ m, m < xs.length → xs[m]? ≠ some s) : idxS s xs = -1 := by
  rw [idxS, findS_no xs 0 hn]
theorem idxS_in {s : ByteArray} {xs : List ByteArray} (h : s ∈ xs) : 0 ≤ idxS s xs := by
  unfold idxS
  cases hf : findS s xs 0 with
  | none =>
    obtain ⟨j, hj⟩ := List.getElem?_of_mem h
    exact absurd hj (findS_none hf j)
  | some p => show (0 : Int) ≤ (p : Nat); omega
theorem idxS_out {s : ByteArray} {xs : List ByteArray} (h : s ∉ xs) : idxS s xs = -1 :=
  idxS_end fun _ _ e => h (List.mem_of_getElem? e)
set_option maxRecDepth 100000 in
set_option maxHeartbeats 1000000 in
theorem index_any (v : Value) (xs : List ByteArray) (s : ByteArray) (w : World) (hS : Strs w v xs) (hl : xs.length ≤ 9223372036854775807) : Calls Tryz.prog 62 #[v, .string s] w fun e w' => e = .returned (.int .i64 (idxS s xs)) ∧ w = w' := by
  obtain ⟨A, cap, rfl, hA⟩ := hS.at3
  obtain ⟨n, hn⟩ : ∃ n, n = xs.length := ⟨_, rfl⟩
  rw [← hn] at hA hl ⊢
  have HN := Lib.hid hn
  clear hn hS
  go_enter Tryz.func62, Tryz.ntmps62
  go_wp2_with fail
  go_loopw [8] (fun z wr => ∃ p : Nat, z = .int .i64 p ∧ p ≤ n ∧ w = wr ∧ (∀ m, m < p → xs[m]? ≠ some s)) (fun z _ => n - (intOf z).toNat)
  case atStart => exact ⟨0, rfl, Nat.zero_le _, rfl, fun _ h => by omega⟩
  case round =>
    obtain ⟨p, rfl, hpn, rfl, hno⟩ := hrel
    by_cases hp : p < n
    · obtain ⟨b1, o1, rfl, hb1, hc1⟩ := hA (by omega)
      have hg : xs[p]? = some (xs[p]'(by have := HN.out; omega)) := List.getElem?_eq_getElem _
      have X0 := hc1 p _ hg
      generalize xs[p]'(by have := HN.out; omega) = X at *
      have hpi : (p : Int) < n := by omega
      have heq := neqS s X
      clear hc1
      by_cases hx : s = X
      · subst hx
        rw [decide_eq_true rfl] at heq
        have HR := Lib.hid (idxS_at hg hno)
        clear hg hno
        go_wp2_with fail
        go_ret
        rw [HR.out]
        exact ⟨rfl, rfl⟩
      · rw [decide_eq_false hx] at heq
        have HNO := Lib.hid (show ∀ m, m < p + 1 → xs[m]? ≠ some s from fun m hm => by
          by_cases h : m = p
          · subst h; rw [hg]; exact fun e => hx (Option.some.inj e).symm
          · exact hno m (by omega))
        clear hg hno hx
        go_wp2_with fail
        go_roundw
        case rel => exact ⟨p + 1, rfl, hp, trivial, HNO.out⟩
        case measure => simp [intOf]; omega
    · obtain rfl : n = p := by omega
      have hpi : ¬ ((n : Int) < n) := by omega
      have HR := Lib.hid (idxS_end (s := s) (xs := xs) (by rw [← HN.out]; exact hno))
      clear hno hA
      go_wp2_with fail
      go_ret
      rw [HR.out]
      exact ⟨rfl, rfl⟩
theorem contains_any (v : Value) (xs : List ByteArray) (s : ByteArray) (w : World) (hS : Strs w v xs) (hl : xs.length ≤ 9223372036854775807) : Calls Tryz.prog 44 #[v, .string s] w fun e w' => e = .returned (.bool (decide (0 ≤ idxS s xs))) ∧ w = w' := by
  have HI := Lib.hid (index_any v xs s w hS hl)
  generalize idxS s xs = q at *
  clear hS hl
  go_enter Tryz.func44, Tryz.ntmps44
  go_wp2_with (go_at_call 62; refine HI.out.mono ?_; rintro e w' ⟨rfl, rfl⟩)
  go_ret
  exact ⟨rfl, rfl⟩
end Go.Proofs.YtjeifmjcgemlgaaGreatDoor
/- What memberInputs and Validate of package casedata compute. -/
namespace Go.Proofs.YtjeifmjcgemlgaaGreatDoor
open Go.RowKit

theorem Scs.at_ {w : World} {v : Value} {scs : List Sc} (h : Scs w v scs) : ∃ A cap, v = .slice A scs.length cap ∧ scs.length ≤ 9223372036854775807 ∧ (0 < scs.length → ∃ b off, A = some ⟨b, off, none⟩ ∧ b < w.heap.size ∧
    ∀ j s, scs[j]? = some s → w.cell? ⟨b, off + j * 5 + 1, none⟩ = some (.int .i64 s.m) ∧ ∃ Ai ci, w.cell? ⟨b, off + j * 5 + 2, none⟩ = some (.slice Ai s.ins.length ci) ∧ Fds w (.slice Ai s.ins.length ci) s.ins) := by
  obtain ⟨A, cap, hv, hl, hx⟩ := h
  refine ⟨A, cap, hv, hl, fun hp => ?_⟩
  obtain ⟨b, off, hA, hb, hc⟩ := hx hp
  refine ⟨b, off, hA, hb, fun j s hj => ?_⟩
  obtain ⟨_, h1, iv, h2, h3⟩ := hc j s hj
  obtain ⟨Ai, ci, rfl, _⟩ := id h3
  exact ⟨h1, Ai, ci, h2, h3⟩
def memPost (scs : List Sc) (sc : Nat) (w : World) (e : Ending) (w' : World) : Prop :=
  ∃ iv, e = .returned (.tuple #[iv, .int .i64 (memI scs (scs[sc]?.getD ⟨0, []⟩)).2]) ∧ Fds w' iv (memI scs (scs[sc]?.getD ⟨0, []⟩)).1 ∧ Kept w w'
set_option maxRecDepth 100000 in
set_option maxHeartbeats 4000000 in
theorem memberInputs_any (ev sv : Value) (At : Option Addr) (nt ct : Nat) (scs : List Sc) (sc : Nat) (w : World) (AE : Option Addr) (ne ce : Nat) (hev : ev = .slice AE ne ce) (hS : Scs w sv scs) (hsc : sc < scs.length) :
    Calls Tryz.prog 17 #[.agg #[ev, .slice At nt ct, sv], .int .i64 sc] w (memPost scs sc w) := by
  unfold memPost
  subst hev
  have HS := Lib.hid hS
  obtain ⟨AS, cs, rfl, hsl, hx⟩ := hS.at_
  obtain ⟨b, off, rfl, hb, hc⟩ := hx (by omega)
  have hg : scs[sc]? = some (scs[sc]'hsc) := List.getElem?_eq_getElem hsc
  rw [hg, Option.getD_some]
  obtain ⟨x1, Ai, ci, x2, hF⟩ := hc sc _ hg
  have hK := (Kept.refl w).alloc (.cells #[.slice AE ne ce, .slice At nt ct, .slice (some ⟨b, off, none⟩) scs.length cs] 26)
  have X1 := hK.cell (p := ⟨b, _, none⟩) hb x1
  have hsi : (sc : Int) < scs.length := by omega
  generalize hss : scs[sc] = s at *
  have hK2 := Lib.hid hK
  by_cases hm : s.m < 0 ∨ (scs.length : Int) ≤ s.m
  · have HR := Lib.hid (show memI scs s = ([], 0) by rw [memI, if_pos hm])
    rw [HR.out]
    rcases (show s.m < 0 ∨ (¬ s.m < 0 ∧ (scs.length : Int) ≤ s.m) by omega) with h | ⟨h, h2⟩
    · clear hm hc hx hF x2 hK HS
      go_enter Tryz.func17, Tryz.ntmps17
      go_wp2_with fail
      go_ret2
      exact ⟨_, rfl, Fds.nil _, hK2.out⟩
    · clear hm hc hx hF x2 hK HS
      go_enter Tryz.func17, Tryz.ntmps17
      go_wp2_with fail
      go_ret2
      exact ⟨_, rfl, Fds.nil _, hK2.out⟩
  · obtain ⟨q, hq⟩ : ∃ q : Nat, s.m = q := ⟨s.m.toNat, by omega⟩
    have hqs : q < scs.length := by omega
    have hg2 : scs[q]? = some (scs[q]'hqs) := List.getElem?_eq_getElem hqs
    have HR := Lib.hid (show memI scs s = ((scs[q]'hqs).ins, 8) by rw [memI, if_neg hm, hq, Int.toNat_natCast, hg2]; rfl)
    obtain ⟨_, Aj, cj, y2, hG⟩ := hc q _ hg2
    have Y2 := hK.cell (p := ⟨b, _, none⟩) hb y2
    have HG := Lib.hid (hG.kept hK)
    rw [HR.out]
    generalize scs[q] = s2 at *
    rw [hq] at X1
    have hqi : (q : Int) < scs.length := by omega
    have hqi2 : ¬ ((scs.length : Int) ≤ q) := by omega
    clear hm hc hx hF x1 x2 y2 hK HS hG hq hg hg2 hss hS HR
    go_enter Tryz.func17, Tryz.ntmps17
    go_wp2_with fail
    go_ret2
    exact ⟨_, rfl, HG.out, hK2.out⟩

theorem Mems.at_ {w : World} {v : Value} {mem : List (List Vl)} (h : Mems w v mem) : ∃ A cap, v = .slice A mem.length cap ∧ mem.length ≤ 9223372036854775807 ∧ (0 < mem.length → ∃ b off, A = some ⟨b, off, none⟩ ∧ b < w.heap.size ∧
    ∀ j l, mem[j]? = some l → l.length ≤ 9223372036854775807 ∧ ∃ Ai ci, w.cell? ⟨b, off + j, none⟩ = some (.slice Ai l.length ci) ∧ Vals w (.slice Ai l.length ci) l) := by
  obtain ⟨A, cap, hv, hl, hx⟩ := h
  refine ⟨A, cap, hv, hl, fun hp => ?_⟩
  obtain ⟨b, off, hA, hb, hc⟩ := hx hp
  refine ⟨b, off, hA, hb, fun j l hj => ?_⟩
  obtain ⟨h0, lv, h1, h2⟩ := hc j l hj
  obtain ⟨Ai, ci, rfl, _⟩ := id h2
  exact ⟨h0, Ai, ci, h1, h2⟩
theorem chkM_at {ms : List (List ByteArray)} {ts : List Ty} {mem : List (List Vl)} {i : Nat} {l : List Vl} (h : mem[i]? = some l) :
    chkM ms ts i (mem.drop i) = if (chkV ms ts l).2 = 0 then chkM ms ts (i + 1) (mem.drop (i + 1)) else (i, (chkV ms ts l).1, (chkV ms ts l).2) := by
  obtain ⟨hi, rfl⟩ := List.getElem?_eq_some_iff.1 h
  rw [List.drop_eq_getElem_cons hi, chkM]
theorem chkM_end {ms : List (List ByteArray)} {ts : List Ty} {mem : List (List Vl)} {i : Nat} (h : ¬ i < mem.length) : chkM ms ts i (mem.drop i) = (0, 0, 0) := by
  rw [List.drop_eq_nil_iff.2 (by omega)]; rfl
def valPost (R : Int × Int × Int) (w : World) (e : Ending) (w' : World) : Prop := e = .returned (.tuple #[.int .i64 R.1, .int .i64 R.2.1, .int .i64 R.2.2]) ∧ Kept w w'
set_option maxRecDepth 100000 in
set_option maxHeartbeats 8000000 in
theorem validate_any (lv iv mv : Value) (ms : List (List ByteArray)) (scs : List Sc) (sc d : Int) (ins : List Vl) (mem : List (List Vl)) (w : World) (hL : LawM w lv ms scs) (hI : Vals w iv ins) (hil : ins.length ≤ 9223372036854775807) (hM : Mems w mv mem) :
    Calls Tryz.prog 8 #[lv, .int .i64 sc, .agg #[.int .i64 d, iv, mv]] w (valPost (valC ms scs sc d ins mem) w) := by
  unfold valPost
  obtain ⟨ev, At, nt, ct, sv, rfl, hE, hS⟩ := hL
  obtain ⟨AE, ce, rfl, _, _⟩ := id hE
  obtain ⟨AS, cs, rfl, hsl, hx⟩ := hS.at_
  obtain ⟨AI, ci, rfl, _⟩ := id hI
  obtain ⟨AM, cm, rfl, hml, hmx⟩ := hM.at_
  have K0 := Lib.hid (((Kept.refl w).alloc (.cells #[.slice AE ms.length ce, .slice At nt ct, .slice AS scs.length cs] 26)).alloc (.cells #[.int .i64 d, .slice AI ins.length ci, .slice AM mem.length cm] 30))
  by_cases h1 : sc < 0
  · have HR := Lib.hid (show valC ms scs sc d ins mem = (-1, -1, 6) by rw [valC, if_pos (.inl h1)])
    rw [HR.out]
    clear hE hS hI hM hx hmx
    go_enter Tryz.func8, Tryz.ntmps8
    go_wp2_with fail
    go_ret3
    exact ⟨rfl, K0.out⟩
  by_cases h2 : (scs.length : Int) ≤ sc
  · have HR := Lib.hid (show valC ms scs sc d ins mem = (-1, -1, 6) by rw [valC, if_pos (.inr h2)])
    rw [HR.out]
    clear hE hS hI hM hx hmx
    go_enter Tryz.func8, Tryz.ntmps8
    go_wp2_with fail
    go_ret3
    exact ⟨rfl, K0.out⟩
  have hvc : valC ms scs sc d ins mem = if d < 0 ∨ 109572 < d then (-1, -1, 3) else (if (chkV ms (scs[sc.toNat]?.getD ⟨0, []⟩).ins ins).2 = 0 then
      (if (memI scs (scs[sc.toNat]?.getD ⟨0, []⟩)).2 < mem.length then (((memI scs (scs[sc.toNat]?.getD ⟨0, []⟩)).2 : Int), -1, 4) else chkM ms (memI scs (scs[sc.toNat]?.getD ⟨0, []⟩)).1 0 mem)
    else (-1, ((chkV ms (scs[sc.toNat]?.getD ⟨0, []⟩).ins ins).1 : Int), (chkV ms (scs[sc.toNat]?.getD ⟨0, []⟩).ins ins).2)) := by
    rw [valC, if_neg (by omega)]
  obtain ⟨q, rfl⟩ : ∃ q : Nat, sc = q := ⟨sc.toNat, by omega⟩
  rw [Int.toNat_natCast] at hvc
  have hqs : q < scs.length := by omega
  obtain ⟨b, off, rfl, hb, hc⟩ := hx (by omega)
  have hg : scs[q]? = some (scs[q]'hqs) := List.getElem?_eq_getElem hqs
  obtain ⟨_, Ai, cI, x2, hF⟩ := hc q _ hg
  have hmi := hg
  have HMI := Lib.hid (fun w1 (hk : Kept w w1) => memberInputs_any (.slice AE ms.length ce) (.slice (some ⟨b, off, none⟩) scs.length cs) At nt ct scs q w1 AE ms.length ce rfl (hS.kept hk) hqs)
  unfold memPost at HMI
  rw [hg, Option.getD_some] at hvc HMI
  generalize scs[q] = s at *
  have hsi : (q : Int) < scs.length := by omega
  have hd3 : ¬ (d < 0 ∨ 109572 < d) ∨ (d < 0 ∨ 109572 < d) := by omega
  rcases hd3 with hd | hd
  · rw [if_neg hd] at hvc
    have hd1 : ¬ d < 0 := by omega
    have hd2 : ¬ 109572 < d := by omega
    have HVC := Lib.hid hvc
    have HE := Lib.hid hE
    have HI := Lib.hid hI
    have HF := Lib.hid hF
    have HM := Lib.hid hmx
    clear hvc hE hS hI hM hc hmx hd hmi hg h1 h2 hF hx
    go_enter Tryz.func8, Tryz.ntmps8
    go_wp2_with fail
    have B1 := (Blk.new w 26 #[.slice AE ms.length ce, .slice At nt ct, .slice (some ⟨b, off, none⟩) scs.length cs]).alloc (.cells #[.int .i64 d, .slice AI ins.length ci, .slice AM mem.length cm] 30)
    have B2 := Blk.new (w.alloc (.cells #[.slice AE ms.length ce, .slice At nt ct, .slice (some ⟨b, off, none⟩) scs.length cs] 26)) 30 #[.int .i64 d, .slice AI ins.length ci, .slice AM mem.length cm]
    rw [World.size_alloc] at B2
    have X2 := K0.out.cell (p := ⟨b, _, none⟩) hb x2
    generalize (w.alloc (.cells #[.slice AE ms.length ce, .slice At nt ct, .slice (some ⟨b, off, none⟩) scs.length cs] 26)).alloc (.cells #[.int .i64 d, .slice AI ins.length ci, .slice AM mem.length cm] 30) = W at *
    have hbW := Nat.lt_of_lt_of_le hb K0.out.size
    have HCK := Lib.hid (fun w1 (hk : Kept w w1) => check_any (.slice AE ms.length ce) At (some ⟨b, off, none⟩) nt ct scs.length cs _ _ ms s.ins ins w1 (HE.out.kept hk) (HI.out.kept hk) (HF.out.kept hk) hil)
    unfold ckPost at HCK
    have a0 := KW.cell B1.lt (B1.cell 0)
    have a1 := KW.cell B1.lt (B1.cell 1)
    have a2 := KW.cell B1.lt (B1.cell 2)
    have c0 := KW.cell B2.lt (B2.cell 0)
    have c1 := KW.cell B2.lt (B2.cell 1)
    have c2 := KW.cell B2.lt (B2.cell 2)
    have e0 := KW.cell hbW X2
    refine wp_region_kept (by kernel_rfl) (by kernel_rfl) ?_
    repeat (go_big_quiet_step (first | (go_at_call 16; exact KW.call (HCK.out _ (K0.out.trans (KW.h _))))))
    refine wpQuiet_nil ?_
    rintro w2 ⟨⟨wx, hx2⟩, hh⟩
    obtain rfl : w2 = wx := hh
    have K2 := K0.out.trans hx2
    have D1 := B1.kept hx2
    have D2 := B2.kept hx2
    clear a0 a1 a2 c0 c1 c2 e0 X2 B1 B2 hx2
    have HKK := Lib.hid K2
    have HD1 := Lib.hid D1
    have HD2 := Lib.hid D2
    have d0 := D1.cell 0
    have d1 := D1.cell 1
    have d2 := D1.cell 2
    have dl := D1.lt
    have g2 := D2.cell 2
    have gl := D2.lt
    generalize chkV ms s.ins ins = R at *
    obtain ⟨c1, cc⟩ := R
    dsimp only at HVC ⊢
    clear HCK HF HI K2 D1 D2
    by_cases hcc : cc = 0
    · subst hcc
      rw [if_pos rfl] at HVC
      have HMI2 := Lib.hid (HMI.out w2 HKK.out)
      clear HMI
      generalize memI scs s = I at *
      obtain ⟨its, lim⟩ := I
      dsimp only at HVC HMI2
      by_cases hlim : lim < mem.length
      · rw [if_pos hlim] at HVC
        have hli : (lim : Int) < mem.length := by omega
        clear HM HE
        go_wp2_with (go_at_call 17; refine HMI2.out.mono ?_; rintro e w3 ⟨jv, rfl, hF3, k3⟩; have g2 := (HD2.out.kept k3).cell 2; have gl := (HD2.out.kept k3).lt)
        go_ret3
        rw [HVC.out]
        exact ⟨rfl, HKK.out.trans k3⟩
      · rw [if_neg hlim] at HVC
        have hli : ¬ ((lim : Int) < mem.length) := by omega
        go_wp2_with (go_at_call 17; refine HMI2.out.mono ?_; rintro e w3 ⟨jv, rfl, hF3, k3⟩; have g2 := (HD2.out.kept k3).cell 2; have gl := (HD2.out.kept k3).lt)
        have K3 := HKK.out.trans k3
        have D3 := HD1.out.kept k3
        obtain ⟨n, hn⟩ : ∃ n, n = mem.length := ⟨_, rfl⟩
        rw [← hn] at HM hml ⊢
        have HN := Lib.hid hn
        obtain ⟨Aj, cj, rfl, _⟩ := id hF3
        have HF3 := Lib.hid hF3
        clear hn d0 d1 d2 dl g2 gl HD1 HD2 HMI2 hli hF3
        go_loopw [66] (fun y wr => ∃ i : Nat, y = .int .i64 i ∧ i ≤ n ∧ Kept w3 wr ∧ chkM ms its i (mem.drop i) = chkM ms its 0 mem) (fun y _ => n - (intOf y).toNat)
        case atStart => exact ⟨0, rfl, Nat.zero_le _, Kept.refl _, rfl⟩
        case round =>
          obtain ⟨i, rfl, hin, hK, hrun⟩ := hrel
          have d0 := (D3.kept hK).cell 0
          have d1 := (D3.kept hK).cell 1
          have d2 := (D3.kept hK).cell 2
          have dl := (D3.kept hK).lt
          by_cases hlt : i < n
          · obtain ⟨bm, om, rfl, hbm, hcm⟩ := HM.out (by omega)
            have hgm : mem[i]? = some (mem[i]'(by have := HN.out; omega)) := List.getElem?_eq_getElem _
            rw [chkM_at hgm] at hrun
            obtain ⟨hll, Al, cl, y0, hVl⟩ := hcm i _ hgm
            generalize mem[i]'(by have := HN.out; omega) = l at *
            have hKw := K3.trans hK
            have Y0 := hKw.cell (p := ⟨bm, _, none⟩) hbm y0
            have HCK := Lib.hid (check_any (.slice AE ms.length ce) At (some ⟨b, off, none⟩) nt ct scs.length cs _ _ ms its l wr (HE.out.kept hKw) (hVl.kept hKw) (HF3.out.kept hK) hll)
            unfold ckPost at HCK
            have hii : (i : Int) < n := by omega
            generalize chkV ms its l = R at *
            obtain ⟨q1, q2⟩ := R
            dsimp only at hrun HCK
            clear hcm y0 hVl hgm hll
            by_cases hq : q2 = 0
            · subst hq
              rw [if_pos rfl] at hrun
              have HRUN := Lib.hid hrun
              clear hrun
              go_wp2_with (go_at_call 16; refine HCK.out.mono ?_; rintro e w5 ⟨rfl, k5⟩)
              go_roundw
              case rel => exact ⟨i + 1, rfl, hlt, hK.trans k5, HRUN.out⟩
              case measure => simp [intOf]; omega
            · rw [if_neg hq] at hrun
              have hqb := bne_noC hq
              have HRUN := Lib.hid hrun
              clear hrun hq
              go_wp2_with (go_at_call 16; refine HCK.out.mono ?_; rintro e w5 ⟨rfl, k5⟩)
              go_ret3
              rw [HVC.out, ← HRUN.out]
              exact ⟨rfl, hKw.trans k5⟩
          · have hii : ¬ ((i : Int) < n) := by omega
            rw [chkM_end (by have := HN.out; omega)] at hrun
            have HRUN := Lib.hid hrun
            clear hrun
            go_wp2_with fail
            go_ret3
            rw [HVC.out, ← HRUN.out]
            exact ⟨rfl, K3.trans hK⟩
    · rw [if_neg hcc] at HVC
      have hqb := bne_noC hcc
      clear hcc HMI HM HE
      go_wp2_with fail
      go_ret3
      rw [HVC.out]
      exact ⟨rfl, HKK.out⟩
  · rw [if_pos hd] at hvc
    have HVC := Lib.hid hvc
    rcases (show d < 0 ∨ (¬ d < 0 ∧ 109572 < d) by omega) with h | ⟨h, h2'⟩
    all_goals
      clear hE hS hI hM hc hmx hd HMI hvc h1 h2 hF hx hg hmi
      go_enter Tryz.func8, Tryz.ntmps8
      go_wp2_with fail
      go_ret3
      rw [HVC.out]
      exact ⟨rfl, K0.out⟩
end Go.Proofs.YtjeifmjcgemlgaaGreatDoor
/- What Format of package value, and of its reference, computes. -/
namespace Go.Proofs.YtjeifmjcgemlgaaGreatDoor
open Go.RowKit

theorem fixS_small (n : Int) (p : Int) (h0 : -9223372036854775808 ≤ n) (h1 : n ≤ 9223372036854775807) (hp : p ≤ 9) : (fixS n p).size ≤ 1000000 := by
  have hl := absD_len n h0 h1
  unfold fixS
  split
  · have := numS_size n h0 h1; omega
  · rw [bs_size, fixT, List.length_append, List.length_append, List.length_append, List.length_take, List.length_drop, padD, List.length_append, List.length_replicate, sgn]
    split <;> simp <;> omega
theorem inB_six {n : Int} {j : Nat} {ms : List (List ByteArray)} {l : List ByteArray} (hl : ms[j]? = some l) (hv : vtB 6 j ms = true) : inB n 6 j ms = (decide (0 ≤ n) && decide (n ≤ (l.length : Int) - 1)) := by
  rw [inB, bndS, if_pos hv]
  show (decide (0 ≤ n) && decide (n ≤ ((memS (j : Int) ms).length : Int) - 1)) = _
  rw [memS, Int.toNat_natCast, hl]; rfl
theorem str_ret {a b : ByteArray} {c d : Int} (h : (a, c) = (b, d)) : Ending.returned (.tuple #[.string a, .int .i64 c]) = Ending.returned (.tuple #[.string b, .int .i64 d]) := by
  obtain ⟨rfl, rfl⟩ := Prod.mk.inj h; rfl

set_option maxRecDepth 100000 in
set_option maxHeartbeats 8000000 in
theorem vformat_any (k e n : Int) (v : Value) (ms : List (List ByteArray)) (w : World) (hE : Enums w v ms) (h0 : -9223372036854775808 ≤ n) (h1 : n ≤ 9223372036854775807) (hM : Mon w) (hP : Pow w) :
    Calls Tryz.prog 39 #[.agg #[.int .i64 k, .int .i64 e, .int .i64 n], v] w fun r w' => r = .returned (.tuple #[.string (vfmtS k e n ms).1, .int .i64 (vfmtS k e n ms).2]) ∧ Kept w w' := by
  have hE1 := fun w' (h : Kept w w') => hE.kept h
  have hT := Lib.hid (fun w h => vtype_any k e v ms w h)
  have hI := Lib.hid (fun w h => within_any n k e v ms w h)
  have hF2 := Lib.hid (fun w hP => fmtInt_any n h0 h1 w hP)
  have hF5 := Lib.hid (fun w hM hP => format_any n w hM hP)
  cases hv : vtB k e ms
  · have HR := Lib.hid (show vfmtS k e n ms = (⟨#[]⟩, 8) by rw [vfmtS, hv]; rfl)
    rw [hv] at hT
    clear hv
    go_enter Tryz.func39, Tryz.ntmps39
    go_wp2_with (first
      | (go_at_call 52; refine (hT.out _ (hE1 _ (((Kept.refl _).alloc _).alloc _))).mono ?_; rintro r w1 ⟨rfl, hk⟩; have hK := (((Kept.refl _).alloc _).alloc _).trans hk; have B := hk.blk2.1; have B2 := hk.blk2.2; have c1 := B.cell 2; have c2 := B2.cell 0; have c3 := B2.cell 1; have B2lt := B2.lt; clear hk)
      | (go_at_call 58; refine (hI.out _ (hE1 _ hK)).mono ?_; rintro r w2 ⟨rfl, hk2⟩; have hK := hK.trans hk2; have B := B.kept hk2; have c0 := B.cell 0; have c1 := B.cell 2; clear hk2)
      | (go_at_call 56; refine (hF2.out _ (hP.kept hK)).mono ?_; rintro r w3 ⟨rfl, hk3⟩; have hK := hK.trans hk3)
      | (go_at_call 59; refine (hF3.out _ (hP.kept hK)).mono ?_; rintro r w3 ⟨rfl, hk3⟩; have hK := hK.trans hk3)
      | (go_at_call 19; refine (hF5.out _ (hM.kept hK) (hP.kept hK)).mono ?_; rintro r w3 ⟨rfl, hk3⟩; have hK := hK.trans hk3))
    go_ret2
    rw [HR.out]
    exact ⟨rfl, hK⟩
  cases hi : inB n k e ms
  · have HR := Lib.hid (show vfmtS k e n ms = (⟨#[]⟩, 3) by rw [vfmtS, hv, hi]; rfl)
    rw [hv] at hT
    rw [hi] at hI
    clear hv hi
    go_enter Tryz.func39, Tryz.ntmps39
    go_wp2_with (first
      | (go_at_call 52; refine (hT.out _ (hE1 _ (((Kept.refl _).alloc _).alloc _))).mono ?_; rintro r w1 ⟨rfl, hk⟩; have hK := (((Kept.refl _).alloc _).alloc _).trans hk; have B := hk.blk2.1; have B2 := hk.blk2.2; have c1 := B.cell 2; have c2 := B2.cell 0; have c3 := B2.cell 1; have B2lt := B2.lt; clear hk)
      | (go_at_call 58; refine (hI.out _ (hE1 _ hK)).mono ?_; rintro r w2 ⟨rfl, hk2⟩; have hK := hK.trans hk2; have B := B.kept hk2; have c0 := B.cell 0; have c1 := B.cell 2; clear hk2)
      | (go_at_call 56; refine (hF2.out _ (hP.kept hK)).mono ?_; rintro r w3 ⟨rfl, hk3⟩; have hK := hK.trans hk3)
      | (go_at_call 59; refine (hF3.out _ (hP.kept hK)).mono ?_; rintro r w3 ⟨rfl, hk3⟩; have hK := hK.trans hk3)
      | (go_at_call 19; refine (hF5.out _ (hM.kept hK) (hP.kept hK)).mono ?_; rintro r w3 ⟨rfl, hk3⟩; have hK := hK.trans hk3))
    go_ret2
    rw [HR.out]
    exact ⟨rfl, hK⟩
  have HR := Lib.hid (show vfmtS k e n ms = (vtext k e n ms, 0) by rw [vfmtS, hv, hi]; rfl)
  rw [hv] at hT
  rw [hi] at hI
  rcases vt_true hv with ⟨hk, rfl⟩ | ⟨rfl, j, rfl, hj⟩
  · have hb := (inB_iff hv).1 hi
    clear hv hi
    rcases hk with rfl | rfl | rfl | rfl | rfl
    · obtain ⟨b0, b1⟩ : 0 ≤ n ∧ n ≤ 1 := hb
      obtain rfl | rfl : n = 0 ∨ n = 1 := by omega
      all_goals
        go_enter Tryz.func39, Tryz.ntmps39
        go_wp2_with (first
      | (go_at_call 52; refine (hT.out _ (hE1 _ (((Kept.refl _).alloc _).alloc _))).mono ?_; rintro r w1 ⟨rfl, hk⟩; have hK := (((Kept.refl _).alloc _).alloc _).trans hk; have B := hk.blk2.1; have B2 := hk.blk2.2; have c1 := B.cell 2; have c2 := B2.cell 0; have c3 := B2.cell 1; have B2lt := B2.lt; clear hk)
      | (go_at_call 58; refine (hI.out _ (hE1 _ hK)).mono ?_; rintro r w2 ⟨rfl, hk2⟩; have hK := hK.trans hk2; have B := B.kept hk2; have c0 := B.cell 0; have c1 := B.cell 2; clear hk2)
      | (go_at_call 56; refine (hF2.out _ (hP.kept hK)).mono ?_; rintro r w3 ⟨rfl, hk3⟩; have hK := hK.trans hk3)
      | (go_at_call 59; refine (hF3.out _ (hP.kept hK)).mono ?_; rintro r w3 ⟨rfl, hk3⟩; have hK := hK.trans hk3)
      | (go_at_call 19; refine (hF5.out _ (hM.kept hK) (hP.kept hK)).mono ?_; rintro r w3 ⟨rfl, hk3⟩; have hK := hK.trans hk3))
        go_ret2
        rw [HR.out]
        exact ⟨rfl, hK⟩
    · go_enter Tryz.func39, Tryz.ntmps39
      go_wp2_with (first
      | (go_at_call 52; refine (hT.out _ (hE1 _ (((Kept.refl _).alloc _).alloc _))).mono ?_; rintro r w1 ⟨rfl, hk⟩; have hK := (((Kept.refl _).alloc _).alloc _).trans hk; have B := hk.blk2.1; have B2 := hk.blk2.2; have c1 := B.cell 2; have c2 := B2.cell 0; have c3 := B2.cell 1; have B2lt := B2.lt; clear hk)
      | (go_at_call 58; refine (hI.out _ (hE1 _ hK)).mono ?_; rintro r w2 ⟨rfl, hk2⟩; have hK := hK.trans hk2; have B := B.kept hk2; have c0 := B.cell 0; have c1 := B.cell 2; clear hk2)
      | (go_at_call 56; refine (hF2.out _ (hP.kept hK)).mono ?_; rintro r w3 ⟨rfl, hk3⟩; have hK := hK.trans hk3)
      | (go_at_call 59; refine (hF3.out _ (hP.kept hK)).mono ?_; rintro r w3 ⟨rfl, hk3⟩; have hK := hK.trans hk3)
      | (go_at_call 19; refine (hF5.out _ (hM.kept hK) (hP.kept hK)).mono ?_; rintro r w3 ⟨rfl, hk3⟩; have hK := hK.trans hk3))
      go_ret2
      rw [HR.out]
      exact ⟨rfl, hK⟩
    · have hF3 : Hid (∀ w, Pow w → Calls Tryz.prog 59 #[.int .i64 n, .int .i64 2] w fun e w' => e = .returned (.string (fixS n 2)) ∧ Kept w w') := Lib.hid (fun w hP => formatFixed_any n 2 h0 h1 w hP)
      go_enter Tryz.func39, Tryz.ntmps39
      go_wp2_with (first
      | (go_at_call 52; refine (hT.out _ (hE1 _ (((Kept.refl _).alloc _).alloc _))).mono ?_; rintro r w1 ⟨rfl, hk⟩; have hK := (((Kept.refl _).alloc _).alloc _).trans hk; have B := hk.blk2.1; have B2 := hk.blk2.2; have c1 := B.cell 2; have c2 := B2.cell 0; have c3 := B2.cell 1; have B2lt := B2.lt; clear hk)
      | (go_at_call 58; refine (hI.out _ (hE1 _ hK)).mono ?_; rintro r w2 ⟨rfl, hk2⟩; have hK := hK.trans hk2; have B := B.kept hk2; have c0 := B.cell 0; have c1 := B.cell 2; clear hk2)
      | (go_at_call 56; refine (hF2.out _ (hP.kept hK)).mono ?_; rintro r w3 ⟨rfl, hk3⟩; have hK := hK.trans hk3)
      | (go_at_call 59; refine (hF3.out _ (hP.kept hK)).mono ?_; rintro r w3 ⟨rfl, hk3⟩; have hK := hK.trans hk3)
      | (go_at_call 19; refine (hF5.out _ (hM.kept hK) (hP.kept hK)).mono ?_; rintro r w3 ⟨rfl, hk3⟩; have hK := hK.trans hk3))
      go_ret2
      rw [HR.out]
      exact ⟨rfl, hK⟩
    · have hF3 : Hid (∀ w, Pow w → Calls Tryz.prog 59 #[.int .i64 n, .int .i64 4] w fun e w' => e = .returned (.string (fixS n 4)) ∧ Kept w w') := Lib.hid (fun w hP => formatFixed_any n 4 h0 h1 w hP)
      have hz := fixS_small n 4 h0 h1 (by decide)
      have HT := Lib.hid (show vtext 4 0 n ms = fixS n 4 ++ ⟨#[37]⟩ from rfl)
      generalize fixS n 4 = X at *
      have hz2 : ¬ (9223372036854775807 < X.size + (⟨#[37]⟩ : ByteArray).size) := by show ¬ (_ < X.size + 1); omega
      go_enter Tryz.func39, Tryz.ntmps39
      go_wp2_with (first
      | (go_at_call 52; refine (hT.out _ (hE1 _ (((Kept.refl _).alloc _).alloc _))).mono ?_; rintro r w1 ⟨rfl, hk⟩; have hK := (((Kept.refl _).alloc _).alloc _).trans hk; have B := hk.blk2.1; have B2 := hk.blk2.2; have c1 := B.cell 2; have c2 := B2.cell 0; have c3 := B2.cell 1; have B2lt := B2.lt; clear hk)
      | (go_at_call 58; refine (hI.out _ (hE1 _ hK)).mono ?_; rintro r w2 ⟨rfl, hk2⟩; have hK := hK.trans hk2; have B := B.kept hk2; have c0 := B.cell 0; have c1 := B.cell 2; clear hk2)
      | (go_at_call 56; refine (hF2.out _ (hP.kept hK)).mono ?_; rintro r w3 ⟨rfl, hk3⟩; have hK := hK.trans hk3)
      | (go_at_call 59; refine (hF3.out _ (hP.kept hK)).mono ?_; rintro r w3 ⟨rfl, hk3⟩; have hK := hK.trans hk3)
      | (go_at_call 19; refine (hF5.out _ (hM.kept hK) (hP.kept hK)).mono ?_; rintro r w3 ⟨rfl, hk3⟩; have hK := hK.trans hk3))
      go_ret2
      rw [HR.out, HT.out]
      exact ⟨rfl, hK⟩
    · go_enter Tryz.func39, Tryz.ntmps39
      go_wp2_with (first
      | (go_at_call 52; refine (hT.out _ (hE1 _ (((Kept.refl _).alloc _).alloc _))).mono ?_; rintro r w1 ⟨rfl, hk⟩; have hK := (((Kept.refl _).alloc _).alloc _).trans hk; have B := hk.blk2.1; have B2 := hk.blk2.2; have c1 := B.cell 2; have c2 := B2.cell 0; have c3 := B2.cell 1; have B2lt := B2.lt; clear hk)
      | (go_at_call 58; refine (hI.out _ (hE1 _ hK)).mono ?_; rintro r w2 ⟨rfl, hk2⟩; have hK := hK.trans hk2; have B := B.kept hk2; have c0 := B.cell 0; have c1 := B.cell 2; clear hk2)
      | (go_at_call 56; refine (hF2.out _ (hP.kept hK)).mono ?_; rintro r w3 ⟨rfl, hk3⟩; have hK := hK.trans hk3)
      | (go_at_call 59; refine (hF3.out _ (hP.kept hK)).mono ?_; rintro r w3 ⟨rfl, hk3⟩; have hK := hK.trans hk3)
      | (go_at_call 19; refine (hF5.out _ (hM.kept hK) (hP.kept hK)).mono ?_; rintro r w3 ⟨rfl, hk3⟩; have hK := hK.trans hk3))
      go_ret2
      rw [HR.out]
      exact ⟨rfl, hK⟩
  · obtain ⟨b, off, cap, N, B2, cc, l, hl, hN, hn9, rfl, hb, hcl, hcm⟩ := hE.at_ hj
    have hm := hE
    obtain ⟨_, _, _, hm, _⟩ := hm
    have hb2 := (inB_iff hv).1 hi
    have HT := Lib.hid (show vtext 6 (j : Int) n ms = l[n.toNat]?.getD ⟨#[]⟩ by
      show (memS (j : Int) ms)[n.toNat]?.getD ⟨#[]⟩ = _
      rw [memS, Int.toNat_natCast, hl]; rfl)
    obtain ⟨i, rfl⟩ : ∃ i : Nat, n = i := ⟨n.toNat, by have : 0 ≤ n := hb2.1; omega⟩
    rw [Int.toNat_natCast] at HT
    have hiN : i < N := by
      have h2 : (i : Int) ≤ ((memS (j : Int) ms).length : Int) - 1 := hb2.2
      rw [memS, Int.toNat_natCast, hl, Option.getD_some, hN] at h2
      omega
    obtain ⟨b3, off3, rfl, hb3, hc3⟩ := hcm (by omega)
    have hc4 := hc3 i hiN
    clear hc3 hcm hb2 hv hi hl hN
    generalize l[i]?.getD ⟨#[]⟩ = Z at *
    have hji : (j : Int) < ms.length := by omega
    have hiI : (i : Int) < N := by omega
    go_enter Tryz.func39, Tryz.ntmps39
    go_wp2_with (first
      | (go_at_call 52; refine (hT.out _ (hE1 _ (((Kept.refl _).alloc _).alloc _))).mono ?_; rintro r w1 ⟨rfl, hk⟩; have hK := (((Kept.refl _).alloc _).alloc _).trans hk; have B := hk.blk2.1; have B2 := hk.blk2.2; have c1 := B.cell 2; have c2 := B2.cell 0; have c3 := B2.cell 1; have B2lt := B2.lt; clear hk)
      | (go_at_call 58; refine (hI.out _ (hE1 _ hK)).mono ?_; rintro r w2 ⟨rfl, hk2⟩; have hK := hK.trans hk2; have B := B.kept hk2; have c0 := B.cell 0; have c1 := B.cell 2; clear hk2)
      | (go_at_call 56; refine (hF2.out _ (hP.kept hK)).mono ?_; rintro r w3 ⟨rfl, hk3⟩; have hK := hK.trans hk3)
      | (go_at_call 59; refine (hF3.out _ (hP.kept hK)).mono ?_; rintro r w3 ⟨rfl, hk3⟩; have hK := hK.trans hk3)
      | (go_at_call 19; refine (hF5.out _ (hM.kept hK) (hP.kept hK)).mono ?_; rintro r w3 ⟨rfl, hk3⟩; have hK := hK.trans hk3))
    have d1 := KW.cell B.lt (B.cell 1)
    have d2 := KW.cell B.lt (B.cell 2)
    have hkl := KW.cell (Nat.lt_of_lt_of_le hb hK.size) (hK.cell (p := ⟨b, off + j * 2 + 1, none⟩) hb hcl)
    have hkm := KW.cell (Nat.lt_of_lt_of_le hb3 hK.size) (hK.cell (p := ⟨b3, off3 + i, none⟩) hb3 hc4)
    refine wp_region_kept (by kernel_rfl) (by kernel_rfl) ?_
    repeat (go_big_quiet_step (fail))
    refine wpQuiet_nil ?_
    rintro _ ⟨⟨wx, hx2⟩, rfl⟩
    go_wp2_with fail
    go_ret2
    rw [HR.out, HT.out]
    exact ⟨rfl, hK.trans hx2⟩

end Go.Proofs.YtjeifmjcgemlgaaGreatDoor
/- What parseNumber of package value, and number of its reference, compute. -/
namespace Go.Proofs.YtjeifmjcgemlgaaGreatDoor
open Go.RowKit

theorem neqV (X Y : ByteArray) : (X.toList == Y.toList) = decide (X = Y) := by
  rw [toList_L, toList_L]
  by_cases h : X = Y
  · subst h; simp
  · rw [decide_eq_false h]
    simpa using fun e => h (L_inj.1 e)
theorem neqC (X : ByteArray) (l : List UInt8) : (X.toList == l) = decide (X = bs l) := by
  rw [toList_L]
  by_cases h : X = bs l
  · subst h; simp
  · rw [decide_eq_false h]
    have : L X ≠ l := fun e => h (by rw [← e, bs_L])
    simpa using this
theorem hasSuf (l : List UInt8) : Lib.hasSuffix l [37] = (l.getLast? == some 37) := by
  unfold Lib.hasSuffix List.isSuffixOf
  rcases List.eq_nil_or_concat l with rfl | ⟨i, c, rfl⟩
  · rfl
  · simp [List.isPrefixOf, Bool.beq_comm]
theorem cutSuf_yes (s : ByteArray) (hs : s.size ≤ 9223372036854775807) (h : (L s).getLast? = some 37) (w : World) :
    Calls Tryz.prog 90 #[.string s, .string ⟨#[37]⟩] w fun e w' => e = .returned (.tuple #[.string (bs (L s).dropLast), .bool true]) ∧ w = w' := by
  refine (Tryz.strings_CutSuffix s ⟨#[37]⟩ w hs).mono ?_
  rintro e w' ⟨rfl, rfl⟩
  refine ⟨?_, rfl⟩
  have h1 : Lib.hasSuffix (L s) [37] = true := by rw [hasSuf, h]; rfl
  show Ending.returned (.tuple #[.string (bs (Lib.trimSuffix (L s) [37])), .bool (Lib.hasSuffix (L s) [37])]) = _
  rw [h1, Lib.trimSuffix, if_pos h1, List.dropLast_eq_take]
  rfl
theorem cutSuf_no (s : ByteArray) (hs : s.size ≤ 9223372036854775807) (h : (L s).getLast? ≠ some 37) (w : World) :
    Calls Tryz.prog 90 #[.string s, .string ⟨#[37]⟩] w fun e w' => e = .returned (.tuple #[.string s, .bool false]) ∧ w = w' := by
  refine (Tryz.strings_CutSuffix s ⟨#[37]⟩ w hs).mono ?_
  rintro e w' ⟨rfl, rfl⟩
  refine ⟨?_, rfl⟩
  have h1 : Lib.hasSuffix (L s) [37] = false := by rw [hasSuf]; simpa using h
  show Ending.returned (.tuple #[.string (bs (Lib.trimSuffix (L s) [37])), .bool (Lib.hasSuffix (L s) [37])]) = _
  rw [h1, Lib.trimSuffix, h1]
  show Ending.returned (.tuple #[.string (bs (L s)), .bool false]) = _
  rw [bs_L]
theorem vnum_bool (s : ByteArray) (e : Int) (ms : List (List ByteArray)) : (s = ⟨#[102, 97, 108, 115, 101]⟩ ∧ vnumS s 1 e ms = (0, 0)) ∨ (s = ⟨#[116, 114, 117, 101]⟩ ∧ vnumS s 1 e ms = (1, 0)) ∨
    ((s.toList == [102, 97, 108, 115, 101]) = false ∧ (s.toList == [116, 114, 117, 101]) = false ∧ vnumS s 1 e ms = (0, 2)) := by
  by_cases h1 : s = ⟨#[102, 97, 108, 115, 101]⟩
  · subst h1; exact .inl ⟨rfl, rfl⟩
  · by_cases h2 : s = ⟨#[116, 114, 117, 101]⟩
    · subst h2; exact .inr (.inl ⟨rfl, rfl⟩)
    · refine .inr (.inr ⟨by rw [neqC]; exact decide_eq_false h1, by rw [neqC]; exact decide_eq_false h2, ?_⟩)
      show (if s = ⟨#[102, 97, 108, 115, 101]⟩ then ((0 : Int), (0 : Int)) else if s = ⟨#[116, 114, 117, 101]⟩ then (1, 0) else (0, 2)) = _
      rw [if_neg h1, if_neg h2]
theorem vnum_rate_yes {s : ByteArray} {e : Int} {ms : List (List ByteArray)} (h : (L s).getLast? = some 37) : vnumS s 4 e ms = refP (L s).dropLast 4 := by
  show (if (L s).getLast? = some 37 then refP (L s).dropLast 4 else (0, 2)) = _
  rw [if_pos h]
theorem vnum_rate_no {s : ByteArray} {e : Int} {ms : List (List ByteArray)} (h : (L s).getLast? ≠ some 37) : vnumS s 4 e ms = (0, 2) := by
  show (if (L s).getLast? = some 37 then refP (L s).dropLast 4 else (0, 2)) = _
  rw [if_neg h]
theorem ret_two {r : Int × Int} {a b : Int} (h : r = (a, b)) : Ending.returned (.tuple #[.int .i64 a, .int .i64 b]) = .returned (.tuple #[.int .i64 r.1, .int .i64 r.2]) := by rw [h]

set_option maxRecDepth 100000 in
set_option maxHeartbeats 8000000 in
theorem vparseN_low (s : ByteArray) (k : Int) (hk : k = 1 ∨ k = 2 ∨ k = 3 ∨ k = 4 ∨ k = 5) (v : Value) (ms : List (List ByteArray)) (w : World) (hs : s.size ≤ 1000000) (hM : Mon w) :
    Calls Tryz.prog 63 #[.string s, .agg #[.int .i64 k, .int .i64 0], v] w fun r w' => r = .returned (.tuple #[.int .i64 (vnumS s k 0 ms).1, .int .i64 (vnumS s k 0 ms).2]) ∧ Kept w w' := by
  rcases hk with rfl | rfl | rfl | rfl | rfl
  · rcases vnum_bool s 0 ms with ⟨rfl, h⟩ | ⟨rfl, h⟩ | ⟨h1, h2, h⟩
    all_goals
      have HR := Lib.hid h
      clear h
      go_enter Tryz.func63, Tryz.ntmps63
      go_wp2_with fail
      go_ret2
      rw [HR.out]
      exact ⟨rfl, (Kept.refl _).alloc _⟩
  · have HR := Lib.hid (show parP (L s) 0 = vnumS s 2 0 ms from parP_refI (L s))
    have hF := Lib.hid (fun w => parseInt_any s hs w)
    generalize parP (L s) 0 = q at *
    obtain ⟨q1, q2⟩ := q
    dsimp only at hF
    go_enter Tryz.func63, Tryz.ntmps63
    go_wp2_with (go_at_call 88; refine (hF.out _).mono ?_; rintro r w1 ⟨rfl, hk⟩)
    go_ret2
    exact ⟨ret_two HR.out.symm, ((Kept.refl _).alloc _).trans hk⟩
  · have hF := Lib.hid (fun w => parseFixed_any s 2 hs w)
    have HR := Lib.hid (show vnumS s 3 0 ms = refP (L s) 2 from rfl)
    generalize refP (L s) 2 = q at *
    obtain ⟨q1, q2⟩ := q
    dsimp only at hF
    go_enter Tryz.func63, Tryz.ntmps63
    go_wp2_with (go_at_call 89; refine (hF.out _).mono ?_; rintro r w1 ⟨rfl, hk⟩)
    go_ret2
    exact ⟨ret_two HR.out, ((Kept.refl _).alloc _).trans hk⟩
  · by_cases hl : (L s).getLast? = some 37
    · have HR := Lib.hid (vnum_rate_yes (e := 0) (ms := ms) hl)
      have hC := Lib.hid (fun w => cutSuf_yes s (by omega) hl w)
      have hF := Lib.hid (fun w => parseFixed_any (bs (L s).dropLast) 4 (by rw [bs_size, List.length_dropLast, L_length]; omega) w)
      rw [L_bs] at hF
      generalize refP (L s).dropLast 4 = q at *
      generalize bs (L s).dropLast = X at *
      obtain ⟨q1, q2⟩ := q
      dsimp only at hF
      clear hl
      go_enter Tryz.func63, Tryz.ntmps63
      go_wp2_with (first
        | (go_at_call 90; refine (hC.out _).mono ?_; rintro r w1 ⟨rfl, rfl⟩)
        | (go_at_call 89; refine (hF.out _).mono ?_; rintro r w1 ⟨rfl, hk⟩))
      go_ret2
      exact ⟨ret_two HR.out, ((Kept.refl _).alloc _).trans hk⟩
    · have HR := Lib.hid (vnum_rate_no (e := 0) (ms := ms) hl)
      have hC := Lib.hid (fun w => cutSuf_no s (by omega) hl w)
      clear hl
      go_enter Tryz.func63, Tryz.ntmps63
      go_wp2_with (go_at_call 90; refine (hC.out _).mono ?_; rintro r w1 ⟨rfl, rfl⟩)
      go_ret2
      rw [HR.out]
      exact ⟨rfl, (Kept.refl _).alloc _⟩
  · have hF := Lib.hid (fun w hM => parse_any s w hM)
    have HR := Lib.hid (show vnumS s 5 0 ms = dparS s from rfl)
    generalize dparS s = q at *
    obtain ⟨q1, q2⟩ := q
    dsimp only at hF
    go_enter Tryz.func63, Tryz.ntmps63
    go_wp2_with (go_at_call 24; refine (hF.out _ (hM.kept ((Kept.refl _).alloc _))).mono ?_; rintro r w1 ⟨rfl, hk⟩)
    go_ret2
    exact ⟨ret_two HR.out, ((Kept.refl _).alloc _).trans hk⟩
end Go.Proofs.YtjeifmjcgemlgaaGreatDoor
/- What Parse of package value, and of its reference, computes. -/
namespace Go.Proofs.YtjeifmjcgemlgaaGreatDoor
open Go.RowKit

theorem findS_at {s : ByteArray} : ∀ {l : List ByteArray} {p : Nat} (i : Nat), l[p]? = some s → (∀ m, m < p → l[m]? ≠ some s) → findS s l i = some (i + p)
  | [], p, i, h, _ => by simp at h
  | x :: r, p, i, h, hn => by
    rw [findS]
    cases p with
    | zero =>
      obtain rfl : x = s := Option.some.inj h
      rw [if_pos rfl]; rfl
    | succ p =>
      have h0 : x ≠ s := fun e => hn 0 (by omega) (by rw [e]; rfl)
      rw [if_neg h0, findS_at (p := p) (i + 1) (by simpa using h) (fun m hm => by have := hn (m + 1) (by omega); simpa using this)]
      congr 1; omega
theorem findS_end {s : ByteArray} : ∀ {l : List ByteArray} (i : Nat), (∀ m, m < l.length → l[m]? ≠ some s) → findS s l i = none
  | [], i, _ => rfl
  | x :: r, i, hn => by
    have h0 : x ≠ s := fun e => hn 0 (by simp) (by rw [e]; rfl)
    rw [findS, if_neg h0]
    exact findS_end (i + 1) (fun m hm => by have := hn (m + 1) (by simpa using hm); simpa using this)
/-- no member before p bears the name -/
def NoneS (s : ByteArray) (l : List ByteArray) (p : Nat) : Prop := ∀ m, m < p → l[m]? ≠ some s
theorem NoneS.zero (s : ByteArray) (l : List ByteArray) : NoneS s l 0 := fun m hm => absurd hm (by omega)
theorem NoneS.succ {s : ByteArray} {l : List ByteArray} {p : Nat} (h : NoneS s l p) (hp : l[p]? ≠ some s) : NoneS s l (p + 1) := by
  intro m hm
  rcases Nat.lt_or_ge m p with hl | hl
  · exact h m hl
  · obtain rfl : m = p := by omega
    exact hp
def vsix (s : ByteArray) (l : List ByteArray) : Int × Int := match findS s l 0 with | some i => ((i : Int), 0) | none => (0, 6)
theorem vsix_at {s : ByteArray} {l : List ByteArray} {p : Nat} (h : l[p]? = some s) (hn : NoneS s l p) : vsix s l = ((p : Int), 0) := by
  rw [vsix, findS_at 0 h hn, Nat.zero_add]
theorem vsix_end {s : ByteArray} {l : List ByteArray} (hn : NoneS s l l.length) : vsix s l = (0, 6) := by rw [vsix, findS_end 0 hn]
theorem vnum_six {s : ByteArray} {j : Nat} {ms : List (List ByteArray)} {l : List ByteArray} (h : ms[j]? = some l) : vnumS s 6 j ms = vsix s l := by
  show (match findS s (memS (j : Int) ms) 0 with | some i => ((i : Int), (0 : Int)) | none => (0, 6)) = _
  rw [memS, Int.toNat_natCast, h]; rfl

set_option maxRecDepth 100000 in
set_option maxHeartbeats 8000000 in
theorem vparseN_six (s : ByteArray) (j : Nat) (v : Value) (ms : List (List ByteArray)) (hj : j < ms.length) (w : World) (hE : Enums w v ms) :
    Calls Tryz.prog 63 #[.string s, .agg #[.int .i64 6, .int .i64 j], v] w fun r w' => r = .returned (.tuple #[.int .i64 (vnumS s 6 j ms).1, .int .i64 (vnumS s 6 j ms).2]) ∧ Kept w w' := by
  obtain ⟨b, off, cap, N, B2, cc, l, hl, hN, hn9, rfl, hb, hcl, hcm⟩ := hE.at_ hj
  have hm := hE
  obtain ⟨_, _, _, hm, _⟩ := hm
  rw [vnum_six hl]
  clear hl
  have HN := Lib.hid hN
  clear hN
  have hji : (j : Int) < ms.length := by omega
  go_enter Tryz.func63, Tryz.ntmps63
  go_wp2_with fail
  go_loop [59] (fun z => ∃ pos : Nat, pos ≤ N ∧ z = .int .i64 pos ∧ NoneS s l pos) (fun z => (N - intOf z).toNat)
  case atStart => exact ⟨0, Nat.zero_le _, rfl, NoneS.zero _ _⟩
  case round =>
    obtain ⟨pos, hps, rfl, hno⟩ := hrel
    by_cases hp : pos < N
    · obtain ⟨b3, off3, rfl, hb3, hc3⟩ := hcm (by omega)
      have hx : l[pos]? = some (l[pos]'(by have := HN.out; omega)) := List.getElem?_eq_getElem _
      have hc4 := hc3 pos hp
      rw [hx] at hc4
      have HF := Lib.hid (fun (h : l[pos]'(by have := HN.out; omega) = s) => vsix_at (s := s) (by rw [hx, h]) hno)
      have HS := Lib.hid (fun (h : l[pos]'(by have := HN.out; omega) ≠ s) => hno.succ (by rw [hx]; exact fun e => h (Option.some.inj e)))
      clear hx hc3 hcm hno
      generalize l[pos]'(by have := HN.out; omega) = X at *
      have hpi : (pos : Int) < N := by omega
      change w.cell? _ = some (.string X) at hc4
      cases hd : decide (X = s)
      · have HS := Lib.hid (HS.out (by simpa using hd))
        rw [← neqV] at hd
        clear HF
        go_wp2_with fail
        go_round
        case rel => exact ⟨pos + 1, hp, by go_num, HS.out⟩
        case measure => simp only [intOf]; omega
      · have HF := Lib.hid (HF.out (by simpa using hd))
        rw [← neqV] at hd
        clear HS
        go_wp2_with fail
        go_ret2
        rw [HF.out]
        exact ⟨rfl, (Kept.refl _).alloc _⟩
    · have HE := Lib.hid (vsix_end (s := s) (l := l) (by rw [HN.out, show N = pos by omega]; exact hno))
      clear hno
      have hpi : ¬ ((pos : Int) < N) := by omega
      go_wp2_with fail
      go_ret2
      rw [HE.out]
      exact ⟨rfl, (Kept.refl _).alloc _⟩
end Go.Proofs.YtjeifmjcgemlgaaGreatDoor
/- What Parse of package value computes. -/
namespace Go.Proofs.YtjeifmjcgemlgaaGreatDoor
open Go.RowKit

set_option maxHeartbeats 1000000 in
theorem vparseN_any (s : ByteArray) (k e : Int) (v : Value) (ms : List (List ByteArray)) (hv : vtB k e ms = true) (hs : k ≠ 6 → s.size ≤ 1000000) (w : World) (hE : Enums w v ms) (hM : Mon w) :
    Calls Tryz.prog 63 #[.string s, .agg #[.int .i64 k, .int .i64 e], v] w fun r w' => r = .returned (.tuple #[.int .i64 (vnumS s k e ms).1, .int .i64 (vnumS s k e ms).2]) ∧ Kept w w' := by
  rcases vt_true hv with ⟨hk, rfl⟩ | ⟨rfl, j, rfl, hj⟩
  · exact vparseN_low s k hk v ms w (hs (by omega)) hM
  · exact vparseN_six s j v ms hj w hE
/-- a value and an error code, as Go returns them -/
def vpV (R : Int × Int × Int × Int) : Value := .tuple #[.agg #[.int .i64 R.1, .int .i64 R.2.1, .int .i64 R.2.2.1], .int .i64 R.2.2.2]

set_option maxRecDepth 100000 in
set_option maxHeartbeats 8000000 in
theorem vparse_any (s : ByteArray) (k e : Int) (v : Value) (ms : List (List ByteArray)) (hs : k ≠ 6 → s.size ≤ 1000000) (w : World) (hE : Enums w v ms) (hM : Mon w) :
    Calls Tryz.prog 45 #[.string s, .agg #[.int .i64 k, .int .i64 e], v] w fun r w' => r = .returned (vpV (vparS s k e ms)) ∧ Kept w w' := by
  have hE1 := fun w' (h : Kept w w') => hE.kept h
  have hT := Lib.hid (fun w h => vtype_any k e v ms w h)
  cases hv : vtB k e ms
  · have HR := Lib.hid (show vparS s k e ms = (0, 0, 0, 8) by rw [vparS, hv]; rfl)
    rw [hv] at hT
    clear hv
    go_enter Tryz.func45, Tryz.ntmps45
    go_wp2_with (go_at_call 52; refine (hT.out _ (hE1 _ (((Kept.refl _).alloc _).alloc _))).mono ?_; rintro r w1 ⟨rfl, hk⟩; have hK := (((Kept.refl _).alloc _).alloc _).trans hk; have B := hk.blk2.2; have b := B.cell; have l := B.lt; have f := B.frozen)
    refine bodyPost_ret (v := vpV (vparS s k e ms)) (by rw [HR.out]; simp [vpV, results, Tryz.results45, go_sem, b]) rfl ⟨rfl, ?_⟩
    repeat refine Kept.setCell ?_ (by simp only; omega) _
    exact hK
  have hN := Lib.hid (fun w h hM => vparseN_any s k e v ms hv hs w h hM)
  have hI := Lib.hid (fun n w h => within_any n k e v ms w h)
  have HV : vparS s k e ms = (if (vnumS s k e ms).2 = 0 then (if inB (vnumS s k e ms).1 k e ms then (k, e, (vnumS s k e ms).1, 0) else (0, 0, 0, 3)) else (0, 0, 0, (vnumS s k e ms).2)) := by rw [vparS, hv]; rfl
  rw [hv] at hT
  clear hv
  generalize vnumS s k e ms = N at *
  obtain ⟨n, c⟩ := N
  dsimp only at HV hN
  by_cases hc : c = 0
  · subst hc
    rw [if_pos rfl] at HV
    have hI := Lib.hid (hI.out n)
    generalize inB n k e ms = i at *
    cases i
    · have HR := Lib.hid (show vparS s k e ms = (0, 0, 0, 3) from HV)
      clear HV
      go_enter Tryz.func45, Tryz.ntmps45
      go_wp2_with (first
        | (go_at_call 52; refine (hT.out _ (hE1 _ (((Kept.refl _).alloc _).alloc _))).mono ?_; rintro r w1 ⟨rfl, hk⟩; have hK := (((Kept.refl _).alloc _).alloc _).trans hk; have B := hk.blk2.2; have b := B.cell; have l := B.lt; have f := B.frozen; have T := hk.blk2.1; have t := T.cell)
        | (go_at_call 63; refine (hN.out _ (hE1 _ hK) (hM.kept hK)).mono ?_; rintro r w2 ⟨rfl, hk⟩; have hK := hK.trans hk; have B := B.kept hk; have b := B.cell; have l := B.lt; have f := B.frozen; have T := T.kept hk; have t := T.cell)
        | (go_at_call 58; refine (hI.out _ (hE1 _ hK)).mono ?_; rintro r w3 ⟨rfl, hk⟩; have hK := hK.trans hk; have B := B.kept hk; have b := B.cell; have l := B.lt; have f := B.frozen; have T := T.kept hk; have t := T.cell))
      refine bodyPost_ret (v := vpV (vparS s k e ms)) (by rw [HR.out]; simp [vpV, results, Tryz.results45, go_sem, b]) rfl ⟨rfl, ?_⟩
      repeat refine Kept.setCell ?_ (by simp only; omega) _
      exact hK
    · have HR := Lib.hid (show vparS s k e ms = (k, e, n, 0) from HV)
      clear HV
      go_enter Tryz.func45, Tryz.ntmps45
      go_wp2_with (first
        | (go_at_call 52; refine (hT.out _ (hE1 _ (((Kept.refl _).alloc _).alloc _))).mono ?_; rintro r w1 ⟨rfl, hk⟩; have hK := (((Kept.refl _).alloc _).alloc _).trans hk; have B := hk.blk2.2; have b := B.cell; have l := B.lt; have f := B.frozen; have T := hk.blk2.1; have t := T.cell)
        | (go_at_call 63; refine (hN.out _ (hE1 _ hK) (hM.kept hK)).mono ?_; rintro r w2 ⟨rfl, hk⟩; have hK := hK.trans hk; have B := B.kept hk; have b := B.cell; have l := B.lt; have f := B.frozen; have T := T.kept hk; have t := T.cell)
        | (go_at_call 58; refine (hI.out _ (hE1 _ hK)).mono ?_; rintro r w3 ⟨rfl, hk⟩; have hK := hK.trans hk; have B := B.kept hk; have b := B.cell; have l := B.lt; have f := B.frozen; have T := T.kept hk; have t := T.cell))
      refine bodyPost_ret (v := vpV (vparS s k e ms)) (by rw [HR.out]; simp [vpV, results, Tryz.results45, go_sem, b]) rfl ⟨rfl, ?_⟩
      repeat refine Kept.setCell ?_ (by simp only; omega) _
      exact hK
  · have HR := Lib.hid (show vparS s k e ms = (0, 0, 0, c) by rw [HV, if_neg hc])
    have hcb := beq_no hc
    clear HV hI
    go_enter Tryz.func45, Tryz.ntmps45
    go_wp2_with (first
      | (go_at_call 52; refine (hT.out _ (hE1 _ (((Kept.refl _).alloc _).alloc _))).mono ?_; rintro r w1 ⟨rfl, hk⟩; have hK := (((Kept.refl _).alloc _).alloc _).trans hk; have B := hk.blk2.2; have b := B.cell; have l := B.lt; have f := B.frozen; have T := hk.blk2.1; have t := T.cell)
      | (go_at_call 63; refine (hN.out _ (hE1 _ hK) (hM.kept hK)).mono ?_; rintro r w2 ⟨rfl, hk⟩; have hK := hK.trans hk; have B := B.kept hk; have b := B.cell; have l := B.lt; have f := B.frozen; have T := T.kept hk; have t := T.cell))
    refine bodyPost_ret (v := vpV (vparS s k e ms)) (by rw [HR.out]; simp [vpV, results, Tryz.results45, go_sem, b]) rfl ⟨rfl, ?_⟩
    repeat refine Kept.setCell ?_ (by simp only; omega) _
    exact hK
end Go.Proofs.YtjeifmjcgemlgaaGreatDoor
/- The contracts of strings.Builder's WriteByte, WriteString and String at this program: the library's own proofs, at a renaming that maps all the types. -/
namespace Go.Proofs.YtjeifmjcgemlgaaGreatDoor
open Go.RowKit

def renW : Go.Shelf.Ren := ⟨fun | 166 => 18 | 240 => 35 | 276 => 53 | n => n, fun | 37 => 67 | 70 => 66 | 72 => 69 | 75 => 71 | 80 => 76 | 164 => 117 | 20 => 20 | 9 => 9 | 5 => 5 | 4 => 4 | 3 => 3 | 0 => 0 | n => n, fun | n => n⟩
theorem laysWS : Go.Proofs.Lays.n166 Tryz.prog renW := {
  mixed := by kernel_rfl
  f166 := Tryz.func18.trans (congrArg some (by kernel_rfl))
  f240 := Tryz.func35.trans (congrArg some (by kernel_rfl))
  f276 := Tryz.func53.trans (congrArg some (by kernel_rfl))
  t0 := Tryz.underlying0
  a0 := Tryz.isAgg0
  z0 := Tryz.sizeOf0
  v0 := Tryz.zeroValue0
  t3 := Tryz.underlying3
  a3 := Tryz.isAgg3
  z3 := Tryz.sizeOf3
  v3 := Tryz.zeroValue3
  t4 := Tryz.underlying4
  a4 := Tryz.isAgg4
  z4 := Tryz.sizeOf4
  v4 := Tryz.zeroValue4
  t9 := Tryz.underlying9
  a9 := Tryz.isAgg9
  z9 := Tryz.sizeOf9
  v9 := Tryz.zeroValue9
  t20 := Tryz.underlying20
  a20 := Tryz.isAgg20
  z20 := Tryz.sizeOf20
  v20 := Tryz.zeroValue20
  t37 := Tryz.underlying67
  a37 := Tryz.isAgg67
  z37 := Tryz.sizeOf67
  v37 := Tryz.zeroValue67
  t70 := Tryz.underlying66
  a70 := Tryz.isAgg66
  z70 := Tryz.sizeOf66
  v70 := Tryz.zeroValue66
  t72 := Tryz.underlying69
  a72 := Tryz.isAgg69
  z72 := Tryz.sizeOf69
  v72 := Tryz.zeroValue69
  t75 := Tryz.underlying71
  a75 := Tryz.isAgg71
  z75 := Tryz.sizeOf71
  v75 := Tryz.zeroValue71
  t164 := Tryz.underlying117
  a164 := Tryz.isAgg117
  z164 := Tryz.sizeOf117
  v164 := Tryz.zeroValue117 }
theorem extraW : Builder.Extra Tryz.prog renW := {
  sizeBuilder := by kernel_rfl
  liesBuilder := by kernel_rfl
  t5 := Tryz.underlying5
  a5 := Tryz.isAgg5
  z5 := Tryz.sizeOf5
  v5 := Tryz.zeroValue5
  infoByte := by kernel_rfl
  cellsByte := by kernel_rfl
  sizeByte := by kernel_rfl
  neB5 := by decide }
theorem wstring_k (B b : Nat) (bs : List Value) (s : ByteArray) (w : World) (h : Lib.IsBuilderF 69 5 B b bs w) (hlen : bs.length + s.size ≤ 140737488355328) (hBw : B ≤ w.heap.size) :
    Calls Tryz.prog 18 #[.pointer (some ⟨b, 0, none⟩), .string s] w fun e w' => e = .returned (.tuple #[.int .i64 s.size, .nilIface]) ∧ (Lib.BuilderAtF 69 5 B b (.pointer (some ⟨b, 0, none⟩)) (bs ++ Lib.strCells s) w' ∧ Below B w w' ∧ Lib.OthersKept 5 (some b) w w') :=
  Any.Builder_WriteString_k laysWS extraW B b bs s w h hlen hBw
end Go.Proofs.YtjeifmjcgemlgaaGreatDoor
/- What writeValues and Format of package casedata compute. -/
namespace Go.Proofs.YtjeifmjcgemlgaaGreatDoor
open Go.RowKit

theorem bld_keptC {T e : TypeId} {B b : Nat} {l : List Value} {w w' : World} (h : Lib.IsBuilderF T e B b l w) (hk : Kept w w') : Lib.IsBuilderF T e B b l w' := by
  have key : ∀ p, Lib.BuilderAtF T e B b p l w → Lib.BuilderAtF T e B b p l w' := by
    rintro p ⟨hB, v, hb, hown, hne⟩
    have hlt : ∀ {g : Nat} {o : Obj}, w.heap[g]? = some o → g < w.heap.size := fun h => (Array.getElem?_eq_some_iff.1 h).1
    refine ⟨hB, v, (hk.block b (hlt hb)).trans hb, ⟨hown.1, ?_⟩, hne⟩
    rcases hown.2 with hn | ⟨g, cap, cur, fz, hv, hBg, hg, r⟩
    · exact .inl hn
    · exact .inr ⟨g, cap, cur, fz, hv, hBg, (hk.block g (hlt hg)).trans hg, r⟩
  exact h.elim (fun h => .inl (key _ h)) (fun h => .inr (key _ h))
theorem bld_ltC {T e : TypeId} {B b : Nat} {l : List Value} {w : World} (h : Lib.IsBuilderF T e B b l w) : b < w.heap.size ∧ B ≤ b := by
  rcases h with ⟨hB, v, hb, _⟩ | ⟨hB, v, hb, _⟩ <;> exact ⟨(Array.getElem?_eq_some_iff.1 hb).1, hB⟩
theorem Kept.transC {a b c : World} (h : Kept a b) (k : Below a.heap.size b c) : Kept a c := Below.trans h k
theorem bld_otherC {e : TypeId} {b g : Nat} {t : TypeId} {cs : Array Value} {w w' : World} (h : Lib.OthersKept e (some b) w w') (hb : Blk w g t cs) (hg : g ≠ b) (ht : t ≠ e) : Blk w' g t cs :=
  h g _ hb (fun x => hg (Option.some.inj x)) (fun c fz x => by cases x; exact ht rfl)
theorem bytes_appC (a : List UInt8) (s : ByteArray) : Lib.byteCells a ++ Lib.strCells s = Lib.byteCells (a ++ L s) := by
  unfold Lib.byteCells Lib.strCells
  rw [List.map_append]; rfl
theorem bytes_lenC (a : List UInt8) : (Lib.byteCells a).length = a.length := by simp [Lib.byteCells]
noncomputable def wordsV (ms : List (List ByteArray)) (vs : List Vl) : List UInt8 := vs.flatMap fun v => 32 :: L (vfmtS v.k v.e v.n ms).1
theorem lineV_eq (ms : List (List ByteArray)) (word : List UInt8) (vs : List Vl) : lineV ms word vs = word ++ wordsV ms vs := rfl
theorem wordsV_take {ms : List (List ByteArray)} {vs : List Vl} {i : Nat} {v : Vl} (h : vs[i]? = some v) : wordsV ms (vs.take (i + 1)) = wordsV ms (vs.take i) ++ (32 :: L (vfmtS v.k v.e v.n ms).1) := by
  unfold wordsV
  rw [List.take_add_one, h, List.flatMap_append]
  simp
theorem wordsV_le (ms : List (List ByteArray)) (vs : List Vl) (i : Nat) : (wordsV ms (vs.take i)).length ≤ (wordsV ms vs).length := by
  conv => rhs; rw [← List.take_append_drop i vs]
  unfold wordsV
  rw [List.flatMap_append, List.length_append]
  omega
theorem sp_app (X : ByteArray) : L ((⟨#[32]⟩ : ByteArray) ++ X) = 32 :: L X := by rw [L_append]; rfl
def wvPost (w0 : World) (b : Nat) (l : List UInt8) (e : Ending) (w' : World) : Prop :=
  e = .returned (.tuple #[]) ∧ Lib.IsBuilderF 69 5 w0.heap.size b (Lib.byteCells l) w' ∧ Kept w0 w'
set_option maxRecDepth 100000 in
set_option maxHeartbeats 8000000 in
theorem writeVals_any (w0 w : World) (b : Nat) (ev : Value) (At As : Option Addr) (nt ct ns cs : Nat) (vv : Value) (ms : List (List ByteArray)) (vs : List Vl) (word : ByteArray) (l : List UInt8) (hK0 : Kept w0 w) (hE : Enums w0 ev ms) (hV : Vals w0 vv vs)
    (hr : ∀ v ∈ vs, -9223372036854775808 ≤ v.n ∧ v.n ≤ 9223372036854775807) (hvl : vs.length ≤ 9223372036854775807)
    (hb : Lib.IsBuilderF 69 5 w0.heap.size b (Lib.byteCells l) w) (hsz : l.length + ((lineV ms (L word) vs).length + 1) ≤ 1000000000) (hM : Mon w0) (hP : Pow w0) :
    Calls Tryz.prog 20 #[.pointer (some ⟨b, 0, none⟩), .agg #[ev, .slice At nt ct, .slice As ns cs], .string word, vv] w (wvPost w0 b (l ++ (lineV ms (L word) vs ++ [10]))) := by
  unfold wvPost
  obtain ⟨AE, ce, rfl, _, _⟩ := id hE
  obtain ⟨AV, cv, rfl, hAV⟩ := hV.at_
  obtain ⟨hblt, hbB⟩ := bld_ltC hb
  have hws : word.size ≤ (L word).length := Nat.le_of_eq (L_length word).symm
  rw [lineV_eq, List.length_append] at hsz
  have HBW := Lib.hid (bld_keptC hb ((Kept.refl w).alloc (.cells #[.slice AE ms.length ce, .slice At nt ct, .slice As ns cs] 26)))
  have KW0 := Lib.hid (hK0.alloc (.cells #[.slice AE ms.length ce, .slice At nt ct, .slice As ns cs] 26))
  have hw0 : w0.heap.size ≤ w.heap.size := hK0.size
  obtain ⟨n, hn⟩ : ∃ n, n = vs.length := ⟨_, rfl⟩
  rw [← hn] at hAV hvl ⊢
  have HN := Lib.hid hn
  have B0 := Lib.hid (Blk.new w 26 #[.slice AE ms.length ce, .slice At nt ct, .slice As ns cs])
  clear hn hb hV hK0
  go_enter Tryz.func20, Tryz.ntmps20
  go_wp2_with fail
  refine (wstring_k _ _ _ word _ HBW.out (by rw [bytes_lenC]; omega) KW0.out.size).mono ?_
  rintro e w1 ⟨rfl, hb1, hbel1, hoth1⟩
  rw [bytes_appC] at hb1
  have K1 := KW0.out.transC hbel1
  have B1 := bld_otherC hoth1 B0.out (by omega) (by decide)
  have hb1 : Lib.IsBuilderF 69 5 w0.heap.size b (Lib.byteCells (l ++ L word)) w1 := .inr hb1
  have HB1 := Lib.hid hb1
  have K1 := Lib.hid K1
  have B1 := Lib.hid B1
  clear hbel1 hoth1 hb1 HBW KW0 B0
  go_wp2_with fail
  go_loopw [17] (fun y wr => ∃ i : Nat, y = .int .i64 i ∧ i ≤ n ∧ Kept w0 wr ∧ Blk wr w.heap.size 26 #[.slice AE ms.length ce, .slice At nt ct, .slice As ns cs] ∧ Lib.IsBuilderF 69 5 w0.heap.size b (Lib.byteCells (l ++ L word ++ wordsV ms (vs.take i))) wr) (fun y _ => n - (intOf y).toNat)
  case atStart => exact ⟨0, rfl, Nat.zero_le _, K1.out, B1.out, by simpa [wordsV] using HB1.out⟩
  case round =>
    obtain ⟨i, rfl, hin, hK, hB, hbd⟩ := hrel
    have hwl := wordsV_le ms vs i
    by_cases hlt : i < n
    · obtain ⟨b1, o1, rfl, hb1, hc1⟩ := hAV (by omega)
      have hg : vs[i]? = some (vs[i]'(by have := HN.out; omega)) := List.getElem?_eq_getElem _
      obtain ⟨x0, x1, x2⟩ := hc1 i _ hg
      obtain ⟨r1, r2⟩ := hr _ (List.mem_of_getElem? hg)
      have hts := wordsV_take (ms := ms) hg
      have hwl2 := wordsV_le ms vs (i + 1)
      rw [hts, List.length_append, List.length_cons] at hwl2
      generalize vs[i]'(by have := HN.out; omega) = V at *
      obtain ⟨vk, ve, vn⟩ := V
      dsimp only at x0 x1 x2 r1 r2 hts hwl2
      have X0 := hK.cell (p := ⟨b1, _, none⟩) hb1 x0
      have X1 := hK.cell (p := ⟨b1, _, none⟩) hb1 x1
      have X2 := hK.cell (p := ⟨b1, _, none⟩) hb1 x2
      have hb1r := Nat.lt_of_lt_of_le hb1 hK.size
      have hK2 := hK.alloc (.cells #[.int .i64 vk, .int .i64 ve, .int .i64 vn] 61)
      have HVF := Lib.hid (vformat_any vk ve vn (.slice AE ms.length ce) ms _ (hE.kept hK2) r1 r2 (hM.kept hK2) (hP.kept hK2))
      generalize vfmtS vk ve vn ms = R at *
      obtain ⟨X, c⟩ := R
      dsimp only at HVF hts hwl2
      have hXs : X.size ≤ (L X).length := Nat.le_of_eq (L_length X).symm
      have hXb : X.size ≤ 1000000000 := by omega
      have hXc : ¬ (9223372036854775807 < (⟨#[32]⟩ : ByteArray).size + X.size) := by show ¬ (_ < 1 + X.size); omega
      have c0 := hB.cell 0
      have cl := hB.lt
      have hii : (i : Int) < n := by omega
      have HBD := Lib.hid hbd
      have HB := Lib.hid hB
      have HKK := Lib.hid hK2
      have HTS := Lib.hid hts
      have hwk := hK.size
      clear hc1 x0 x1 x2 hg hbd hB hts hK2 hAV
      go_wp2_with (go_at_call 39; refine HVF.out.mono ?_; rintro e w2 ⟨rfl, k2⟩)
      have K2 := HKK.out.trans k2
      have k02 := ((Kept.refl wr).alloc (.cells #[.int .i64 vk, .int .i64 ve, .int .i64 vn] 61)).trans k2
      refine (wstring_k _ _ _ ((⟨#[32]⟩ : ByteArray) ++ X) _ (bld_keptC HBD.out k02) (by rw [bytes_lenC, List.length_append, List.length_append, ByteArray.size_append]; show _ + (1 + _) ≤ _; omega) K2.size).mono ?_
      rintro e w3 ⟨rfl, hb3, hbel3, hoth3⟩
      rw [bytes_appC, sp_app] at hb3
      have B3 := bld_otherC hoth3 (HB.out.kept k02) (by omega) (by decide)
      have HB3 := Lib.hid (show Lib.IsBuilderF 69 5 w0.heap.size b _ w3 from .inr hb3)
      have K3 := K2.transC hbel3
      clear hb3 hoth3
      go_wp2_with fail
      go_roundw
      case rel => exact ⟨i + 1, rfl, hlt, K3, B3, by rw [HTS.out, ← List.append_assoc]; exact HB3.out⟩
      case measure => simp [intOf]; omega
    · have hii : ¬ ((i : Int) < n) := by omega
      rw [List.take_of_length_le (by have := HN.out; omega)] at hbd
      have HBD := Lib.hid hbd
      clear hbd hAV
      go_wp2_with fail
      refine (wstring_k _ _ _ _ _ HBD.out (by rw [bytes_lenC, List.length_append, List.length_append]; show _ + 1 ≤ _; omega) hK.size).mono ?_
      rintro e w3 ⟨rfl, hb3, hbel3, _⟩
      rw [bytes_appC] at hb3
      have HB3 := Lib.hid (show Lib.IsBuilderF 69 5 w0.heap.size b _ w3 from .inr hb3)
      clear hb3
      go_wp2_with fail
      go_end0
      refine ⟨rfl, ?_, hK.transC hbel3⟩
      have := HB3.out
      rw [lineV_eq, ← List.append_assoc, ← List.append_assoc]
      exact this
theorem bnd_rng {k e : Int} {ms : List (List ByteArray)} (hl : ∀ l ∈ ms, l.length ≤ 9223372036854775807) {n : Int} (h : inB n k e ms = true) : -9223372036854775808 ≤ n ∧ n ≤ 9223372036854775807 := by
  have hm : ((memS e ms).length : Int) ≤ 9223372036854775807 := by
    unfold memS
    cases hg : ms[e.toNat]? with
    | none => simp
    | some l => have := hl l (List.mem_of_getElem? hg); simp only [Option.getD_some]; omega
  have hb : -9223372036854775808 ≤ (bndS k e ms).1 ∧ (bndS k e ms).2 ≤ 9223372036854775807 := by
    unfold bndS
    split
    · unfold bndV
      generalize ((memS e ms).length : Int) = q at *
      by_cases h1 : k = 1
      · rw [if_pos h1]; decide
      rw [if_neg h1]
      by_cases h2 : k = 2
      · rw [if_pos h2]; decide
      rw [if_neg h2]
      by_cases h3 : k = 3
      · rw [if_pos h3]; decide
      rw [if_neg h3]
      by_cases h4 : k = 4
      · rw [if_pos h4]; decide
      rw [if_neg h4]
      by_cases h5 : k = 5
      · rw [if_pos h5]; decide
      rw [if_neg h5]
      dsimp only
      omega
    · decide
  unfold inB at h
  rw [Bool.and_eq_true, decide_eq_true_iff, decide_eq_true_iff] at h
  omega
theorem chkF_rng {ms : List (List ByteArray)} (hl : ∀ l ∈ ms, l.length ≤ 9223372036854775807) : ∀ (ts : List Ty) (vs : List Vl) (i : Nat), ts.length = vs.length → (chkF ms i ts vs).2 = 0 → ∀ v ∈ vs, -9223372036854775808 ≤ v.n ∧ v.n ≤ 9223372036854775807
  | [], [], _, _, _ => fun v hv => by simp at hv
  | t :: ts, v :: vs, i, hlen, h => by
    rw [chkF] at h
    by_cases h1 : v.k = t.k ∧ v.e = t.e
    · rw [if_pos h1] at h
      by_cases h2 : inB v.n t.k t.e ms = true
      · rw [if_pos h2] at h
        intro u hu
        rcases List.mem_cons.1 hu with rfl | hu
        · exact bnd_rng hl h2
        · exact chkF_rng hl ts vs (i + 1) (by simpa using hlen) h u hu
      · rw [if_neg h2] at h; exact absurd (show (3 : Int) = 0 from h) (by decide)
    · rw [if_neg h1] at h; exact absurd (show (8 : Int) = 0 from h) (by decide)
  | [], _ :: _, _, hlen, _ => by simp at hlen
  | _ :: _, [], _, hlen, _ => by simp at hlen
theorem chkV_rng {ms : List (List ByteArray)} (hl : ∀ l ∈ ms, l.length ≤ 9223372036854775807) {ts : List Ty} {vs : List Vl} (h : (chkV ms ts vs).2 = 0) : ∀ v ∈ vs, -9223372036854775808 ≤ v.n ∧ v.n ≤ 9223372036854775807 := by
  unfold chkV at h
  split at h
  · exact absurd (show (5 : Int) = 0 from h) (by decide)
  · rename_i h1
    split at h
    · exact absurd (show (4 : Int) = 0 from h) (by decide)
    · rename_i h2
      exact chkF_rng hl ts vs 0 (by omega) h
theorem chkM_rng {ms : List (List ByteArray)} (hl : ∀ l ∈ ms, l.length ≤ 9223372036854775807) {ts : List Ty} : ∀ (mem : List (List Vl)) (m : Nat), (chkM ms ts m mem).2.2 = 0 → ∀ vs ∈ mem, ∀ v ∈ vs, -9223372036854775808 ≤ v.n ∧ v.n ≤ 9223372036854775807
  | [], _, _ => fun vs hv => by simp at hv
  | vs :: r, m, h => by
    rw [chkM] at h
    by_cases h1 : (chkV ms ts vs).2 = 0
    · rw [if_pos h1] at h
      intro u hu
      rcases List.mem_cons.1 hu with rfl | hu
      · exact chkV_rng hl h1
      · exact chkM_rng hl r (m + 1) h u hu
    · rw [if_neg h1] at h; exact absurd h h1
theorem valC_rng {ms : List (List ByteArray)} (hl : ∀ l ∈ ms, l.length ≤ 9223372036854775807) {scs : List Sc} {sc d : Int} {ins : List Vl} {mem : List (List Vl)} (h : (valC ms scs sc d ins mem).2.2 = 0) :
    (∀ v ∈ ins, -9223372036854775808 ≤ v.n ∧ v.n ≤ 9223372036854775807) ∧ ∀ vs ∈ mem, ∀ v ∈ vs, -9223372036854775808 ≤ v.n ∧ v.n ≤ 9223372036854775807 := by
  unfold valC at h
  split at h
  · exact absurd h (by decide)
  · split at h
    · exact absurd h (by decide)
    · dsimp only at h
      split at h
      · rename_i h3
        split at h
        · exact absurd (show (4 : Int) = 0 from h) (by decide)
        · exact ⟨chkV_rng hl h3, chkM_rng hl mem 0 h⟩
      · rename_i h3
        exact absurd h h3
theorem Enums.lens {w : World} {v : Value} {ms : List (List ByteArray)} (h : Enums w v ms) : ∀ l ∈ ms, l.length ≤ 9223372036854775807 := by
  obtain ⟨A, cap, _, _, hx⟩ := h
  intro l hl
  obtain ⟨j, hj⟩ := List.getElem?_of_mem hl
  obtain ⟨b, off, _, _, hc⟩ := hx (by have := (List.getElem?_eq_some_iff.1 hj).1; omega)
  exact (hc j l hj).1
/-- the lines of a case behind its date -/
noncomputable def txtI (ms : List (List ByteArray)) (d : Int) (ins : List Vl) (mem : List (List Vl)) (i : Nat) : List UInt8 := textL (caseT ms d ins (mem.take i))
theorem txtI_zero (ms : List (List ByteArray)) (d : Int) (ins : List Vl) (mem : List (List Vl)) : txtI ms d ins mem 0 = ([100, 97, 116, 101, 32] ++ L (dateS d) ++ [10]) ++ (lineV ms [105, 110] ins ++ [10]) := by
  unfold txtI caseT textL
  simp
theorem txtI_succ {ms : List (List ByteArray)} {d : Int} {ins : List Vl} {mem : List (List Vl)} {i : Nat} {l : List Vl} (h : mem[i]? = some l) : txtI ms d ins mem (i + 1) = txtI ms d ins mem i ++ (lineV ms [109, 101, 109, 98, 101, 114] l ++ [10]) := by
  unfold txtI caseT textL
  rw [List.take_add_one, h]
  simp
theorem txtI_le (ms : List (List ByteArray)) (d : Int) (ins : List Vl) (mem : List (List Vl)) (i : Nat) : (txtI ms d ins mem i).length ≤ (textL (caseT ms d ins mem)).length := by
  have e : textL (caseT ms d ins mem) = txtI ms d ins mem i ++ textL ((mem.drop i).map (lineV ms [109, 101, 109, 98, 101, 114])) := by
    conv => lhs; rw [← List.take_append_drop i mem]
    unfold txtI caseT textL
    rw [List.map_append, ← List.cons_append, ← List.cons_append, List.flatMap_append]
  rw [e, List.length_append]
  omega
theorem dl_L (D : ByteArray) : L (⟨#[100, 97, 116, 101, 32]⟩ ++ D ++ ⟨#[10]⟩) = [100, 97, 116, 101, 32] ++ L D ++ [10] := by rw [L_append, L_append]; rfl
theorem dl_size (D : ByteArray) : (⟨#[100, 97, 116, 101, 32]⟩ ++ D ++ ⟨#[10]⟩ : ByteArray).size = 5 + D.size + 1 := by rw [ByteArray.size_append, ByteArray.size_append]; rfl
def cfPost (R : ByteArray × Int) (w : World) (e : Ending) (w' : World) : Prop := e = .returned (.tuple #[.string R.1, .int .i64 R.2]) ∧ Kept w w'
set_option maxRecDepth 100000 in
set_option maxHeartbeats 8000000 in
theorem cformat_any (lv iv mv : Value) (ms : List (List ByteArray)) (scs : List Sc) (sc d : Int) (ins : List Vl) (mem : List (List Vl)) (w : World) (hL : LawM w lv ms scs) (hI : Vals w iv ins) (hil : ins.length ≤ 9223372036854775807) (hM : Mems w mv mem)
    (hsz : (valC ms scs sc d ins mem).2.2 = 0 → (textL (caseT ms d ins mem)).length ≤ 1000000000) (hMo : Mon w) (hP : Pow w) :
    Calls Tryz.prog 9 #[lv, .int .i64 sc, .agg #[.int .i64 d, iv, mv]] w (cfPost (fmtCs ms scs sc d ins mem) w) := by
  unfold cfPost
  have HVA := Lib.hid (fun w1 (h : Kept w w1) => validate_any lv iv mv ms scs sc d ins mem w1 (hL.kept h) (hI.kept h) hil (hM.kept h))
  unfold valPost at HVA
  obtain ⟨ev, At, nt, ct, sv, rfl, hE, hS⟩ := hL
  have HRG := Lib.hid (valC_rng (scs := scs) (sc := sc) (d := d) (ins := ins) (mem := mem) hE.lens)
  obtain ⟨AE, ce, rfl, _, _⟩ := id hE
  obtain ⟨AS, cs, rfl, _, _⟩ := id hS
  obtain ⟨AI, ci, rfl, _⟩ := id hI
  obtain ⟨AM, cm, rfl, hml, hmx⟩ := hM.at_
  have HFC := Lib.hid (show fmtCs ms scs sc d ins mem = if (valC ms scs sc d ins mem).2.2 = 0 then (bs (textL (caseT ms d ins mem)), 0) else (⟨#[]⟩, (valC ms scs sc d ins mem).2.2) from rfl)
  generalize fmtCs ms scs sc d ins mem = RR at *
  generalize valC ms scs sc d ins mem = V at *
  obtain ⟨v0, v1, vc⟩ := V
  dsimp only at HVA HRG HFC hsz
  have K0 := Lib.hid (((Kept.refl w).alloc (.cells #[.slice AE ms.length ce, .slice At nt ct, .slice AS scs.length cs] 26)).alloc (.cells #[.int .i64 d, .slice AI ins.length ci, .slice AM mem.length cm] 30))
  by_cases hvc : vc = 0
  · subst hvc
    have hsz := hsz rfl
    have HF := Lib.hid (HFC.out.trans (if_pos rfl))
    obtain ⟨hrI, hrM⟩ := HRG.out rfl
    have hE := Lib.hid hE
    have hI := Lib.hid hI
    clear HFC HRG hS hM
    obtain ⟨n, hn⟩ : ∃ n, n = mem.length := ⟨_, rfl⟩
    rw [← hn] at hmx hml HVA K0 ⊢
    have HN := Lib.hid hn
    clear hn
    have hl0 := txtI_le ms d ins mem 0
    rw [txtI_zero, List.length_append, List.length_append] at hl0
    go_enter Tryz.func9, Tryz.ntmps9
    have hds : (dateS d).size ≤ (L (dateS d)).length := Nat.le_of_eq (L_length _).symm
    simp only [List.length_append, List.length_cons, List.length_nil] at hl0
    have hdb : (dateS d).size ≤ 1000000000 := by omega
    have HDL := Lib.hid (dl_L (dateS d))
    have HCS := Lib.hid (dl_size (dateS d))
    have HT0 := Lib.hid (txtI_zero ms d ins mem)
    have HDF := Lib.hid (fun w1 h1 h2 => format_any d w1 h1 h2)
    generalize dateS d = D at *
    go_wp2_with (first
      | (go_at_call 8; refine (HVA.out _ K0.out).mono ?_; rintro e w1 ⟨rfl, k1⟩; obtain ⟨B1, B2⟩ := k1.blk2; have b20 := B2.cell 0; have b2l := B2.lt; have K1 := K0.out.trans k1)
      | (go_at_call 19; refine (HDF.out _ (hMo.kept (K1.alloc _)) (hP.kept (K1.alloc _))).mono ?_; rintro e w3 ⟨rfl, k3⟩))
    have hb0 : Lib.IsBuilderF 69 5 w1.heap.size w1.heap.size (Lib.byteCells []) (w1.alloc (.cells #[.pointer none, .slice none 0 0] 69)) :=
      .inl ⟨Nat.le_refl _, _, heap_alloc_new w1 _, World.ownsRowF_nil _ _ _ _, by simp [Value.ownBlock]⟩
    have k13 : Kept w1 w3 := ((Kept.refl w1).alloc _).trans k3
    have hb3 := bld_keptC hb0 k3
    have hsz3 : (Lib.byteCells []).length + (⟨#[100, 97, 116, 101, 32]⟩ ++ D ++ ⟨#[10]⟩ : ByteArray).size ≤ 140737488355328 := by
      rw [bytes_lenC, HCS.out, List.length_nil]; omega
    have hwz := k13.size
    have hws := wstring_k w1.heap.size w1.heap.size (Lib.byteCells []) (⟨#[100, 97, 116, 101, 32]⟩ ++ D ++ ⟨#[10]⟩) w3 hb3 hsz3 hwz
    refine hws.mono ?_
    rintro e w4 ⟨rfl, hb4, hbel4, _⟩
    rw [bytes_appC, List.nil_append, HDL.out] at hb4
    have HB4 := Lib.hid (show Lib.IsBuilderF 69 5 w1.heap.size w1.heap.size _ w4 from .inr hb4)
    have k14 := k13.transC hbel4
    have M1 := B1.kept k14
    have M2 := B2.kept k14
    have m10 := M1.cell 0
    have m11 := M1.cell 1
    have m12 := M1.cell 2
    have m1l := M1.lt
    have m21 := M2.cell 1
    have m2l := M2.lt
    clear hb4 hb0 k3 hbel4 b20 b2l M1 M2
    go_wp2_with fail
    have hE1 := hE.out.kept K1
    have hI1 := hI.out.kept K1
    have hs1 : ([100, 97, 116, 101, 32] ++ L D ++ [10] : List UInt8).length + ((lineV ms (L ⟨#[105, 110]⟩) ins).length + 1) ≤ 1000000000 := by
      rw [show L ⟨#[105, 110]⟩ = [105, 110] from rfl]
      simp only [List.length_append, List.length_cons, List.length_nil]
      omega
    have hwv := writeVals_any w1 w4 w1.heap.size (.slice AE ms.length ce) At AS nt ct scs.length cs (.slice AI ins.length ci) ms ins ⟨#[105, 110]⟩ _ k14 hE1 hI1 hrI hil HB4.out hs1 (hMo.kept K1) (hP.kept K1)
    unfold wvPost at hwv
    rw [show L ⟨#[105, 110]⟩ = [105, 110] from rfl, ← HT0.out] at hwv
    have HWV := Lib.hid hwv
    clear hwv hs1 hI1 HB4 HDL HCS HT0 HDF m10 m11 m12 m1l m21 m2l
    refine HWV.out.mono ?_
    rintro e w5 ⟨rfl, hb5, k15⟩
    have M2 := B2.kept k15
    have m22 := M2.cell 2
    have m2l := M2.lt
    have HB5 := Lib.hid hb5
    clear hb5 M2 HWV
    go_wp2_with fail
    go_loopw [38] (fun y wr => ∃ i : Nat, y = .int .i64 i ∧ i ≤ n ∧ Kept w1 wr ∧ Lib.IsBuilderF 69 5 w1.heap.size w1.heap.size (Lib.byteCells (txtI ms d ins mem i)) wr) (fun y _ => n - (intOf y).toNat)
    case atStart => exact ⟨0, rfl, Nat.zero_le _, k15, HB5.out⟩
    case round =>
      obtain ⟨i, rfl, hin, hK, hbd⟩ := hrel
      have HBD := Lib.hid hbd
      clear hbd m22 m2l HB5
      by_cases hlt : i < n
      · obtain ⟨bm, om, rfl, hbm, hcm⟩ := hmx (by omega)
        have hg : mem[i]? = some (mem[i]'(by have := HN.out; omega)) := List.getElem?_eq_getElem _
        obtain ⟨hll, Al, cl, y0, hVl⟩ := hcm i _ hg
        have hrl := hrM _ (List.mem_of_getElem? hg)
        have hts := txtI_succ (ms := ms) (d := d) (ins := ins) hg
        have htl := txtI_le ms d ins mem (i + 1)
        rw [hts, List.length_append, List.length_append, List.length_singleton] at htl
        generalize mem[i]'(by have := HN.out; omega) = l at *
        have hKw := K1.trans hK
        have Y0 := hKw.cell (p := ⟨bm, _, none⟩) hbm y0
        have hb2 := Nat.lt_of_lt_of_le hbm hKw.size
        have hii : (i : Int) < n := by omega
        have M1 := B1.kept hK
        have m10 := M1.cell 0
        have m11 := M1.cell 1
        have m12 := M1.cell 2
        have m1l := M1.lt
        have hwv := writeVals_any w1 wr w1.heap.size (.slice AE ms.length ce) At AS nt ct scs.length cs (.slice Al l.length cl) ms l ⟨#[109, 101, 109, 98, 101, 114]⟩ _ hK hE1 (hVl.kept K1) hrl hll HBD.out (by rw [show L ⟨#[109, 101, 109, 98, 101, 114]⟩ = [109, 101, 109, 98, 101, 114] from rfl]; omega) (hMo.kept K1) (hP.kept K1)
        unfold wvPost at hwv
        rw [show L ⟨#[109, 101, 109, 98, 101, 114]⟩ = [109, 101, 109, 98, 101, 114] from rfl, ← hts] at hwv
        have HWV := Lib.hid hwv
        clear hwv hcm y0 hVl hg hll hts htl hrl M1
        go_wp2_with fail
        refine HWV.out.mono ?_
        rintro e w6 ⟨rfl, hb6, k16⟩
        have HB6 := Lib.hid hb6
        clear hb6
        go_wp2_with fail
        go_roundw
        case rel => exact ⟨i + 1, rfl, hlt, k16, HB6.out⟩
        case measure => simp [intOf]; omega
      · have hii : ¬ ((i : Int) < n) := by omega
        have hte : txtI ms d ins mem i = textL (caseT ms d ins mem) := by
          unfold txtI
          rw [List.take_of_length_le (by have := HN.out; omega)]
        have HTE := Lib.hid hte
        clear hte
        go_wp2_with (go_at_call 21; refine (Tryz.Builder_String_any_k _ _ _ _ HBD.out hK.size).mono ?_; rintro e w7 ⟨rfl, hb7, hbl7, _⟩)
        go_ret2
        rw [HF.out, HTE.out]
        exact ⟨rfl, K1.trans (hK.transC hbl7)⟩
  · have HF := Lib.hid (HFC.out.trans (if_neg hvc))
    have hne := bne_noC hvc
    clear HFC HRG hS hM hvc hsz hE hI hmx
    go_enter Tryz.func9, Tryz.ntmps9
    go_wp2_with (go_at_call 8; refine (HVA.out _ K0.out).mono ?_; rintro e w1 ⟨rfl, k1⟩)
    go_ret2
    rw [HF.out]
    exact ⟨rfl, K0.out.trans k1⟩
end Go.Proofs.YtjeifmjcgemlgaaGreatDoor
