/- What Parse of package bytecode computes. -/
import Derived.Test.YtnoegcdogcbhbaaDoorBcFmt
import Derived.Test.YtnoegcdogcbhbaaDoorLines
import Derived.Test.YtnoegcdogcbhbaaDoorLaw01A
import Derived.Test.YtnoegcdogcbhbaaDoorBcVerR
import Derived.Test.YtnoegcdogcbhbaaDoorFrame
import Derived.Test.YtnoegcdogcbhbaaDoorFrameL
import Derived.Deep.Slices
import Derived.Deep.Fields
import Derived.ChangeSame
import Derived.Stop.LaidErr
import Derived.Shelf.Vars
namespace Go.Proofs.YtnoegcdogcbhbaaDoor
open Go.RowKit

/-- the variable internal/bytealg.MaxLen holds some integer -/
def MaxL (w : World) : Prop := ∃ m, w.cell? ⟨0, 0, none⟩ = some (.int .i64 m)
theorem MaxL.kept {w w' : World} (h : MaxL w) (hk : Kept w w') : MaxL w' := by
  obtain ⟨m, hm⟩ := h
  refine ⟨m, hk.cell (p := ⟨0, 0, none⟩) ?_ hm⟩
  rcases Nat.lt_or_ge 0 w.heap.size with hlt | hge
  · exact hlt
  · simp [World.cell?, Array.getElem?_eq_none hge] at hm
theorem neqP (X Y : ByteArray) : (X.toList == Y.toList) = decide (X = Y) := by
  rw [toList_L, toList_L]
  by_cases h : X = Y
  · subst h; simp
  · rw [decide_eq_false h]
    simpa using fun e => h (L_inj.1 e)
set_option maxRecDepth 100000 in
set_option maxHeartbeats 1000000 in
theorem operation_any (W : ByteArray) (w : World) : Calls Tryd.prog 47 #[.string W] w fun e w' => e = .returned (.int .i64 (opOf (L W) : Nat)) ∧ w = w' := by
  go_enter Tryd.func47, Tryd.ntmps47
  go_wp2_with fail
  go_loopw [3] (fun z wr => ∃ p : Nat, z = .int .i64 p ∧ 1 ≤ p ∧ p ≤ 54 ∧ w = wr ∧ (∀ m : Nat, 1 ≤ m → m < p → mnS m ≠ L W)) (fun z _ => (54 - intOf z).toNat)
  case atStart => exact ⟨1, rfl, Nat.le_refl _, by decide, rfl, fun m h1 h2 => by omega⟩
  case round =>
    obtain ⟨p, rfl, hp1, hp54, rfl, hno⟩ := hrel
    by_cases hp : p ≤ 53
    · have hpi : (p : Int) ≤ 53 := by omega
      have HMN := Lib.hid (fun w => mnem_any (p : Int) w)
      have heq := neqP (bs (mnS p)) W
      by_cases hm : mnS p = L W
      · have HR := Lib.hid (opOf_at hp1 hp hm hno)
        rw [decide_eq_true (show bs (mnS p) = W by rw [hm, bs_L])] at heq
        clear hno hm
        generalize bs (mnS p) = M at *
        go_wp2_with (go_at_call 38; refine (HMN.out _).mono ?_; rintro e w1 ⟨rfl, rfl⟩)
        go_ret
        rw [HR.out]
        exact ⟨rfl, rfl⟩
      · rw [decide_eq_false (show ¬ bs (mnS p) = W from fun h => hm (by rw [← h, L_bs]))] at heq
        have HNO := Lib.hid (show ∀ m : Nat, 1 ≤ m → m < p + 1 → mnS m ≠ L W from fun m h1 h2 => by
          by_cases h : m = p
          · subst h; exact hm
          · exact hno m h1 (by omega))
        clear hno hm
        generalize bs (mnS p) = M at *
        go_wp2_with (go_at_call 38; refine (HMN.out _).mono ?_; rintro e w1 ⟨rfl, rfl⟩)
        go_roundw
        case rel => exact ⟨p + 1, rfl, by omega, by omega, trivial, HNO.out⟩
        case measure => simp [intOf]; omega
    · obtain rfl : p = 54 := by omega
      have HR := Lib.hid (opOf_no hno)
      clear hno
      go_wp2_with fail
      go_ret
      rw [HR.out]
      exact ⟨rfl, rfl⟩

/-! Cutting a line at its first blank -/
theorem idx32 : ∀ l : List UInt8, Lib.indexByte l 32 = if 32 ∈ l then ((l.takeWhile (· != 32)).length : Int) else -1 := by
  intro l
  induction l with
  | nil => rfl
  | cons c r ih =>
    rw [Lib.indexByte]
    by_cases hc : c = 32
    · subst hc; simp
    · rw [if_neg (by simpa using hc), ih]
      have h1 : (c != 32) = true := by simpa using hc
      by_cases hm : 32 ∈ r
      · rw [if_pos hm, if_pos (List.mem_cons_of_mem _ hm), List.takeWhile_cons, if_pos h1, List.length_cons]
        generalize (List.takeWhile (fun x => x != 32) r).length = k
        rw [beq_noB (show (k : Int) ≠ -1 by omega), if_neg (by decide)]
        omega
      · rw [if_neg hm, if_neg (fun h => (List.mem_cons.1 h).elim (fun e => hc e.symm) hm)]; rfl
theorem mem_tw {l : List UInt8} (h : 32 ∈ l) : l.drop (l.takeWhile (· != 32)).length = 32 :: l.drop ((l.takeWhile (· != 32)).length + 1) := by
  induction l with
  | nil => cases h
  | cons c r ih =>
    by_cases hc : c = 32
    · subst hc; simp
    · have h1 : (c != 32) = true := by simpa using hc
      rw [List.takeWhile_cons, if_pos h1, List.length_cons, List.drop_succ_cons]
      rw [ih (by simpa [Ne.symm hc] using h)]
      rfl
theorem take_tw (l : List UInt8) : l.take (l.takeWhile (· != 32)).length = l.takeWhile (· != 32) := by
  induction l with
  | nil => rfl
  | cons c r ih =>
    rw [List.takeWhile_cons]
    split
    · rw [List.length_cons, List.take_succ_cons, ih]
    · rfl
theorem tw_self : ∀ {l : List UInt8}, 32 ∉ l → l.takeWhile (· != 32) = l
  | [], _ => rfl
  | c :: r, h => by
    rw [List.takeWhile_cons, if_pos (by simpa using fun e : c = 32 => h (by rw [e]; simp)), tw_self (fun hm => h (List.mem_cons_of_mem _ hm))]
/-- the two cases of a line -/
theorem cut_cases (l : List UInt8) : (32 ∉ l ∧ Lib.cut l [32] = (l, [], false) ∧ parL l = (⟨0, 0⟩, 2)) ∨
    ∃ a b, Lib.cut l [32] = (a, b, true) ∧ a.length ≤ l.length ∧ b.length ≤ l.length ∧
      parL l = (if a = [] ∨ b = [] ∨ 32 ∈ b then (⟨0, 0⟩, 2) else if opOf a = 0 then (⟨0, 0⟩, 6) else if (refI b).2 = 0 then (⟨opOf a, (refI b).1⟩, 0) else (⟨0, 0⟩, (refI b).2)) := by
  by_cases h : 32 ∈ l
  · right
    refine ⟨l.takeWhile (· != 32), l.drop ((l.takeWhile (· != 32)).length + 1), ?_, ?_, ?_, ?_⟩
    · rw [Lib.cut, Lib.index_one, idx32, if_pos h, if_pos (by omega), Int.toNat_natCast, take_tw]; rfl
    · exact (List.takeWhile_sublist _).length_le
    · rw [List.length_drop]; omega
    · rw [parL, mem_tw h]
  · left
    refine ⟨h, ?_, ?_⟩
    · rw [Lib.cut, Lib.index_one, idx32, if_neg h, if_neg (by decide)]
    · rw [parL]
      have := tw_self h
      rw [this, List.drop_length]
theorem has32 (l : List UInt8) : decide (0 ≤ Lib.indexByte l 32) = decide (32 ∈ l) := by
  rw [idx32]
  by_cases h : 32 ∈ l
  · rw [if_pos h]; simp [h]
  · rw [if_neg h]; simp [h]

theorem Strs.at2 {w : World} {v : Value} {xs : List ByteArray} (h : Strs w v xs) : ∃ A cap, v = .slice A xs.length cap ∧ (0 < xs.length → ∃ b off, A = some ⟨b, off, none⟩ ∧ b < w.heap.size ∧ ∀ (j : Nat) x, xs[j]? = some x → w.cell? ⟨b, off + j, none⟩ = some (.string x)) := by
  obtain ⟨A, cap, hv, hx⟩ := h
  refine ⟨A, cap, hv, fun hp => ?_⟩
  obtain ⟨b, off, hA, hb, hc⟩ := hx hp
  refine ⟨b, off, hA, hb, fun j x hj => ?_⟩
  have := hc j (List.getElem?_eq_some_iff.1 hj).1
  rwa [hj, Option.getD_some] at this
theorem parF_at {ls : List (List UInt8)} {i : Nat} {acc : List Nd} {l : List UInt8} (h : ls[i]? = some l) : parF (ls.drop i) i acc = if 128 ≤ i then ([], i, 4) else if (parL l).2 = 0 then parF (ls.drop (i + 1)) (i + 1) (acc ++ [(parL l).1]) else ([], i, (parL l).2) := by
  obtain ⟨hi, rfl⟩ := List.getElem?_eq_some_iff.1 h
  rw [List.drop_eq_getElem_cons hi, parF]
def parPost (s : ByteArray) (w : World) (r : Ending) (w' : World) : Prop := ∃ v, r = .returned (.tuple #[v, .int .i64 (parC s).2.1, .int .i64 (parC s).2.2]) ∧ Nds w' v (parC s).1 ∧ Kept w w'
theorem lns_sizes (s : ByteArray) : ∀ (l : List UInt8) (pos st : Nat) (p : List ByteArray × Nat), lns s l pos st = some p → ∀ x ∈ p.1, x.size ≤ s.size
  | [], pos, st, p, h => by
    rw [lns] at h
    obtain rfl := Option.some.inj h
    intro x hx; simp at hx
  | c :: r, pos, st, p, h => by
    rw [lns] at h
    split at h
    · cases hq : lns s r (pos + 1) (pos + 1) with
      | none => rw [hq] at h; cases h
      | some q =>
        rw [hq] at h
        obtain rfl := Option.some.inj h
        intro x hx
        rcases List.mem_cons.1 hx with rfl | hx
        · rw [ByteArray.size_extract]; omega
        · exact lns_sizes s r _ _ q hq x hx
    · split at h
      · exact lns_sizes s r _ _ p h
      · cases h
theorem lines_size (s : ByteArray) : ∀ x ∈ (linR s).1, x.size ≤ 65536 := by
  intro x hx
  unfold linR at hx
  split at hx
  · simp at hx
  · split at hx
    · simp at hx
    · rename_i l e hl
      split at hx
      · have := lns_sizes s (L s) 0 0 (l, e) hl x hx
        omega
      · simp at hx
set_option maxRecDepth 100000 in
set_option maxHeartbeats 8000000 in
theorem parse26_any (s : ByteArray) (hs : s.size ≤ 1000000) (w : World) (hX : MaxL w) : Calls Tryd.prog 20 #[.string s] w (parPost s w) := by
  unfold parPost
  have HL := Lib.hid (lines_any s hs w)
  have hsz := lines_size s
  have hpc : parC s = if (linR s).2 = 0 then parF ((linR s).1.map L) 0 [] else ([], 0, (linR s).2) := rfl
  generalize linR s = R at *
  obtain ⟨xs, code⟩ := R
  dsimp only at HL hsz hpc
  by_cases hc : code = 0
  · subst hc
    rw [if_pos rfl] at hpc
    have HPC := Lib.hid hpc
    have HSZ := Lib.hid hsz
    obtain ⟨i0, hi, hz0, hz1, hz2⟩ := info_parts Tryd.infoNode
    clear hpc hsz
    go_enter Tryd.func20, Tryd.ntmps20
    go_wp2_with (go_at_call 44; refine HL.out.mono ?_; rintro e w1 ⟨v, rfl, hS, hk⟩; obtain ⟨A, cap, rfl, hA⟩ := hS.at2)
    obtain ⟨n, hn⟩ : ∃ n, n = xs.length := ⟨_, rfl⟩
    rw [← hn] at hA ⊢
    have HN := Lib.hid hn
    have hX1 := hX.kept hk
    clear hn hS HL
    go_loopw [7, 26] (fun x y wr => ∃ (i : Nat) (acc : List Nd), y = .int .i64 i ∧ i ≤ n ∧ i ≤ 128 ∧ acc.length = i ∧ Kept w1 wr ∧ GathR wr w1.heap.size 34 ndF 2 x acc ∧ parF ((xs.map L).drop i) i acc = parC s) (fun _ y _ => n - (intOf y).toNat)
    case atStart => exact ⟨0, [], rfl, Nat.zero_le _, by decide, rfl, Kept.refl _, GathR.nil _ _ _, HPC.out.symm⟩
    case round =>
      obtain ⟨i, acc, rfl, hin, hi128, hal, hK, hG, hrun⟩ := hrel
      by_cases hlt : i < n
      · obtain ⟨b1, o1, rfl, hb1, hc1⟩ := hA (by omega)
        have hg : xs[i]? = some (xs[i]'(by have := HN.out; omega)) := List.getElem?_eq_getElem _
        have x0 := hc1 i _ hg
        have hsx := HSZ.out _ (List.mem_of_getElem? hg)
        have hgm : (xs.map L)[i]? = some (L (xs[i]'(by have := HN.out; omega))) := by rw [List.getElem?_map, hg]; rfl
        rw [parF_at hgm] at hrun
        clear hc1 hA hg hgm
        generalize xs[i]'(by have := HN.out; omega) = X at *
        have X0 := hK.cell (p := ⟨b1, _, none⟩) hb1 x0
        have hii : (i : Int) < n := by omega
        have hi128b : (i : Int) ≤ 128 := by omega
        clear x0
        by_cases h128 : i = 128
        · subst h128
          rw [if_pos (Nat.le_refl _)] at hrun
          have HR := Lib.hid hrun
          clear hrun hG
          go_wp2_with fail
          go_ret3
          rw [← HR.out]
          exact ⟨_, rfl, Recs.nil _ _ _, hk.trans hK⟩
        · rw [if_neg (by omega)] at hrun
          have hib : ((i : Int) == 128) = false := beq_noB (by omega)
          obtain ⟨m, hm⟩ := hX1.kept hK
          have HCUT := Lib.hid (Tryd.strings_Cut X ⟨#[32]⟩ m wr (by omega) hm)
          rw [show (⟨#[32]⟩ : ByteArray).data.toList = [32] from rfl, show X.data.toList = L X from rfl] at HCUT
          have HGX := Lib.hid hG
          have HKX := Lib.hid hK
          have hi127 : i + 1 ≤ 128 := by omega
          clear hG hK h128
          rcases cut_cases (L X) with ⟨_, hcut, hpl⟩ | ⟨a, b, hcut, hal2, hbl2, hpl⟩
          · rw [hcut] at HCUT
            rw [hpl, if_neg (by decide)] at hrun
            have HR := Lib.hid hrun
            have HCUT2 := Lib.hid (HCUT.out.mono (fun e w2 (h : e = _ ∧ ∃ d, w2 = wr.drewN d) => (show e = _ ∧ Kept w w2 from ⟨h.1, by obtain ⟨d, hd⟩ := h.2; rw [hd]; exact (hk.trans HKX.out).drewN d⟩)))
            clear hrun hcut hpl HCUT
            go_wp2_with (go_at_call 45; refine HCUT2.out.mono ?_; rintro e w2 ⟨rfl, k2⟩)
            go_ret3
            rw [← HR.out]
            exact ⟨_, rfl, Recs.nil _ _ _, k2⟩
          · rw [hcut] at HCUT
            obtain ⟨A2, c2, hv2, _, _⟩ := HGX.out.form
            subst hv2
            have ha0 := bs_nil (l := a)
            have hb0 := bs_nil (l := b)
            have HCON := Lib.hid (fun w => Tryd.strings_Contains_one (bs b) 32 w)
            rw [show (bs b).data.toList = b from rfl, has32] at HCON
            have HOP := Lib.hid (fun w => operation_any (bs a) w)
            rw [L_bs] at HOP
            have hbz : (bs b).size ≤ 1000000 := by rw [bs_size]; rw [L_length] at hbl2; omega
            have HPI := Lib.hid (fun w => parseInt_any (bs b) hbz w)
            rw [L_bs, parP_refI] at HPI
            have HCUT2 : Hid (Calls Tryd.prog 45 #[.string X, .string ⟨#[32]⟩] wr fun e w2 => e = .returned (.tuple #[.string (bs a), .string (bs b), .bool true]) ∧ GathR w2 w1.heap.size 34 ndF 2 (.slice A2 acc.length c2) acc ∧ Kept w1 w2) :=
              Lib.hid (HCUT.out.mono (fun e w2 h => ⟨h.1, by obtain ⟨d, hd⟩ := h.2; rw [hd]; exact ⟨HGX.out, HKX.out.drewN d⟩⟩))
            clear HCUT HGX HKX hcut hal2 hbl2 hbz
            by_cases ha : a = []
            · rw [hpl.trans (if_pos (.inl ha)), if_neg (by decide)] at hrun
              have HR := Lib.hid hrun
              rw [decide_eq_true ha] at ha0
              clear hrun ha hpl
              generalize bs a = Y at *
              generalize bs b = Z at *
              go_wp2_with (go_at_call 45; refine HCUT2.out.mono ?_; rintro e w2 ⟨rfl, hg2, hk2⟩)
              go_ret3
              rw [← HR.out]
              exact ⟨_, rfl, Recs.nil _ _ _, hk.trans hk2⟩
            · rw [decide_eq_false ha] at ha0
              by_cases hb : b = []
              · rw [hpl.trans (if_pos (.inr (.inl hb))), if_neg (by decide)] at hrun
                have HR := Lib.hid hrun
                rw [decide_eq_true hb] at hb0
                clear hrun ha hb hpl
                generalize bs a = Y at *
                generalize bs b = Z at *
                go_wp2_with (go_at_call 45; refine HCUT2.out.mono ?_; rintro e w2 ⟨rfl, hg2, hk2⟩)
                go_ret3
                rw [← HR.out]
                exact ⟨_, rfl, Recs.nil _ _ _, hk.trans hk2⟩
              · rw [decide_eq_false hb] at hb0
                by_cases h32 : 32 ∈ b
                · rw [hpl.trans (if_pos (.inr (.inr h32))), if_neg (by decide)] at hrun
                  have HR := Lib.hid hrun
                  rw [decide_eq_true h32] at HCON
                  clear hrun ha hb h32 hpl
                  generalize bs a = Y at *
                  generalize bs b = Z at *
                  go_wp2_with (first
                    | (go_at_call 45; refine HCUT2.out.mono ?_; rintro e w2 ⟨rfl, hg2, hk2⟩)
                    | (go_at_call 46; refine (HCON.out _).mono ?_; rintro e w3 ⟨rfl, rfl⟩))
                  go_ret3
                  rw [← HR.out]
                  exact ⟨_, rfl, Recs.nil _ _ _, hk.trans hk2⟩
                · have hpl := hpl.trans (if_neg (fun h => h.elim ha (fun h => h.elim hb h32)))
                  rw [decide_eq_false h32] at HCON
                  by_cases ho : opOf a = 0
                  · rw [hpl.trans (if_pos ho), if_neg (by decide)] at hrun
                    have HR := Lib.hid hrun
                    rw [ho] at HOP
                    clear hrun ha hb h32 ho hpl
                    generalize bs a = Y at *
                    generalize bs b = Z at *
                    go_wp2_with (first
                      | (go_at_call 45; refine HCUT2.out.mono ?_; rintro e w2 ⟨rfl, hg2, hk2⟩)
                      | (go_at_call 46; refine (HCON.out _).mono ?_; rintro e w3 ⟨rfl, rfl⟩)
                      | (go_at_call 47; refine (HOP.out _).mono ?_; rintro e w3 ⟨rfl, rfl⟩))
                    go_ret3
                    rw [← HR.out]
                    exact ⟨_, rfl, Recs.nil _ _ _, hk.trans hk2⟩
                  · have hpl := hpl.trans (if_neg ho)
                    have hob : (((opOf a : Nat) : Int) == 0) = false := beq_noB (by omega)
                    generalize refI b = I at *
                    obtain ⟨z, ec⟩ := I
                    dsimp only at HPI hpl
                    by_cases hec : ec = 0
                    · subst hec
                      rw [hpl.trans (if_pos rfl), if_pos rfl] at hrun
                      have HRUN := Lib.hid hrun
                      clear hrun ha hb h32 ho hpl
                      generalize opOf a = o at *
                      generalize bs a = Y at *
                      generalize bs b = Z at *
                      have HAL := Lib.hid hal
                      have hacl : acc.length + 1 ≤ maxLen := by unfold maxLen; omega
                      have hacl2 : (acc.length + 1) * 16 ≤ 140737488355328 := by omega
                      clear hal
                      go_wp2_with (first
                        | (go_at_call 45; refine HCUT2.out.mono ?_; rintro e w2 ⟨rfl, hg2, hk2⟩)
                        | (go_at_call 46; refine (HCON.out _).mono ?_; rintro e w3 ⟨rfl, rfl⟩)
                        | (go_at_call 47; refine (HOP.out _).mono ?_; rintro e w3 ⟨rfl, rfl⟩)
                        | (go_at_call 48; refine (HPI.out _).mono ?_; rintro e w4 ⟨rfl, k4⟩; have HG4 := hg2.keptOwn k4; have HK4 := hk2.trans k4; have HO4 := HG4.alloc (.cells #[.int .i64 (o : Int), .int .i64 z] 34); have hw14 := HK4.size)
                        | (at_builtin; refine wpList_append_own _ rfl (.tmp 69) (.tmp 73) 22 rfl w1.heap.size 34 i0 (.agg #[.int .i64 0, .int .i64 0]) 2 16 Tryd.underlying22 hi hz0 hz1 hz2 rfl (by decide) _ acc.length (acc.flatMap ndF) rfl HO4 ⟨w4.heap.size, 0, none⟩ 1 1 (ndF ⟨(o : Int), z⟩) rfl rfl nd_new (ndF_one _) hacl hacl2 (by simp; omega) ?_; intro v' w5 hown' hgrow _))
                      go_roundw
                      case rel => exact ⟨i + 1, acc ++ [⟨(o : Int), z⟩], rfl, hlt, hi127, by rw [List.length_append, HAL.out]; rfl, ownGrown_kept HK4 HG4 (Nat.le_refl _) hgrow, GathR.snoc hown', HRUN.out⟩
                      case measure => simp [intOf]; omega
                    · rw [hpl.trans (if_neg hec), if_neg hec] at hrun
                      have HR := Lib.hid hrun
                      have hecb := bne_noB hec
                      clear hrun ha hb h32 ho hec hpl
                      generalize opOf a = o at *
                      generalize bs a = Y at *
                      generalize bs b = Z at *
                      go_wp2_with (first
                        | (go_at_call 45; refine HCUT2.out.mono ?_; rintro e w2 ⟨rfl, hg2, hk2⟩)
                        | (go_at_call 46; refine (HCON.out _).mono ?_; rintro e w3 ⟨rfl, rfl⟩)
                        | (go_at_call 47; refine (HOP.out _).mono ?_; rintro e w3 ⟨rfl, rfl⟩)
                        | (go_at_call 48; refine (HPI.out _).mono ?_; rintro e w4 ⟨rfl, k4⟩))
                      go_ret3
                      rw [← HR.out]
                      exact ⟨_, rfl, Recs.nil _ _ _, hk.trans (hk2.trans k4)⟩
      · have hii : ¬ ((i : Int) < n) := by omega
        have hdn : (xs.map L).drop i = [] := List.drop_eq_nil_iff.2 (by rw [List.length_map]; have := HN.out; omega)
        rw [hdn, parF] at hrun
        have HR := Lib.hid hrun
        have HT := Lib.hid (hG.recs ndF_len)
        clear hrun hdn hG
        go_wp2_with fail
        go_ret3
        rw [← HR.out]
        exact ⟨_, rfl, HT.out, hk.trans hK⟩
  · rw [if_neg hc] at hpc
    have HR := Lib.hid hpc
    have hcb := bne_noB hc
    clear hpc hsz hc
    go_enter Tryd.func20, Tryd.ntmps20
    go_wp2_with (go_at_call 44; refine HL.out.mono ?_; rintro e w1 ⟨v, rfl, _, hk⟩)
    go_ret3
    rw [HR.out]
    exact ⟨_, rfl, Recs.nil _ _ _, hk⟩
end Go.Proofs.YtnoegcdogcbhbaaDoor
/- What Format of the reference of package bytecode computes. -/
namespace Go.Proofs.YtnoegcdogcbhbaaDoor
open Go.RowKit

theorem line_bs2 (S : List UInt8) (x : Nd) : bs S ++ bs (mnS x.o) ++ ⟨#[32]⟩ ++ numS x.n ++ ⟨#[10]⟩ = bs (S ++ (lineL x ++ [10])) := by
  rw [← L_inj]
  simp only [L_append, L_bs, lineL]
  show _ ++ _ ++ [32] ++ _ ++ [10] = _
  simp
set_option maxRecDepth 100000 in
set_option maxHeartbeats 8000000 in
theorem rformat26_any (v : Value) (xs : List Nd) (w : World) (hN : Nds w v xs) (hn : xs.length ≤ 9223372036854775807) : Calls Tryd.prog 19 #[v] w (fmtPost xs w) := by
  unfold fmtPost
  obtain ⟨A, cap, rfl, hA⟩ := hN.at_
  obtain ⟨n, hxn⟩ : ∃ n, n = xs.length := ⟨_, rfl⟩
  rw [← hxn] at hA hn ⊢
  have HX := Lib.hid hxn
  clear hxn hN
  by_cases hb : 128 < n
  · have hbi : (128 : Int) < n := by omega
    have HR := Lib.hid (show fmtC xs = (⟨#[]⟩, 4) by rw [fmtC, if_pos (by have := HX.out; omega)])
    rw [HR.out]
    go_enter Tryd.func19, Tryd.ntmps19
    go_wp2_with fail
    go_ret2
    exact ⟨rfl, Kept.refl _⟩
  have hp : ¬ ((128 : Int) < n) := by omega
  have hn128 : n ≤ 128 := by omega
  have HFB := Lib.hid (fun (c : Int) (hc : fmtE xs = c) (h0 : c ≠ 0) => fmtC_bad (xs := xs) (by have := HX.out; omega) hc h0)
  clear hb hn
  go_enter Tryd.func19, Tryd.ntmps19
  go_wp2_with fail
  go_loopw [4, 5] (fun y z wr => ∃ i : Nat, i ≤ n ∧ z = .int .i64 i ∧ y = .string (bs (textL ((xs.take i).map lineL))) ∧ fmtE (xs.drop i) = fmtE xs ∧ (textL ((xs.take i).map lineL)).length ≤ 64 * i ∧ Kept w wr) (fun _ z _ => (n - intOf z).toNat)
  case atStart => exact ⟨0, Nat.zero_le _, rfl, rfl, rfl, Nat.le_refl _, Kept.refl _⟩
  case round =>
    obtain ⟨i, hin, rfl, rfl, hfe, htl, hK⟩ := hrel
    by_cases hi : i < n
    · obtain ⟨b1, o1, rfl, hb1, hc1⟩ := hA (by omega)
      have hg : xs[i]? = some (xs[i]'(by have := HX.out; omega)) := List.getElem?_eq_getElem _
      obtain ⟨x0, x1⟩ := hc1 i _ hg
      rw [fmtE_drop hg] at hfe
      have hts := text_snoc hg
      clear hc1 hA hg
      generalize xs[i]'(by have := HX.out; omega) = T at *
      have hls := lineL_len (x := T)
      have hlb := line_bs2 (textL ((xs.take i).map lineL)) T
      rw [← hts] at hlb
      obtain ⟨op, N⟩ := T
      dsimp only at x0 x1 hfe hlb
      have X0 := hK.cell (p := ⟨b1, _, none⟩) hb1 x0
      have X1 := hK.cell (p := ⟨b1, _, none⟩) hb1 x1
      have hb1r := Nat.lt_of_lt_of_le hb1 hK.size
      have hii : (i : Int) < n := by omega
      have HMN := Lib.hid (fun w => rmnem_any op w)
      have hml := mn_len op
      have hms : (bs (mnS op)).size ≤ 12 := by rw [bs_size]; exact hml
      have hnil := bs_nil (l := mnS op)
      have hss : (bs (textL ((xs.take i).map lineL))).size ≤ 64 * i := by rw [bs_size]; exact htl
      have HTL := Lib.hid htl
      have HKK := Lib.hid hK
      clear x0 x1 hml htl
      by_cases hm : mnS op = []
      · rw [if_pos hm] at hfe
        have HR := Lib.hid (HFB.out 2 hfe.symm (by decide))
        rw [hm, show bs [] = (⟨#[]⟩ : ByteArray) from rfl] at HMN
        clear hfe hts hlb hls hms hnil hm HFB hss
        generalize bs (textL ((xs.take i).map lineL)) = S at *
        go_wp2_with (go_at_call 42; refine (HMN.out _).mono ?_; rintro e w1 ⟨rfl, k1⟩)
        go_ret2
        rw [HR.out]
        exact ⟨rfl, hK.trans k1⟩
      · rw [if_neg hm] at hfe
        rw [decide_eq_false hm] at hnil
        by_cases hr : inR N = true
        · rw [if_pos hr] at hfe
          obtain ⟨r1, r2⟩ := inR_iff.1 hr
          have hll := hls hr
          have HLB := Lib.hid hlb
          have HTS := Lib.hid hts
          have HFE := Lib.hid hfe
          have HFI := Lib.hid (fun w => rfmtInt_any N (by omega) (by omega) w)
          have hns := numS_size N (by omega) (by omega)
          clear hfe hts hlb hls hm hr HFB
          generalize bs (textL ((xs.take i).map lineL)) = S at *
          generalize bs (mnS op) = M at *
          generalize numS N = Z at *
          have hq1 : ¬ N < -4611686018427387904 := by omega
          have hq2 : ¬ 4611686018427387904 < N := by omega
          go_wp2_with (go_at_call 42; refine (HMN.out _).mono ?_; rintro e w1 ⟨rfl, k1⟩; have X1 := k1.cell (p := ⟨b1, _, none⟩) hb1r X1)
          have hK1 := hK.trans k1
          have X0 := k1.cell (p := ⟨b1, _, none⟩) hb1r X0
          have hb1s := Nat.lt_of_lt_of_le hb1r k1.size
          have k0 := KW.cell hb1s X0
          have kk1 := KW.cell hb1s X1
          refine wp_region_kept (by kernel_rfl) (by kernel_rfl) ?_
          repeat (go_big_quiet_step (first
            | (go_at_call 42; exact KW.call (HMN.out _))
            | (go_at_call 43; exact KW.call (HFI.out _))))
          refine wpQuiet_nil ?_
          rintro w2 ⟨⟨wx, hx2⟩, hh⟩
          obtain rfl : w2 = wx := hh
          go_wp2_with fail
          go_roundw
          case rel => exact ⟨i + 1, hi, by go_num, by rw [← HLB.out], HFE.out, by have := HTL.out; rw [HTS.out, List.length_append, List.length_append, List.length_singleton]; omega, hK1.trans hx2⟩
          case measure => simp only [intOf]; omega
        · rw [if_neg hr] at hfe
          have HR := Lib.hid (HFB.out 3 hfe.symm (by decide))
          have hro : 4611686018427387904 < N ∨ N < -4611686018427387904 := by
            rcases Int.lt_or_le N (-4611686018427387904) with h | h
            · exact .inr h
            · rcases Int.lt_or_le 4611686018427387904 N with h2 | h2
              · exact .inl h2
              · exact absurd (inR_iff.2 ⟨h, h2⟩) hr
          clear hfe hts hlb hls hm hr HFB
          generalize bs (textL ((xs.take i).map lineL)) = S at *
          generalize bs (mnS op) = M at *
          rcases hro with h1 | h1
          · go_wp2_with (go_at_call 42; refine (HMN.out _).mono ?_; rintro e w1 ⟨rfl, k1⟩; have X1 := k1.cell (p := ⟨b1, _, none⟩) hb1r X1)
            go_ret2
            rw [HR.out]
            exact ⟨rfl, hK.trans k1⟩
          · have h2 : ¬ 4611686018427387904 < N := by omega
            go_wp2_with (go_at_call 42; refine (HMN.out _).mono ?_; rintro e w1 ⟨rfl, k1⟩; have X1 := k1.cell (p := ⟨b1, _, none⟩) hb1r X1)
            go_ret2
            rw [HR.out]
            exact ⟨rfl, hK.trans k1⟩
    · have hii : ¬ ((i : Int) < n) := by omega
      have hR : fmtC xs = (bs (textL (xs.map lineL)), 0) := by
        rw [List.drop_eq_nil_iff.2 (by have := HX.out; omega)] at hfe
        rw [fmtC, if_neg (by have := HX.out; omega), if_pos (show fmtE xs = 0 from hfe.symm)]
      rw [List.take_of_length_le (by have := HX.out; omega)]
      have HR := Lib.hid hR
      clear hR hfe htl
      go_wp2_with fail
      go_ret2
      rw [HR.out]
      exact ⟨rfl, hK⟩
end Go.Proofs.YtnoegcdogcbhbaaDoor
/- The fixed examples of the chapter on bytecode: awake returns true. (Printed by wip/genbcaw.py.) -/
namespace Go.Proofs.YtnoegcdogcbhbaaDoor
open Go.RowKit

theorem itoa26 {l : List UInt8} {n : Int} (h : (val l 0 : Int) = n) (hd : l.all isDig = true) (hl : lead l = true) (hn : l ≠ []) : numS n = bs l := by
  rw [numS, Lib.itoa, if_neg (by omega), show n.toNat = val l 0 by omega, decDigits_val l hd hl hn]
theorem num_0 : numS 0 = bs [48] := itoa26 (by decide) (by decide) (by decide) (by decide)
theorem num_1 : numS 1 = bs [49] := itoa26 (by decide) (by decide) (by decide) (by decide)
theorem num_2 : numS 2 = bs [50] := itoa26 (by decide) (by decide) (by decide) (by decide)
theorem num_3 : numS 3 = bs [51] := itoa26 (by decide) (by decide) (by decide) (by decide)
theorem num_4 : numS 4 = bs [52] := itoa26 (by decide) (by decide) (by decide) (by decide)
theorem num_5 : numS 5 = bs [53] := itoa26 (by decide) (by decide) (by decide) (by decide)
theorem exB_comp1 : compS [⟨7, 0⟩, ⟨7, 1⟩, ⟨23, 0⟩] = ([⟨7, 0⟩, ⟨52, 3⟩, ⟨7, 1⟩], 0) := by kernel_rfl
theorem exB_comp2 : compS [⟨7, 0⟩, ⟨2, 1⟩, ⟨2, 2⟩, ⟨26, 0⟩] = ([⟨7, 0⟩, ⟨50, 4⟩, ⟨2, 1⟩, ⟨51, 5⟩, ⟨2, 2⟩], 0) := by kernel_rfl
theorem exB_ver : verS [⟨7, 0⟩, ⟨52, 3⟩, ⟨7, 1⟩] = (1, 0) := by kernel_rfl
theorem exB_fmt1 : fmtC [⟨7, 0⟩, ⟨52, 3⟩, ⟨7, 1⟩] = (⟨#[105, 110, 112, 117, 116, 32, 48, 10, 97, 110, 100, 106, 117, 109, 112, 32, 51, 10, 105, 110, 112, 117, 116, 32, 49, 10]⟩, 0) := by
  rw [fmtC, if_neg (by decide), if_pos (by decide +kernel)]
  simp only [List.map_cons, List.map_nil, lineL, num_0, num_1, num_3, L_bs]
  rfl
theorem exB_fmt2 : fmtC [⟨7, 0⟩, ⟨50, 4⟩, ⟨2, 1⟩, ⟨51, 5⟩, ⟨2, 2⟩] = (⟨#[105, 110, 112, 117, 116, 32, 48, 10, 106, 117, 109, 112, 102, 97, 108, 115, 101, 32, 52, 10, 105, 110, 116, 32, 49, 10, 106, 117, 109, 112, 32, 53, 10, 105, 110, 116, 32, 50, 10]⟩, 0) := by
  rw [fmtC, if_neg (by decide), if_pos (by decide +kernel)]
  simp only [List.map_cons, List.map_nil, lineL, num_0, num_1, num_2, num_4, num_5, L_bs]
  rfl
theorem exB_par : parC ⟨#[105, 110, 112, 117, 116, 32, 48, 10, 106, 117, 109, 112, 102, 97, 108, 115, 101, 32, 52, 10, 105, 110, 116, 32, 49, 10, 106, 117, 109, 112, 32, 53, 10, 105, 110, 116, 32, 50, 10]⟩ = ([⟨7, 0⟩, ⟨50, 4⟩, ⟨2, 1⟩, ⟨51, 5⟩, ⟨2, 2⟩], 0, 0) := by
  have h := parC_fmt (c := [⟨7, 0⟩, ⟨50, 4⟩, ⟨2, 1⟩, ⟨51, 5⟩, ⟨2, 2⟩]) (by rw [exB_fmt2])
  rwa [exB_fmt2] at h
theorem nds_lit (w : World) (xs : List Nd) (t : TypeId) (cap : Nat) : Nds (w.alloc (.cells (xs.flatMap ndF).toArray t)) (.slice (some ⟨w.heap.size, 0, none⟩) xs.length cap) xs := by
  refine ⟨_, _, rfl, fun _ => ⟨w.heap.size, 0, rfl, by simp, fun j x hj i u hu => ?_⟩⟩
  rw [World.cell?_alloc_at _ _ _ _ rfl, List.getElem?_toArray, Nat.zero_add]
  exact flat_get ndF_len xs j x hj i u hu
set_option maxRecDepth 100000 in
set_option maxHeartbeats 16000000 in
theorem awake26_any (w : World) (hP : Pow w) (hX : MaxL w) : Calls Tryd.prog 12 #[] w fun e w' => e = .returned (.bool true) ∧ Kept w w' := by
  have HCA := Lib.hid (fun v w (h : Nds w v [⟨7, 0⟩, ⟨7, 1⟩, ⟨23, 0⟩]) => compTop_any v [⟨7, 0⟩, ⟨7, 1⟩, ⟨23, 0⟩] w h (by decide))
  have HCB := Lib.hid (fun v w (h : Nds w v [⟨7, 0⟩, ⟨2, 1⟩, ⟨2, 2⟩, ⟨26, 0⟩]) => compTop_any v [⟨7, 0⟩, ⟨2, 1⟩, ⟨2, 2⟩, ⟨26, 0⟩] w h (by decide))
  have HV := Lib.hid (fun v w (h : Nds w v [⟨7, 0⟩, ⟨52, 3⟩, ⟨7, 1⟩]) => verify_any v [⟨7, 0⟩, ⟨52, 3⟩, ⟨7, 1⟩] w h (by decide))
  have HF := Lib.hid (fun v w hP (h : Nds w v [⟨7, 0⟩, ⟨52, 3⟩, ⟨7, 1⟩]) => format26_any v [⟨7, 0⟩, ⟨52, 3⟩, ⟨7, 1⟩] w h (by decide) hP)
  have HPA := Lib.hid (fun w hX => parse26_any ⟨#[105, 110, 112, 117, 116, 32, 48, 10, 106, 117, 109, 112, 102, 97, 108, 115, 101, 32, 52, 10, 105, 110, 116, 32, 49, 10, 106, 117, 109, 112, 32, 53, 10, 105, 110, 116, 32, 50, 10]⟩ (by decide) w hX)
  unfold compPost at HCA HCB
  unfold verPost at HV
  unfold fmtPost at HF
  unfold parPost at HPA
  rw [exB_comp1] at HCA
  rw [exB_comp2] at HCB
  rw [exB_ver] at HV
  rw [exB_fmt1] at HF
  rw [exB_par] at HPA
  dsimp only at HCA HCB HV HF HPA
  have K0 := (Kept.refl w).alloc (.cells #[.int .i64 7, .int .i64 0, .int .i64 7, .int .i64 1, .int .i64 23, .int .i64 0] 34)
  have N0 : Nds (w.alloc (.cells #[.int .i64 7, .int .i64 0, .int .i64 7, .int .i64 1, .int .i64 23, .int .i64 0] 34)) (.slice (some ⟨w.heap.size, 0, none⟩) 3 3) [⟨7, 0⟩, ⟨7, 1⟩, ⟨23, 0⟩] := nds_lit w [⟨7, 0⟩, ⟨7, 1⟩, ⟨23, 0⟩] _ 3
  go_enter Tryd.func12, Tryd.ntmps12
  go_wp2_with fail
  refine (HCA.out _ _ N0).mono ?_
  rintro e w1 ⟨v1, rfl, N1, k1⟩
  have K1 := K0.trans k1
  obtain ⟨A1, c1, rfl, _⟩ := id N1
  clear N0 K0 k1
  go_wp2_with fail
  refine (HV.out _ _ N1).mono ?_
  rintro e w2 ⟨rfl, k2⟩
  have K2 := K1.trans k2
  have N2 := N1.kept k2
  clear N1 K1 k2
  go_wp2_with fail
  refine (HF.out _ _ (hP.kept K2) N2).mono ?_
  rintro e w3 ⟨rfl, k3⟩
  have K3 := K2.trans k3
  have N3 := N2.kept k3
  clear N2 K2 k3
  go_wp2_with fail
  refine (HPA.out _ (hX.kept K3)).mono ?_
  rintro e w4 ⟨v2, rfl, M4, k4⟩
  have K4 := (K3.trans k4).alloc (.cells #[.int .i64 7, .int .i64 0, .int .i64 2, .int .i64 1, .int .i64 2, .int .i64 2, .int .i64 26, .int .i64 0] 34)
  have N4 := (N3.kept k4).kept ((Kept.refl w4).alloc (.cells #[.int .i64 7, .int .i64 0, .int .i64 2, .int .i64 1, .int .i64 2, .int .i64 2, .int .i64 26, .int .i64 0] 34))
  have M5 := M4.kept ((Kept.refl w4).alloc (.cells #[.int .i64 7, .int .i64 0, .int .i64 2, .int .i64 1, .int .i64 2, .int .i64 2, .int .i64 26, .int .i64 0] 34))
  have L4 : Nds (w4.alloc (.cells #[.int .i64 7, .int .i64 0, .int .i64 2, .int .i64 1, .int .i64 2, .int .i64 2, .int .i64 26, .int .i64 0] 34)) (.slice (some ⟨w4.heap.size, 0, none⟩) 4 4) [⟨7, 0⟩, ⟨2, 1⟩, ⟨2, 2⟩, ⟨26, 0⟩] := nds_lit w4 [⟨7, 0⟩, ⟨2, 1⟩, ⟨2, 2⟩, ⟨26, 0⟩] _ 4
  obtain ⟨A2, c2, rfl, _⟩ := id M4
  clear N3 K3 k4 M4
  go_wp2_with fail
  refine (HCB.out _ _ L4).mono ?_
  rintro e w5 ⟨v3, rfl, P5, k5⟩
  have K5 := (K4.trans k5).alloc (.cells #[.int .i64 7, .int .i64 0, .int .i64 52, .int .i64 3, .int .i64 7, .int .i64 1] 34)
  have N5 := (N4.kept k5).kept ((Kept.refl w5).alloc (.cells #[.int .i64 7, .int .i64 0, .int .i64 52, .int .i64 3, .int .i64 7, .int .i64 1] 34))
  have M6 := (M5.kept k5).kept ((Kept.refl w5).alloc (.cells #[.int .i64 7, .int .i64 0, .int .i64 52, .int .i64 3, .int .i64 7, .int .i64 1] 34))
  have P6 := P5.kept ((Kept.refl w5).alloc (.cells #[.int .i64 7, .int .i64 0, .int .i64 52, .int .i64 3, .int .i64 7, .int .i64 1] 34))
  have L5 : Nds (w5.alloc (.cells #[.int .i64 7, .int .i64 0, .int .i64 52, .int .i64 3, .int .i64 7, .int .i64 1] 34)) (.slice (some ⟨w5.heap.size, 0, none⟩) 3 3) [⟨7, 0⟩, ⟨52, 3⟩, ⟨7, 1⟩] := nds_lit w5 [⟨7, 0⟩, ⟨52, 3⟩, ⟨7, 1⟩] _ 3
  obtain ⟨A3, c3, rfl, _⟩ := id P5
  clear N4 K4 k5 L4 M5 P5
  go_wp2_with fail
  refine (nodes_same _ _ _ _ N5 L5 (by decide)).mono ?_
  rintro e w6 ⟨rfl, k6⟩
  have K6 := K5.trans k6
  have M7 := M6.kept k6
  have P7 := P6.kept k6
  clear N5 K5 k6 L5 M6 P6
  go_wp2_with fail
  refine (nodes_same _ _ _ _ M7 P7 (by decide)).mono ?_
  rintro e w7 ⟨rfl, k7⟩
  go_wp2_with fail
  go_ret
  exact ⟨rfl, K6.trans k7⟩
end Go.Proofs.YtnoegcdogcbhbaaDoor
/- The laws of the chapter on bytecode return true, for every list of operations and every text. -/
namespace Go.Proofs.YtnoegcdogcbhbaaDoor
open Go.RowKit

theorem fmtC_err {c : List Nd} (h : (fmtC c).2 ≠ 0) : (fmtC c).1 = ⟨#[]⟩ := by
  unfold fmtC at h ⊢
  split
  · rfl
  · split
    · rename_i h1 h2; rw [if_neg h1, if_pos h2] at h; exact absurd rfl h
    · rfl
theorem fmtC_size (c : List Nd) : (fmtC c).1.size ≤ 10000 := by
  unfold fmtC
  split
  · exact Nat.zero_le _
  · rename_i h1
    split
    · rename_i h2
      have := text_len c h2
      rw [bs_size]; omega
    · exact Nat.zero_le _

set_option maxRecDepth 100000 in
set_option maxHeartbeats 4000000 in
theorem lawBcCompile (v : Value) (xs : List Nd) (w : World) (hN : Nds w v xs) (hn : xs.length ≤ maxLen) (hP : Pow w) (hX : MaxL w) : Calls Tryd.prog 3 #[v] w (LawPost w) := by
  unfold LawPost
  unfold maxLen at hn
  have HA := Lib.hid (compTop_any v xs w hN hn)
  have HB := Lib.hid (fun w1 (hk : Kept w w1) => rcompTop_any v xs w1 (hN.kept hk) hn)
  have hlen : (strS xs).2.2 = 0 → (compS xs).1.length ≤ 4000 := fun hv => by
    have h := comp_len hv
    rw [compS, if_pos hv]; exact h
  have hlen2 : (compS xs).1.length ≤ 4000 := by
    by_cases hv : (strS xs).2.2 = 0
    · exact hlen hv
    · rw [compS, if_neg hv]; simp
  unfold compPost at HA HB
  generalize compS xs = R at *
  obtain ⟨c, ec⟩ := R
  dsimp only at HA HB hlen2
  obtain ⟨A, cap, rfl, _⟩ := id hN
  clear hlen
  by_cases h60 : 60 < xs.length
  · have hi : (60 : Int) < xs.length := by omega
    clear HA HB hN hlen2
    go_enter Tryd.func3, Tryd.ntmps3
    go_wp2_with (go_at_call 12; refine (awake26_any _ hP hX).mono ?_; rintro e w' ⟨rfl, hk⟩)
    go_ret
    exact ⟨rfl, hk⟩
  · have hi : ¬ ((60 : Int) < xs.length) := by omega
    have hself : (ec == ec) = true := by simp
    clear hN
    go_enter Tryd.func3, Tryd.ntmps3
    go_wp2_with (first
      | (go_at_call 13; refine HA.out.mono ?_; rintro e w1 ⟨u1, rfl, N1, k1⟩)
      | (go_at_call 14; refine (HB.out _ k1).mono ?_; rintro e w2 ⟨u2, rfl, N2, k2⟩; have k12 := k1.trans k2)
      | (go_at_call 15; refine (nodes_same _ _ c _ (Recs.kept N1 k2) N2 (by omega)).mono ?_; rintro e w3 ⟨rfl, k3⟩; have hK := k12.trans k3)
      | (go_at_call 12; refine (awake26_any _ (hP.kept hK) (hX.kept hK)).mono ?_; rintro e w' ⟨rfl, hk⟩))
    go_ret
    exact ⟨rfl, hK.trans hk⟩
set_option maxRecDepth 100000 in
set_option maxHeartbeats 4000000 in
theorem lawBcVerify (v : Value) (xs : List Nd) (w : World) (hN : Nds w v xs) (hn : xs.length ≤ maxLen) (hP : Pow w) (hX : MaxL w) : Calls Tryd.prog 4 #[v] w (LawPost w) := by
  unfold LawPost
  unfold maxLen at hn
  have HA := Lib.hid (verify_any v xs w hN hn)
  have HB := Lib.hid (fun w1 (hk : Kept w w1) => rverify_any v xs w1 (hN.kept hk) hn)
  unfold verPost at HA HB
  generalize verS xs = R at *
  obtain ⟨m, ec⟩ := R
  dsimp only at HA HB
  obtain ⟨A, cap, rfl, _⟩ := id hN
  clear hN
  by_cases h60 : 200 < xs.length
  · have hi : (200 : Int) < xs.length := by omega
    clear HA HB
    go_enter Tryd.func4, Tryd.ntmps4
    go_wp2_with (go_at_call 12; refine (awake26_any _ hP hX).mono ?_; rintro e w' ⟨rfl, hk⟩)
    go_ret
    exact ⟨rfl, hk⟩
  · have hi : ¬ ((200 : Int) < xs.length) := by omega
    have hself : (ec == ec) = true := by simp
    have hself2 : (m == m) = true := by simp
    go_enter Tryd.func4, Tryd.ntmps4
    go_wp2_with (first
      | (go_at_call 16; refine HA.out.mono ?_; rintro e w1 ⟨rfl, k1⟩)
      | (go_at_call 17; refine (HB.out _ k1).mono ?_; rintro e w2 ⟨rfl, k2⟩; have hK := k1.trans k2)
      | (go_at_call 12; refine (awake26_any _ (hP.kept hK) (hX.kept hK)).mono ?_; rintro e w' ⟨rfl, hk⟩))
    go_ret
    exact ⟨rfl, hK.trans hk⟩
set_option maxRecDepth 100000 in
set_option maxHeartbeats 4000000 in
theorem lawBcFormat (v : Value) (xs : List Nd) (w : World) (hN : Nds w v xs) (hn : xs.length ≤ maxLen) (hP : Pow w) (hX : MaxL w) : Calls Tryd.prog 5 #[v] w (LawPost w) := by
  unfold LawPost
  unfold maxLen at hn
  have HA := Lib.hid (format26_any v xs w hN hn hP)
  have HB := Lib.hid (fun w1 (hk : Kept w w1) => rformat26_any v xs w1 (hN.kept hk) hn)
  unfold fmtPost at HA HB
  generalize fmtC xs = R at *
  obtain ⟨m, ec⟩ := R
  dsimp only at HA HB
  obtain ⟨A, cap, rfl, _⟩ := id hN
  clear hN
  by_cases h60 : 200 < xs.length
  · have hi : (200 : Int) < xs.length := by omega
    clear HA HB
    go_enter Tryd.func5, Tryd.ntmps5
    go_wp2_with (go_at_call 12; refine (awake26_any _ hP hX).mono ?_; rintro e w' ⟨rfl, hk⟩)
    go_ret
    exact ⟨rfl, hk⟩
  · have hi : ¬ ((200 : Int) < xs.length) := by omega
    have hself : (ec == ec) = true := by simp
    have hself2 : (m.toList == m.toList) = true := by simp
    go_enter Tryd.func5, Tryd.ntmps5
    go_wp2_with (first
      | (go_at_call 18; refine HA.out.mono ?_; rintro e w1 ⟨rfl, k1⟩)
      | (go_at_call 19; refine (HB.out _ k1).mono ?_; rintro e w2 ⟨rfl, k2⟩; have hK := k1.trans k2)
      | (go_at_call 12; refine (awake26_any _ (hP.kept hK) (hX.kept hK)).mono ?_; rintro e w' ⟨rfl, hk⟩))
    go_ret
    exact ⟨rfl, hK.trans hk⟩
set_option maxRecDepth 100000 in
set_option maxHeartbeats 4000000 in
theorem lawBcRoundTrip (v : Value) (xs : List Nd) (w : World) (hN : Nds w v xs) (hn : xs.length ≤ maxLen) (hP : Pow w) (hX : MaxL w) : Calls Tryd.prog 7 #[v] w (LawPost w) := by
  unfold LawPost
  unfold maxLen at hn
  have HA := Lib.hid (format26_any v xs w hN hn hP)
  unfold fmtPost at HA
  have herr := fmtC_err (c := xs)
  have hsz := fmtC_size xs
  have hrt := parC_fmt (c := xs)
  generalize fmtC xs = R at *
  obtain ⟨m, ec⟩ := R
  dsimp only at HA herr hsz hrt
  obtain ⟨A, cap, hv, _⟩ := id hN
  have HN := Lib.hid hN
  subst hv
  clear hN
  by_cases h60 : 200 < xs.length
  · have hi : (200 : Int) < xs.length := by omega
    clear HA herr hsz hrt
    go_enter Tryd.func7, Tryd.ntmps7
    go_wp2_with (go_at_call 12; refine (awake26_any _ hP hX).mono ?_; rintro e w' ⟨rfl, hk⟩)
    go_ret
    exact ⟨rfl, hk⟩
  · have hi : ¬ ((200 : Int) < xs.length) := by omega
    by_cases hec : ec = 0
    · subst hec
      have HPA := Lib.hid (fun w hX => parse26_any m (by omega) w hX)
      unfold parPost at HPA
      rw [hrt rfl] at HPA
      dsimp only at HPA
      clear herr hsz hrt
      go_enter Tryd.func7, Tryd.ntmps7
      go_wp2_with (first
        | (go_at_call 18; refine HA.out.mono ?_; rintro e w1 ⟨rfl, k1⟩)
        | (go_at_call 20; refine (HPA.out _ (hX.kept k1)).mono ?_; rintro e w2 ⟨u2, rfl, N2, k2⟩; have k12 := k1.trans k2)
        | (go_at_call 15; refine (nodes_same _ _ xs _ N2 (HN.out.kept k12) (by omega)).mono ?_; rintro e w3 ⟨rfl, k3⟩; have hK := k12.trans k3)
        | (go_at_call 12; refine (awake26_any _ (hP.kept hK) (hX.kept hK)).mono ?_; rintro e w' ⟨rfl, hk⟩))
      go_ret
      exact ⟨rfl, hK.trans hk⟩
    · obtain rfl := herr hec
      have hb := bne_noB hec
      clear herr hsz hrt hec
      go_enter Tryd.func7, Tryd.ntmps7
      go_wp2_with (first
        | (go_at_call 18; refine HA.out.mono ?_; rintro e w1 ⟨rfl, k1⟩)
        | (go_at_call 12; refine (awake26_any _ (hP.kept k1) (hX.kept k1)).mono ?_; rintro e w' ⟨rfl, hk⟩))
      go_ret
      exact ⟨rfl, k1.trans hk⟩
set_option maxRecDepth 100000 in
set_option maxHeartbeats 4000000 in
theorem lawBcCanonical (s : ByteArray) (hs : s.size ≤ maxLen) (w : World) (hP : Pow w) (hX : MaxL w) : Calls Tryd.prog 8 #[.string s] w (LawPost w) := by
  unfold LawPost
  unfold maxLen at hs
  by_cases h3 : 3000 < s.size
  · have hi : (3000 : Int) < s.size := by omega
    go_enter Tryd.func8, Tryd.ntmps8
    go_wp2_with (go_at_call 12; refine (awake26_any _ hP hX).mono ?_; rintro e w' ⟨rfl, hk⟩)
    go_ret
    exact ⟨rfl, hk⟩
  · have hi : ¬ ((3000 : Int) < s.size) := by omega
    have HPA := Lib.hid (parse26_any s (by omega) w hX)
    unfold parPost at HPA
    have herr := parC_err (s := s)
    have hcan := fmtC_par (s := s)
    generalize parC s = R at *
    obtain ⟨c, k, ec⟩ := R
    dsimp only at HPA herr hcan
    have hself : (s.toList == s.toList) = true := by simp
    by_cases hec : ec = 0
    · subst hec
      obtain ⟨hf, _⟩ := hcan rfl
      have hcl : c.length ≤ 9223372036854775807 := by
        rw [fmtC] at hf
        split at hf
        · cases (Prod.mk.injEq .. ▸ hf).2
        · omega
      have HF := Lib.hid (fun v w1 hP (h : Nds w1 v c) => format26_any v c w1 h hcl hP)
      unfold fmtPost at HF
      rw [hf] at HF
      dsimp only at HF
      clear herr hcan hf
      go_enter Tryd.func8, Tryd.ntmps8
      go_wp2_with (first
        | (go_at_call 20; refine HPA.out.mono ?_; rintro e w1 ⟨u1, rfl, N1, k1⟩; obtain ⟨A1, c1, hu1, _⟩ := id N1; subst hu1)
        | (go_at_call 18; refine (HF.out _ _ (hP.kept k1) N1).mono ?_; rintro e w2 ⟨rfl, k2⟩; have hK := k1.trans k2)
        | (go_at_call 12; refine (awake26_any _ (hP.kept hK) (hX.kept hK)).mono ?_; rintro e w' ⟨rfl, hk⟩))
      go_ret
      exact ⟨rfl, hK.trans hk⟩
    · obtain rfl := herr hec
      have hb := bne_noB hec
      clear herr hcan hec
      go_enter Tryd.func8, Tryd.ntmps8
      go_wp2_with (first
        | (go_at_call 20; refine HPA.out.mono ?_; rintro e w1 ⟨u1, rfl, N1, k1⟩; obtain ⟨A1, c1, hu1, _⟩ := id N1; subst hu1)
        | (go_at_call 12; refine (awake26_any _ (hP.kept k1) (hX.kept k1)).mono ?_; rintro e w' ⟨rfl, hk⟩))
      go_ret
      exact ⟨rfl, k1.trans hk⟩
set_option maxRecDepth 100000 in
set_option maxHeartbeats 4000000 in
theorem lawBcVerified (v : Value) (xs : List Nd) (w : World) (hN : Nds w v xs) (hn : xs.length ≤ maxLen) (hP : Pow w) (hX : MaxL w) : Calls Tryd.prog 6 #[v] w (LawPost w) := by
  unfold LawPost
  unfold maxLen at hn
  have HA := Lib.hid (compTop_any v xs w hN hn)
  unfold compPost at HA
  obtain ⟨A, cap, hv, hA⟩ := Nds.at_ hN
  subst hv
  clear hN
  by_cases h60 : 60 < xs.length
  · have hi : (60 : Int) < xs.length := by omega
    clear HA hA
    go_enter Tryd.func6, Tryd.ntmps6
    go_wp2_with (go_at_call 12; refine (awake26_any _ hP hX).mono ?_; rintro e w' ⟨rfl, hk⟩)
    go_ret
    exact ⟨rfl, hk⟩
  · have hi : ¬ ((60 : Int) < xs.length) := by omega
    by_cases hval : (strS xs).2.2 = 0
    · obtain ⟨q1, q2, q3, q4, q5⟩ := comp_ok hval
      generalize compS xs = R at *
      obtain ⟨c, ec⟩ := R
      dsimp only at HA q1 q2 q3 q4 q5
      subst q1
      have hni := nIf_le xs xs.length
      have HVA := Lib.hid (fun v w1 (h : Nds w1 v c) => verify_any v c w1 h (by omega))
      unfold verPost at HVA
      generalize verS c = V at *
      obtain ⟨d, ev⟩ := V
      dsimp only at HVA q3 q4 q5
      subst q3
      obtain ⟨n, hxn⟩ : ∃ n, n = xs.length := ⟨_, rfl⟩
      rw [← hxn] at hA hi h60 HA hni q2 ⊢
      have HX := Lib.hid hxn
      have HQ2 := Lib.hid q2
      have hcl : c.length ≤ 1000 := by omega
      clear hxn q2 hval
      go_enter Tryd.func6, Tryd.ntmps6
      go_wp2_with (go_at_call 13; refine HA.out.mono ?_; rintro e w1 ⟨u1, rfl, N1, k1⟩; obtain ⟨A1, c1, hu1, _⟩ := id N1; subst hu1)
      go_loopw [5, 6] (fun z y wr => ∃ (i : Nat) (q : Int), y = .int .i64 i ∧ i ≤ n ∧ z = .int .i64 q ∧ q = ((n + nIf xs i : Nat) : Int) ∧ w1 = wr) (fun _ y _ => n - (intOf y).toNat)
      case atStart => exact ⟨0, n, rfl, Nat.zero_le _, rfl, by simp [nIf], rfl⟩
      case round =>
        obtain ⟨i, q, rfl, hin, rfl, hqz, rfl⟩ := hrel
        have hnl := nIf_le xs i
        have hq0 : 0 ≤ q := by omega
        have hq1 : q ≤ 1000 := by omega
        have HQZ := Lib.hid hqz
        clear hqz hnl
        by_cases hlt : i < n
        · obtain ⟨b1, o1, rfl, hb1, hc1⟩ := hA (by omega)
          have hg : xs[i]? = some (xs[i]'(by have := HX.out; omega)) := List.getElem?_eq_getElem _
          obtain ⟨x0, x1⟩ := hc1 i _ hg
          have X0 := k1.cell (p := ⟨b1, _, none⟩) hb1 x0
          have hns := nIf_succ hg
          generalize xs[i]'(by have := HX.out; omega) = T at *
          have hii : (i : Int) < n := by omega
          have hi60 : (i : Int) ≤ 60 := by omega
          clear x0 x1 hc1 hg hA
          by_cases h26 : T.o = 26
          · have hb : (T.o == 26) = true := by simp [h26]
            rw [hb, if_pos rfl] at hns
            have HNS := Lib.hid hns
            clear hns h26
            go_wp2_with fail
            go_roundw
            case rel => exact ⟨i + 1, q + 1, rfl, hlt, rfl, by have := HNS.out; have := HQZ.out; omega, trivial⟩
            case measure => simp [intOf]; omega
          · have hb : (T.o == 26) = false := beq_noB h26
            rw [hb, if_neg (by decide)] at hns
            have HNS := Lib.hid hns
            clear hns h26
            go_wp2_with fail
            go_roundw
            case rel => exact ⟨i + 1, q, rfl, hlt, rfl, by have := HNS.out; have := HQZ.out; omega, trivial⟩
            case measure => simp [intOf]; omega
        · obtain rfl : n = i := by omega
          have hii : ¬ ((n : Int) < n) := by omega
          have heq : ((c.length : Int) == q) = true := by
            have h1 := HQ2.out
            have h2 := HQZ.out
            rw [beq_iff_eq]
            omega
          clear hA
          go_wp2_with (first
            | (go_at_call 16; refine (HVA.out _ _ N1).mono ?_; rintro e w2 ⟨rfl, k2⟩; have hK := k1.trans k2)
            | (go_at_call 12; refine (awake26_any _ (hP.kept hK) (hX.kept hK)).mono ?_; rintro e w' ⟨rfl, hk⟩))
          go_ret
          exact ⟨rfl, hK.trans hk⟩
    · rw [show compS xs = ([], (strS xs).2.2) by rw [compS, if_neg hval]] at HA
      generalize (strS xs).2.2 = ec at *
      dsimp only at HA
      have hb := bne_noB hval
      clear hval hA
      go_enter Tryd.func6, Tryd.ntmps6
      go_wp2_with (first
        | (go_at_call 13; refine HA.out.mono ?_; rintro e w1 ⟨u1, rfl, N1, k1⟩; obtain ⟨A1, c1, hu1, _⟩ := id N1; subst hu1)
        | (go_at_call 12; refine (awake26_any _ (hP.kept k1) (hX.kept k1)).mono ?_; rintro e w' ⟨rfl, hk⟩))
      go_ret
      exact ⟨rfl, k1.trans hk⟩
end Go.Proofs.YtnoegcdogcbhbaaDoor
/- An argument that is a list of operations: opened to the cells of its elements; what the rows of the seat's laws on bytecode say of the listed tables. -/
namespace Go.Proofs.YtnoegcdogcbhbaaDoor
open Go.ChangeShapes Go.WideShapes Go.ChangeAt Go.RowKit Go.Joins Go.Deep
section
variable {H : Type} {enc : TypeId × Value → H} {P : Program} {w : World} {base : Nat} {spare : Nat → Bool} {held : Bool}
theorem open_slice_fieldsB {t e : TypeId} {fs : Array Field} {fuel : Nat} {cs : List Value} {x : DataW H × List MemPlace} (ht : P.underlying t = some (.slice e)) (he : P.underlying e = some (.struct fs))
    (hone : oneCellFields P fs = true) (hC : P.cellsOf e = fs.size) (h : DataW.trod enc P w base spare held fuel t cs = some x) :
    (cs = [.slice none 0 0] ∧ x = (.nil, [])) ∨
    ∃ (a : Addr) (len cap m : Nat), cs = [.slice (some a) len cap] ∧ len ≤ cap ∧ cap ≤ maxLen ∧ m = (if spare a.block then cap else len) ∧
      ∀ i, i < m → ∀ (j : Nat) (f : Field), fs[j]? = some f → ∃ (v : Value) (y : DataW H × List MemPlace) (n : Nat), w.cell? (a.add (i * fs.size + j)) = some v ∧ DataW.trod enc P w base spare held n f.type [v] = some y := by
  rcases open_slice ht h with h0 | ⟨a, len, cap, m, n, D, Pl, hcs, hb, hl, hm, hmm, hx, hi⟩
  · exact .inl h0
  · refine .inr ⟨a, len, cap, m, hcs, hl, hm, hmm, fun i him j f hj => ?_⟩
    obtain ⟨cs', hc, ht'⟩ := hi i him
    rw [hC] at hc
    obtain ⟨ys, n', hn', hy, hlen, hyl, hf⟩ := DataW.trod_struct he ht'
    obtain ⟨_, hcl, hat⟩ := World.cells?_some hc
    obtain ⟨ho, hk⟩ := hone_of hone j f hj
    have hjl : j < fs.size := (Array.getElem?_eq_some_iff.1 hj).1
    have hcell := hat j hjl
    have hv : cs'[j]? = some (cs'[j]'(by omega)) := List.getElem?_eq_getElem (by omega)
    have h1 := hf j f hj
    rw [ho, hk] at h1
    have hone' : (cs'.drop j).take 1 = [cs'[j]'(by omega)] := by
      rw [List.drop_eq_getElem_cons (by omega)]
      rfl
    rw [hone'] at h1
    have hys : ys[j]? = some (ys[j]'(by omega)) := List.getElem?_eq_getElem (by omega)
    refine ⟨_, _, _, ?_, h1.trans hys⟩
    rw [← Go.Deep.add_add, hcell, hv]
end

section
variable {H : Type} {enc : TypeId × Value → H} {w : World}
theorem cell_ltB {w : World} {a : Addr} {v : Value} (h : w.cell? a = some v) : a.block < w.heap.size := by
  rcases Nat.lt_or_ge a.block w.heap.size with hlt | hge
  · exact hlt
  · simp [World.cell?, Array.getElem?_eq_none hge] at h
set_option maxRecDepth 100000 in
theorem open_nodes {base : Nat} {v : Value} {d : DataW H} {p : List MemPlace} (hv : Value.okWide Tryd.prog w .any base 22 v) (h : DataW.Trod enc Tryd.prog w 0 (fun _ => true) true 22 v d p) :
    ∃ xs : List Nd, Nds w v xs ∧ xs.length ≤ maxLen := by
  have hu : Tryd.prog.underlying 22 = some (.slice 34) := by kernel_rfl
  obtain ⟨A, len, cap, rfl⟩ := okWide_slice hu hv
  obtain ⟨fuel, hf⟩ := h
  rcases open_slice_fieldsB hu Tryd.underlying34 (by kernel_rfl) (by kernel_rfl) hf with ⟨hcs, _⟩ | ⟨a, len', cap', m, hcs, hl, hm, hmm, hi⟩
  · simp [Value.cells] at hcs
    obtain ⟨rfl, rfl, rfl⟩ := hcs
    exact ⟨[], Recs.nil _ _ _, by simp⟩
  · simp [Value.cells] at hcs
    obtain ⟨rfl, rfl, rfl⟩ := hcs
    simp only [if_true] at hmm
    subst hmm
    have hex : ∀ i, i < len → ∃ t : Nd, w.cell? (a.add (i * 2)) = some (.int .i64 t.o) ∧ w.cell? (a.add (i * 2 + 1)) = some (.int .i64 t.n) := by
      intro i hil
      have him := hi i (by omega)
      obtain ⟨v0, y0, n0, c0, t0⟩ := him 0 _ rfl
      obtain ⟨v1, y1, n1, c1, t1⟩ := him 1 _ rfl
      obtain ⟨k, e0, _, _⟩ := DataW.trod_int Tryd.underlying3 t0
      obtain ⟨n, e1, _, _⟩ := DataW.trod_int Tryd.underlying3 t1
      simp only [List.cons.injEq, and_true] at e0 e1
      subst e0 e1
      exact ⟨⟨k, n⟩, c0, c1⟩
    obtain ⟨f, hf'⟩ := Classical.axiomOfChoice (r := fun (i : Fin len) (t : Nd) => w.cell? (a.add (i.1 * 2)) = some (.int .i64 t.o) ∧ w.cell? (a.add (i.1 * 2 + 1)) = some (.int .i64 t.n)) (fun i => hex i.1 i.2)
    refine ⟨List.ofFn f, ⟨some a, m, by rw [List.length_ofFn], ?_⟩, by rw [List.length_ofFn]; omega⟩
    rw [List.length_ofFn]
    intro hp
    have c0 := (hf' ⟨0, hp⟩).1
    have hb := cell_ltB c0
    rw [block_of_add] at hb
    obtain ⟨b, o, sp⟩ := a
    have hsn : sp = none := by
      have := World.cell?_spot c0
      simpa [Addr.add] using this
    subst hsn
    refine ⟨b, o, rfl, hb, ?_⟩
    have ea : ∀ q, (⟨b, o, none⟩ : Addr).add q = ⟨b, o + q, none⟩ := by
      intro q
      unfold Addr.add
      by_cases e : q = 0
      · subst e; rfl
      · simp [e]
    intro j x hj i u hu'
    have hjl : j < len := by
      have := (List.getElem?_eq_some_iff.1 hj).1
      simpa using this
    have hx : x = f ⟨j, hjl⟩ := by
      have : (List.ofFn f)[j]? = some (f ⟨j, hjl⟩) := by simp [hjl]
      rw [this] at hj
      exact (Option.some.inj hj).symm
    subst hx
    obtain ⟨q0, q1⟩ := hf' ⟨j, hjl⟩
    rw [ea] at q0 q1
    dsimp only at q0 q1
    simp only [← Nat.add_assoc] at q0 q1
    match i, hu' with
    | 0, hu' => simp only [ndF, List.getElem?_cons_zero, Option.some.injEq] at hu'; subst hu'; exact q0
    | 1, hu' => simp only [ndF, List.getElem?_cons_zero, List.getElem?_cons_succ, Option.some.injEq] at hu'; subst hu'; exact q1
    | i + 2, hu' => simp [ndF] at hu'
end
/-- what the rows say of the listed tables -/
theorem env26 {W : World} (h : laidMetH Tryd.prog Rows.bytecodeCompileRow.laid W) : Pow W := by
  have h0 : laidMet Tryd.prog Rows.bytecodeCompileRow.laid W := h
  have h3 := h0.tail.tail
  exact Lib.tabIs_of_head (g := 2) (t := 176) (e := 121) (n := 20) (by kernel_rfl) (by kernel_rfl) (by kernel_rfl) (by kernel_rfl) (by kernel_rfl) (by kernel_rfl) h3
theorem envMax {W : World} (h : W.ShapedOpen Tryd.prog) : MaxL W :=
  cell_of_shapedOpen_int (g := 0) (t := 3) (zero := #[.int .i64 0]) h (of_decide_eq_true (by kernel_rfl)) (by kernel_rfl) rfl (by kernel_rfl) (by kernel_rfl) (by kernel_rfl)
end Go.Proofs.YtnoegcdogcbhbaaDoor
