/- Rows of a call's own: what an append to one of them leaves of the others. -/
import Derived.Test.YtnoegcdogcbhbaaDoorBcStr
import Derived.Test.YtnoegcdogcbhbaaDoorBcMath
namespace Go.Proofs.YtnoegcdogcbhbaaDoor
open Go.RowKit

section
variable {α : Type} {f : α → List Value} {k : Nat} {w : World} {B : Nat} {e : TypeId}
theorem GathR.block {v : Value} {xs : List α} (h : GathR w B e f k v xs) {g : Nat} (hv : v.ownBlock = some g) : ∃ cur, w.heap[g]? = some (.cells cur e (0, 0)) := by
  rcases h.2 with ⟨rfl, _⟩ | ⟨g', cap, cur, rfl, _, hg, _⟩
  · cases hv
  · obtain rfl : g' = g := Option.some.inj hv
    exact ⟨cur, hg⟩
theorem GathR.frozen {v : Value} {xs : List α} (h : GathR w B e f k v xs) {g : Nat} (hv : v.ownBlock = some g) (i : Nat) : w.frozen? ⟨g, i, none⟩ = false := by
  obtain ⟨cur, hc⟩ := h.block hv
  simp [World.frozen?, hc]
/-- a row that is not the row that has grown -/
theorem GathR.grown {w' : World} {v : Value} {xs : List α} {row : Option Nat} (h : GathR w B e f k v xs) (hg : w.grownBy w' row) (hne : ∀ b, v.ownBlock = some b → row ≠ some b) : GathR w' B e f k v xs := by
  refine ⟨h.1, ?_⟩
  rcases h.2 with hn | ⟨g, cap, cur, rfl, hb, hc, r⟩
  · exact .inl hn
  · exact .inr ⟨g, cap, cur, rfl, hb, (hg.block g (Array.getElem?_eq_some_iff.1 hc).1 (fun e => hne g rfl e.symm)).trans hc, r⟩
/-- behind an append of a block of its own -/
theorem append_grew {wr w1 : World} {v : Value} {o : Obj} {g n cap : Nat} (hg : (wr.alloc o).grownBy w1 v.ownBlock) (hat : v.ownBlock = some g ∨ g = (wr.alloc o).heap.size) : Grew wr w1 v (.slice (some ⟨g, 0, none⟩) n cap) := by
  refine (Grew.kept ((Kept.refl wr).alloc o)).trans ⟨hg, fun b hb => ?_⟩
  obtain rfl : g = b := Option.some.inj hb
  rcases hat with h | h
  · exact .inl h
  · exact .inr (by rw [h]; exact Nat.le_refl _)
/-- the cells of a row that holds something -/
theorem GathR.cells {v : Value} {xs : List α} (hf : ∀ x, (f x).length = k) (h : GathR w B e f k v xs) (hp : 0 < xs.length) :
    ∃ g cap, v = .slice (some ⟨g, 0, none⟩) xs.length cap ∧ v.ownBlock = some g ∧ B ≤ g ∧ g < w.heap.size ∧ xs.length ≤ cap ∧ ∀ (j : Nat) (x : α), xs[j]? = some x → ∀ i u, (f x)[i]? = some u → w.cell? ⟨g, j * k + i, none⟩ = some u := by
  have hr := h.recs hf
  rcases h.2 with ⟨_, h0⟩ | ⟨g, cap, cur, rfl, hB, hg, hc, _⟩
  · omega
  · refine ⟨g, cap, rfl, rfl, hB, (Array.getElem?_eq_some_iff.1 hg).1, hc, fun j x hj i u hu => ?_⟩
    obtain ⟨A, c, hv, hx⟩ := hr
    simp only [Value.slice.injEq] at hv
    obtain ⟨rfl, _, rfl⟩ := hv
    obtain ⟨b, off, hA, _, hcc⟩ := hx hp
    simp only [Option.some.injEq, Addr.mk.injEq] at hA
    obtain ⟨rfl, rfl, _⟩ := hA
    have := hcc j x hj i u hu
    rwa [show 0 + j * k + i = j * k + i by omega] at this
end
theorem own_len (A : Option Addr) (n m c d : Nat) : (Value.slice A n c).ownBlock = (Value.slice A m d).ownBlock := by cases A <;> rfl
/-- a slice of natural numbers, read -/
theorem natR_at {w : World} {v : Value} {xs : List Nat} (h : Recs w natF 1 v xs) : ∃ A cap, v = .slice A xs.length cap ∧ (0 < xs.length → ∃ b off, A = some ⟨b, off, none⟩ ∧ b < w.heap.size ∧ ∀ (j x : Nat), xs[j]? = some x → w.cell? ⟨b, off + j, none⟩ = some (.int .i64 (x : Int))) := by
  obtain ⟨A, cap, hv, hx⟩ := h
  refine ⟨A, cap, hv, fun hp => ?_⟩
  obtain ⟨b, off, hA, hb, hc⟩ := hx hp
  refine ⟨b, off, hA, hb, fun j x hj => ?_⟩
  have := hc j x hj 0 _ rfl
  rwa [show off + j * 1 + 0 = off + j by omega] at this
end Go.Proofs.YtnoegcdogcbhbaaDoor
/- What structure of the reference of package expr computes. -/
namespace Go.Proofs.YtnoegcdogcbhbaaDoor
open Go.RowKit

set_option maxRecDepth 100000 in
set_option maxHeartbeats 8000000 in
theorem rstructure_any (v : Value) (xs : List Nd) (w : World) (hN : Nds w v xs) (hn : xs.length ≤ 9223372036854775807) : Calls Tryd.prog 67 #[v] w (strPost xs w) := by
  obtain ⟨A, cap, rfl, hA⟩ := hN.at_
  obtain ⟨n, hxn⟩ : ∃ n, n = xs.length := ⟨_, rfl⟩
  rw [← hxn] at hA hn ⊢
  have HX := Lib.hid hxn
  clear hxn hN
  unfold strPost
  by_cases hb : 48 < n
  · have hbi : (48 : Int) < n := by omega
    have HR := Lib.hid (show strS xs = ([], 0, 4) by rw [strS, if_pos (by have := HX.out; omega)])
    go_enter Tryd.func67, Tryd.ntmps67
    go_wp2_with fail
    go_ret3
    rw [HR.out]
    exact ⟨_, rfl, Recs.nil _ _ _, Kept.refl _⟩
  by_cases h0 : n = 0
  · subst h0
    have HR := Lib.hid (show strS xs = ([], 0, 5) by rw [strS, if_neg (by have := HX.out; omega), if_pos (by have := HX.out; omega)])
    go_enter Tryd.func67, Tryd.ntmps67
    go_wp2_with fail
    go_ret3
    rw [HR.out]
    exact ⟨_, rfl, Recs.nil _ _ _, Kept.refl _⟩
  have HR0 := Lib.hid (show strF (xs.drop 0) 0 [] [] = strS xs by rw [strS, if_neg (by have := HX.out; omega), if_neg (by have := HX.out; omega)]; rfl)
  obtain ⟨i0, hi, hz0, hz1, hz2⟩ := info_parts Tryd.infoInt
  obtain ⟨b1, o1, rfl, hb1, hc1⟩ := hA (by omega)
  have hp : ¬ ((48 : Int) < n) := by omega
  have hq : ((n : Int) == 0) = false := by simp; omega
  clear hA hn
  have HC1 := Lib.hid hc1
  clear hc1
  go_enter Tryd.func67, Tryd.ntmps67
  go_wp2_with fail
  go_loopw [5, 6, 7] (fun z x y wr => ∃ (i : Nat) (stk sts : List Nat), y = .int .i64 i ∧ i ≤ n ∧ sts.length = i ∧ stk.length ≤ 12 ∧ Kept w wr ∧ GathR wr w.heap.size 3 natF 1 x stk ∧ GathR wr w.heap.size 3 natF 1 z sts ∧ (∀ b, x.ownBlock = some b → z.ownBlock ≠ some b) ∧ strF (xs.drop i) i stk sts = strS xs) (fun _ _ y _ => n - (intOf y).toNat)
  case atStart => exact ⟨0, [], [], rfl, Nat.zero_le _, rfl, by simp, Kept.refl _, GathR.nil _ _ _, GathR.nil _ _ _, fun b h => (by simp [Value.ownBlock] at h), HR0.out⟩
  case round =>
    obtain ⟨i, stk, sts, rfl, hin, hsl, hst, hK, hown, hown2, hdis, hrun⟩ := hrel
    obtain ⟨A2, scap2, hzv, hzc1, hzc2⟩ := hown2.form
    subst hzv
    by_cases hlt : i < n
    · have hg : xs[i]? = some (xs[i]'(by have := HX.out; omega)) := List.getElem?_eq_getElem _
      generalize xs[i]'(by have := HX.out; omega) = T at *
      obtain ⟨x0, x1⟩ := HC1.out i _ hg
      have X0 := hK.cell (p := ⟨b1, _, none⟩) hb1 x0
      clear x0 x1
      have hii : (i : Int) < n := by omega
      have h48 : (i : Int) ≤ 48 := by omega
      have hwr : w.heap.size ≤ wr.heap.size := hK.size
      by_cases hneg : arS T.o < 0
      · have HR := Lib.hid (strF_form hrun hg hneg)
        have HAR := Lib.hid (fun w => rarity_any T.o w)
        clear hown hown2 hdis hrun hg
        go_wp2_with (go_at_call 73; refine (HAR.out _).mono ?_; rintro e w' ⟨rfl, rfl⟩)
        go_ret3
        rw [HR.out]
        exact ⟨_, rfl, Recs.nil _ _ _, hK⟩
      · obtain ⟨a, ha⟩ : ∃ a : Nat, arS T.o = a := ⟨(arS T.o).toNat, by omega⟩
        have hab := (arS_bd T.o).2
        have HAR := Lib.hid (fun w => (by have := rarity_any T.o w; rwa [ha] at this : Calls Tryd.prog 73 #[.int .i64 T.o] w fun e w' => e = .returned (.int .i64 (a : Int)) ∧ w = w'))
        have ha3 : a ≤ 3 := by omega
        have ha0 : ¬ ((a : Int) < 0) := by omega
        by_cases htr : stk.length < a
        · have HR := Lib.hid (strF_trunc hrun hg ha htr)
          obtain ⟨A, scap, hv, _, _⟩ := hown.form
          subst hv
          have htri : (stk.length : Int) < a := by omega
          clear hown hown2 hdis hrun hg ha hab hneg
          go_wp2_with (go_at_call 73; refine (HAR.out _).mono ?_; rintro e w' ⟨rfl, rfl⟩)
          go_ret3
          rw [HR.out]
          exact ⟨_, rfl, Recs.nil _ _ _, hK⟩
        · obtain ⟨m, hm⟩ : ∃ m, stk.length = m + a := ⟨stk.length - a, by omega⟩
          obtain ⟨A, scap, hv, hsc1, hsc2⟩ := hown.form
          rw [hm] at hv hsc1
          subst hv
          have htri : ¬ ((m : Int) + a < a) := by omega
          have hm12 : m ≤ 12 := by omega
          have hwp : IntKind.i64.wrap (m : Int) = m := by rw [IntKind.wrap_i64]; omega
          have hst2 : m + a ≤ 12 := by omega
          have HT := hown.take natF_len (show m ≤ m + a by omega)
          have hlm : (stk.take m).length = m := by rw [List.length_take]; omega
          have hnx := fun hd => strF_next hrun hg ha hm hd
          have hdp := fun hd => strF_deep hrun hg ha hm hd
          obtain ⟨s, hfr⟩ : ∃ s, s = frmS i a stk := ⟨_, rfl⟩
          rw [← hfr] at hnx
          have HNX := Lib.hid hnx
          have HDP := Lib.hid hdp
          have HSL := Lib.hid hsl
          have HLM := Lib.hid hlm
          have HK := Lib.hid hK
          have HDIS := Lib.hid hdis
          have HO2 := Lib.hid hown2
          have hsi : (m : Int) ≤ scap := by omega
          have hmx : m + 1 ≤ maxLen := by unfold maxLen; omega
          have hix : i + 1 ≤ maxLen := by unfold maxLen; omega
          have HNEWS := Lib.hid (fun (W : World) => nat_new (W := W) (s := s) (t := 3))
          have HONE := Lib.hid (natF_one s)
          have HOW : Hid ((wr.alloc (.cells #[.int .i64 (s : Int)] 3)).ownsRow w.heap.size 3 1 (.slice A m scap) m ((stk.take m).flatMap natF)) := Lib.hid (by
            have h := GathR.alloc HT (.cells #[.int .i64 (s : Int)] 3)
            unfold GathR at h
            rwa [hlm] at h)
          -- what is left behind both appends
          have hend : ∀ (g1 c1 : Nat) (w1 : World), w1.ownsRow w.heap.size 3 1 (.slice (some ⟨g1, 0, none⟩) (m + 1) c1) (m + 1) ((stk.take m).flatMap natF ++ natF s) → (wr.alloc (.cells #[.int .i64 (s : Int)] 3)).grownBy w1 (Value.slice A m scap).ownBlock → ((Value.slice A m scap).ownBlock = some g1 ∨ g1 = (wr.alloc (.cells #[.int .i64 (s : Int)] 3)).heap.size) →
              Kept w w1 ∧ GathR w1 w.heap.size 3 natF 1 (.slice (some ⟨g1, 0, none⟩) (m + 1) c1) (stk.take m ++ [s]) ∧ (w1.alloc (.cells #[.int .i64 (s : Int)] 3)).ownsRow w.heap.size 3 1 (.slice A2 sts.length scap2) sts.length (sts.flatMap natF) ∧ (∀ b, (Value.slice (some ⟨g1, 0, none⟩) (m + 1) c1).ownBlock = some b → (Value.slice A2 sts.length scap2).ownBlock ≠ some b) ∧ w.heap.size ≤ w1.heap.size := by
            intro g1 c1 w1 h1 h2 h3
            have hG := append_grew (n := m + 1) (cap := c1) h2 h3
            have hz : ∀ b, (Value.slice A2 sts.length scap2).ownBlock = some b → (Value.slice A m scap).ownBlock ≠ some b := fun b hb hx => HDIS.out b (by rw [own_len A _ m scap scap]; exact hx) hb
            have hk1 := hG.below HK.out (fun b hb => (HT.owned hb).1)
            refine ⟨hk1, GathR.snoc (by rw [hlm]; exact h1), (HO2.out.grown hG.by_ hz).alloc _, fun b hb hz1 => ?_, hk1.size⟩
            rcases hG.own b hb with h4 | h4
            · exact hz b hz1 h4
            · have := (HO2.out.owned hz1).2
              omega
          -- what is left behind the second append
          have hend2 : ∀ (g1 c1 g2 c2 : Nat) (w1 w2 : World), Kept w w1 → GathR w1 w.heap.size 3 natF 1 (.slice (some ⟨g1, 0, none⟩) (m + 1) c1) (stk.take m ++ [s]) → (∀ b, (Value.slice (some ⟨g1, 0, none⟩) (m + 1) c1).ownBlock = some b → (Value.slice A2 sts.length scap2).ownBlock ≠ some b) →
              (w1.alloc (.cells #[.int .i64 (s : Int)] 3)).ownsRow w.heap.size 3 1 (.slice A2 sts.length scap2) sts.length (sts.flatMap natF) →
              w2.ownsRow w.heap.size 3 1 (.slice (some ⟨g2, 0, none⟩) (sts.length + 1) c2) (sts.length + 1) (sts.flatMap natF ++ natF s) → (w1.alloc (.cells #[.int .i64 (s : Int)] 3)).grownBy w2 (Value.slice A2 sts.length scap2).ownBlock → ((Value.slice A2 sts.length scap2).ownBlock = some g2 ∨ g2 = (w1.alloc (.cells #[.int .i64 (s : Int)] 3)).heap.size) →
              Kept w w2 ∧ GathR w2 w.heap.size 3 natF 1 (.slice (some ⟨g1, 0, none⟩) (m + 1) c1) (stk.take m ++ [s]) ∧ GathR w2 w.heap.size 3 natF 1 (.slice (some ⟨g2, 0, none⟩) (sts.length + 1) c2) (sts ++ [s]) ∧ (∀ b, (Value.slice (some ⟨g1, 0, none⟩) (m + 1) c1).ownBlock = some b → (Value.slice (some ⟨g2, 0, none⟩) (sts.length + 1) c2).ownBlock ≠ some b) := by
            intro g1 c1 g2 c2 w1 w2 k1 G1 D O2 h1 h2 h3
            have hG := append_grew (n := sts.length + 1) (cap := c2) h2 h3
            refine ⟨hG.below k1 (fun b hb => (GathR.owned (f := natF) (xs := sts) O2 hb).1), G1.grown hG.by_ (fun b hb => D b hb), GathR.snoc h1, fun b hb hz1 => ?_⟩
            rcases hG.own b hz1 with h4 | h4
            · exact D b hb h4
            · have := (G1.owned hb).2
              omega
          have HEND := Lib.hid hend
          have HEND2 := Lib.hid hend2
          have hsx : sts.length + 1 ≤ maxLen := by unfold maxLen; omega
          have hsx2 : (sts.length + 1) * 8 ≤ 140737488355328 := by omega
          clear hend hend2
          by_cases ha1 : a = 0
          · subst ha1
            obtain rfl : s = i := hfr.trans (frmS_zero i stk)
            clear hneg htr hrun hg ha hab hown hown2 hnx hdp HT hm hfr hsl hst hlm hK hdis
            by_cases hd : 12 < m + 1
            · have HR := Lib.hid (HDP.out hd)
              have hdi : (12 : Int) < m + 1 := by omega
              go_wp2_with (first
                | (go_at_call 73; refine (HAR.out _).mono ?_; rintro e w' ⟨rfl, rfl⟩)
                | (at_builtin; refine wpList_append_lies _ rfl (.tmp 52) (.tmp 54) 57 rfl w.heap.size 3 i0 (.int .i64 0) 1 8 Tryd.underlying57 hi hz0 hz1 hz2 rfl (by decide) _ m ((stk.take m).flatMap natF) rfl HOW.out ⟨wr.heap.size, 0, none⟩ 1 1 (natF s) rfl rfl (HNEWS.out _) HONE.out (by decide) hmx (by omega) (by simp; omega) _ rfl ?_; intro g1 c1 w1 h1 h2 h3 h4; obtain ⟨k1, G1, G2, D, hw1⟩ := HEND.out g1 c1 w1 h1 h2 h3)
                | (at_builtin; refine wpList_append_lies _ rfl (.tmp 56) (.tmp 58) 57 rfl w.heap.size 3 i0 (.int .i64 0) 1 8 Tryd.underlying57 hi hz0 hz1 hz2 rfl (by decide) _ sts.length (sts.flatMap natF) rfl G2 ⟨w1.heap.size, 0, none⟩ 1 1 (natF s) rfl rfl (HNEWS.out _) HONE.out (by decide) hsx hsx2 (by simp; omega) _ rfl ?_; intro g2 c2 w2 h5 h6 h7 h8; obtain ⟨k2, G3, G4, D2⟩ := HEND2.out g1 c1 g2 c2 w1 w2 k1 G1 D G2 h5 h6 h7))
              go_ret3
              rw [HR.out]
              exact ⟨_, rfl, Recs.nil _ _ _, k2⟩
            · have HN := Lib.hid (HNX.out hd)
              have hdi : ¬ ((12 : Int) < m + 1) := by omega
              go_wp2_with (first
                | (go_at_call 73; refine (HAR.out _).mono ?_; rintro e w' ⟨rfl, rfl⟩)
                | (at_builtin; refine wpList_append_lies _ rfl (.tmp 52) (.tmp 54) 57 rfl w.heap.size 3 i0 (.int .i64 0) 1 8 Tryd.underlying57 hi hz0 hz1 hz2 rfl (by decide) _ m ((stk.take m).flatMap natF) rfl HOW.out ⟨wr.heap.size, 0, none⟩ 1 1 (natF s) rfl rfl (HNEWS.out _) HONE.out (by decide) hmx (by omega) (by simp; omega) _ rfl ?_; intro g1 c1 w1 h1 h2 h3 h4; obtain ⟨k1, G1, G2, D, hw1⟩ := HEND.out g1 c1 w1 h1 h2 h3)
                | (at_builtin; refine wpList_append_lies _ rfl (.tmp 56) (.tmp 58) 57 rfl w.heap.size 3 i0 (.int .i64 0) 1 8 Tryd.underlying57 hi hz0 hz1 hz2 rfl (by decide) _ sts.length (sts.flatMap natF) rfl G2 ⟨w1.heap.size, 0, none⟩ 1 1 (natF s) rfl rfl (HNEWS.out _) HONE.out (by decide) hsx hsx2 (by simp; omega) _ rfl ?_; intro g2 c2 w2 h5 h6 h7 h8; obtain ⟨k2, G3, G4, D2⟩ := HEND2.out g1 c1 g2 c2 w1 w2 k1 G1 D G2 h5 h6 h7))
              go_roundw
              case rel =>
                exact ⟨s + 1, stk.take m ++ [s], sts ++ [s], rfl, hlt, by rw [List.length_append, HSL.out]; rfl, by rw [List.length_append, HLM.out]; simp; omega, k2, G3, G4, D2, HN.out⟩
              case measure => simp [intOf]; omega
          · have hpos : 0 < a := by omega
            have hpi : (0 : Int) < a := by omega
            obtain ⟨g, cap2, hv, hgB, hgl, hgc⟩ := hown.row (by omega)
            simp only [Value.slice.injEq] at hv
            obtain ⟨rfl, hml, rfl⟩ := hv
            clear hml
            have hgx : stk[m]? = some (stk[m]'(by omega)) := List.getElem?_eq_getElem _
            have hsx0 : s = stk[m]'(by omega) := hfr.trans (frmS_pos hpos hm hgx)
            rw [← hsx0] at hgx
            have e0 := hgc m s hgx
            have hma : (m : Int) < m + a := by omega
            clear hneg htr hrun hg ha hab hown hown2 hnx hdp HT hm hfr hsl hst hlm hK hdis hgx hsx0 hgc
            by_cases hd : 12 < m + 1
            · omega
            · have HN := Lib.hid (HNX.out hd)
              have hdi : ¬ ((12 : Int) < m + 1) := by omega
              go_wp2_with (first
                | (go_at_call 73; refine (HAR.out _).mono ?_; rintro e w' ⟨rfl, rfl⟩)
                | (at_builtin; refine wpList_append_lies _ rfl (.tmp 52) (.tmp 54) 57 rfl w.heap.size 3 i0 (.int .i64 0) 1 8 Tryd.underlying57 hi hz0 hz1 hz2 rfl (by decide) _ m ((stk.take m).flatMap natF) rfl HOW.out ⟨wr.heap.size, 0, none⟩ 1 1 (natF s) rfl rfl (HNEWS.out _) HONE.out (by decide) hmx (by omega) (by simp; omega) _ rfl ?_; intro g1 c1 w1 h1 h2 h3 h4; obtain ⟨k1, G1, G2, D, hw1⟩ := HEND.out g1 c1 w1 h1 h2 h3)
                | (at_builtin; refine wpList_append_lies _ rfl (.tmp 56) (.tmp 58) 57 rfl w.heap.size 3 i0 (.int .i64 0) 1 8 Tryd.underlying57 hi hz0 hz1 hz2 rfl (by decide) _ sts.length (sts.flatMap natF) rfl G2 ⟨w1.heap.size, 0, none⟩ 1 1 (natF s) rfl rfl (HNEWS.out _) HONE.out (by decide) hsx hsx2 (by simp; omega) _ rfl ?_; intro g2 c2 w2 h5 h6 h7 h8; obtain ⟨k2, G3, G4, D2⟩ := HEND2.out g1 c1 g2 c2 w1 w2 k1 G1 D G2 h5 h6 h7))
              go_roundw
              case rel =>
                exact ⟨i + 1, stk.take m ++ [s], sts ++ [s], rfl, hlt, by rw [List.length_append, HSL.out]; rfl, by rw [List.length_append, HLM.out]; simp; omega, k2, G3, G4, D2, HN.out⟩
              case measure => simp [intOf]; omega
    · obtain rfl : i = n := by omega
      have hlti : ¬ ((i : Int) < i) := by omega
      obtain ⟨A, scap, hv, hsc1, hsc2⟩ := hown.form
      subst hv
      have HK := Lib.hid hK
      by_cases hl : 1 < stk.length
      · have HR := Lib.hid (strF_long hrun hlt HX.out hl)
        have hli : (1 : Int) < stk.length := by omega
        clear hown hown2 hdis hrun hsl hst hK hsc1 hsc2
        go_wp2_with fail
        go_ret3
        rw [HR.out]
        exact ⟨_, rfl, Recs.nil _ _ _, HK.out⟩
      · have HR := Lib.hid (strF_nil hrun hlt HX.out (by omega))
        have hli : ¬ ((1 : Int) < stk.length) := by omega
        have HRC := Lib.hid (hown2.recs natF_len)
        clear hown hown2 hdis hrun hsl hst hK hsc1 hsc2
        go_wp2_with fail
        go_ret3
        rw [HR.out]
        exact ⟨_, rfl, HRC.out, HK.out⟩
end Go.Proofs.YtnoegcdogcbhbaaDoor
/- What the starts of a valid expression say of its nodes. -/
namespace Go.Proofs.YtnoegcdogcbhbaaDoor

/-- the height of the stack below the subexpression that ends at a node -/
inductive Ht (S : List Nat) : Nat → Nat → Prop
  | zero {i : Nat} (h : S[i]? = some 0) : Ht S i 0
  | succ {i s h : Nat} (hs : S[i]? = some (s + 1)) (hh : Ht S s h) : Ht S i (h + 1)
/-- what the starts S say of node q with a operands -/
def NodeOK (S : List Nat) (q : Nat) (a : Int) : Prop :=
  (∃ h, Ht S q h ∧ h ≤ 11) ∧
  ((a = 0 ∧ S[q]? = some q) ∨
   (a = 1 ∧ 1 ≤ q ∧ ∃ s, S[q - 1]? = some s ∧ S[q]? = some s) ∨
   (a = 2 ∧ 1 ≤ q ∧ ∃ s1 s, S[q - 1]? = some (s1 + 1) ∧ S[s1]? = some s ∧ S[q]? = some s) ∨
   (a = 3 ∧ 1 ≤ q ∧ ∃ s2 s1 s, S[q - 1]? = some (s2 + 1) ∧ S[s2]? = some (s1 + 1) ∧ S[s1]? = some s ∧ S[q]? = some s))
/-- where the j-th of the pending subexpressions ends -/
def endS (stk : List Nat) (i j : Nat) : Nat := (stk[j + 1]?.getD i) - 1
structure StkOK (i : Nat) (stk sts : List Nat) : Prop where
  len : sts.length = i
  pos : stk.length = 0 → i = 0
  head : ∀ s : Nat, stk[0]? = some s → s = 0
  inc : ∀ j s t : Nat, stk[j]? = some s → stk[j + 1]? = some t → s < t
  top : ∀ s : Nat, stk[stk.length - 1]? = some s → s < i
  low : ∀ j s : Nat, stk[j]? = some s → s < i
  ends : ∀ j s : Nat, stk[j]? = some s → sts[endS stk i j]? = some s
theorem stk_pos {i : Nat} {stk sts : List Nat} (h : StkOK i stk sts) {j s : Nat} (hs : stk[j + 1]? = some s) : 1 ≤ s := by
  have hj : j < stk.length := by have := (List.getElem?_eq_some_iff.1 hs).1; omega
  have := h.inc j _ s (List.getElem?_eq_getElem hj) hs
  omega
theorem stk_end_lt {i : Nat} {stk sts : List Nat} (h : StkOK i stk sts) {j s : Nat} (hs : stk[j]? = some s) : endS stk i j < i := by
  have := (List.getElem?_eq_some_iff.1 (h.ends j s hs)).1
  rw [h.len] at this
  exact this
/-- the heights of the pending subexpressions -/
theorem stk_ht {i : Nat} {stk sts S : List Nat} (h : StkOK i stk sts) (hS : ∀ q s : Nat, sts[q]? = some s → S[q]? = some s) : ∀ j s : Nat, stk[j]? = some s → Ht S (endS stk i j) j := by
  intro j
  induction j with
  | zero =>
    intro s hs
    have e := hS _ _ (h.ends 0 s hs)
    rw [h.head s hs] at e
    exact .zero e
  | succ j ih =>
    intro s hs
    have e := hS _ _ (h.ends (j + 1) s hs)
    have hp := stk_pos h hs
    have hj : j < stk.length := by have := (List.getElem?_eq_some_iff.1 hs).1; omega
    have hh := ih _ (List.getElem?_eq_getElem hj)
    have he : endS stk i j = s - 1 := by unfold endS; rw [hs]; rfl
    rw [he] at hh
    exact .succ (by rw [e]; congr 1; omega) hh
theorem take_snoc_get {l : List Nat} {m x : Nat} (hm : m ≤ l.length) : (l.take m ++ [x])[m]? = some x := by
  rw [List.getElem?_append_right (by rw [List.length_take]; omega), List.length_take, Nat.min_eq_left hm, Nat.sub_self]; rfl
theorem take_snoc_lt {l : List Nat} {m x j : Nat} (hm : m ≤ l.length) (hj : j < m) : (l.take m ++ [x])[j]? = l[j]? := by
  rw [List.getElem?_append_left (by rw [List.length_take]; omega), List.getElem?_take_of_lt hj]
theorem take_snoc_len {l : List Nat} {m x : Nat} (hm : m ≤ l.length) : (l.take m ++ [x]).length = m + 1 := by
  rw [List.length_append, List.length_take, Nat.min_eq_left hm]; rfl
/-- the state behind a node with a operands, of which m lie below -/
theorem stk_step {i a m : Nat} {stk sts : List Nat} (h : StkOK i stk sts) (hm : m + a = stk.length) : StkOK (i + 1) (stk.take m ++ [frmS i a stk]) (sts ++ [frmS i a stk]) := by
  have hml : m ≤ stk.length := by omega
  have hf : frmS i a stk = (stk[m]?.getD i) := by
    unfold frmS
    by_cases ha : a = 0
    · rw [if_pos ha, List.getElem?_eq_none (by omega)]; rfl
    · rw [if_neg ha, show stk.length - a = m by omega, List.getElem?_eq_getElem (by omega)]; rfl
  have hfl : frmS i a stk ≤ i := by
    rw [hf]
    by_cases hlt : m < stk.length
    · rw [List.getElem?_eq_getElem hlt, Option.getD_some]
      have := h.low m _ (List.getElem?_eq_getElem hlt)
      omega
    · rw [List.getElem?_eq_none (by omega)]; exact Nat.le_refl _
  have hget : ∀ j s, (stk.take m ++ [frmS i a stk])[j]? = some s → (j < m ∧ stk[j]? = some s) ∨ (j = m ∧ s = frmS i a stk) := by
    intro j s hs
    have hj := (List.getElem?_eq_some_iff.1 hs).1
    rw [take_snoc_len hml] at hj
    rcases Nat.lt_or_ge j m with hl | hl
    · rw [take_snoc_lt hml hl] at hs; exact .inl ⟨hl, hs⟩
    · obtain rfl : j = m := by omega
      rw [take_snoc_get hml] at hs
      exact .inr ⟨rfl, (Option.some.inj hs).symm⟩
  refine ⟨by rw [List.length_append, h.len]; rfl, fun h0 => by rw [take_snoc_len hml] at h0; omega, fun s hs => ?_, fun j s t hs ht => ?_, fun s hs => ?_, fun j s hs => ?_, fun j s hs => ?_⟩
  · rcases hget 0 s hs with ⟨_, hs⟩ | ⟨rfl, rfl⟩
    · exact h.head s hs
    · rw [hf]
      by_cases hlt : 0 < stk.length
      · rw [List.getElem?_eq_getElem hlt, Option.getD_some]
        exact h.head _ (List.getElem?_eq_getElem hlt)
      · have := h.pos (by omega)
        rw [List.getElem?_eq_none (by omega), this]; rfl
  · rcases hget (j + 1) t ht with ⟨hl, ht⟩ | ⟨he, rfl⟩
    · rcases hget j s hs with ⟨_, hs⟩ | ⟨he, _⟩
      · exact h.inc j s t hs ht
      · omega
    · rcases hget j s hs with ⟨_, hs⟩ | ⟨he2, _⟩
      · rw [hf, ← he]
        by_cases hlt : j + 1 < stk.length
        · rw [List.getElem?_eq_getElem hlt, Option.getD_some]
          exact h.inc j s _ hs (List.getElem?_eq_getElem hlt)
        · rw [List.getElem?_eq_none (by omega)]
          exact h.low j s hs
      · omega
  · rcases hget _ s hs with ⟨_, hs⟩ | ⟨_, rfl⟩
    · have := h.low _ s hs; omega
    · omega
  · rcases hget _ s hs with ⟨_, hs⟩ | ⟨_, rfl⟩
    · have := h.low _ s hs; omega
    · omega
  · rcases hget j s hs with ⟨hl, hs⟩ | ⟨rfl, rfl⟩
    · have he : endS (stk.take m ++ [frmS i a stk]) (i + 1) j = endS stk i j := by
        unfold endS
        by_cases hjm : j + 1 < m
        · rw [take_snoc_lt hml hjm, List.getElem?_eq_getElem (show j + 1 < stk.length by omega)]; rfl
        · have hj1 : j + 1 = m := by omega
          rw [hj1, take_snoc_get hml, Option.getD_some, hf]
      rw [he, List.getElem?_append_left (by rw [h.len]; exact stk_end_lt h hs)]
      exact h.ends j s hs
    · have he : endS (stk.take j ++ [frmS i a stk]) (i + 1) j = i := by
        unfold endS
        rw [List.getElem?_eq_none (by rw [take_snoc_len hml]; omega)]
        simp
      rw [he, List.getElem?_append_right (by rw [h.len]; exact Nat.le_refl _), h.len, Nat.sub_self]; rfl

/-- one node's facts, out of the state before it -/
theorem node_ok {i m : Nat} {a : Int} {stk sts S : List Nat} (h : StkOK i stk sts) (hm : m + a.toNat = stk.length) (h0 : 0 ≤ a) (h3 : a ≤ 3) (h12 : m + 1 ≤ 12)
    (hS : ∀ q s : Nat, (sts ++ [frmS i a.toNat stk])[q]? = some s → S[q]? = some s) : NodeOK S i a := by
  have hn := stk_step (a := a.toNat) h hm
  have hml : m ≤ stk.length := by omega
  have hht := stk_ht hn hS m _ (take_snoc_get hml)
  have he : endS (stk.take m ++ [frmS i a.toNat stk]) (i + 1) m = i := by
    unfold endS
    rw [List.getElem?_eq_none (by rw [take_snoc_len hml]; omega)]
    simp
  rw [he] at hht
  have hq : S[i]? = some (frmS i a.toNat stk) := hS i _ (by rw [List.getElem?_append_right (by rw [h.len]; exact Nat.le_refl _), h.len, Nat.sub_self]; rfl)
  have hS0 : ∀ q s : Nat, sts[q]? = some s → S[q]? = some s := fun q s hs => hS q s (by rw [List.getElem?_append_left (List.getElem?_eq_some_iff.1 hs).1]; exact hs)
  have hend : ∀ j (hj : j < stk.length), S[endS stk i j]? = some (stk[j]'hj) := fun j hj => hS0 _ _ (h.ends j _ (List.getElem?_eq_getElem hj))
  have hipos : 1 ≤ a → 1 ≤ i := fun ha => by
    have := h.low 0 _ (List.getElem?_eq_getElem (show 0 < stk.length by omega))
    omega
  have htop : ∀ (_ : 0 < stk.length), endS stk i (stk.length - 1) = i - 1 := fun hp => by
    unfold endS
    rw [List.getElem?_eq_none (by omega)]; rfl
  have hprev : ∀ j (hj : j + 1 < stk.length), endS stk i j = stk[j + 1]'hj - 1 := fun j hj => by
    unfold endS
    rw [List.getElem?_eq_getElem hj]; rfl
  have hfr : ∀ (ha : 1 ≤ a.toNat), frmS i a.toNat stk = stk[m]'(by omega) := fun ha => by
    unfold frmS
    rw [if_neg (by omega), show stk.length - a.toNat = m by omega, List.getElem?_eq_getElem (by omega)]; rfl
  refine ⟨⟨m, hht, by omega⟩, ?_⟩
  rcases (show a = 0 ∨ a = 1 ∨ a = 2 ∨ a = 3 by omega) with rfl | rfl | rfl | rfl
  · exact .inl ⟨rfl, hq⟩
  · refine .inr (.inl ⟨rfl, hipos (by omega), stk[m]'(by omega), ?_, ?_⟩)
    · have := hend m (by omega)
      rwa [show endS stk i m = i - 1 by rw [show m = stk.length - 1 by omega, htop (by omega)]] at this
    · rw [hq, hfr (by decide)]
  · refine .inr (.inr (.inl ⟨rfl, hipos (by omega), stk[m + 1]'(by omega) - 1, stk[m]'(by omega), ?_, ?_, ?_⟩))
    · have h1 := stk_pos h (List.getElem?_eq_getElem (show m + 1 < stk.length by omega))
      have := hend (m + 1) (by omega)
      rw [show endS stk i (m + 1) = i - 1 by rw [show m + 1 = stk.length - 1 by omega, htop (by omega)]] at this
      rw [this]; congr 1; omega
    · have := hend m (by omega)
      rwa [hprev m (by omega)] at this
    · rw [hq, hfr (by decide)]
  · refine .inr (.inr (.inr ⟨rfl, hipos (by omega), stk[m + 2]'(by omega) - 1, stk[m + 1]'(by omega) - 1, stk[m]'(by omega), ?_, ?_, ?_, ?_⟩))
    · have h1 := stk_pos h (List.getElem?_eq_getElem (show m + 1 + 1 < stk.length by omega))
      have := hend (m + 2) (by omega)
      rw [show endS stk i (m + 2) = i - 1 by rw [show m + 2 = stk.length - 1 by omega, htop (by omega)]] at this
      rw [this]; congr 1
      change 1 ≤ stk[m + 2] at h1
      omega
    · have h1 := stk_pos h (List.getElem?_eq_getElem (show m + 1 < stk.length by omega))
      have := hend (m + 1) (by omega)
      rw [hprev (m + 1) (by omega)] at this
      change S[stk[m + 2] - 1]? = _ at this
      rw [this]; congr 1; omega
    · have := hend m (by omega)
      rwa [hprev m (by omega)] at this
    · rw [hq, hfr (by decide)]
/-- the whole run -/
theorem strF_ok : ∀ (r : List Nd) (i : Nat) (stk sts S : List Nat), StkOK i stk sts → strF r i stk sts = (S, 0, 0) →
    (∃ t, S = sts ++ t ∧ t.length = r.length) ∧ (∀ j x, r[j]? = some x → 0 ≤ arS x.o ∧ NodeOK S (i + j) (arS x.o)) ∧ (0 < i + r.length → S[i + r.length - 1]? = some 0)
  | [], i, stk, sts, S, h, hr => by
    rw [strF] at hr
    split at hr
    · exact absurd (show (4 : Int) = 0 from congrArg (fun p : List Nat × Nat × Int => p.2.2) hr) (by decide)
    · rename_i hl
      obtain rfl : sts = S := congrArg Prod.fst hr
      refine ⟨⟨[], by simp, rfl⟩, fun j x hx => by simp at hx, fun hp => ?_⟩
      simp only [List.length_nil, Nat.add_zero] at hp ⊢
      have hs : stk.length = 1 := by
        rcases Nat.eq_zero_or_pos stk.length with h0 | h0
        · have := h.pos h0; omega
        · omega
      have he := h.ends 0 _ (List.getElem?_eq_getElem (show 0 < stk.length by omega))
      rw [h.head _ (List.getElem?_eq_getElem (show 0 < stk.length by omega))] at he
      have e2 : endS stk i 0 = i - 1 := by
        unfold endS
        rw [List.getElem?_eq_none (by omega)]; rfl
      rwa [e2] at he
  | x :: r, i, stk, sts, S, h, hr => by
    rw [strF] at hr
    split at hr
    · exact absurd (show (2 : Int) = 0 from congrArg (fun p : List Nat × Nat × Int => p.2.2) hr) (by decide)
    · rename_i h0
      split at hr
      · exact absurd (show (5 : Int) = 0 from congrArg (fun p : List Nat × Nat × Int => p.2.2) hr) (by decide)
      · rename_i h1
        split at hr
        · exact absurd (show (16 : Int) = 0 from congrArg (fun p : List Nat × Nat × Int => p.2.2) hr) (by decide)
        · rename_i h2
          have hb := arS_bd x.o
          have hm : (stk.length - (arS x.o).toNat) + (arS x.o).toNat = stk.length := by omega
          have hn := stk_step (a := (arS x.o).toNat) h hm
          obtain ⟨⟨t, ht, htl⟩, hall, hlast⟩ := strF_ok r (i + 1) _ _ S hn hr
          rw [take_snoc_len (by omega)] at h2
          have hpre : ∀ q s : Nat, (sts ++ [frmS i (arS x.o).toNat stk])[q]? = some s → S[q]? = some s := fun q s hs => by
            rw [ht, List.getElem?_append_left (List.getElem?_eq_some_iff.1 hs).1]; exact hs
          refine ⟨⟨frmS i (arS x.o).toNat stk :: t, by rw [ht]; simp, by simp [htl]⟩, fun j y hy => ?_, fun _ => ?_⟩
          · match j, hy with
            | 0, hy =>
              obtain rfl : x = y := Option.some.inj hy
              exact ⟨by omega, node_ok h hm (by omega) hb.2 (by omega) hpre⟩
            | j + 1, hy =>
              have := hall j y (by simpa using hy)
              rw [show i + 1 + j = i + (j + 1) by omega] at this
              exact this
          · have := hlast (by omega)
            rw [List.length_cons, show i + (r.length + 1) - 1 = i + 1 + r.length - 1 by omega]
            exact this
/-- **what a valid expression gives** -/
theorem str_ok {e : List Nd} (h : (strS e).2.2 = 0) : 0 < e.length ∧ e.length ≤ 48 ∧ (strS e).1.length = e.length ∧ (∀ j x, e[j]? = some x → 0 ≤ arS x.o ∧ NodeOK (strS e).1 j (arS x.o)) ∧ (strS e).1[e.length - 1]? = some 0 := by
  unfold strS at h ⊢
  split at h
  · exact absurd h (by decide)
  · rename_i h48
    split at h
    · exact absurd h (by decide)
    · rename_i h0
      rw [if_neg h48, if_neg h0]
      have h1 : (strF e 0 [] []).2.1 = 0 := by
        have key : ∀ (r : List Nd) (i : Nat) (stk sts : List Nat), (strF r i stk sts).2.2 = 0 → (strF r i stk sts).2.1 = 0 := by
          intro r
          induction r with
          | nil =>
            intro i stk sts hh
            rw [strF] at hh ⊢
            split at hh
            · exact absurd (show (4 : Int) = 0 from hh) (by decide)
            · rename_i hc; rw [if_neg hc]
          | cons x r ih =>
            intro i stk sts hh
            rw [strF] at hh ⊢
            split at hh
            · exact absurd (show (2 : Int) = 0 from hh) (by decide)
            · rename_i c1
              split at hh
              · exact absurd (show (5 : Int) = 0 from hh) (by decide)
              · rename_i c2
                split at hh
                · exact absurd (show (16 : Int) = 0 from hh) (by decide)
                · rename_i c3
                  rw [if_neg c1, if_neg c2, if_neg c3]
                  exact ih _ _ _ hh
        exact key _ _ _ _ h
      have hst : StkOK 0 [] [] := ⟨rfl, fun _ => rfl, fun s hs => by simp at hs, fun j s t hs => by simp at hs, fun s hs => by simp at hs, fun j s hs => by simp at hs, fun j s hs => by simp at hs⟩
      obtain ⟨⟨t, ht, htl⟩, hall, hlast⟩ := strF_ok e 0 [] [] (strF e 0 [] []).1 hst (Prod.ext rfl (Prod.ext h1 h))
      rw [List.nil_append] at ht
      refine ⟨by omega, by omega, by rw [ht, htl], fun j x hx => ?_, ?_⟩
      · have := hall j x hx
        rwa [Nat.zero_add] at this
      · have := hlast (by omega)
        rwa [Nat.zero_add] at this
end Go.Proofs.YtnoegcdogcbhbaaDoor
/- Compiled code is accepted: the code of every subexpression leaves one value more, and has one instruction for each node and one more for each condition. -/
namespace Go.Proofs.YtnoegcdogcbhbaaDoor

theorem Ht.det {S : List Nat} {i h k : Nat} (a : Ht S i h) : Ht S i k → h = k := by
  induction a generalizing k with
  | zero hs =>
    intro b
    cases b with
    | zero _ => rfl
    | succ hs2 _ => rw [hs] at hs2; cases hs2
  | succ hs _ ih =>
    intro b
    cases b with
    | zero hs2 => rw [hs] at hs2; cases hs2
    | succ hs2 hh2 =>
      rw [hs] at hs2
      obtain rfl := Nat.succ.inj (Option.some.inj hs2)
      rw [ih hh2]
theorem Ht.same {S : List Nat} {i j h : Nat} (e : S[i]? = S[j]?) (a : Ht S i h) : Ht S j h := by
  cases a with
  | zero hs => exact .zero (e ▸ hs)
  | succ hs hh => exact .succ (e ▸ hs) hh

theorem verF_append {len : Nat} : ∀ (l1 l2 : List Nd) (i : Nat) (ds ds1 : List Int), verF len l1 i ds = (ds1, 0) → verF len (l1 ++ l2) i ds = verF len l2 (i + l1.length) ds1
  | [], l2, i, ds, ds1, h => by
    rw [verF] at h
    obtain rfl : ds = ds1 := congrArg Prod.fst h
    rfl
  | x :: r, l2, i, ds, ds1, h => by
    rw [verF] at h
    rw [List.cons_append, verF]
    split at h
    · rename_i c
      rw [if_pos c, verF_append r l2 (i + 1) ds ds1 h, List.length_cons, show i + 1 + r.length = i + (r.length + 1) by omega]
    · rename_i c
      split at h
      · rename_i c2
        rw [if_neg c, if_pos c2, verF_append r l2 (i + 1) _ ds1 h, List.length_cons, show i + 1 + r.length = i + (r.length + 1) by omega]
      · rename_i c2
        exact absurd (show (stepC len x i ds).2 = 0 from congrArg Prod.snd h) c2
/-- a piece of code at p takes depth d to depth d' -/
def Seg (len p : Nat) (d : Int) (seg : List Nd) (d' : Int) : Prop :=
  ∀ ds : List Int, ds.length = len + 1 → p + seg.length ≤ len → ds[p]? = some d → (∀ j, p < j → j < p + seg.length → ds[j]? = some (-1)) → (seg ≠ [] → ds[p + seg.length]? = some (-1) ∨ ds[p + seg.length]? = some d') →
    ∃ ds' : List Int, verF len seg p ds = (ds', 0) ∧ ds'.length = len + 1 ∧ ds'[p + seg.length]? = some d' ∧ ∀ j, (j ≤ p ∨ p + seg.length < j) → ds'[j]? = ds[j]?
theorem Seg.nil (len p : Nat) (d : Int) : Seg len p d [] d := fun ds h1 _ h3 _ _ => ⟨ds, rfl, h1, h3, fun _ _ => rfl⟩
theorem Seg.append {len p : Nat} {d d1 d2 : Int} {s1 s2 : List Nd} (a : Seg len p d s1 d1) (b : Seg len (p + s1.length) d1 s2 d2) (hn : s2 ≠ []) : Seg len p d (s1 ++ s2) d2 := by
  intro ds h1 h2 h3 h4 h5
  have hp : 0 < s2.length := List.length_pos_iff.2 hn
  rw [List.length_append] at h2 h4 h5
  obtain ⟨e1, v1, l1, q1, o1⟩ := a ds h1 (by omega) h3 (fun j hj hj2 => h4 j hj (by omega)) (fun h => .inl (h4 _ (by have := List.length_pos_iff.2 h; omega) (by omega)))
  obtain ⟨e2, v2, l2, q2, o2⟩ := b e1 l1 (by omega) q1 (fun j hj hj2 => by rw [o1 j (.inr (by omega))]; exact h4 j (by omega) (by omega)) (fun _ => by
    rw [o1 _ (.inr (by omega)), Nat.add_assoc]
    exact h5 (by simp [hn]))
  refine ⟨e2, by rw [verF_append _ _ _ _ _ v1]; exact v2, l2, by rw [List.length_append, ← Nat.add_assoc]; exact q2, fun j hj => ?_⟩
  rw [List.length_append] at hj
  rw [o2 j (by omega), o1 j (by omega)]
theorem reach_ok {ds : List Int} {a : Nat} {d : Int} (h : ds[a]? = some (-1) ∨ ds[a]? = some d) : reachS ds a d = (ds.set a d, 0) := by
  unfold reachS
  rw [if_neg]
  rcases h with h | h
  · rw [h, Option.getD_some]; omega
  · rw [h, Option.getD_some]; exact fun c => c.2 rfl
theorem set_get {ds : List Int} {a : Nat} {d v : Int} (h : ds[a]? = some v) : (ds.set a d)[a]? = some d := by
  rw [List.getElem?_set_self (List.getElem?_eq_some_iff.1 h).1]
theorem set_far {ds : List Int} {a j : Nat} {d : Int} (h : a ≠ j) : (ds.set a d)[j]? = ds[j]? := List.getElem?_set_ne h
theorem or_some {ds : List Int} {a : Nat} {d : Int} (h : ds[a]? = some (-1) ∨ ds[a]? = some d) : ∃ v, ds[a]? = some v := by
  rcases h with h | h <;> exact ⟨_, h⟩
/-- one operation that is no jump -/
theorem Seg.op {len p : Nat} {d : Int} {x : Nd} (ha : 0 ≤ arC x.o) (hj : jmpB x.o = false) (h1 : arC x.o ≤ d) (h2 : d - arC x.o + 1 ≤ 12) (h0 : 0 ≤ d) : Seg len p d [x] (d - arC x.o + 1) := by
  intro ds hl _ hp _ he
  have he := he (by simp)
  have hne : x.o ≠ 51 := by intro e; rw [e] at hj; exact absurd hj (by decide)
  have hst : stepC len x p ds = (ds.set (p + 1) (d - arC x.o + 1), 0) := by
    unfold stepC
    rw [hp, Option.getD_some, hj]
    dsimp only
    rw [if_neg (by simp; omega), if_neg (by omega), if_neg hne, if_neg (by decide), if_neg (by omega)]
    exact reach_ok he
  obtain ⟨v, hv⟩ := or_some he
  refine ⟨ds.set (p + 1) (d - arC x.o + 1), ?_, by simp [hl], set_get hv, fun j hj => set_far (by rw [List.length_singleton] at hj; omega)⟩
  rw [verF, hp, Option.getD_some, if_neg (by omega), hst, if_pos rfl]
  rfl

/-- a jump that is taken or not: what it notes -/
theorem step_jump {len p0 : Nat} {d : Int} {o : Int} {N : Nat} {ds : List Int} (ho : o = 50 ∨ o = 52 ∨ o = 53) (hp : ds[p0]? = some (d + 1)) (h0 : 0 ≤ d) (hN : p0 + 1 < N) (hl : N ≤ len)
    (h1 : ds[p0 + 1]? = some (-1)) (h2 : ds[N]? = some (-1) ∨ ds[N]? = some (if o = 50 then d else d + 1)) :
    stepC len ⟨o, N⟩ p0 ds = ((ds.set (p0 + 1) d).set N (if o = 50 then d else d + 1), 0) := by
  have hj : jmpB o = true := by rcases ho with rfl | rfl | rfl <;> rfl
  have hne : o ≠ 51 := by rcases ho with rfl | rfl | rfl <;> decide
  have ha : arC o = 1 := by rcases ho with rfl | rfl | rfl <;> rfl
  unfold stepC
  rw [hp, Option.getD_some, hj, ha]
  dsimp only
  rw [if_neg (by omega), if_neg (by omega), if_neg hne, if_pos rfl, show d + 1 - 1 = d by omega, reach_ok (.inl h1), if_pos rfl, Int.toNat_natCast]
  dsimp only
  have h3 : (ds.set (p0 + 1) d)[N]? = some (-1) ∨ (ds.set (p0 + 1) d)[N]? = some (if o = 50 then d else d + 1) := by rw [set_far (by omega)]; exact h2
  exact reach_ok h3
theorem Seg.and {len p : Nat} {d : Int} {s0 s1 : List Nd} {o : Int} (ho : o = 52 ∨ o = 53) (h0 : 0 ≤ d) (a : Seg len p d s0 (d + 1)) (b : Seg len (p + s0.length + 1) d s1 (d + 1)) (n1 : s1 ≠ []) :
    Seg len p d (s0 ++ ⟨o, ((p + s0.length + 1 + s1.length : Nat) : Int)⟩ :: s1) (d + 1) := by
  intro ds h1 h2 h3 h4 h5
  have hp1 : 0 < s1.length := List.length_pos_iff.2 n1
  have hne : o ≠ 50 := by rcases ho with rfl | rfl <;> decide
  rw [List.length_append, List.length_cons] at h2 h4 h5
  have h5 := h5 (by simp)
  obtain ⟨e1, v1, l1, q1, o1⟩ := a ds h1 (by omega) h3 (fun j hj hj2 => h4 j hj (by omega)) (fun h => .inl (h4 _ (by have := List.length_pos_iff.2 h; omega) (by omega)))
  have f1 : e1[p + s0.length + 1]? = some (-1) := by rw [o1 _ (.inr (by omega))]; exact h4 _ (by omega) (by omega)
  have fe : e1[p + s0.length + 1 + s1.length]? = some (-1) ∨ e1[p + s0.length + 1 + s1.length]? = some (d + 1) := by
    rw [o1 _ (.inr (by omega)), show p + s0.length + 1 + s1.length = p + (s0.length + (s1.length + 1)) by omega]; exact h5
  have hst := step_jump (len := len) (N := p + s0.length + 1 + s1.length) (.inr ho) q1 h0 (by omega) (by omega) f1 (by rw [if_neg hne]; exact fe)
  rw [if_neg hne] at hst
  obtain ⟨v, hv⟩ := or_some fe
  obtain ⟨e2, v2, l2, q2, o2⟩ := b ((e1.set (p + s0.length + 1) d).set (p + s0.length + 1 + s1.length) (d + 1)) (by simp [l1]) (by omega)
    (by rw [set_far (by omega)]; exact set_get f1)
    (fun j hj hj2 => by rw [set_far (by omega), set_far (by omega), o1 j (.inr (by omega))]; exact h4 j (by omega) (by omega))
    (fun _ => .inr (set_get (by rw [set_far (by omega)]; exact hv)))
  refine ⟨e2, ?_, l2, by rw [List.length_append, List.length_cons, show p + (s0.length + (s1.length + 1)) = p + s0.length + 1 + s1.length by omega]; exact q2, fun j hj => ?_⟩
  · rw [verF_append _ _ _ _ _ v1, verF, q1, Option.getD_some, if_neg (by omega), hst, if_pos rfl]
    exact v2
  · rw [List.length_append, List.length_cons] at hj
    rw [o2 j (by omega), set_far (by omega), set_far (by omega), o1 j (by omega)]
theorem Seg.cond {len p : Nat} {d : Int} {s0 s1 s2 : List Nd} (h0 : 0 ≤ d) (a : Seg len p d s0 (d + 1)) (b : Seg len (p + s0.length + 1) d s1 (d + 1)) (n1 : s1 ≠ [])
    (c : Seg len (p + s0.length + 1 + s1.length + 1) d s2 (d + 1)) (n2 : s2 ≠ []) :
    Seg len p d (s0 ++ ⟨50, ((p + s0.length + 1 + s1.length + 1 : Nat) : Int)⟩ :: (s1 ++ ⟨51, ((p + s0.length + 1 + s1.length + 1 + s2.length : Nat) : Int)⟩ :: s2)) (d + 1) := by
  intro ds h1 h2 h3 h4 h5
  have hp1 : 0 < s1.length := List.length_pos_iff.2 n1
  have hp2 : 0 < s2.length := List.length_pos_iff.2 n2
  simp only [List.length_append, List.length_cons] at h2 h4 h5
  have h5 := h5 (by simp)
  obtain ⟨e1, v1, l1, q1, o1⟩ := a ds h1 (by omega) h3 (fun j hj hj2 => h4 j hj (by omega)) (fun h => .inl (h4 _ (by have := List.length_pos_iff.2 h; omega) (by omega)))
  have f1 : e1[p + s0.length + 1]? = some (-1) := by rw [o1 _ (.inr (by omega))]; exact h4 _ (by omega) (by omega)
  have fE : e1[p + s0.length + 1 + s1.length + 1]? = some (-1) := by rw [o1 _ (.inr (by omega))]; exact h4 _ (by omega) (by omega)
  have hst := step_jump (o := 50) (len := len) (N := p + s0.length + 1 + s1.length + 1) (.inl rfl) q1 h0 (by omega) (by omega) f1 (.inl fE)
  rw [if_pos rfl] at hst
  obtain ⟨e2, v2, l2, q2, o2⟩ := b ((e1.set (p + s0.length + 1) d).set (p + s0.length + 1 + s1.length + 1) d) (by simp [l1]) (by omega)
    (by rw [set_far (by omega)]; exact set_get f1)
    (fun j hj hj2 => by rw [set_far (by omega), set_far (by omega), o1 j (.inr (by omega))]; exact h4 j (by omega) (by omega))
    (fun _ => .inl (by rw [set_far (by omega), set_far (by omega), o1 _ (.inr (by omega))]; exact h4 _ (by omega) (by omega)))
  have gE : e2[p + s0.length + 1 + s1.length + 1]? = some d := by
    rw [o2 _ (.inr (by omega))]; exact set_get (by rw [set_far (by omega)]; exact fE)
  have ge : e2[p + s0.length + 1 + s1.length + 1 + s2.length]? = some (-1) ∨ e2[p + s0.length + 1 + s1.length + 1 + s2.length]? = some (d + 1) := by
    rw [o2 _ (.inr (by omega)), set_far (by omega), set_far (by omega), o1 _ (.inr (by omega)), show p + s0.length + 1 + s1.length + 1 + s2.length = p + (s0.length + (s1.length + (s2.length + 1) + 1)) by omega]
    exact h5
  have hst2 : stepC len ⟨51, ((p + s0.length + 1 + s1.length + 1 + s2.length : Nat) : Int)⟩ (p + s0.length + 1 + s1.length) e2 = (e2.set (p + s0.length + 1 + s1.length + 1 + s2.length) (d + 1), 0) := by
    unfold stepC
    rw [q2, Option.getD_some]
    dsimp only
    rw [show arC 51 = 0 from rfl, show jmpB 51 = true from rfl, if_neg (by omega), if_neg (by omega), if_pos rfl, Int.toNat_natCast]
    exact reach_ok ge
  obtain ⟨v, hv⟩ := or_some ge
  obtain ⟨e3, v3, l3, q3, o3⟩ := c (e2.set (p + s0.length + 1 + s1.length + 1 + s2.length) (d + 1)) (by simp [l2]) (by omega)
    (by rw [set_far (by omega)]; exact gE)
    (fun j hj hj2 => by rw [set_far (by omega), o2 j (.inr (by omega)), set_far (by omega), set_far (by omega), o1 j (.inr (by omega))]; exact h4 j (by omega) (by omega))
    (fun _ => .inr (set_get hv))
  refine ⟨e3, ?_, l3, ?_, fun j hj => ?_⟩
  · rw [verF_append _ _ _ _ _ v1, verF, q1, Option.getD_some, if_neg (by omega), hst, if_pos rfl, verF_append _ _ _ _ _ v2, verF, q2, Option.getD_some, if_neg (by omega), hst2, if_pos rfl]
    exact v3
  · simp only [List.length_append, List.length_cons]
    rw [show p + (s0.length + (s1.length + (s2.length + 1) + 1)) = p + s0.length + 1 + s1.length + 1 + s2.length by omega]
    exact q3
  · simp only [List.length_append, List.length_cons] at hj
    rw [o3 j (by omega), set_far (by omega), o2 j (by omega), set_far (by omega), set_far (by omega), o1 j (by omega)]
end Go.Proofs.YtnoegcdogcbhbaaDoor
/- The code that is emitted for a valid expression. -/
namespace Go.Proofs.YtnoegcdogcbhbaaDoor

/-- how many conditions stand among the first i nodes -/
def nIf (e : List Nd) (i : Nat) : Nat := ((e.take i).filter fun x => x.o == 26).length
theorem nIf_succ {e : List Nd} {i : Nat} {x : Nd} (h : e[i]? = some x) : nIf e (i + 1) = nIf e i + (if x.o == 26 then 1 else 0) := by
  unfold nIf
  rw [List.take_add_one, h, List.filter_append, List.length_append]
  congr 1
  by_cases hx : (x.o == 26) = true
  · simp [hx]
  · simp [hx]
theorem nIf_le (e : List Nd) (i : Nat) : nIf e i ≤ i := Nat.le_trans (List.length_filter_le _ _) (List.length_take_le _ _)
theorem setN_mid (a b : List Nd) (x : Nd) (v : Nat) : setN (a ++ x :: b) a.length v = a ++ { x with n := v } :: b := by
  unfold setN
  induction a with
  | nil => rfl
  | cons y a ih => rw [List.cons_append, List.length_cons, List.modify_succ_cons, ih]; rfl
theorem setN_at {a b : List Nd} {x : Nd} {j v : Nat} (hj : j = a.length) : setN (a ++ x :: b) j v = a ++ { x with n := v } :: b := by subst hj; exact setN_mid a b x v
theorem arC_val {x : Int} (h0 : 0 ≤ arS x) (h1 : x ≠ 23) (h2 : x ≠ 24) (h3 : x ≠ 26) : arC x = arS x ∧ jmpB x = false := by
  have hb : 1 ≤ x ∧ x ≤ 39 := by
    unfold arS at h0
    split at h0
    · omega
    · split at h0
      · omega
      · split at h0
        · omega
        · exact absurd h0 (by decide)
  have hj : jmpB x = false := by
    unfold jmpB
    rw [decide_eq_false (by omega)]; rfl
  refine ⟨?_, hj⟩
  unfold arC
  rw [if_neg (by omega), hj, if_neg (by decide), if_neg (by omega)]
/-- the operands of a node -/
theorem ops_of {e : List Nd} {q : Nat} {x : Nd} (hv : (strS e).2.2 = 0) (hx : e[q]? = some x) : opsS e q = opsF (strS e).1 (arS x.o).toNat ((q : Int) - 1) [] := by
  have hq := (List.getElem?_eq_some_iff.1 hx).1
  unfold opsS
  rw [if_pos ⟨hv, by omega, by omega⟩, Int.toNat_natCast, hx]; rfl
theorem getS {S : List Nat} {k s : Nat} (h : S[k]? = some s) : ((S[((k : Nat) : Int).toNat]?.getD 0 : Nat) : Int) = s := by rw [Int.toNat_natCast, h]; rfl

theorem start_le {e : List Nd} (hv : (strS e).2.2 = 0) : ∀ n k s : Nat, k ≤ n → (strS e).1[k]? = some s → s ≤ k := by
  obtain ⟨_, _, hlen, hall, _⟩ := str_ok hv
  intro n
  induction n with
  | zero =>
    intro k s hk hs
    have hk2 := (List.getElem?_eq_some_iff.1 hs).1
    obtain ⟨_, _, hno⟩ := hall k _ (List.getElem?_eq_getElem (by omega))
    rcases hno with ⟨_, h⟩ | ⟨_, h, _⟩ | ⟨_, h, _⟩ | ⟨_, h, _⟩
    · rw [hs] at h; have := Option.some.inj h; omega
    · omega
    · omega
    · omega
  | succ n ih =>
    intro k s hk hs
    have hk2 := (List.getElem?_eq_some_iff.1 hs).1
    obtain ⟨_, _, hno⟩ := hall k _ (List.getElem?_eq_getElem (by omega))
    rcases hno with ⟨_, h⟩ | ⟨_, h1, s', h2, h3⟩ | ⟨_, h1, s1, s', h2, h3, h4⟩ | ⟨_, h1, s2, s1, s', h2, h3, h4, h5⟩
    · rw [hs] at h; have := Option.some.inj h; omega
    · rw [hs] at h3; have := Option.some.inj h3; have := ih _ _ (by omega) h2; omega
    · rw [hs] at h4; have := Option.some.inj h4; have := ih _ _ (by omega) h2; have := ih _ _ (by omega) h3; omega
    · rw [hs] at h5; have := Option.some.inj h5; have := ih _ _ (by omega) h2; have := ih _ _ (by omega) h3; have := ih _ _ (by omega) h4; omega
theorem toNat_pred (q : Nat) : ((q : Int) - 1).toNat = q - 1 := by omega
theorem opsF_step {S : List Nat} {n k s : Nat} {z : Int} {acc : List Int} (hz : z = k) (h : S[k]? = some (s + 1)) : opsF S (n + 1) z acc = opsF S n s (z :: acc) := by
  subst hz
  rw [opsF, Int.toNat_natCast, h, Option.getD_some]
  congr 1
  omega
theorem opsF_last {S : List Nat} {z : Int} {acc : List Int} : opsF S 1 z acc = z :: acc := rfl

/-- what is said of the code of the subexpression that ends at q -/
def EmOK (e : List Nd) (f q : Nat) : Prop :=
  ∀ s h, (strS e).1[q]? = some s → Ht (strS e).1 q h → ∀ out : List Nd, ∃ seg, emitF e f out q = out ++ seg ∧ seg ≠ [] ∧ seg.length + s + nIf e s = q + 1 + nIf e (q + 1) ∧ ∀ (len : Nat) (d : Int), 0 ≤ d → d ≤ h → Seg len out.length d seg (d + 1)
theorem emit_ok {e : List Nd} (hv : (strS e).2.2 = 0) : ∀ f q, q < f → q < e.length → EmOK e f q := by
  obtain ⟨_, _, hlen, hall, _⟩ := str_ok hv
  intro f
  induction f with
  | zero => intro q h; omega
  | succ f ih =>
    intro q hqf hqe s h hs hh out
    have hx : e[q]? = some e[q] := List.getElem?_eq_getElem hqe
    obtain ⟨ha, hno⟩ := hall q _ hx
    have hops := ops_of hv hx
    have hni := nIf_succ hx
    generalize e[q] = x at *
    obtain ⟨⟨h', hh', h11⟩, hk⟩ := hno
    obtain rfl := hh'.det hh
    have hbd := arS_bd x.o
    have hem : emitF e (f + 1) out q = (
      if x.o = 23 ∨ x.o = 24 then
        setN (emitF e f (emitF e f out ((opsS e q)[0]?.getD 0).toNat ++ [⟨if x.o = 24 then 53 else 52, 0⟩]) ((opsS e q)[1]?.getD 0).toNat) (emitF e f out ((opsS e q)[0]?.getD 0).toNat).length (emitF e f (emitF e f out ((opsS e q)[0]?.getD 0).toNat ++ [⟨if x.o = 24 then 53 else 52, 0⟩]) ((opsS e q)[1]?.getD 0).toNat).length
      else if x.o = 26 then
        let o1 := emitF e f out ((opsS e q)[0]?.getD 0).toNat
        let o2 := emitF e f (o1 ++ [⟨50, 0⟩]) ((opsS e q)[1]?.getD 0).toNat
        let o3 := setN (o2 ++ [⟨51, 0⟩]) o1.length (o2.length + 1)
        let o4 := emitF e f o3 ((opsS e q)[2]?.getD 0).toNat
        setN o4 o2.length o4.length
      else (opsS e q).foldl (fun o k => emitF e f o k.toNat) out ++ [x]) := by
      rw [emitF, hx, Option.getD_some]
    rw [hem]
    clear hem
    have hstart := start_le hv q
    have hpred := toNat_pred q
    by_cases c1 : x.o = 23 ∨ x.o = 24
    · have h2 : arS x.o = 2 := by rcases c1 with c | c <;> rw [c] <;> rfl
      have hx26 : (x.o == 26) = false := by rcases c1 with c | c <;> rw [c] <;> rfl
      rw [hx26] at hni
      rw [if_pos c1]
      rw [h2] at hk hops
      obtain ⟨_, hq1, s1, s', k1, k0, ks⟩ : (2 : Int) = 2 ∧ 1 ≤ q ∧ ∃ s1 s', (strS e).1[q - 1]? = some (s1 + 1) ∧ (strS e).1[s1]? = some s' ∧ (strS e).1[q]? = some s' := by
        rcases hk with ⟨c, _⟩ | ⟨c, _⟩ | hk | ⟨c, _⟩
        · omega
        · omega
        · exact hk
        · omega
      rw [hs] at ks
      obtain rfl := Option.some.inj ks
      have hl1 := hstart _ _ (by omega) k1
      rw [show (2 : Int).toNat = 1 + 1 from rfl, opsF_step (k := q - 1) (by omega) k1, opsF_last] at hops
      rw [hops]
      have e0 : ((([(s1 : Int), (q : Int) - 1] : List Int)[0]?.getD 0).toNat) = s1 := Int.toNat_natCast s1
      have e1 : ((([(s1 : Int), (q : Int) - 1] : List Int)[1]?.getD 0).toNat) = q - 1 := hpred
      rw [e0, e1]
      have hh0 : Ht (strS e).1 s1 h' := Ht.same (by rw [hs, k0]) hh
      obtain ⟨seg0, g0, n0, t0, b0⟩ := ih s1 (by omega) (by omega) s h' k0 hh0 out
      rw [g0]
      obtain ⟨seg1, g1, n1, t1, b1⟩ := ih (q - 1) (by omega) (by omega) (s1 + 1) (h' + 1) k1 (.succ k1 hh0) (out ++ seg0 ++ [⟨if x.o = 24 then 53 else 52, 0⟩])
      rw [g1, show out ++ seg0 ++ [⟨if x.o = 24 then 53 else 52, 0⟩] ++ seg1 = (out ++ seg0) ++ ⟨if x.o = 24 then 53 else 52, 0⟩ :: seg1 by simp, setN_mid]
      rw [show q - 1 + 1 = q by omega] at t1
      refine ⟨seg0 ++ ⟨if x.o = 24 then 53 else 52, ((out ++ seg0 ++ ⟨if x.o = 24 then 53 else 52, 0⟩ :: seg1).length : Nat)⟩ :: seg1, by simp, by simp, ?_, fun len d hd0 hdh => ?_⟩
      · rw [List.length_append, List.length_cons, hni]
        simp only [Bool.false_eq_true, if_false]
        omega
      · have hlen2 : (out ++ seg0 ++ (⟨if x.o = 24 then 53 else 52, 0⟩ : Nd) :: seg1).length = out.length + seg0.length + 1 + seg1.length := by
          simp only [List.length_append, List.length_cons]; omega
        rw [hlen2]
        refine Seg.and (by split <;> simp) hd0 (b0 len d hd0 hdh) ?_ n1
        have := b1 len d hd0 (by omega)
        rwa [show (out ++ seg0 ++ [(⟨if x.o = 24 then 53 else 52, 0⟩ : Nd)]).length = out.length + seg0.length + 1 by simp only [List.length_append, List.length_singleton]] at this
    · rw [if_neg c1]
      by_cases c2 : x.o = 26
      · have h2 : arS x.o = 3 := by rw [c2]; rfl
        have hx26 : (x.o == 26) = true := by rw [c2]; rfl
        rw [hx26] at hni
        rw [if_pos c2]
        rw [h2] at hk hops
        obtain ⟨_, hq1, s2, s1, s', k2, k1, k0, ks⟩ : (3 : Int) = 3 ∧ 1 ≤ q ∧ ∃ s2 s1 s', (strS e).1[q - 1]? = some (s2 + 1) ∧ (strS e).1[s2]? = some (s1 + 1) ∧ (strS e).1[s1]? = some s' ∧ (strS e).1[q]? = some s' := by
          rcases hk with ⟨c, _⟩ | ⟨c, _⟩ | ⟨c, _⟩ | hk
          · omega
          · omega
          · omega
          · exact hk
        rw [hs] at ks
        obtain rfl := Option.some.inj ks
        have hl2 := hstart _ _ (by omega) k2
        have hl1 := hstart _ _ (by omega) k1
        rw [show (3 : Int).toNat = 1 + 1 + 1 from rfl, opsF_step (k := q - 1) (by omega) k2, opsF_step (k := s2) rfl k1, opsF_last] at hops
        rw [hops]
        have e0 : ((([(s1 : Int), (s2 : Int), (q : Int) - 1] : List Int)[0]?.getD 0).toNat) = s1 := Int.toNat_natCast s1
        have e1 : ((([(s1 : Int), (s2 : Int), (q : Int) - 1] : List Int)[1]?.getD 0).toNat) = s2 := Int.toNat_natCast s2
        have e2 : ((([(s1 : Int), (s2 : Int), (q : Int) - 1] : List Int)[2]?.getD 0).toNat) = q - 1 := hpred
        rw [e0, e1, e2]
        dsimp only
        have hh0 : Ht (strS e).1 s1 h' := Ht.same (by rw [hs, k0]) hh
        obtain ⟨seg0, g0, n0, t0, b0⟩ := ih s1 (by omega) (by omega) s h' k0 hh0 out
        rw [g0]
        obtain ⟨seg1, g1, n1, t1, b1⟩ := ih s2 (by omega) (by omega) (s1 + 1) (h' + 1) k1 (.succ k1 hh0) (out ++ seg0 ++ [⟨50, 0⟩])
        rw [g1, show out ++ seg0 ++ [(⟨50, 0⟩ : Nd)] ++ seg1 ++ [⟨51, 0⟩] = (out ++ seg0) ++ ⟨50, 0⟩ :: (seg1 ++ [⟨51, 0⟩]) by simp]
        have hA : (out ++ seg0 ++ [(⟨50, 0⟩ : Nd)] ++ seg1).length = out.length + seg0.length + 1 + seg1.length := by
          simp only [List.length_append, List.length_singleton]
        rw [hA, setN_at rfl]
        generalize hB : out.length + seg0.length + 1 + seg1.length = B at *
        obtain ⟨seg2, g2, n2, t2, b2⟩ := ih (q - 1) (by omega) (by omega) (s2 + 1) (h' + 1 + 1) k2 (.succ k2 (.succ k1 hh0)) (out ++ seg0 ++ ⟨50, ((B + 1 : Nat) : Int)⟩ :: (seg1 ++ [⟨51, 0⟩]))
        rw [g2]
        have hC : (out ++ seg0 ++ (⟨50, ((B + 1 : Nat) : Int)⟩ : Nd) :: (seg1 ++ [⟨51, 0⟩]) ++ seg2).length = B + 1 + seg2.length := by
          simp only [List.length_append, List.length_cons, List.length_nil]; omega
        rw [hC, show out ++ seg0 ++ (⟨50, ((B + 1 : Nat) : Int)⟩ : Nd) :: (seg1 ++ [⟨51, 0⟩]) ++ seg2 = (out ++ seg0 ++ ⟨50, ((B + 1 : Nat) : Int)⟩ :: seg1) ++ ⟨51, 0⟩ :: seg2 by simp,
          setN_at (j := B) (by simp only [List.length_append, List.length_cons]; omega)]
        rw [show q - 1 + 1 = q by omega] at t2
        refine ⟨seg0 ++ ⟨50, ((B + 1 : Nat) : Int)⟩ :: (seg1 ++ ⟨51, ((B + 1 + seg2.length : Nat) : Int)⟩ :: seg2), by simp, by simp, ?_, fun len d hd0 hdh => ?_⟩
        · simp only [List.length_append, List.length_cons, hni, if_true]
          omega
        · have v1 := b1 len d hd0 (by omega)
          rw [show (out ++ seg0 ++ [(⟨50, 0⟩ : Nd)]).length = out.length + seg0.length + 1 by simp only [List.length_append, List.length_singleton]] at v1
          have v2 := b2 len d hd0 (by omega)
          rw [show (out ++ seg0 ++ (⟨50, ((B + 1 : Nat) : Int)⟩ : Nd) :: (seg1 ++ [⟨51, 0⟩])).length = out.length + seg0.length + 1 + seg1.length + 1 by simp only [List.length_append, List.length_cons, List.length_nil]; omega] at v2
          have := Seg.cond hd0 (b0 len d hd0 hdh) v1 n1 v2 n2
          rw [← hB]
          exact this
      · have c23 : x.o ≠ 23 := fun c => c1 (.inl c)
        have c24 : x.o ≠ 24 := fun c => c1 (.inr c)
        obtain ⟨hac, hjm⟩ := arC_val ha c23 c24 c2
        have hx26 : (x.o == 26) = false := by simpa using c2
        rw [hx26] at hni
        simp only [Bool.false_eq_true, if_false, Nat.add_zero] at hni
        rw [if_neg c2]
        rcases hk with ⟨h2, ks⟩ | ⟨h2, hq1, s', k0, ks⟩ | ⟨h2, hq1, s1, s', k1, k0, ks⟩ | ⟨h2, _⟩
        · rw [hs] at ks
          obtain rfl := Option.some.inj ks
          rw [h2] at hops hac
          rw [hops]
          refine ⟨[x], rfl, by simp, by rw [hni]; simp; omega, fun len d hd0 hdh => ?_⟩
          have := Seg.op (len := len) (p := out.length) (d := d) (x := x) (by omega) hjm (by omega) (by omega) hd0
          rwa [hac, show d - 0 + 1 = d + 1 by omega] at this
        · rw [hs] at ks
          obtain rfl := Option.some.inj ks
          rw [h2] at hops hac
          rw [show (1 : Int).toNat = 1 from rfl, opsF_last] at hops
          rw [hops]
          have hf : ([(q : Int) - 1] : List Int).foldl (fun o k => emitF e f o k.toNat) out = emitF e f out (q - 1) := by
            show emitF e f out ((q : Int) - 1).toNat = _
            rw [hpred]
          rw [hf]
          obtain ⟨seg0, g0, n0, t0, b0⟩ := ih (q - 1) (by omega) (by omega) s h' k0 (Ht.same (by rw [hs, k0]) hh) out
          rw [show q - 1 + 1 = q by omega] at t0
          rw [g0]
          refine ⟨seg0 ++ [x], by simp, by simp, by rw [List.length_append, hni]; simp; omega, fun len d hd0 hdh => ?_⟩
          have v := Seg.op (len := len) (p := out.length + seg0.length) (d := d + 1) (x := x) (by omega) hjm (by omega) (by omega) (by omega)
          rw [hac, show d + 1 - 1 + 1 = d + 1 by omega] at v
          exact Seg.append (b0 len d hd0 hdh) v (by simp)
        · rw [hs] at ks
          obtain rfl := Option.some.inj ks
          rw [h2] at hops hac
          have hl1 := hstart _ _ (by omega) k1
          rw [show (2 : Int).toNat = 1 + 1 from rfl, opsF_step (k := q - 1) (by omega) k1, opsF_last] at hops
          rw [hops]
          have hf : ([(s1 : Int), (q : Int) - 1] : List Int).foldl (fun o k => emitF e f o k.toNat) out = emitF e f (emitF e f out s1) (q - 1) := by
            show emitF e f (emitF e f out (s1 : Int).toNat) ((q : Int) - 1).toNat = _
            rw [hpred, Int.toNat_natCast]
          rw [hf]
          have hh0 : Ht (strS e).1 s1 h' := Ht.same (by rw [hs, k0]) hh
          obtain ⟨seg0, g0, n0, t0, b0⟩ := ih s1 (by omega) (by omega) s h' k0 hh0 out
          rw [g0]
          obtain ⟨seg1, g1, n1, t1, b1⟩ := ih (q - 1) (by omega) (by omega) (s1 + 1) (h' + 1) k1 (.succ k1 hh0) (out ++ seg0)
          rw [show q - 1 + 1 = q by omega] at t1
          rw [g1]
          refine ⟨seg0 ++ seg1 ++ [x], by simp, by simp, by simp only [List.length_append, List.length_singleton, hni]; omega, fun len d hd0 hdh => ?_⟩
          have v1 := b1 len (d + 1) (by omega) (by omega)
          rw [List.length_append] at v1
          have v := Seg.op (len := len) (p := out.length + (seg0 ++ seg1).length) (d := d + 1 + 1) (x := x) (by omega) hjm (by omega) (by omega) (by omega)
          rw [hac, show d + 1 + 1 - 2 + 1 = d + 1 by omega] at v
          exact Seg.append (Seg.append (b0 len d hd0 hdh) v1 n1) v (by simp)
        · exfalso
          unfold arS at h2
          split at h2
          · omega
          · split at h2
            · omega
            · split at h2
              · omega
              · omega
end Go.Proofs.YtnoegcdogcbhbaaDoor
/- What Starts and Operands of package expr, and of its reference, compute. (Printed by wip/genbcops.py.) -/
namespace Go.Proofs.YtnoegcdogcbhbaaDoor
open Go.RowKit

/-- the cells of a block of integers -/
def intC (l : List Int) : Array Value := (l.map (Value.int .i64)).toArray
theorem intC_get {l : List Int} {i : Nat} {n : Int} (h : l[i]? = some n) : (intC l)[i]? = some (.int .i64 n) := by simp [intC, h]
theorem intC_set (l : List Int) (i : Nat) (n : Int) : (intC l).setIfInBounds i (.int .i64 n) = intC (l.set i n) := by
  unfold intC
  rw [List.setIfInBounds_toArray, List.map_set]
theorem intC_size (l : List Int) : (intC l).size = l.length := by simp [intC]
theorem intC_of_row {w : World} {B : Nat} {e : TypeId} {g n cap : Nat} {l : List Int} (h : w.ownsRow B e 1 (.slice (some ⟨g, 0, none⟩) n cap) n (l.map (Value.int .i64))) (hc : cap = n) : Blk w g e (intC l) := by
  subst hc
  rcases h.2 with ⟨hv, _⟩ | ⟨g', cap', cur, hv, _, hg, _, _, h3, h4⟩
  · cases hv
  · simp only [Value.slice.injEq, Option.some.injEq, Addr.mk.injEq] at hv
    obtain ⟨⟨rfl, _⟩, _, rfl⟩ := hv
    rw [List.take_of_length_le (by rw [Array.length_toList, h3]; exact Nat.le_refl _)] at h4
    unfold Blk intC
    rw [← h4, Array.toArray_toList]
    exact hg
/-- behind a make of n zeros -/
theorem made_ints {w w1 : World} {t : TypeId} {n : Nat} (hown : w1.ownsRow w.heap.size t 1 (.slice (some ⟨w.heap.size, 0, none⟩) n n) n (madeCells (Value.int .i64 0).cells (n * 1)).toList) (hgrow : w.grownBy w1 none) :
    Blk w1 w.heap.size t (intC (List.replicate n 0)) ∧ Kept w w1 := by
  refine ⟨intC_of_row (B := w.heap.size) (n := n) ?_ rfl, ⟨hgrow.os, hgrow.tape, hgrow.output, hgrow.size, fun b hb => hgrow.block b hb (by simp)⟩⟩
  have e := toList_madeCells_one (Value.int .i64 0) (n * 1)
  rw [Nat.mul_one] at e
  rw [Nat.mul_one, show (Value.int IntKind.i64 0).cells = #[Value.int .i64 0] from rfl, e] at hown
  simpa using hown
/-- with k operands to come, the last of them ends at a node -/
def OpsAt (S : List Nat) : Nat → Int → Prop
  | 0, _ => True
  | k + 1, z => ∃ l s : Nat, z = l ∧ S[l]? = some s ∧ OpsAt S k ((s : Int) - 1)
theorem opsAt_of {S : List Nat} {q : Nat} {a : Int} (h : NodeOK S q a) : OpsAt S a.toNat ((q : Int) - 1) := by
  rcases h.2 with ⟨rfl, _⟩ | ⟨rfl, h1, s, h2, _⟩ | ⟨rfl, h1, s1, s, h2, h3, _⟩ | ⟨rfl, h1, s2, s1, s, h2, h3, h4, _⟩
  · trivial
  · exact ⟨q - 1, s, by omega, h2, trivial⟩
  · exact ⟨q - 1, s1 + 1, by omega, h2, s1, s, by omega, h3, trivial⟩
  · exact ⟨q - 1, s2 + 1, by omega, h2, s2, s1 + 1, by omega, h3, s1, s, by omega, h4, trivial⟩
theorem opsF_at {S : List Nat} {k l s : Nat} {acc : List Int} (h : S[l]? = some s) : opsF S (k + 1) (l : Int) acc = opsF S k ((s : Int) - 1) ((l : Int) :: acc) := by
  rw [opsF, Int.toNat_natCast, h]; rfl
theorem zeros_set (k : Nat) (acc : List Int) (z : Int) : (List.replicate (k + 1) 0 ++ acc).set k z = List.replicate k 0 ++ z :: acc := by
  rw [List.replicate_succ', List.append_assoc, List.set_append_right _ _ (by simp)]
  simp
/-- the slice u reads as the integers l, in a block not older than B -/
def Fresh (B : Nat) (w : World) (u : Value) (l : List Int) : Prop := ∃ g, u = .slice (some ⟨g, 0, none⟩) l.length l.length ∧ B ≤ g ∧ Blk w g 3 (intC l)
def opsPost (xs : List Nd) (q : Nat) (w : World) (e : Ending) (w' : World) : Prop := ∃ u, e = .returned u ∧ Fresh w.heap.size w' u (opsS xs q) ∧ Kept w w'

set_option maxRecDepth 100000 in
theorem starts_any (v : Value) (xs : List Nd) (w : World) (hN : Nds w v xs) (hn : xs.length ≤ 9223372036854775807) : Calls Tryd.prog 30 #[v] w fun e w' => ∃ u, e = .returned (.tuple #[u, .int .i64 (strS xs).2.2]) ∧ Recs w' natF 1 u (strS xs).1 ∧ Kept w w' := by
  have HS := Lib.hid (structure_any v xs w hN hn)
  clear hN hn
  go_enter Tryd.func30, Tryd.ntmps30
  go_wp2_with (go_at_call 65; refine HS.out.mono ?_; rintro e w1 ⟨u, rfl, hu, hk⟩)
  go_ret2
  exact ⟨u, rfl, hu, hk⟩

set_option maxRecDepth 100000 in
set_option maxHeartbeats 4000000 in
theorem operands_any (v : Value) (xs : List Nd) (q : Nat) (w : World) (hN : Nds w v xs) (hv : (strS xs).2.2 = 0) (hq : q < xs.length) : Calls Tryd.prog 66 #[v, .int .i64 q] w (opsPost xs q w) := by
  obtain ⟨h0, h48, hlen, hall, _⟩ := str_ok hv
  have HS := Lib.hid (starts_any v xs w hN (by omega))
  try unfold strPost at HS
  have hx : xs[q]? = some xs[q] := List.getElem?_eq_getElem hq
  have hsl := start_le hv
  have hops := ops_of hv hx
  obtain ⟨ha0, hno⟩ := hall q _ hx
  obtain ⟨a, ha⟩ : ∃ a : Nat, arS xs[q].o = a := ⟨(arS xs[q].o).toNat, by omega⟩
  have hab := (arS_bd xs[q].o).2
  have hat := opsAt_of hno
  obtain ⟨A, cap, rfl, hA⟩ := hN.at_
  obtain ⟨n, hxn⟩ : ∃ n, n = xs.length := ⟨_, rfl⟩
  obtain ⟨b1, o1, rfl, hb1, hc1⟩ := hA (by omega)
  obtain ⟨x0, _⟩ := hc1 q _ hx
  have HAR := Lib.hid (fun w => (by have := arity_any xs[q].o w; rwa [ha] at this : Calls Tryd.prog 72 #[.int .i64 xs[q].o] w fun e w' => e = .returned (.int .i64 (a : Int)) ∧ w = w'))
  rw [ha, Int.toNat_natCast] at hops hat
  rw [hv] at HS
  rw [← hxn] at h48 hlen hq HS ⊢
  have hqn : (q : Int) < n := by omega
  have hqn2 : ¬ ((n : Int) ≤ q) := by omega
  have hq48 : (q : Int) ≤ 48 := by omega
  have ha3 : a ≤ 3 := by omega
  have ha63 : (a : Int) ≤ 3 := by omega
  have HLEN := Lib.hid hlen
  generalize hSS : (strS xs).1 = S at *
  obtain ⟨L, hL⟩ : ∃ L, L = opsS xs q := ⟨_, rfl⟩
  rw [← hL] at hops
  have HL := Lib.hid hL
  have HSL := Lib.hid hsl
  have HOPS := Lib.hid hops
  have HAT := Lib.hid hat
  obtain ⟨i0, hi, hz0, hz1, hz2⟩ := info_parts Tryd.infoInt
  clear hall ha hab ha0 hno hx hsl hops hat hN hA hc1 hv hSS hlen hL hxn h0
  unfold opsPost
  rw [← HL.out]
  generalize (xs[q]).o = op at *
  go_enter Tryd.func66, Tryd.ntmps66
  go_wp2_with (first
    | (go_at_call 30; refine HS.out.mono ?_; rintro e w1 ⟨u, rfl, hu, hk⟩; obtain ⟨SA, scap, rfl, hv2⟩ := natR_at hu; have X0 := hk.cell (p := ⟨b1, _, none⟩) hb1 x0)
    | (go_at_call 72; refine (HAR.out _).mono ?_; rintro e w' ⟨rfl, rfl⟩)
    | (at_make; refine wpList_make_full _ rfl _ _ 57 rfl w1.heap.size 3 i0 (.int .i64 0) 1 Tryd.underlying57 hi hz0 hz1 _ _ _ _ a rfl rfl rfl rfl (by rw [hz2]; omega) (by unfold maxLen; omega) (Nat.le_refl _) ?_; intro w2 hown hgrow))
  obtain ⟨hB, hk2⟩ := made_ints hown hgrow
  clear hown hgrow
  go_wp2_with fail
  go_loopw [8, 9] (fun y x wr => ∃ (k : Nat) (j z : Int) (acc : List Int), y = .int .i64 z ∧ x = .int .i64 j ∧ j = (k : Int) - 1 ∧ acc.length + k = a ∧ OpsAt S k z ∧ opsF S k z acc = L ∧ Kept w1 wr ∧ Blk wr w1.heap.size 3 (intC (List.replicate k 0 ++ acc))) (fun _ x _ => (intOf x + 1).toNat)
  case atStart => exact ⟨a, _, _, [], rfl, rfl, rfl, by simp, HAT.out, HOPS.out.symm, hk2, by rw [List.append_nil]; exact hB⟩
  case round =>
    obtain ⟨k, j, z, acc, rfl, rfl, hj, hacc, hat, hrun, hK, hB⟩ := hrel
    clear hk2
    cases k with
    | zero =>
      obtain rfl : j = -1 := by omega
      have HF : Hid (Fresh w.heap.size wr (.slice (some ⟨w1.heap.size, 0, none⟩) a a) L) := Lib.hid ⟨w1.heap.size, by rw [← hrun, opsF, show acc.length = a by omega], hk.size, by rw [← hrun, opsF]; exact hB⟩
      clear hB hrun hacc hj hat
      go_wp2_with fail
      go_ret
      exact ⟨_, rfl, HF.out, hk.trans hK⟩
    | succ k =>
      obtain ⟨l, s, rfl, hs, hat2⟩ := hat
      obtain rfl : j = (k : Int) := by omega
      rw [opsF_at hs] at hrun
      have hsl := HSL.out l l s (Nat.le_refl _) hs
      have hln := (List.getElem?_eq_some_iff.1 hs).1
      rw [HLEN.out] at hln
      obtain ⟨sb, so, hSA, hsb, hsc⟩ := hv2 (by rw [HLEN.out]; omega)
      subst hSA
      have c1 := hK.cell (p := ⟨sb, so + l, none⟩) hsb (hsc l s hs)
      have c0 : wr.cell? ⟨w1.heap.size, k, none⟩ = some (.int .i64 0) := by
        rw [hB.cell]
        exact intC_get (by rw [List.getElem?_append_left (by simp), List.getElem?_replicate, if_pos (by omega)])
      have f := hB.frozen
      have BN := hB.set_ k (.int .i64 (l : Int))
      rw [intC_set, zeros_set] at BN
      have KN := hK.setCell (p := ⟨w1.heap.size, k, none⟩) (Nat.le_refl _) (.int .i64 (l : Int))
      have hne : sb ≠ w1.heap.size := by omega
      have hka : (k : Int) < a := by omega
      have hll : (l : Int) < n := by omega
      have hl48 : (l : Int) ≤ 48 := by omega
      have hs48 : (s : Int) ≤ 48 := by omega
      have HSLN : S.length = n := HLEN.out
      have hk48 : (k : Int) ≤ 48 := by omega
      have HAC := Lib.hid hacc
      have HRUN := Lib.hid hrun
      clear hacc hrun hB hK hj hs hsl hln hsc
      go_wp2_with fail
      go_roundw
      case rel => exact ⟨k, _, _, (l : Int) :: acc, rfl, rfl, rfl, by have := HAC.out; rw [List.length_cons]; omega, hat2, HRUN.out, KN, BN⟩
      case measure => simp [intOf]

set_option maxRecDepth 100000 in
theorem rstarts_any (v : Value) (xs : List Nd) (w : World) (hN : Nds w v xs) (hn : xs.length ≤ 9223372036854775807) : Calls Tryd.prog 32 #[v] w fun e w' => ∃ u, e = .returned (.tuple #[u, .int .i64 (strS xs).2.2]) ∧ Recs w' natF 1 u (strS xs).1 ∧ Kept w w' := by
  have HS := Lib.hid (rstructure_any v xs w hN hn)
  clear hN hn
  go_enter Tryd.func32, Tryd.ntmps32
  go_wp2_with (go_at_call 67; refine HS.out.mono ?_; rintro e w1 ⟨u, rfl, hu, hk⟩)
  go_ret2
  exact ⟨u, rfl, hu, hk⟩

set_option maxRecDepth 100000 in
set_option maxHeartbeats 4000000 in
theorem roperands_any (v : Value) (xs : List Nd) (q : Nat) (w : World) (hN : Nds w v xs) (hv : (strS xs).2.2 = 0) (hq : q < xs.length) : Calls Tryd.prog 68 #[v, .int .i64 q] w (opsPost xs q w) := by
  obtain ⟨h0, h48, hlen, hall, _⟩ := str_ok hv
  have HS := Lib.hid (rstructure_any v xs w hN (by omega))
  try unfold strPost at HS
  have hx : xs[q]? = some xs[q] := List.getElem?_eq_getElem hq
  have hsl := start_le hv
  have hops := ops_of hv hx
  obtain ⟨ha0, hno⟩ := hall q _ hx
  obtain ⟨a, ha⟩ : ∃ a : Nat, arS xs[q].o = a := ⟨(arS xs[q].o).toNat, by omega⟩
  have hab := (arS_bd xs[q].o).2
  have hat := opsAt_of hno
  obtain ⟨A, cap, rfl, hA⟩ := hN.at_
  obtain ⟨n, hxn⟩ : ∃ n, n = xs.length := ⟨_, rfl⟩
  obtain ⟨b1, o1, rfl, hb1, hc1⟩ := hA (by omega)
  obtain ⟨x0, _⟩ := hc1 q _ hx
  have HAR := Lib.hid (fun w => (by have := rarity_any xs[q].o w; rwa [ha] at this : Calls Tryd.prog 73 #[.int .i64 xs[q].o] w fun e w' => e = .returned (.int .i64 (a : Int)) ∧ w = w'))
  rw [ha, Int.toNat_natCast] at hops hat
  rw [hv] at HS
  rw [← hxn] at h48 hlen hq HS ⊢
  have hqn : (q : Int) < n := by omega
  have hqn2 : ¬ ((n : Int) ≤ q) := by omega
  have hq48 : (q : Int) ≤ 48 := by omega
  have ha3 : a ≤ 3 := by omega
  have ha63 : (a : Int) ≤ 3 := by omega
  have HLEN := Lib.hid hlen
  generalize hSS : (strS xs).1 = S at *
  obtain ⟨L, hL⟩ : ∃ L, L = opsS xs q := ⟨_, rfl⟩
  rw [← hL] at hops
  have HL := Lib.hid hL
  have HSL := Lib.hid hsl
  have HOPS := Lib.hid hops
  have HAT := Lib.hid hat
  obtain ⟨i0, hi, hz0, hz1, hz2⟩ := info_parts Tryd.infoInt
  clear hall ha hab ha0 hno hx hsl hops hat hN hA hc1 hv hSS hlen hL hxn h0
  unfold opsPost
  rw [← HL.out]
  generalize (xs[q]).o = op at *
  go_enter Tryd.func68, Tryd.ntmps68
  go_wp2_with (first
    | (go_at_call 67; refine HS.out.mono ?_; rintro e w1 ⟨u, rfl, hu, hk⟩; obtain ⟨SA, scap, rfl, hv2⟩ := natR_at hu; have X0 := hk.cell (p := ⟨b1, _, none⟩) hb1 x0)
    | (go_at_call 73; refine (HAR.out _).mono ?_; rintro e w' ⟨rfl, rfl⟩)
    | (at_make; refine wpList_make_full _ rfl _ _ 57 rfl w1.heap.size 3 i0 (.int .i64 0) 1 Tryd.underlying57 hi hz0 hz1 _ _ _ _ a rfl rfl rfl rfl (by rw [hz2]; omega) (by unfold maxLen; omega) (Nat.le_refl _) ?_; intro w2 hown hgrow))
  obtain ⟨hB, hk2⟩ := made_ints hown hgrow
  clear hown hgrow
  go_wp2_with fail
  go_loopw [10, 11] (fun y x wr => ∃ (k : Nat) (j z : Int) (acc : List Int), y = .int .i64 z ∧ x = .int .i64 j ∧ j = (k : Int) - 1 ∧ acc.length + k = a ∧ OpsAt S k z ∧ opsF S k z acc = L ∧ Kept w1 wr ∧ Blk wr w1.heap.size 3 (intC (List.replicate k 0 ++ acc))) (fun _ x _ => (intOf x + 1).toNat)
  case atStart => exact ⟨a, _, _, [], rfl, rfl, rfl, by simp, HAT.out, HOPS.out.symm, hk2, by rw [List.append_nil]; exact hB⟩
  case round =>
    obtain ⟨k, j, z, acc, rfl, rfl, hj, hacc, hat, hrun, hK, hB⟩ := hrel
    clear hk2
    cases k with
    | zero =>
      obtain rfl : j = -1 := by omega
      have HF : Hid (Fresh w.heap.size wr (.slice (some ⟨w1.heap.size, 0, none⟩) a a) L) := Lib.hid ⟨w1.heap.size, by rw [← hrun, opsF, show acc.length = a by omega], hk.size, by rw [← hrun, opsF]; exact hB⟩
      clear hB hrun hacc hj hat
      go_wp2_with fail
      go_ret
      exact ⟨_, rfl, HF.out, hk.trans hK⟩
    | succ k =>
      obtain ⟨l, s, rfl, hs, hat2⟩ := hat
      obtain rfl : j = (k : Int) := by omega
      rw [opsF_at hs] at hrun
      have hsl := HSL.out l l s (Nat.le_refl _) hs
      have hln := (List.getElem?_eq_some_iff.1 hs).1
      rw [HLEN.out] at hln
      obtain ⟨sb, so, hSA, hsb, hsc⟩ := hv2 (by rw [HLEN.out]; omega)
      subst hSA
      have c1 := hK.cell (p := ⟨sb, so + l, none⟩) hsb (hsc l s hs)
      have c0 : wr.cell? ⟨w1.heap.size, k, none⟩ = some (.int .i64 0) := by
        rw [hB.cell]
        exact intC_get (by rw [List.getElem?_append_left (by simp), List.getElem?_replicate, if_pos (by omega)])
      have f := hB.frozen
      have BN := hB.set_ k (.int .i64 (l : Int))
      rw [intC_set, zeros_set] at BN
      have KN := hK.setCell (p := ⟨w1.heap.size, k, none⟩) (Nat.le_refl _) (.int .i64 (l : Int))
      have hne : sb ≠ w1.heap.size := by omega
      have hka : (k : Int) < a := by omega
      have hll : (l : Int) < n := by omega
      have hl48 : (l : Int) ≤ 48 := by omega
      have hs48 : (s : Int) ≤ 48 := by omega
      have HSLN : S.length = n := HLEN.out
      have hk48 : (k : Int) ≤ 48 := by omega
      have HAC := Lib.hid hacc
      have HRUN := Lib.hid hrun
      clear hacc hrun hB hK hj hs hsl hln hsc
      go_wp2_with fail
      go_roundw
      case rel => exact ⟨k, _, _, (l : Int) :: acc, rfl, rfl, rfl, by have := HAC.out; rw [List.length_cons]; omega, hat2, HRUN.out, KN, BN⟩
      case measure => simp [intOf]
end Go.Proofs.YtnoegcdogcbhbaaDoor
/- Compiled code is accepted, within the stack's bound; how long it is. -/
namespace Go.Proofs.YtnoegcdogcbhbaaDoor

def Le12 (ds : List Int) : Prop := ∀ (j : Nat) (v : Int), ds[j]? = some v → v ≤ 12
theorem Le12.set_ {ds : List Int} (h : Le12 ds) {a : Nat} {d : Int} (hd : d ≤ 12) : Le12 (ds.set a d) := by
  intro j v hv
  by_cases e : a = j
  · subst e
    rw [List.getElem?_set] at hv
    simp only [if_true] at hv
    split at hv
    · have := Option.some.inj hv; omega
    · cases hv
  · rw [List.getElem?_set_ne e] at hv; exact h j v hv
theorem reach_le {ds : List Int} (h : Le12 ds) {a : Nat} {d : Int} (hd : d ≤ 12) : Le12 (reachS ds a d).1 := by
  unfold reachS
  split
  · exact h
  · exact h.set_ hd
theorem get_le {ds : List Int} (h : Le12 ds) (i : Nat) : ds[i]?.getD 0 ≤ 12 := by
  cases hi : ds[i]? with
  | none => simp
  | some v => exact h i v hi
theorem step_le {ds : List Int} (h : Le12 ds) (len : Nat) (x : Nd) (i : Nat) : Le12 (stepC len x i ds).1 := by
  have hd := get_le h i
  unfold stepC
  dsimp only
  generalize ds[i]?.getD 0 = d at *
  split
  · exact h
  · split
    · exact h
    · split
      · exact reach_le h hd
      · split
        · split
          · exact reach_le (reach_le h (by omega)) (by split <;> omega)
          · exact reach_le h (by omega)
        · split
          · exact h
          · exact reach_le h (by omega)
theorem verF_le {len : Nat} : ∀ (l : List Nd) (i : Nat) (ds : List Int), Le12 ds → Le12 (verF len l i ds).1
  | [], _, _, h => h
  | x :: r, i, ds, h => by
    rw [verF]
    split
    · exact verF_le r _ _ h
    · split
      · exact verF_le r _ _ (step_le h len x i)
      · exact h
theorem max_fold_ge : ∀ (l : List Int) (a : Int), a ≤ l.foldl max a ∧ ∀ v ∈ l, v ≤ l.foldl max a
  | [], a => ⟨Int.le_refl _, fun v hv => by simp at hv⟩
  | x :: r, a => by
    obtain ⟨h1, h2⟩ := max_fold_ge r (max a x)
    rw [List.foldl_cons]
    refine ⟨by omega, fun v hv => ?_⟩
    rcases List.mem_cons.1 hv with rfl | hv
    · omega
    · exact h2 v hv
theorem max_fold_le : ∀ (l : List Int) (a b : Int), a ≤ b → (∀ v ∈ l, v ≤ b) → l.foldl max a ≤ b
  | [], a, b, h, _ => h
  | x :: r, a, b, h, hl => by
    rw [List.foldl_cons]
    have := hl x (by simp)
    exact max_fold_le r _ b (by omega) (fun v hv => hl v (by simp [hv]))

/-- **the code of a valid expression** -/
theorem comp_ok {e : List Nd} (hv : (strS e).2.2 = 0) : (compS e).2 = 0 ∧ (compS e).1.length = e.length + nIf e e.length ∧ (verS (compS e).1).2 = 0 ∧ 1 ≤ (verS (compS e).1).1 ∧ (verS (compS e).1).1 ≤ 12 := by
  obtain ⟨h0, h48, hlen, hall, hlast⟩ := str_ok hv
  obtain ⟨seg, g, n, t, b⟩ := emit_ok hv e.length (e.length - 1) (by omega) (by omega) 0 0 hlast (.zero hlast) []
  have hc : compS e = (seg, 0) := by
    unfold compS
    rw [if_pos hv, g]; rfl
  rw [hc]
  dsimp only
  have hn0 : nIf e 0 = 0 := by simp [nIf]
  have hnl := nIf_le e e.length
  rw [hn0, show e.length - 1 + 1 = e.length by omega] at t
  have hp := List.length_pos_iff.2 n
  refine ⟨rfl, by omega, ?_⟩
  obtain ⟨ds, v1, l1, q1, _⟩ := b seg.length 0 (by omega) (by omega) (0 :: List.replicate seg.length (-1)) (by simp) (by simp) rfl
    (fun j hj hj2 => by
      simp only [List.length_nil, Nat.zero_add] at hj hj2
      obtain ⟨j, rfl⟩ : ∃ k, j = k + 1 := ⟨j - 1, by omega⟩
      rw [List.getElem?_cons_succ, List.getElem?_replicate, if_pos (by omega)])
    (fun _ => by
      left
      simp only [List.length_nil, Nat.zero_add]
      obtain ⟨k, hk⟩ : ∃ k, seg.length = k + 1 := ⟨seg.length - 1, by omega⟩
      rw [hk, List.getElem?_cons_succ, List.getElem?_replicate, if_pos (by omega)])
  simp only [List.length_nil, Nat.zero_add] at v1 q1
  have hle : Le12 ds := by
    have := verF_le (len := seg.length) seg 0 (0 :: List.replicate seg.length (-1)) (fun j v hj => by
      cases j with
      | zero => have := Option.some.inj hj; omega
      | succ j =>
        rw [List.getElem?_cons_succ, List.getElem?_replicate] at hj
        split at hj
        · have := Option.some.inj hj; omega
        · cases hj)
    rwa [v1] at this
  have hver : verS seg = (maxS ds, 0) := by
    unfold verS
    rw [if_neg (by omega), if_neg (by omega), v1]
    dsimp only
    rw [if_pos rfl, q1, Option.getD_some, if_neg (by omega), if_neg (by omega)]
  rw [hver]
  dsimp only
  have hg := max_fold_ge ds 0
  exact ⟨rfl, hg.2 1 (List.mem_of_getElem? q1), max_fold_le ds 0 12 (by decide) (fun v hv => by
    obtain ⟨j, hj⟩ := List.mem_iff_getElem?.1 hv
    exact hle j v hj)⟩
end Go.Proofs.YtnoegcdogcbhbaaDoor
/- Checking code, one step at a time: what a step leaves, and the greatest depth. -/
namespace Go.Proofs.YtnoegcdogcbhbaaDoor

theorem reach_len (ds : List Int) (a : Nat) (d : Int) : (reachS ds a d).1.length = ds.length := by
  unfold reachS; split <;> simp
theorem reach_take {ds : List Int} {a i : Nat} {d : Int} (h : i ≤ a) : (reachS ds a d).1.take i = ds.take i := by
  unfold reachS
  split
  · rfl
  · exact List.take_set_of_le h
theorem step_len (len : Nat) (x : Nd) (i : Nat) (ds : List Int) : (stepC len x i ds).1.length = ds.length := by
  unfold stepC
  dsimp only
  split
  · rfl
  · split
    · rfl
    · split
      · exact reach_len _ _ _
      · split
        · split
          · rw [reach_len, reach_len]
          · exact reach_len _ _ _
        · split
          · rfl
          · exact reach_len _ _ _
/-- a step notes nothing at its own index and before -/
theorem step_take (len : Nat) (x : Nd) (i : Nat) (ds : List Int) : (stepC len x i ds).1.take (i + 1) = ds.take (i + 1) := by
  unfold stepC
  dsimp only
  split
  · rfl
  · rename_i h1
    have hn : jmpB x.o = true → (i : Int) < x.n := fun hj => by
      by_cases hc : x.n ≤ i
      · exact absurd (.inr ⟨hj, .inl hc⟩) h1
      · omega
    split
    · rfl
    · split
      · rename_i h3
        have := hn (by rw [h3]; rfl)
        exact reach_take (by omega)
      · split
        · rename_i hj
          have := hn hj
          split
          · rw [reach_take (by omega), reach_take (Nat.le_refl _)]
          · exact reach_take (Nat.le_refl _)
        · split
          · rfl
          · exact reach_take (Nat.le_refl _)
theorem max_snoc (l : List Int) (v : Int) : maxS (l ++ [v]) = max (maxS l) v := by
  unfold maxS; rw [List.foldl_append]; rfl
theorem max_nonneg (l : List Int) : 0 ≤ maxS l := (max_fold_ge l 0).1
theorem take_get {l : List Int} {i : Nat} {v : Int} (h : l[i]? = some v) : l.take (i + 1) = l.take i ++ [v] := by
  rw [List.take_add_one, h]; rfl
/-- the greatest depth up to an index, one index further -/
theorem max_take {l : List Int} {i : Nat} {v : Int} (h : l[i]? = some v) : maxS (l.take (i + 1)) = max (maxS (l.take i)) v := by
  rw [take_get h, max_snoc]
theorem max_take_neg {l : List Int} {i : Nat} {v : Int} (h : l[i]? = some v) (hv : v < 0) : maxS (l.take (i + 1)) = maxS (l.take i) := by
  rw [max_take h]
  have := max_nonneg (l.take i)
  omega
/-- the depths of a step, as the reference reckons them -/
def nextS (x : Nd) (d : Int) : Int := if x.o = 51 then -1 else if jmpB x.o then d - 1 else d - arC x.o + 1
def targS (x : Nd) (d : Int) : Int := if x.o = 51 then d else if jmpB x.o then (if x.o = 50 then d - 1 else d) else -1
def noteS2 (ds : List Int) (a : Nat) (d : Int) : List Int × Int := if 0 ≤ d then reachS ds a d else (ds, 0)
/-- a step as the reference takes it -/
theorem step_ref {len : Nat} {x : Nd} {i : Nat} {ds : List Int} (h0 : 0 ≤ ds[i]?.getD 0) (h12 : ds[i]?.getD 0 ≤ 12) : stepC len x i ds =
    (if arC x.o < 0 ∨ (jmpB x.o = true ∧ (x.n ≤ i ∨ (len : Int) < x.n)) then (ds, 2)
     else if ds[i]?.getD 0 < arC x.o then (ds, 5)
     else if 12 < nextS x (ds[i]?.getD 0) then (ds, 16)
     else if (noteS2 ds (i + 1) (nextS x (ds[i]?.getD 0))).2 = 0 then noteS2 (noteS2 ds (i + 1) (nextS x (ds[i]?.getD 0))).1 x.n.toNat (targS x (ds[i]?.getD 0)) else noteS2 ds (i + 1) (nextS x (ds[i]?.getD 0))) := by
  unfold stepC nextS targS
  dsimp only
  generalize ds[i]?.getD 0 = d at *
  split
  · rfl
  · rename_i h1
    split
    · rfl
    · rename_i h2
      by_cases c : x.o = 51
      · simp only [if_pos c]
        unfold noteS2
        rw [if_neg (show ¬ (12 : Int) < -1 by decide), if_neg (show ¬ (0 : Int) ≤ -1 by decide)]
        dsimp only
        rw [if_pos rfl, if_pos h0]
      · simp only [if_neg c]
        by_cases hj : jmpB x.o = true
        · have ha : arC x.o = 1 := by unfold arC; rw [if_neg c, if_pos hj]
          rw [ha] at h2
          simp only [if_pos hj]
          unfold noteS2
          rw [if_neg (show ¬ 12 < d - 1 by omega), if_pos (show 0 ≤ d - 1 by omega)]
          have ht : 0 ≤ (if x.o = 50 then d - 1 else d) := by split <;> omega
          rw [if_pos ht]
        · simp only [if_neg hj]
          unfold noteS2
          rw [if_pos (show 0 ≤ d - arC x.o + 1 by omega), if_neg (show ¬ (0 : Int) ≤ -1 by decide)]
          have key : ∀ (r : List Int × Int), r = (if r.2 = 0 then (r.1, 0) else r) := by
            intro r
            split
            · rename_i h; exact Prod.ext rfl h
            · rfl
          split
          · rfl
          · exact key _
end Go.Proofs.YtnoegcdogcbhbaaDoor
/- What the small functions of checking code compute: jumps, instructions, arities, the noting of a depth. -/
namespace Go.Proofs.YtnoegcdogcbhbaaDoor
open Go.RowKit

theorem jmp_any (op : Int) (w : World) : Calls Tryd.prog 70 #[.int .i64 op] w fun e w' => e = .returned (.bool (jmpB op)) ∧ w = w' := by
  have HR := Lib.hid (show jmpB op = (decide (50 ≤ op) && decide (op ≤ 53)) from rfl)
  rw [HR.out]
  clear HR
  by_cases h1 : 50 ≤ op
  · by_cases h2 : op ≤ 53
    · go_enter Tryd.func70, Tryd.ntmps70
      go_wp2_with fail
      go_ret
      exact ⟨by simp [h1, h2], rfl⟩
    · go_enter Tryd.func70, Tryd.ntmps70
      go_wp2_with fail
      go_ret
      exact ⟨by simp; omega, rfl⟩
  · go_enter Tryd.func70, Tryd.ntmps70
    go_wp2_with fail
    go_ret
    exact ⟨by simp; omega, rfl⟩
theorem rjmp_any (op : Int) (w : World) : Calls Tryd.prog 36 #[.int .i64 op] w fun e w' => e = .returned (.bool (jmpB op)) ∧ w = w' := by
  have HR := Lib.hid (show jmpB op = (decide (50 ≤ op) && decide (op ≤ 53)) from rfl)
  rw [HR.out]
  clear HR
  by_cases h1 : 50 ≤ op
  · by_cases h2 : op ≤ 53
    · go_enter Tryd.func36, Tryd.ntmps36
      go_wp2_with fail
      go_ret
      exact ⟨by simp [h1, h2], rfl⟩
    · go_enter Tryd.func36, Tryd.ntmps36
      go_wp2_with fail
      go_ret
      exact ⟨by simp; omega, rfl⟩
  · go_enter Tryd.func36, Tryd.ntmps36
    go_wp2_with fail
    go_ret
    exact ⟨by simp; omega, rfl⟩
theorem jmpB_iff {op : Int} : jmpB op = true ↔ 50 ≤ op ∧ op ≤ 53 := by simp [jmpB]
theorem jmpB_no {op : Int} : jmpB op = false ↔ ¬ (50 ≤ op ∧ op ≤ 53) := by rw [← jmpB_iff]; simp
theorem arC_jmp {op : Int} (h : jmpB op = true) : arC op = if op = 51 then 0 else 1 := by
  unfold arC
  by_cases h5 : op = 51
  · rw [if_pos h5, if_pos h5]
  · rw [if_neg h5, if_neg h5, if_pos h]
theorem arC_bad {op : Int} (h : op = 23 ∨ op = 24 ∨ op = 26) : arC op = -1 := by rcases h with rfl | rfl | rfl <;> rfl
theorem arC_oth {op : Int} (h : jmpB op = false) (h1 : op ≠ 23) (h2 : op ≠ 24) (h3 : op ≠ 26) : arC op = arS op := by
  unfold arC
  rw [if_neg (by have := jmpB_no.1 h; omega), h, if_neg (by decide), if_neg (by omega)]
set_option maxRecDepth 100000 in
theorem instr_any (op : Int) (w : World) : Calls Tryd.prog 69 #[.int .i64 op] w fun e w' => e = .returned (.bool (decide (0 ≤ arC op))) ∧ w = w' := by
  have HJ := Lib.hid (fun w => jmp_any op w)
  have HA := Lib.hid (fun w => arity_any op w)
  by_cases h1 : op = 23
  · subst h1
    go_enter Tryd.func69, Tryd.ntmps69
    go_wp2_with fail
    go_ret
    exact ⟨rfl, rfl⟩
  by_cases h2 : op = 24
  · subst h2
    go_enter Tryd.func69, Tryd.ntmps69
    go_wp2_with fail
    go_ret
    exact ⟨rfl, rfl⟩
  by_cases h3 : op = 26
  · subst h3
    go_enter Tryd.func69, Tryd.ntmps69
    go_wp2_with fail
    go_ret
    exact ⟨rfl, rfl⟩
  have e1 := beq_noB h1
  have e2 := beq_noB h2
  have e3 := beq_noB h3
  cases hj : jmpB op
  · have HR := Lib.hid (arC_oth hj h1 h2 h3)
    rw [hj] at HJ
    clear h1 h2 h3 hj
    rw [HR.out]
    generalize arS op = A at *
    go_enter Tryd.func69, Tryd.ntmps69
    go_wp2_with (first
      | (go_at_call 70; refine (HJ.out _).mono ?_; rintro e w' ⟨rfl, rfl⟩)
      | (go_at_call 72; refine (HA.out _).mono ?_; rintro e w' ⟨rfl, rfl⟩))
    go_ret
    exact ⟨rfl, rfl⟩
  · have HR := Lib.hid (show decide (0 ≤ arC op) = true by rw [arC_jmp hj]; split <;> rfl)
    rw [hj] at HJ
    clear h1 h2 h3 hj
    rw [HR.out]
    go_enter Tryd.func69, Tryd.ntmps69
    go_wp2_with (first
      | (go_at_call 70; refine (HJ.out _).mono ?_; rintro e w' ⟨rfl, rfl⟩)
      | (go_at_call 72; refine (HA.out _).mono ?_; rintro e w' ⟨rfl, rfl⟩))
    go_ret
    exact ⟨rfl, rfl⟩
set_option maxRecDepth 100000 in
theorem rarC_any (op : Int) (w : World) : Calls Tryd.prog 35 #[.int .i64 op] w fun e w' => e = .returned (.int .i64 (arC op)) ∧ w = w' := by
  have HJ := Lib.hid (fun w => rjmp_any op w)
  have HA := Lib.hid (fun w => rarity_any op w)
  by_cases h1 : op = 23
  · subst h1
    rw [show jmpB 23 = false from rfl] at HJ
    go_enter Tryd.func35, Tryd.ntmps35
    go_wp2_with (go_at_call 36; refine (HJ.out _).mono ?_; rintro e w' ⟨rfl, rfl⟩)
    go_ret
    exact ⟨rfl, rfl⟩
  by_cases h2 : op = 24
  · subst h2
    rw [show jmpB 24 = false from rfl] at HJ
    go_enter Tryd.func35, Tryd.ntmps35
    go_wp2_with (go_at_call 36; refine (HJ.out _).mono ?_; rintro e w' ⟨rfl, rfl⟩)
    go_ret
    exact ⟨rfl, rfl⟩
  by_cases h3 : op = 26
  · subst h3
    rw [show jmpB 26 = false from rfl] at HJ
    go_enter Tryd.func35, Tryd.ntmps35
    go_wp2_with (go_at_call 36; refine (HJ.out _).mono ?_; rintro e w' ⟨rfl, rfl⟩)
    go_ret
    exact ⟨rfl, rfl⟩
  by_cases h5 : op = 51
  · subst h5
    go_enter Tryd.func35, Tryd.ntmps35
    go_wp2_with fail
    go_ret
    exact ⟨rfl, rfl⟩
  have e1 := beq_noB h1
  have e2 := beq_noB h2
  have e3 := beq_noB h3
  have e5 := beq_noB h5
  cases hj : jmpB op
  · have HR := Lib.hid (arC_oth hj h1 h2 h3)
    rw [hj] at HJ
    clear h1 h2 h3 hj h5
    rw [HR.out]
    go_enter Tryd.func35, Tryd.ntmps35
    go_wp2_with (first
      | (go_at_call 36; refine (HJ.out _).mono ?_; rintro e w' ⟨rfl, rfl⟩)
      | (go_at_call 73; refine (HA.out _).mono ?_; rintro e w' ⟨rfl, rfl⟩))
    go_ret
    exact ⟨rfl, rfl⟩
  · have HR := Lib.hid (show arC op = 1 by rw [arC_jmp hj, if_neg h5])
    rw [hj] at HJ
    clear h1 h2 h3 hj h5
    rw [HR.out]
    go_enter Tryd.func35, Tryd.ntmps35
    go_wp2_with (go_at_call 36; refine (HJ.out _).mono ?_; rintro e w' ⟨rfl, rfl⟩)
    go_ret
    exact ⟨rfl, rfl⟩

theorem grownBy_refl (w : World) (r : Option Nat) : w.grownBy w r := ⟨rfl, rfl, rfl, Nat.le_refl _, fun _ _ _ => rfl⟩
theorem grownBy_trans {a b c : World} {r : Option Nat} (h : a.grownBy b r) (k : b.grownBy c r) : a.grownBy c r :=
  ⟨k.os.trans h.os, k.tape.trans h.tape, k.output.trans h.output, Nat.le_trans h.size k.size, fun q hq hn => by rw [k.block q (Nat.lt_of_lt_of_le hq h.size) hn, h.block q hq hn]⟩
theorem grownBy_set (w : World) (g o : Nat) (u : Value) : w.grownBy (w.setCell ⟨g, o, none⟩ u) (some g) :=
  ⟨rfl, rfl, rfl, by simp, fun b _ hn => Below.heap_setCell w ⟨g, o, none⟩ u b (fun e => hn (by rw [e]))⟩
theorem grownBy_kept {w w' : World} (h : Kept w w') (r : Option Nat) : w.grownBy w' r := ⟨h.os, h.tape, h.output, h.size, fun b hb _ => h.block b hb⟩
theorem grownBy_cell {w w' : World} {g b o : Nat} {u : Value} (h : w.grownBy w' (some g)) (hb : b < w.heap.size) (hn : b ≠ g) (hc : w.cell? ⟨b, o, none⟩ = some u) : w'.cell? ⟨b, o, none⟩ = some u := by
  rw [World.cell?_of_block (a := ⟨b, o, none⟩) (h.block b hb (fun e => hn (Option.some.inj e)))]; exact hc
set_option maxRecDepth 100000 in
set_option maxHeartbeats 1000000 in
theorem reach_any (vb g n : Nat) (ds : List Int) (a : Nat) (d : Int) (w : World) (hv : w.cell? ⟨vb, 0, none⟩ = some (.slice (some ⟨g, 0, none⟩) n n)) (hn : ds.length = n) (hB : Blk w g 3 (intC ds)) (ha : a < n) :
    Calls Tryd.prog 71 #[.pointer (some ⟨vb, 0, none⟩), .int .i64 a, .int .i64 d] w fun r w' => r = .returned (.int .i64 (reachS ds a d).2) ∧ Blk w' g 3 (intC (reachS ds a d).1) ∧ w.grownBy w' (some g) := by
  have hx : ds[a]? = some (ds[a]'(by omega)) := List.getElem?_eq_getElem (by omega)
  generalize ds[a]'(by omega) = e at *
  have c0 : w.cell? ⟨g, a, none⟩ = some (.int .i64 e) := by rw [hB.cell]; exact intC_get hx
  have f := hB.frozen
  have hai : (a : Int) < n := by omega
  have hR : reachS ds a d = if 0 ≤ e ∧ e ≠ d then (ds, 9) else (ds.set a d, 0) := by rw [reachS, hx]; rfl
  have BN := hB.set_ a (.int .i64 d)
  rw [intC_set] at BN
  have HB := Lib.hid hB
  have HBN := Lib.hid BN
  have HR := Lib.hid hR
  clear hR BN hB hx hn
  by_cases h0 : 0 ≤ e
  · by_cases h1 : e = d
    · subst h1
      have hR := Lib.hid (show reachS ds a e = (ds.set a e, 0) by rw [HR.out, if_neg (by simp)])
      go_enter Tryd.func71, Tryd.ntmps71
      go_wp2_with fail
      go_ret
      rw [hR.out]
      exact ⟨rfl, HBN.out, grownBy_set _ _ _ _⟩
    · have hR := Lib.hid (show reachS ds a d = (ds, 9) by rw [HR.out, if_pos ⟨h0, h1⟩])
      have hb := bne_noB h1
      clear h1
      go_enter Tryd.func71, Tryd.ntmps71
      go_wp2_with fail
      go_ret
      rw [hR.out]
      exact ⟨rfl, HB.out, grownBy_refl _ _⟩
  · have hR := Lib.hid (show reachS ds a d = (ds.set a d, 0) by rw [HR.out, if_neg (fun h => h0 h.1)])
    go_enter Tryd.func71, Tryd.ntmps71
    go_wp2_with fail
    go_ret
    rw [hR.out]
    exact ⟨rfl, HBN.out, grownBy_set _ _ _ _⟩
end Go.Proofs.YtnoegcdogcbhbaaDoor
/- What compileNode of package bytecode, and emit of its reference, compute. (Printed by wip/genbccomp.py.) -/
namespace Go.Proofs.YtnoegcdogcbhbaaDoor
open Go.RowKit

theorem setN_len (l : List Nd) (j v : Nat) : (setN l j v).length = l.length := by simp [setN]
theorem nd_flat_len (l : List Nd) : (l.flatMap ndF).length = l.length * 2 := by
  induction l with
  | nil => rfl
  | cons a t ih => rw [List.flatMap_cons, List.length_append, ndF_len, ih, List.length_cons]; omega
theorem setN_flat : ∀ (l : List Nd) (j v : Nat), (setN l j v).flatMap ndF = (l.flatMap ndF).set (j * 2 + 1) (.int .i64 (v : Int)) := by
  intro l
  induction l with
  | nil => intro j v; simp [setN]
  | cons a t ih =>
    intro j v
    cases j with
    | zero => simp [setN, List.flatMap_cons, ndF]
    | succ j =>
      have e : setN (a :: t) (j + 1) v = a :: setN t j v := by simp [setN]
      rw [e, List.flatMap_cons, List.flatMap_cons, ih, show (j + 1) * 2 + 1 = (j * 2 + 1) + 2 by omega]
      rfl
theorem emit_ge (e : List Nd) : ∀ (f : Nat) (out : List Nd) (q : Nat), out.length ≤ (emitF e f out q).length := by
  intro f
  induction f with
  | zero => intro out q; exact Nat.le_refl _
  | succ f ih =>
    intro out q
    have hfold : ∀ (ks : List Int) (out : List Nd), out.length ≤ (ks.foldl (fun o q => emitF e f o q.toNat) out).length := by
      intro ks
      induction ks with
      | nil => intro out; exact Nat.le_refl _
      | cons k r ihk => intro out; exact Nat.le_trans (ih out k.toNat) (ihk _)
    rw [emitF]
    dsimp only
    split
    · rw [setN_len]
      have h1 := ih out ((opsS e q)[0]?.getD 0).toNat
      generalize emitF e f out ((opsS e q)[0]?.getD 0).toNat = o1 at *
      have h2 := ih (o1 ++ [⟨if (e[q]?.getD ⟨0, 0⟩).o = 24 then 53 else 52, 0⟩]) ((opsS e q)[1]?.getD 0).toNat
      rw [List.length_append] at h2
      omega
    · split
      · rw [setN_len]
        have h1 := ih out ((opsS e q)[0]?.getD 0).toNat
        generalize emitF e f out ((opsS e q)[0]?.getD 0).toNat = o1 at *
        have h2 := ih (o1 ++ [⟨50, 0⟩]) ((opsS e q)[1]?.getD 0).toNat
        rw [List.length_append] at h2
        generalize emitF e f (o1 ++ [⟨50, 0⟩]) ((opsS e q)[1]?.getD 0).toNat = o2 at *
        have h3 := ih (setN (o2 ++ [⟨51, 0⟩]) o1.length (o2.length + 1)) ((opsS e q)[2]?.getD 0).toNat
        rw [setN_len, List.length_append] at h3
        omega
      · rw [List.length_append]
        exact Nat.le_trans (hfold _ _) (Nat.le_add_right _ _)
theorem fold_ge (e : List Nd) (f : Nat) : ∀ (ks : List Nat) (out : List Nd), out.length ≤ (ks.foldl (fun o q => emitF e f o q) out).length := by
  intro ks
  induction ks with
  | nil => intro out; exact Nat.le_refl _
  | cons k r ihk => intro out; exact Nat.le_trans (emit_ge e f out k) (ihk _)
section
variable {e : List Nd} {f q : Nat} {out : List Nd} {x : Nd}
theorem emit_ao {a b : Nat} (hx : e[q]? = some x) (ho : opsS e q = [(a : Int), (b : Int)]) (hc : x.o = 23 ∨ x.o = 24) :
    emitF e (f + 1) out q = setN (emitF e f (emitF e f out a ++ [⟨if x.o = 24 then 53 else 52, 0⟩]) b) (emitF e f out a).length (emitF e f (emitF e f out a ++ [⟨if x.o = 24 then 53 else 52, 0⟩]) b).length := by
  rw [emitF, hx, ho]
  dsimp only
  rw [Option.getD_some, if_pos hc]
  rfl
theorem emit_if {a b c : Nat} (hx : e[q]? = some x) (ho : opsS e q = [(a : Int), (b : Int), (c : Int)]) (hc : x.o = 26) :
    emitF e (f + 1) out q = setN (emitF e f (setN (emitF e f (emitF e f out a ++ [⟨50, 0⟩]) b ++ [⟨51, 0⟩]) (emitF e f out a).length ((emitF e f (emitF e f out a ++ [⟨50, 0⟩]) b).length + 1)) c) (emitF e f (emitF e f out a ++ [⟨50, 0⟩]) b).length
      (emitF e f (setN (emitF e f (emitF e f out a ++ [⟨50, 0⟩]) b ++ [⟨51, 0⟩]) (emitF e f out a).length ((emitF e f (emitF e f out a ++ [⟨50, 0⟩]) b).length + 1)) c).length := by
  rw [emitF, hx, ho]
  dsimp only
  rw [Option.getD_some, if_neg (by rw [hc]; decide), if_pos hc]
  rfl
theorem fold_nat (e : List Nd) (f : Nat) : ∀ (ks : List Nat) (out : List Nd), (ks.map fun k : Nat => (k : Int)).foldl (fun o q => emitF e f o q.toNat) out = ks.foldl (fun o q => emitF e f o q) out := by
  intro ks
  induction ks with
  | nil => intro out; rfl
  | cons k r ih => intro out; rw [List.map_cons, List.foldl_cons, List.foldl_cons, Int.toNat_natCast, ih]
theorem emit_el {ks : List Nat} (hx : e[q]? = some x) (ho : opsS e q = ks.map fun k : Nat => (k : Int)) (h1 : ¬ (x.o = 23 ∨ x.o = 24)) (h2 : x.o ≠ 26) :
    emitF e (f + 1) out q = ks.foldl (fun o k => emitF e f o k) out ++ [x] := by
  rw [emitF, hx, ho]
  dsimp only
  rw [Option.getD_some, if_neg h1, if_neg h2, fold_nat]
theorem ops_cases (hv : (strS e).2.2 = 0) (hx : e[q]? = some x) :
    ((x.o = 23 ∨ x.o = 24) ∧ ∃ a b : Nat, a < q ∧ b < q ∧ opsS e q = [(a : Int), (b : Int)]) ∨
    (x.o = 26 ∧ ∃ a b c : Nat, a < q ∧ b < q ∧ c < q ∧ opsS e q = [(a : Int), (b : Int), (c : Int)]) ∨
    (¬ (x.o = 23 ∨ x.o = 24) ∧ x.o ≠ 26 ∧ ∃ ks : List Nat, (∀ k ∈ ks, k < q) ∧ ks.length ≤ 3 ∧ opsS e q = ks.map fun k : Nat => (k : Int)) := by
  obtain ⟨_, _, hlen, hall, _⟩ := str_ok hv
  obtain ⟨ha, _, hno⟩ := hall q _ hx
  have hops := ops_of hv hx
  have hstart := start_le hv q
  have key : ∃ ks : List Nat, ks.length = (arS x.o).toNat ∧ (∀ k ∈ ks, k < q) ∧ opsS e q = ks.map fun k : Nat => (k : Int) := by
    rcases hno with ⟨h, _⟩ | ⟨h, h1, s, h2, _⟩ | ⟨h, h1, s1, s, h2, h3, _⟩ | ⟨h, h1, s2, s1, s, h2, h3, h4, _⟩
    · rw [h] at hops ⊢
      exact ⟨[], rfl, by simp, hops⟩
    · rw [h] at hops ⊢
      refine ⟨[q - 1], rfl, by simp; omega, ?_⟩
      rw [hops, show (1 : Int).toNat = 0 + 1 from rfl, opsF_last]
      simp; omega
    · rw [h] at hops ⊢
      have := hstart _ _ (by omega) h2
      refine ⟨[s1, q - 1], rfl, by simp; omega, ?_⟩
      rw [hops, show (2 : Int).toNat = 1 + 1 from rfl, opsF_step (k := q - 1) (by omega) h2, opsF_last]
      simp; omega
    · rw [h] at hops ⊢
      have := hstart _ _ (by omega) h2
      have := hstart _ _ (by omega) h3
      refine ⟨[s1, s2, q - 1], rfl, by simp; omega, ?_⟩
      rw [hops, show (3 : Int).toNat = 2 + 1 from rfl, opsF_step (k := q - 1) (by omega) h2, opsF_step (k := s2) (by omega) h3, opsF_last]
      simp; omega
  obtain ⟨ks, hl, hk, ho⟩ := key
  by_cases c1 : x.o = 23 ∨ x.o = 24
  · left
    have h2 : arS x.o = 2 := by rcases c1 with c | c <;> rw [c] <;> rfl
    rw [h2] at hl
    match ks, hl with
    | [a, b], _ => exact ⟨c1, a, b, hk a (by simp), hk b (by simp), ho⟩
  · by_cases c2 : x.o = 26
    · right; left
      have h2 : arS x.o = 3 := by rw [c2]; rfl
      rw [h2] at hl
      match ks, hl with
      | [a, b, c], _ => exact ⟨c2, a, b, c, hk a (by simp), hk b (by simp), hk c (by simp), ho⟩
    · have := (arS_bd x.o).2
      exact .inr (.inr ⟨c1, c2, ks, hk, by omega, ho⟩)
end

/-- the expression lies in a block older than B -/
structure EAt (w : World) (B eb eo : Nat) (e : List Nd) : Prop where
  lt : eb < B
  at_ : ∀ (j : Nat) (t : Nd), e[j]? = some t → w.cell? ⟨eb, eo + j * 2, none⟩ = some (.int .i64 t.o) ∧ w.cell? ⟨eb, eo + j * 2 + 1, none⟩ = some (.int .i64 t.n)
theorem EAt.kept {w w' : World} {B eb eo : Nat} {e : List Nd} (h : EAt w B eb eo e) (hB : B ≤ w.heap.size) (hk : Kept w w') : EAt w' B eb eo e :=
  ⟨h.lt, fun j t hj => ⟨hk.cell (p := ⟨eb, _, none⟩) (Nat.lt_of_lt_of_le h.lt hB) (h.at_ j t hj).1, hk.cell (p := ⟨eb, _, none⟩) (Nat.lt_of_lt_of_le h.lt hB) (h.at_ j t hj).2⟩⟩
theorem EAt.nds {w : World} {B eb eo cap : Nat} {e : List Nd} (h : EAt w B eb eo e) (hB : B ≤ w.heap.size) : Nds w (.slice (some ⟨eb, eo, none⟩) e.length cap) e := by
  refine ⟨_, _, rfl, fun _ => ⟨eb, eo, rfl, Nat.lt_of_lt_of_le h.lt hB, fun j x hj i u hu => ?_⟩⟩
  obtain ⟨h0, h1⟩ := h.at_ j x hj
  match i, hu with
  | 0, hu => obtain rfl := Option.some.inj hu; exact h0
  | 1, hu => obtain rfl := Option.some.inj hu; exact h1
/-- where the emission stands: code v holds out, since w0 and v0 only the code has grown; the operands lie in block g -/
structure Em (w0 : World) (v0 : Value) (B eb eo : Nat) (e : List Nd) (g : Nat) (ks : List Int) (w : World) (v : Value) (out : List Nd) : Prop where
  gath : GathR w B 34 ndF 2 v out
  grew : Grew w0 w v0 v
  ea : EAt w B eb eo e
  blk : Blk w g 3 (intC ks)
  ne : ∀ b, v.ownBlock = some b → b ≠ g
  base : B ≤ w.heap.size
section
variable {w0 : World} {v0 : Value} {B eb eo : Nat} {e : List Nd} {g : Nat} {ks : List Int} {w : World} {v : Value} {out : List Nd}
theorem Em.start (hG : GathR w0 B 34 ndF 2 v0 out) (hE : EAt w0 B eb eo e) (hB : B ≤ w0.heap.size) (hk : Kept w0 w) (hg : w0.heap.size ≤ g) (hb : Blk w g 3 (intC ks)) : Em w0 v0 B eb eo e g ks w v0 out :=
  ⟨hG.keptOwn hk, Grew.kept hk, hE.kept hB hk, hb, fun b h => by have := (hG.owned h).2; omega, Nat.le_trans hB hk.size⟩
theorem Em.call (h : Em w0 v0 B eb eo e g ks w v out) {w' : World} {v' : Value} {out' : List Nd} (hG : GathR w' B 34 ndF 2 v' out') (hR : Grew w w' v v') : Em w0 v0 B eb eo e g ks w' v' out' := by
  have hne : ∀ {b : Nat}, b < B → some b ≠ v.ownBlock := fun hb e => by have := (h.gath.owned e.symm).1; omega
  refine ⟨hG, h.grew.trans hR, ⟨h.ea.lt, fun j t hj => ?_⟩, hR.blk h.blk (fun e => h.ne g e.symm rfl), fun b hb => ?_, Nat.le_trans h.base hR.size⟩
  · obtain ⟨h0, h1⟩ := h.ea.at_ j t hj
    have hl := Nat.lt_of_lt_of_le h.ea.lt h.base
    exact ⟨hR.cell hl (hne h.ea.lt) h0, hR.cell hl (hne h.ea.lt) h1⟩
  · rcases hR.own b hb with h1 | h1
    · exact h.ne b h1
    · have := h.blk.lt
      omega
theorem Em.app (h : Em w0 v0 B eb eo e g ks w v out) {w' : World} {x : Nd} {c n g' : Nat} {t : TypeId} (hn : n = out.length) (h1 : w'.ownsRow B 34 2 (.slice (some ⟨g', 0, none⟩) (n + 1) c) (n + 1) (out.flatMap ndF ++ ndF x))
    (h2 : (w.alloc (.cells (ndF x).toArray t)).grownBy w' v.ownBlock) (h3 : v.ownBlock = some g' ∨ g' = (w.alloc (.cells (ndF x).toArray t)).heap.size) : Em w0 v0 B eb eo e g ks w' (.slice (some ⟨g', 0, none⟩) (n + 1) c) (out ++ [x]) := by
  subst hn
  exact h.call (GathR.snoc h1) (append_grew h2 h3)
theorem Em.setn (h : Em w0 v0 B eb eo e g ks w v out) {g1 : Nat} (hv : v.ownBlock = some g1) (j n : Nat) : Em w0 v0 B eb eo e g ks (w.setCell ⟨g1, j * 2 + 1, none⟩ (.int .i64 (n : Int))) v (setN out j n) :=
  h.call (h.gath.setc hv (setN_len _ _ _) (setN_flat _ _ _)) ((Grew.refl w v).setCell hv)
/-- what is read of the operands -/
theorem Em.op (h : Em w0 v0 B eb eo e g ks w v out) {i : Nat} {z : Int} (hz : ks[i]? = some z) : w.cell? ⟨g, i, none⟩ = some (.int .i64 z) := by
  rw [h.blk.cell]
  exact intC_get hz
/-- the cell of a node's N, and that it may be set -/
theorem Em.cellN (h : Em w0 v0 B eb eo e g ks w v out) {g1 n c j : Nat} (hv : v = .slice (some ⟨g1, 0, none⟩) n c) (hj : j < out.length) : (∃ u, w.cell? ⟨g1, j * 2 + 1, none⟩ = some (.int .i64 u)) ∧ ∀ i, w.frozen? ⟨g1, i, none⟩ = false := by
  subst hv
  obtain ⟨g', c', hv, ho, _, _, _, hc⟩ := h.gath.cells ndF_len (by omega)
  simp only [Value.slice.injEq, Option.some.injEq, Addr.mk.injEq] at hv
  obtain ⟨⟨rfl, _⟩, _, _⟩ := hv
  have hg : out[j]? = some out[j] := List.getElem?_eq_getElem hj
  exact ⟨⟨_, hc j _ hg 1 _ rfl⟩, fun i => h.gath.frozen rfl i⟩
theorem Em.form (h : Em w0 v0 B eb eo e g ks w v out) (hp : 0 < out.length) : ∃ g1 c, v = .slice (some ⟨g1, 0, none⟩) out.length c ∧ v.ownBlock = some g1 := by
  obtain ⟨g1, c, hv, ho, _⟩ := h.gath.cells ndF_len hp
  exact ⟨g1, c, hv, ho⟩
end
theorem Tryd.infoNode : (Tryd.prog.info? 34).map (fun i => (i.zero, i.size, i.bytes)) = some (some (.agg #[.int .i64 0, .int .i64 0]), 2, 16) := by kernel_rfl
theorem ndF_one (x : Nd) : ∀ u ∈ ndF x, u.oneCell' = true := by
  intro u hu
  simp only [ndF, List.mem_cons, List.not_mem_nil, or_false] at hu
  rcases hu with rfl | rfl <;> rfl
theorem nd_new {W : World} {x : Nd} {t : TypeId} : ∀ j u, (ndF x)[j]? = some u → (W.alloc (.cells #[.int .i64 x.o, .int .i64 x.n] t)).cell? ((⟨W.heap.size, 0, none⟩ : Addr).add j) = some u :=
  blk_cells (l := ndF x)
def emPost (e : List Nd) (f q : Nat) (B : Nat) (out : List Nd) (v : Value) (w : World) (r : Ending) (w' : World) : Prop := ∃ v', r = .returned v' ∧ GathR w' B 34 ndF 2 v' (emitF e f out q) ∧ Grew w w' v v'

set_option maxRecDepth 100000 in
set_option maxHeartbeats 16000000 in
theorem compile_any (e : List Nd) (hv : (strS e).2.2 = 0) (eb eo cap : Nat) : ∀ (f q : Nat), q < f → q < e.length → ∀ (out : List Nd) (v : Value) (w : World) (B : Nat), EAt w B eb eo e → B ≤ w.heap.size → GathR w B 34 ndF 2 v out → (emitF e f out q).length ≤ 4000 →
    Calls Tryd.prog 31 #[v, .slice (some ⟨eb, eo, none⟩) e.length cap, .int .i64 q] w (emPost e f q B out v w) := by
  obtain ⟨_, h48, _, _, _⟩ := str_ok hv
  intro f
  induction f with
  | zero => intro q h; omega
  | succ f ih =>
    intro q hqf hqe out v w B hE hB hG hb
    have hx : e[q]? = some e[q] := List.getElem?_eq_getElem hqe
    have hcs := ops_cases hv hx
    have HOP := Lib.hid (operands_any (.slice (some ⟨eb, eo, none⟩) e.length cap) e q w (hE.nds hB) hv hqe)
    have HAO := Lib.hid (fun (a b : Nat) => emit_ao (f := f) (out := out) (a := a) (b := b) hx)
    have HIF := Lib.hid (fun (a b c : Nat) => emit_if (f := f) (out := out) (a := a) (b := b) (c := c) hx)
    have HEL := Lib.hid (fun (ks : List Nat) => emit_el (f := f) (out := out) (ks := ks) hx)
    have HEA := Lib.hid (fun (W : World) (h : EAt W B eb eo e) => h.at_ q _ hx)
    generalize e[q] = x at *
    obtain ⟨op, xn⟩ := x
    dsimp only at hcs HAO HIF HEL HEA
    obtain ⟨n, hn⟩ : ∃ n, n = e.length := ⟨_, rfl⟩
    rw [← hn] at h48 hqe HOP ih ⊢
    have hqn : (q : Int) < n := by omega
    have HIH : Hid (∀ q, q < f → q < n → ∀ (out : List Nd) (v : Value) (w : World), EAt w B eb eo e → B ≤ w.heap.size → GathR w B 34 ndF 2 v out → (emitF e f out q).length ≤ 4000 →
      Calls Tryd.prog 31 #[v, .slice (some ⟨eb, eo, none⟩) n cap, .int .i64 q] w (emPost e f q B out v w)) := Lib.hid (fun q h1 h2 out v w h3 h4 h5 h6 => ih q h1 h2 out v w B h3 h4 h5 h6)
    obtain ⟨i0, hi, hz0, hz1, hz2⟩ := info_parts Tryd.infoNode
    unfold opsPost at HOP
    have HB := Lib.hid hb
    have HGE := Lib.hid (emit_ge e f)
    clear ih hn hx hb
    rcases hcs with ⟨hc, a, b, ha, hbq, ho⟩ | ⟨rfl, a, b, c, ha, hbq, hcq, ho⟩ | ⟨hc1, hc2, ks, hkq, hk3, ho⟩
    · have HEM := Lib.hid (HAO.out a b ho hc)
      have HB2 := Lib.hid (by have := HB.out; rwa [HEM.out, setN_len] at this)
      rw [ho] at HOP
      clear HAO HIF HEL ho HB
      obtain ⟨op', hop'⟩ : ∃ op' : Int, op' = if op = 24 then 53 else 52 := ⟨_, rfl⟩
      rw [← hop'] at HEM HB2
      have HOPV := Lib.hid hop'
      clear hop'
      obtain ⟨o1, ho1⟩ : ∃ o1, o1 = emitF e f out a := ⟨_, rfl⟩
      rw [← ho1] at HEM HB2
      obtain ⟨o2, ho2⟩ : ∃ o2, o2 = emitF e f (o1 ++ [⟨op', 0⟩]) b := ⟨_, rfl⟩
      rw [← ho2] at HEM HB2
      have HL2 : o1.length + 1 ≤ o2.length := by
        have := HGE.out (o1 ++ [⟨op', 0⟩]) b
        rw [← ho2, List.length_append] at this
        exact this
      have hl2 : o2.length ≤ 4000 := HB2.out
      have HO1 := Lib.hid ho1
      have HO2 := Lib.hid ho2
      clear ho1 ho2 HB2 HGE
      rcases hc with rfl | rfl
      · obtain rfl : op' = 52 := by have := HOPV.out; simpa using this
        go_enter Tryd.func31, Tryd.ntmps31
        go_wp2_with (go_at_call 66; refine HOP.out.mono ?_; rintro r w1 ⟨u, rfl, ⟨g, rfl, hg, hblk⟩, hk⟩; have E1 := Em.start hG hE hB hk hg hblk; have X0 := (HEA.out w1 E1.ea).1; have k0 := E1.op (i := 0) rfl)
        refine (HIH.out a (by omega) (by omega) out v w1 E1.ea E1.base E1.gath (by rw [← HO1.out]; omega)).mono ?_
        rintro r w2 ⟨v2, rfl, G2, R2⟩
        rw [← HO1.out] at G2
        have E2 := E1.call G2 R2
        have k1 := E2.op (i := 1) rfl
        have X2 := (HEA.out w2 E2.ea).1
        obtain ⟨A2, c2, hv2, _, _⟩ := E2.gath.form
        subst hv2
        obtain ⟨n1, hn1⟩ : ∃ n1, n1 = o1.length := ⟨_, rfl⟩
        rw [← hn1] at E2 HL2 ⊢
        have O2 : (w2.alloc (.cells #[.int .i64 52, .int .i64 0] 34)).ownsRow B 34 2 (.slice A2 n1 c2) n1 (o1.flatMap ndF) := by
          have h := E2.gath.alloc (.cells #[.int .i64 52, .int .i64 0] 34)
          unfold GathR at h
          rwa [← hn1] at h
        have HE2 := Lib.hid E2
        have HN1 := Lib.hid hn1
        clear hn1 E1 R2 G2
        go_wp2_with (at_builtin; refine wpList_append_lies _ rfl (.tmp 39) (.tmp 42) 22 rfl B 34 i0 (.agg #[.int .i64 0, .int .i64 0]) 2 16 Tryd.underlying22 hi hz0 hz1 hz2 rfl (by decide) _ n1 (o1.flatMap ndF) rfl O2 ⟨w2.heap.size, 0, none⟩ 1 1 (ndF ⟨52, 0⟩) rfl rfl nd_new (ndF_one _) (by decide) (by unfold maxLen; omega) (by omega) (by have := E2.base; simp; omega) _ rfl ?_; intro g3 c3 w3 h1 h2 h3 _; have E3 := HE2.out.app (x := ⟨52, 0⟩) HN1.out h1 h2 h3; clear h1 h2 h3 E2 O2 HE2; have k1 := E3.op (i := 1) rfl)
        refine (HIH.out b (by omega) (by omega) _ _ w3 E3.ea E3.base E3.gath (by rw [← HO2.out]; omega)).mono ?_
        rintro r w4 ⟨v4, rfl, G4, R4⟩
        rw [← HO2.out] at G4
        have E4 := E3.call G4 R4
        obtain ⟨g4, c4, hv4, hown4⟩ := E4.form (by omega)
        have E5 := E4.setn hown4 o1.length o2.length
        rw [← HN1.out] at E5
        obtain ⟨⟨u4, hu4⟩, f4⟩ := E4.cellN hv4 (j := n1) (by omega)
        subst hv4
        have hn2 : (n1 : Int) < o2.length := by omega
        have HE5 := Lib.hid E5
        have HEM2 := Lib.hid HEM.out
        rw [← HN1.out] at HEM2
        clear E3 E4 E5 G4 R4
        go_wp2_with fail
        go_ret
        exact ⟨_, rfl, by rw [HEM2.out]; exact HE5.out.gath, HE5.out.grew⟩
      · obtain rfl : op' = 53 := by have := HOPV.out; simpa using this
        go_enter Tryd.func31, Tryd.ntmps31
        go_wp2_with (go_at_call 66; refine HOP.out.mono ?_; rintro r w1 ⟨u, rfl, ⟨g, rfl, hg, hblk⟩, hk⟩; have E1 := Em.start hG hE hB hk hg hblk; have X0 := (HEA.out w1 E1.ea).1; have k0 := E1.op (i := 0) rfl)
        refine (HIH.out a (by omega) (by omega) out v w1 E1.ea E1.base E1.gath (by rw [← HO1.out]; omega)).mono ?_
        rintro r w2 ⟨v2, rfl, G2, R2⟩
        rw [← HO1.out] at G2
        have E2 := E1.call G2 R2
        have k1 := E2.op (i := 1) rfl
        have X2 := (HEA.out w2 E2.ea).1
        obtain ⟨A2, c2, hv2, _, _⟩ := E2.gath.form
        subst hv2
        obtain ⟨n1, hn1⟩ : ∃ n1, n1 = o1.length := ⟨_, rfl⟩
        rw [← hn1] at E2 HL2 ⊢
        have O2 : (w2.alloc (.cells #[.int .i64 53, .int .i64 0] 34)).ownsRow B 34 2 (.slice A2 n1 c2) n1 (o1.flatMap ndF) := by
          have h := E2.gath.alloc (.cells #[.int .i64 53, .int .i64 0] 34)
          unfold GathR at h
          rwa [← hn1] at h
        have HE2 := Lib.hid E2
        have HN1 := Lib.hid hn1
        clear hn1 E1 R2 G2
        go_wp2_with (at_builtin; refine wpList_append_lies _ rfl (.tmp 39) (.tmp 42) 22 rfl B 34 i0 (.agg #[.int .i64 0, .int .i64 0]) 2 16 Tryd.underlying22 hi hz0 hz1 hz2 rfl (by decide) _ n1 (o1.flatMap ndF) rfl O2 ⟨w2.heap.size, 0, none⟩ 1 1 (ndF ⟨53, 0⟩) rfl rfl nd_new (ndF_one _) (by decide) (by unfold maxLen; omega) (by omega) (by have := E2.base; simp; omega) _ rfl ?_; intro g3 c3 w3 h1 h2 h3 _; have E3 := HE2.out.app (x := ⟨53, 0⟩) HN1.out h1 h2 h3; clear h1 h2 h3 E2 O2 HE2; have k1 := E3.op (i := 1) rfl)
        refine (HIH.out b (by omega) (by omega) _ _ w3 E3.ea E3.base E3.gath (by rw [← HO2.out]; omega)).mono ?_
        rintro r w4 ⟨v4, rfl, G4, R4⟩
        rw [← HO2.out] at G4
        have E4 := E3.call G4 R4
        obtain ⟨g4, c4, hv4, hown4⟩ := E4.form (by omega)
        have E5 := E4.setn hown4 o1.length o2.length
        rw [← HN1.out] at E5
        obtain ⟨⟨u4, hu4⟩, f4⟩ := E4.cellN hv4 (j := n1) (by omega)
        subst hv4
        have hn2 : (n1 : Int) < o2.length := by omega
        have HE5 := Lib.hid E5
        have HEM2 := Lib.hid HEM.out
        rw [← HN1.out] at HEM2
        clear E3 E4 E5 G4 R4
        go_wp2_with fail
        go_ret
        exact ⟨_, rfl, by rw [HEM2.out]; exact HE5.out.gath, HE5.out.grew⟩
    · have HEM := Lib.hid (HIF.out a b c ho rfl)
      have HB2 := Lib.hid (by have := HB.out; rwa [HEM.out, setN_len] at this)
      rw [ho] at HOP
      clear HAO HIF HEL ho HB
      obtain ⟨o1, ho1⟩ : ∃ o1, o1 = emitF e f out a := ⟨_, rfl⟩
      rw [← ho1] at HEM HB2
      obtain ⟨o2, ho2⟩ : ∃ o2, o2 = emitF e f (o1 ++ [⟨50, 0⟩]) b := ⟨_, rfl⟩
      rw [← ho2] at HEM HB2
      obtain ⟨o4, ho4⟩ : ∃ o4, o4 = emitF e f (setN (o2 ++ [⟨51, 0⟩]) o1.length (o2.length + 1)) c := ⟨_, rfl⟩
      rw [← ho4] at HEM HB2
      have HL2 : o1.length + 1 ≤ o2.length := by
        have := HGE.out (o1 ++ [⟨50, 0⟩]) b
        rw [← ho2, List.length_append] at this
        exact this
      have HL4 : o2.length + 1 ≤ o4.length := by
        have := HGE.out (setN (o2 ++ [⟨51, 0⟩]) o1.length (o2.length + 1)) c
        rw [← ho4, setN_len, List.length_append] at this
        exact this
      have hl4 : o4.length ≤ 4000 := HB2.out
      have HO1 := Lib.hid ho1
      have HO2 := Lib.hid ho2
      have HO4 := Lib.hid ho4
      clear ho1 ho2 ho4 HB2 HGE
      go_enter Tryd.func31, Tryd.ntmps31
      go_wp2_with (go_at_call 66; refine HOP.out.mono ?_; rintro r w1 ⟨u, rfl, ⟨g, rfl, hg, hblk⟩, hk⟩; have E1 := Em.start hG hE hB hk hg hblk; have X0 := (HEA.out w1 E1.ea).1; have k0 := E1.op (i := 0) rfl)
      refine (HIH.out a (by omega) (by omega) out v w1 E1.ea E1.base E1.gath (by rw [← HO1.out]; omega)).mono ?_
      rintro r w2 ⟨v2, rfl, G2, R2⟩
      rw [← HO1.out] at G2
      have E2 := E1.call G2 R2
      obtain ⟨A2, c2, hv2, _, _⟩ := E2.gath.form
      subst hv2
      obtain ⟨n1, hn1⟩ : ∃ n1, n1 = o1.length := ⟨_, rfl⟩
      rw [← hn1] at E2 HL2 ⊢
      have O2 : (w2.alloc (.cells #[.int .i64 50, .int .i64 0] 34)).ownsRow B 34 2 (.slice A2 n1 c2) n1 (o1.flatMap ndF) := by
        have h := E2.gath.alloc (.cells #[.int .i64 50, .int .i64 0] 34)
        unfold GathR at h
        rwa [← hn1] at h
      have HE2 := Lib.hid E2
      have HN1 := Lib.hid hn1
      clear hn1 E1 R2 G2
      go_wp2_with (at_builtin; refine wpList_append_lies _ rfl (.tmp 67) (.tmp 69) 22 rfl B 34 i0 (.agg #[.int .i64 0, .int .i64 0]) 2 16 Tryd.underlying22 hi hz0 hz1 hz2 rfl (by decide) _ n1 (o1.flatMap ndF) rfl O2 ⟨w2.heap.size, 0, none⟩ 1 1 (ndF ⟨50, 0⟩) rfl rfl nd_new (ndF_one _) (by decide) (by unfold maxLen; omega) (by omega) (by have := E2.base; simp; omega) _ rfl ?_; intro g3 c3 w3 h1 h2 h3 _; have E3 := HE2.out.app (x := ⟨50, 0⟩) HN1.out h1 h2 h3; clear h1 h2 h3 E2 O2 HE2; have k1 := E3.op (i := 1) rfl)
      refine (HIH.out b (by omega) (by omega) _ _ w3 E3.ea E3.base E3.gath (by rw [← HO2.out]; omega)).mono ?_
      rintro r w4 ⟨v4, rfl, G4, R4⟩
      rw [← HO2.out] at G4
      have E4 := E3.call G4 R4
      obtain ⟨A4, c4, hv4, _, _⟩ := E4.gath.form
      subst hv4
      obtain ⟨n2, hn2⟩ : ∃ n2, n2 = o2.length := ⟨_, rfl⟩
      rw [← hn2] at E4 HL2 HL4 ⊢
      have O4 : (w4.alloc (.cells #[.int .i64 51, .int .i64 0] 34)).ownsRow B 34 2 (.slice A4 n2 c4) n2 (o2.flatMap ndF) := by
        have h := E4.gath.alloc (.cells #[.int .i64 51, .int .i64 0] 34)
        unfold GathR at h
        rwa [← hn2] at h
      have HE4 := Lib.hid E4
      have HN2 := Lib.hid hn2
      have hn12 : (n1 : Int) < n2 + 1 := by omega
      clear hn2 E3 R4 G4
      go_wp2_with (at_builtin; refine wpList_append_lies _ rfl (.tmp 79) (.tmp 81) 22 rfl B 34 i0 (.agg #[.int .i64 0, .int .i64 0]) 2 16 Tryd.underlying22 hi hz0 hz1 hz2 rfl (by decide) _ n2 (o2.flatMap ndF) rfl O4 ⟨w4.heap.size, 0, none⟩ 1 1 (ndF ⟨51, 0⟩) rfl rfl nd_new (ndF_one _) (by decide) (by unfold maxLen; omega) (by omega) (by have := E4.base; simp; omega) _ rfl ?_; intro g5 c5 w5 h1 h2 h3 _; have E5 := HE4.out.app (x := ⟨51, 0⟩) HN2.out h1 h2 h3; clear h1 h2 h3 E4 O4 HE4; obtain ⟨⟨u5, hu5⟩, f5⟩ := E5.cellN rfl (j := n1) (by rw [List.length_append, ← HN2.out]; omega); have k2 := E5.op (i := 2) rfl; have hne5 := E5.ne g5 rfl; have hne6 := Ne.symm hne5)
      have E6 := E5.setn rfl n1 (n2 + 1)
      rw [HN1.out, HN2.out] at E6
      have HE6 := Lib.hid E6
      rw [← HN1.out, ← HN2.out] at HE6
      refine (HIH.out c (by omega) (by omega) (setN (o2 ++ [⟨51, 0⟩]) o1.length (o2.length + 1)) _ _ HE6.out.ea HE6.out.base (by have := HE6.out.gath; rw [HN1.out, HN2.out] at this ⊢; exact this) (by rw [← HO4.out]; omega)).mono ?_
      rintro r w7 ⟨v7, rfl, G7, R7⟩
      rw [← HO4.out] at G7
      have E7 := HE6.out.call G7 R7
      obtain ⟨g7, c7, hv7, hown7⟩ := E7.form (by omega)
      have E8 := E7.setn hown7 n2 o4.length
      obtain ⟨⟨u7, hu7⟩, f7⟩ := E7.cellN hv7 (j := n2) (by omega)
      subst hv7
      have hn24 : (n2 : Int) < o4.length := by omega
      have HE8 := Lib.hid E8
      have HEM2 := Lib.hid HEM.out
      rw [← HN2.out] at HEM2
      clear E6 E7 E8 G7 R7 HE6
      go_wp2_with fail
      go_ret
      exact ⟨_, rfl, by rw [HEM2.out]; exact HE8.out.gath, HE8.out.grew⟩
    · have HEM := Lib.hid (HEL.out ks ho hc1 hc2)
      have HB2 := Lib.hid (by have := HB.out; rwa [HEM.out, List.length_append] at this)
      rw [ho] at HOP
      unfold Fresh at HOP
      rw [List.length_map] at HOP
      have q1 := beq_noB (show op ≠ 23 by omega)
      have q2 := beq_noB (show op ≠ 24 by omega)
      have q3 := beq_noB (show op ≠ 26 by omega)
      obtain ⟨o2, ho2⟩ : ∃ o2, o2 = ks.foldl (fun o k => emitF e f o k) out := ⟨_, rfl⟩
      rw [← ho2] at HEM HB2
      have hl2 : o2.length + 1 ≤ 4000 := HB2.out
      have hfold : ∀ i, (ks.take i).foldl (fun o k => emitF e f o k) out = o2 ∨ i < ks.length := fun i => by
        rcases Nat.lt_or_ge i ks.length with h | h
        · exact .inr h
        · left; rw [List.take_of_length_le h, ho2]
      have hfl : ∀ i, ((ks.take i).foldl (fun o k => emitF e f o k) out).length ≤ o2.length := fun i => by
        have h := fold_ge e f (ks.drop i) ((ks.take i).foldl (fun o k => emitF e f o k) out)
        rw [← List.foldl_append, List.take_append_drop, ← ho2] at h
        exact h
      have hnext : ∀ i k, ks[i]? = some k → (ks.take (i + 1)).foldl (fun o k => emitF e f o k) out = emitF e f ((ks.take i).foldl (fun o k => emitF e f o k) out) k := fun i k h => by
        rw [List.take_add_one, h, List.foldl_append]; rfl
      have HFO := Lib.hid hfold
      have HFL := Lib.hid hfl
      have HNX := Lib.hid hnext
      obtain ⟨m, hm⟩ : ∃ m, m = ks.length := ⟨_, rfl⟩
      rw [← hm] at hk3 HFO HOP
      have HM := Lib.hid hm
      have HKQ := Lib.hid hkq
      have hkz : ∀ (i k : Nat), ks[i]? = some k → (ks.map fun k : Nat => (k : Int))[i]? = some (k : Int) := fun i k h => by rw [List.getElem?_map, h]; rfl
      have HKZ := Lib.hid hkz
      generalize (ks.map fun k : Nat => (k : Int)) = kz at *
      clear HAO HIF HEL ho HB hc1 hc2 ho2 hfold hfl hnext hm hkq hkz HB2 HGE
      go_enter Tryd.func31, Tryd.ntmps31
      go_wp2_with (go_at_call 66; refine HOP.out.mono ?_; rintro r w1 ⟨u, rfl, ⟨g, rfl, hg, hblk⟩, hk⟩; have E1 := Em.start hG hE hB hk hg hblk; have X0 := (HEA.out w1 E1.ea).1)
      go_loopw [0, 104] (fun x y wr => ∃ i : Nat, y = .int .i64 i ∧ i ≤ m ∧ Em w v B eb eo e g kz wr x ((ks.take i).foldl (fun o k => emitF e f o k) out)) (fun _ y _ => m - (intOf y).toNat)
      case atStart => exact ⟨0, rfl, Nat.zero_le _, E1⟩
      case round =>
        obtain ⟨i, rfl, him, E⟩ := hrel
        clear E1 X0 hblk hk
        by_cases hi : i < m
        · have hgk : ks[i]? = some (ks[i]'(by have := HM.out; omega)) := List.getElem?_eq_getElem _
          generalize ks[i]'(by have := HM.out; omega) = k at *
          have hkq := HKQ.out k (List.mem_of_getElem? hgk)
          have hnx := HNX.out i k hgk
          have hfl := HFL.out (i + 1)
          rw [hnx] at hfl
          have k0 := E.op (HKZ.out i k hgk)
          have hii : (i : Int) < m := by omega
          have hi3 : (i : Int) ≤ 3 := by omega
          have HNX2 := Lib.hid hnx
          have HE := Lib.hid E
          clear hnx hgk E
          go_wp2_with fail
          refine (HIH.out k (by omega) (by omega) _ _ wr HE.out.ea HE.out.base HE.out.gath (by omega)).mono ?_
          rintro r w2 ⟨v2, rfl, G2, R2⟩
          have HE2 := Lib.hid (HE.out.call G2 R2)
          rw [← HNX2.out] at HE2
          clear G2 R2 HE
          go_wp2_with fail
          go_roundw
          case rel => exact ⟨i + 1, rfl, hi, HE2.out⟩
          case measure => simp [intOf]; omega
        · obtain rfl : i = m := by omega
          have hii : ¬ ((i : Int) < i) := by omega
          have ho := (HFO.out i).resolve_right (by omega)
          rw [ho] at E
          obtain ⟨X0, X1⟩ := HEA.out wr E.ea
          obtain ⟨A2, c2, hv2, _, _⟩ := E.gath.form
          subst hv2
          obtain ⟨n2, hn2⟩ : ∃ n2, n2 = o2.length := ⟨_, rfl⟩
          rw [← hn2] at E hl2
          have O2 : (wr.alloc (.cells #[.int .i64 op, .int .i64 xn] 34)).ownsRow B 34 2 (.slice A2 n2 c2) n2 (o2.flatMap ndF) := by
            have h := E.gath.alloc (.cells #[.int .i64 op, .int .i64 xn] 34)
            unfold GathR at h
            rwa [← hn2] at h
          have Er := E
          have HE2 := Lib.hid E
          have HN2 := Lib.hid hn2
          clear hn2 E ho hi
          rw [← HN2.out]
          go_wp2_with (at_builtin; refine wpList_append_lies _ rfl (.tmp 113) (.tmp 118) 22 rfl B 34 i0 (.agg #[.int .i64 0, .int .i64 0]) 2 16 Tryd.underlying22 hi hz0 hz1 hz2 rfl (by decide) _ n2 (o2.flatMap ndF) rfl O2 ⟨wr.heap.size, 0, none⟩ 1 1 (ndF ⟨op, xn⟩) rfl rfl nd_new (ndF_one _) (by decide) (by unfold maxLen; omega) (by omega) (by have := Er.base; simp; omega) _ rfl ?_; intro g3 c3 w3 h1 h2 h3 _)
          have HE3 := Lib.hid (HE2.out.app (x := ⟨op, xn⟩) HN2.out h1 h2 h3)
          clear h1 h2 h3 Er O2 HE2
          go_ret
          exact ⟨_, rfl, by rw [HEM.out]; exact HE3.out.gath, HE3.out.grew⟩

set_option maxRecDepth 100000 in
set_option maxHeartbeats 16000000 in
theorem remit_any (e : List Nd) (hv : (strS e).2.2 = 0) (eb eo cap : Nat) : ∀ (f q : Nat), q < f → q < e.length → ∀ (out : List Nd) (v : Value) (w : World) (B : Nat), EAt w B eb eo e → B ≤ w.heap.size → GathR w B 34 ndF 2 v out → (emitF e f out q).length ≤ 4000 →
    Calls Tryd.prog 33 #[v, .slice (some ⟨eb, eo, none⟩) e.length cap, .int .i64 q] w (emPost e f q B out v w) := by
  obtain ⟨_, h48, _, _, _⟩ := str_ok hv
  intro f
  induction f with
  | zero => intro q h; omega
  | succ f ih =>
    intro q hqf hqe out v w B hE hB hG hb
    have hx : e[q]? = some e[q] := List.getElem?_eq_getElem hqe
    have hcs := ops_cases hv hx
    have HOP := Lib.hid (roperands_any (.slice (some ⟨eb, eo, none⟩) e.length cap) e q w (hE.nds hB) hv hqe)
    have HAO := Lib.hid (fun (a b : Nat) => emit_ao (f := f) (out := out) (a := a) (b := b) hx)
    have HIF := Lib.hid (fun (a b c : Nat) => emit_if (f := f) (out := out) (a := a) (b := b) (c := c) hx)
    have HEL := Lib.hid (fun (ks : List Nat) => emit_el (f := f) (out := out) (ks := ks) hx)
    have HEA := Lib.hid (fun (W : World) (h : EAt W B eb eo e) => h.at_ q _ hx)
    generalize e[q] = x at *
    obtain ⟨op, xn⟩ := x
    dsimp only at hcs HAO HIF HEL HEA
    obtain ⟨n, hn⟩ : ∃ n, n = e.length := ⟨_, rfl⟩
    rw [← hn] at h48 hqe HOP ih ⊢
    have hqn : (q : Int) < n := by omega
    have HIH : Hid (∀ q, q < f → q < n → ∀ (out : List Nd) (v : Value) (w : World), EAt w B eb eo e → B ≤ w.heap.size → GathR w B 34 ndF 2 v out → (emitF e f out q).length ≤ 4000 →
      Calls Tryd.prog 33 #[v, .slice (some ⟨eb, eo, none⟩) n cap, .int .i64 q] w (emPost e f q B out v w)) := Lib.hid (fun q h1 h2 out v w h3 h4 h5 h6 => ih q h1 h2 out v w B h3 h4 h5 h6)
    obtain ⟨i0, hi, hz0, hz1, hz2⟩ := info_parts Tryd.infoNode
    unfold opsPost at HOP
    have HB := Lib.hid hb
    have HGE := Lib.hid (emit_ge e f)
    clear ih hn hx hb
    rcases hcs with ⟨hc, a, b, ha, hbq, ho⟩ | ⟨rfl, a, b, c, ha, hbq, hcq, ho⟩ | ⟨hc1, hc2, ks, hkq, hk3, ho⟩
    · have HEM := Lib.hid (HAO.out a b ho hc)
      have HB2 := Lib.hid (by have := HB.out; rwa [HEM.out, setN_len] at this)
      rw [ho] at HOP
      clear HAO HIF HEL ho HB
      obtain ⟨op', hop'⟩ : ∃ op' : Int, op' = if op = 24 then 53 else 52 := ⟨_, rfl⟩
      rw [← hop'] at HEM HB2
      have HOPV := Lib.hid hop'
      clear hop'
      obtain ⟨o1, ho1⟩ : ∃ o1, o1 = emitF e f out a := ⟨_, rfl⟩
      rw [← ho1] at HEM HB2
      obtain ⟨o2, ho2⟩ : ∃ o2, o2 = emitF e f (o1 ++ [⟨op', 0⟩]) b := ⟨_, rfl⟩
      rw [← ho2] at HEM HB2
      have HL2 : o1.length + 1 ≤ o2.length := by
        have := HGE.out (o1 ++ [⟨op', 0⟩]) b
        rw [← ho2, List.length_append] at this
        exact this
      have hl2 : o2.length ≤ 4000 := HB2.out
      have HO1 := Lib.hid ho1
      have HO2 := Lib.hid ho2
      clear ho1 ho2 HB2 HGE
      rcases hc with rfl | rfl
      · obtain rfl : op' = 52 := by have := HOPV.out; simpa using this
        go_enter Tryd.func33, Tryd.ntmps33
        go_wp2_with (go_at_call 68; refine HOP.out.mono ?_; rintro r w1 ⟨u, rfl, ⟨g, rfl, hg, hblk⟩, hk⟩; have E1 := Em.start hG hE hB hk hg hblk; have X0 := (HEA.out w1 E1.ea).1; have k0 := E1.op (i := 0) rfl)
        refine (HIH.out a (by omega) (by omega) out v w1 E1.ea E1.base E1.gath (by rw [← HO1.out]; omega)).mono ?_
        rintro r w2 ⟨v2, rfl, G2, R2⟩
        rw [← HO1.out] at G2
        have E2 := E1.call G2 R2
        have k1 := E2.op (i := 1) rfl
        have X2 := (HEA.out w2 E2.ea).1
        obtain ⟨A2, c2, hv2, _, _⟩ := E2.gath.form
        subst hv2
        obtain ⟨n1, hn1⟩ : ∃ n1, n1 = o1.length := ⟨_, rfl⟩
        rw [← hn1] at E2 HL2 ⊢
        have O2 : (w2.alloc (.cells #[.int .i64 52, .int .i64 0] 34)).ownsRow B 34 2 (.slice A2 n1 c2) n1 (o1.flatMap ndF) := by
          have h := E2.gath.alloc (.cells #[.int .i64 52, .int .i64 0] 34)
          unfold GathR at h
          rwa [← hn1] at h
        have HE2 := Lib.hid E2
        have HN1 := Lib.hid hn1
        clear hn1 E1 R2 G2
        go_wp2_with (at_builtin; refine wpList_append_lies _ rfl (.tmp 38) (.tmp 41) 22 rfl B 34 i0 (.agg #[.int .i64 0, .int .i64 0]) 2 16 Tryd.underlying22 hi hz0 hz1 hz2 rfl (by decide) _ n1 (o1.flatMap ndF) rfl O2 ⟨w2.heap.size, 0, none⟩ 1 1 (ndF ⟨52, 0⟩) rfl rfl nd_new (ndF_one _) (by decide) (by unfold maxLen; omega) (by omega) (by have := E2.base; simp; omega) _ rfl ?_; intro g3 c3 w3 h1 h2 h3 _; have E3 := HE2.out.app (x := ⟨52, 0⟩) HN1.out h1 h2 h3; clear h1 h2 h3 E2 O2 HE2; have k1 := E3.op (i := 1) rfl)
        refine (HIH.out b (by omega) (by omega) _ _ w3 E3.ea E3.base E3.gath (by rw [← HO2.out]; omega)).mono ?_
        rintro r w4 ⟨v4, rfl, G4, R4⟩
        rw [← HO2.out] at G4
        have E4 := E3.call G4 R4
        obtain ⟨g4, c4, hv4, hown4⟩ := E4.form (by omega)
        have E5 := E4.setn hown4 o1.length o2.length
        rw [← HN1.out] at E5
        obtain ⟨⟨u4, hu4⟩, f4⟩ := E4.cellN hv4 (j := n1) (by omega)
        subst hv4
        have hn2 : (n1 : Int) < o2.length := by omega
        have HE5 := Lib.hid E5
        have HEM2 := Lib.hid HEM.out
        rw [← HN1.out] at HEM2
        clear E3 E4 E5 G4 R4
        go_wp2_with fail
        go_ret
        exact ⟨_, rfl, by rw [HEM2.out]; exact HE5.out.gath, HE5.out.grew⟩
      · obtain rfl : op' = 53 := by have := HOPV.out; simpa using this
        go_enter Tryd.func33, Tryd.ntmps33
        go_wp2_with (go_at_call 68; refine HOP.out.mono ?_; rintro r w1 ⟨u, rfl, ⟨g, rfl, hg, hblk⟩, hk⟩; have E1 := Em.start hG hE hB hk hg hblk; have X0 := (HEA.out w1 E1.ea).1; have k0 := E1.op (i := 0) rfl)
        refine (HIH.out a (by omega) (by omega) out v w1 E1.ea E1.base E1.gath (by rw [← HO1.out]; omega)).mono ?_
        rintro r w2 ⟨v2, rfl, G2, R2⟩
        rw [← HO1.out] at G2
        have E2 := E1.call G2 R2
        have k1 := E2.op (i := 1) rfl
        have X2 := (HEA.out w2 E2.ea).1
        obtain ⟨A2, c2, hv2, _, _⟩ := E2.gath.form
        subst hv2
        obtain ⟨n1, hn1⟩ : ∃ n1, n1 = o1.length := ⟨_, rfl⟩
        rw [← hn1] at E2 HL2 ⊢
        have O2 : (w2.alloc (.cells #[.int .i64 53, .int .i64 0] 34)).ownsRow B 34 2 (.slice A2 n1 c2) n1 (o1.flatMap ndF) := by
          have h := E2.gath.alloc (.cells #[.int .i64 53, .int .i64 0] 34)
          unfold GathR at h
          rwa [← hn1] at h
        have HE2 := Lib.hid E2
        have HN1 := Lib.hid hn1
        clear hn1 E1 R2 G2
        go_wp2_with (at_builtin; refine wpList_append_lies _ rfl (.tmp 38) (.tmp 41) 22 rfl B 34 i0 (.agg #[.int .i64 0, .int .i64 0]) 2 16 Tryd.underlying22 hi hz0 hz1 hz2 rfl (by decide) _ n1 (o1.flatMap ndF) rfl O2 ⟨w2.heap.size, 0, none⟩ 1 1 (ndF ⟨53, 0⟩) rfl rfl nd_new (ndF_one _) (by decide) (by unfold maxLen; omega) (by omega) (by have := E2.base; simp; omega) _ rfl ?_; intro g3 c3 w3 h1 h2 h3 _; have E3 := HE2.out.app (x := ⟨53, 0⟩) HN1.out h1 h2 h3; clear h1 h2 h3 E2 O2 HE2; have k1 := E3.op (i := 1) rfl)
        refine (HIH.out b (by omega) (by omega) _ _ w3 E3.ea E3.base E3.gath (by rw [← HO2.out]; omega)).mono ?_
        rintro r w4 ⟨v4, rfl, G4, R4⟩
        rw [← HO2.out] at G4
        have E4 := E3.call G4 R4
        obtain ⟨g4, c4, hv4, hown4⟩ := E4.form (by omega)
        have E5 := E4.setn hown4 o1.length o2.length
        rw [← HN1.out] at E5
        obtain ⟨⟨u4, hu4⟩, f4⟩ := E4.cellN hv4 (j := n1) (by omega)
        subst hv4
        have hn2 : (n1 : Int) < o2.length := by omega
        have HE5 := Lib.hid E5
        have HEM2 := Lib.hid HEM.out
        rw [← HN1.out] at HEM2
        clear E3 E4 E5 G4 R4
        go_wp2_with fail
        go_ret
        exact ⟨_, rfl, by rw [HEM2.out]; exact HE5.out.gath, HE5.out.grew⟩
    · have HEM := Lib.hid (HIF.out a b c ho rfl)
      have HB2 := Lib.hid (by have := HB.out; rwa [HEM.out, setN_len] at this)
      rw [ho] at HOP
      clear HAO HIF HEL ho HB
      obtain ⟨o1, ho1⟩ : ∃ o1, o1 = emitF e f out a := ⟨_, rfl⟩
      rw [← ho1] at HEM HB2
      obtain ⟨o2, ho2⟩ : ∃ o2, o2 = emitF e f (o1 ++ [⟨50, 0⟩]) b := ⟨_, rfl⟩
      rw [← ho2] at HEM HB2
      obtain ⟨o4, ho4⟩ : ∃ o4, o4 = emitF e f (setN (o2 ++ [⟨51, 0⟩]) o1.length (o2.length + 1)) c := ⟨_, rfl⟩
      rw [← ho4] at HEM HB2
      have HL2 : o1.length + 1 ≤ o2.length := by
        have := HGE.out (o1 ++ [⟨50, 0⟩]) b
        rw [← ho2, List.length_append] at this
        exact this
      have HL4 : o2.length + 1 ≤ o4.length := by
        have := HGE.out (setN (o2 ++ [⟨51, 0⟩]) o1.length (o2.length + 1)) c
        rw [← ho4, setN_len, List.length_append] at this
        exact this
      have hl4 : o4.length ≤ 4000 := HB2.out
      have HO1 := Lib.hid ho1
      have HO2 := Lib.hid ho2
      have HO4 := Lib.hid ho4
      clear ho1 ho2 ho4 HB2 HGE
      go_enter Tryd.func33, Tryd.ntmps33
      go_wp2_with (go_at_call 68; refine HOP.out.mono ?_; rintro r w1 ⟨u, rfl, ⟨g, rfl, hg, hblk⟩, hk⟩; have E1 := Em.start hG hE hB hk hg hblk; have X0 := (HEA.out w1 E1.ea).1; have k0 := E1.op (i := 0) rfl)
      refine (HIH.out a (by omega) (by omega) out v w1 E1.ea E1.base E1.gath (by rw [← HO1.out]; omega)).mono ?_
      rintro r w2 ⟨v2, rfl, G2, R2⟩
      rw [← HO1.out] at G2
      have E2 := E1.call G2 R2
      obtain ⟨A2, c2, hv2, _, _⟩ := E2.gath.form
      subst hv2
      obtain ⟨n1, hn1⟩ : ∃ n1, n1 = o1.length := ⟨_, rfl⟩
      rw [← hn1] at E2 HL2 ⊢
      have O2 : (w2.alloc (.cells #[.int .i64 50, .int .i64 0] 34)).ownsRow B 34 2 (.slice A2 n1 c2) n1 (o1.flatMap ndF) := by
        have h := E2.gath.alloc (.cells #[.int .i64 50, .int .i64 0] 34)
        unfold GathR at h
        rwa [← hn1] at h
      have HE2 := Lib.hid E2
      have HN1 := Lib.hid hn1
      clear hn1 E1 R2 G2
      go_wp2_with (at_builtin; refine wpList_append_lies _ rfl (.tmp 66) (.tmp 68) 22 rfl B 34 i0 (.agg #[.int .i64 0, .int .i64 0]) 2 16 Tryd.underlying22 hi hz0 hz1 hz2 rfl (by decide) _ n1 (o1.flatMap ndF) rfl O2 ⟨w2.heap.size, 0, none⟩ 1 1 (ndF ⟨50, 0⟩) rfl rfl nd_new (ndF_one _) (by decide) (by unfold maxLen; omega) (by omega) (by have := E2.base; simp; omega) _ rfl ?_; intro g3 c3 w3 h1 h2 h3 _; have E3 := HE2.out.app (x := ⟨50, 0⟩) HN1.out h1 h2 h3; clear h1 h2 h3 E2 O2 HE2; have k1 := E3.op (i := 1) rfl)
      refine (HIH.out b (by omega) (by omega) _ _ w3 E3.ea E3.base E3.gath (by rw [← HO2.out]; omega)).mono ?_
      rintro r w4 ⟨v4, rfl, G4, R4⟩
      rw [← HO2.out] at G4
      have E4 := E3.call G4 R4
      obtain ⟨A4, c4, hv4, _, _⟩ := E4.gath.form
      subst hv4
      obtain ⟨n2, hn2⟩ : ∃ n2, n2 = o2.length := ⟨_, rfl⟩
      rw [← hn2] at E4 HL2 HL4 ⊢
      have O4 : (w4.alloc (.cells #[.int .i64 51, .int .i64 0] 34)).ownsRow B 34 2 (.slice A4 n2 c4) n2 (o2.flatMap ndF) := by
        have h := E4.gath.alloc (.cells #[.int .i64 51, .int .i64 0] 34)
        unfold GathR at h
        rwa [← hn2] at h
      have HE4 := Lib.hid E4
      have HN2 := Lib.hid hn2
      have hn12 : (n1 : Int) < n2 + 1 := by omega
      clear hn2 E3 R4 G4
      go_wp2_with (at_builtin; refine wpList_append_lies _ rfl (.tmp 78) (.tmp 80) 22 rfl B 34 i0 (.agg #[.int .i64 0, .int .i64 0]) 2 16 Tryd.underlying22 hi hz0 hz1 hz2 rfl (by decide) _ n2 (o2.flatMap ndF) rfl O4 ⟨w4.heap.size, 0, none⟩ 1 1 (ndF ⟨51, 0⟩) rfl rfl nd_new (ndF_one _) (by decide) (by unfold maxLen; omega) (by omega) (by have := E4.base; simp; omega) _ rfl ?_; intro g5 c5 w5 h1 h2 h3 _; have E5 := HE4.out.app (x := ⟨51, 0⟩) HN2.out h1 h2 h3; clear h1 h2 h3 E4 O4 HE4; obtain ⟨⟨u5, hu5⟩, f5⟩ := E5.cellN rfl (j := n1) (by rw [List.length_append, ← HN2.out]; omega); have k2 := E5.op (i := 2) rfl; have hne5 := E5.ne g5 rfl; have hne6 := Ne.symm hne5)
      have E6 := E5.setn rfl n1 (n2 + 1)
      rw [HN1.out, HN2.out] at E6
      have HE6 := Lib.hid E6
      rw [← HN1.out, ← HN2.out] at HE6
      refine (HIH.out c (by omega) (by omega) (setN (o2 ++ [⟨51, 0⟩]) o1.length (o2.length + 1)) _ _ HE6.out.ea HE6.out.base (by have := HE6.out.gath; rw [HN1.out, HN2.out] at this ⊢; exact this) (by rw [← HO4.out]; omega)).mono ?_
      rintro r w7 ⟨v7, rfl, G7, R7⟩
      rw [← HO4.out] at G7
      have E7 := HE6.out.call G7 R7
      obtain ⟨g7, c7, hv7, hown7⟩ := E7.form (by omega)
      have E8 := E7.setn hown7 n2 o4.length
      obtain ⟨⟨u7, hu7⟩, f7⟩ := E7.cellN hv7 (j := n2) (by omega)
      subst hv7
      have hn24 : (n2 : Int) < o4.length := by omega
      have HE8 := Lib.hid E8
      have HEM2 := Lib.hid HEM.out
      rw [← HN2.out] at HEM2
      clear E6 E7 E8 G7 R7 HE6
      go_wp2_with fail
      go_ret
      exact ⟨_, rfl, by rw [HEM2.out]; exact HE8.out.gath, HE8.out.grew⟩
    · have HEM := Lib.hid (HEL.out ks ho hc1 hc2)
      have HB2 := Lib.hid (by have := HB.out; rwa [HEM.out, List.length_append] at this)
      rw [ho] at HOP
      unfold Fresh at HOP
      rw [List.length_map] at HOP
      have q1 := beq_noB (show op ≠ 23 by omega)
      have q2 := beq_noB (show op ≠ 24 by omega)
      have q3 := beq_noB (show op ≠ 26 by omega)
      obtain ⟨o2, ho2⟩ : ∃ o2, o2 = ks.foldl (fun o k => emitF e f o k) out := ⟨_, rfl⟩
      rw [← ho2] at HEM HB2
      have hl2 : o2.length + 1 ≤ 4000 := HB2.out
      have hfold : ∀ i, (ks.take i).foldl (fun o k => emitF e f o k) out = o2 ∨ i < ks.length := fun i => by
        rcases Nat.lt_or_ge i ks.length with h | h
        · exact .inr h
        · left; rw [List.take_of_length_le h, ho2]
      have hfl : ∀ i, ((ks.take i).foldl (fun o k => emitF e f o k) out).length ≤ o2.length := fun i => by
        have h := fold_ge e f (ks.drop i) ((ks.take i).foldl (fun o k => emitF e f o k) out)
        rw [← List.foldl_append, List.take_append_drop, ← ho2] at h
        exact h
      have hnext : ∀ i k, ks[i]? = some k → (ks.take (i + 1)).foldl (fun o k => emitF e f o k) out = emitF e f ((ks.take i).foldl (fun o k => emitF e f o k) out) k := fun i k h => by
        rw [List.take_add_one, h, List.foldl_append]; rfl
      have HFO := Lib.hid hfold
      have HFL := Lib.hid hfl
      have HNX := Lib.hid hnext
      obtain ⟨m, hm⟩ : ∃ m, m = ks.length := ⟨_, rfl⟩
      rw [← hm] at hk3 HFO HOP
      have HM := Lib.hid hm
      have HKQ := Lib.hid hkq
      have hkz : ∀ (i k : Nat), ks[i]? = some k → (ks.map fun k : Nat => (k : Int))[i]? = some (k : Int) := fun i k h => by rw [List.getElem?_map, h]; rfl
      have HKZ := Lib.hid hkz
      generalize (ks.map fun k : Nat => (k : Int)) = kz at *
      clear HAO HIF HEL ho HB hc1 hc2 ho2 hfold hfl hnext hm hkq hkz HB2 HGE
      go_enter Tryd.func33, Tryd.ntmps33
      go_wp2_with (go_at_call 68; refine HOP.out.mono ?_; rintro r w1 ⟨u, rfl, ⟨g, rfl, hg, hblk⟩, hk⟩; have E1 := Em.start hG hE hB hk hg hblk; have X0 := (HEA.out w1 E1.ea).1)
      go_loopw [0, 12] (fun x y wr => ∃ i : Nat, y = .int .i64 i ∧ i ≤ m ∧ Em w v B eb eo e g kz wr x ((ks.take i).foldl (fun o k => emitF e f o k) out)) (fun _ y _ => m - (intOf y).toNat)
      case atStart => exact ⟨0, rfl, Nat.zero_le _, E1⟩
      case round =>
        obtain ⟨i, rfl, him, E⟩ := hrel
        clear E1 X0 hblk hk
        by_cases hi : i < m
        · have hgk : ks[i]? = some (ks[i]'(by have := HM.out; omega)) := List.getElem?_eq_getElem _
          generalize ks[i]'(by have := HM.out; omega) = k at *
          have hkq := HKQ.out k (List.mem_of_getElem? hgk)
          have hnx := HNX.out i k hgk
          have hfl := HFL.out (i + 1)
          rw [hnx] at hfl
          have k0 := E.op (HKZ.out i k hgk)
          have hii : (i : Int) < m := by omega
          have hi3 : (i : Int) ≤ 3 := by omega
          have HNX2 := Lib.hid hnx
          have HE := Lib.hid E
          clear hnx hgk E
          go_wp2_with fail
          refine (HIH.out k (by omega) (by omega) _ _ wr HE.out.ea HE.out.base HE.out.gath (by omega)).mono ?_
          rintro r w2 ⟨v2, rfl, G2, R2⟩
          have HE2 := Lib.hid (HE.out.call G2 R2)
          rw [← HNX2.out] at HE2
          clear G2 R2 HE
          go_wp2_with fail
          go_roundw
          case rel => exact ⟨i + 1, rfl, hi, HE2.out⟩
          case measure => simp [intOf]; omega
        · obtain rfl : i = m := by omega
          have hii : ¬ ((i : Int) < i) := by omega
          have ho := (HFO.out i).resolve_right (by omega)
          rw [ho] at E
          obtain ⟨X0, X1⟩ := HEA.out wr E.ea
          obtain ⟨A2, c2, hv2, _, _⟩ := E.gath.form
          subst hv2
          obtain ⟨n2, hn2⟩ : ∃ n2, n2 = o2.length := ⟨_, rfl⟩
          rw [← hn2] at E hl2
          have O2 : (wr.alloc (.cells #[.int .i64 op, .int .i64 xn] 34)).ownsRow B 34 2 (.slice A2 n2 c2) n2 (o2.flatMap ndF) := by
            have h := E.gath.alloc (.cells #[.int .i64 op, .int .i64 xn] 34)
            unfold GathR at h
            rwa [← hn2] at h
          have Er := E
          have HE2 := Lib.hid E
          have HN2 := Lib.hid hn2
          clear hn2 E ho hi
          rw [← HN2.out]
          go_wp2_with (at_builtin; refine wpList_append_lies _ rfl (.tmp 114) (.tmp 119) 22 rfl B 34 i0 (.agg #[.int .i64 0, .int .i64 0]) 2 16 Tryd.underlying22 hi hz0 hz1 hz2 rfl (by decide) _ n2 (o2.flatMap ndF) rfl O2 ⟨wr.heap.size, 0, none⟩ 1 1 (ndF ⟨op, xn⟩) rfl rfl nd_new (ndF_one _) (by decide) (by unfold maxLen; omega) (by omega) (by have := Er.base; simp; omega) _ rfl ?_; intro g3 c3 w3 h1 h2 h3 _)
          have HE3 := Lib.hid (HE2.out.app (x := ⟨op, xn⟩) HN2.out h1 h2 h3)
          clear h1 h2 h3 Er O2 HE2
          go_ret
          exact ⟨_, rfl, by rw [HEM.out]; exact HE3.out.gath, HE3.out.grew⟩
end Go.Proofs.YtnoegcdogcbhbaaDoor
/- What Compile of package bytecode, and of its reference, computes; when two slices of operations are the same. -/
namespace Go.Proofs.YtnoegcdogcbhbaaDoor
open Go.RowKit

def compPost (xs : List Nd) (w : World) (r : Ending) (w' : World) : Prop := ∃ u, r = .returned (.tuple #[u, .int .i64 (compS xs).2]) ∧ Nds w' u (compS xs).1 ∧ Kept w w'
theorem Nds.ea {w : World} {eb eo cap : Nat} {xs : List Nd} (h : Nds w (.slice (some ⟨eb, eo, none⟩) xs.length cap) xs) (hp : 0 < xs.length) : EAt w w.heap.size eb eo xs := by
  obtain ⟨A, c, hv, hA⟩ := h.at_
  simp only [Value.slice.injEq] at hv
  obtain ⟨rfl, _, rfl⟩ := hv
  obtain ⟨b, o, hbo, hb, hc⟩ := hA hp
  simp only [Option.some.injEq, Addr.mk.injEq] at hbo
  obtain ⟨rfl, rfl, _⟩ := hbo
  exact ⟨hb, hc⟩
theorem comp_len {e : List Nd} (hv : (strS e).2.2 = 0) : (emitF e e.length [] (e.length - 1)).length ≤ 4000 := by
  obtain ⟨_, h48, _, _, _⟩ := str_ok hv
  have h := (comp_ok hv).2.1
  rw [compS, if_pos hv] at h
  have := nIf_le e e.length
  dsimp only at h
  omega

set_option maxRecDepth 100000 in
theorem compTop_any (v : Value) (xs : List Nd) (w : World) (hN : Nds w v xs) (hn : xs.length ≤ 9223372036854775807) : Calls Tryd.prog 13 #[v] w (compPost xs w) := by
  have HS := Lib.hid (starts_any v xs w hN hn)
  unfold compPost
  by_cases hv : (strS xs).2.2 = 0
  · obtain ⟨h0, h48, _, _, _⟩ := str_ok hv
    have HR := Lib.hid (show compS xs = (emitF xs xs.length [] (xs.length - 1), 0) by rw [compS, if_pos hv])
    have HL := Lib.hid (comp_len hv)
    obtain ⟨A, cap, rfl, hA⟩ := hN.at_
    obtain ⟨eb, eo, rfl, hb, _⟩ := hA h0
    have HEM := Lib.hid (compile_any xs hv eb eo cap)
    have HN := Lib.hid hN
    rw [HR.out]
    rw [hv] at HS
    obtain ⟨m, hm⟩ : ∃ m, xs.length = m + 1 := ⟨xs.length - 1, by omega⟩
    have h48 : m + 1 ≤ 48 := by omega
    have HCA := Lib.hid (fun w1 (hk : Kept w w1) => HEM.out xs.length m (by omega) (by omega) [] (.slice none 0 0) w1 w1.heap.size (Nds.ea (HN.out.kept hk) h0) (Nat.le_refl _) (GathR.nil _ _ _) (by have := HL.out; rw [show xs.length - 1 = m by omega] at this; exact this))
    rw [show xs.length - 1 = m by omega]
    generalize hq : emitF xs xs.length [] m = q at *
    have HQ := Lib.hid hq
    clear HR HL HEM HN hv hN hA hb hn h0 hq
    obtain ⟨f, hf⟩ : ∃ f, f = xs.length := ⟨_, rfl⟩
    rw [hm] at HS HCA ⊢
    unfold emPost at HCA
    have hmi : IntKind.i64.wrap (m : Int) = m := by rw [IntKind.wrap_i64]; omega
    clear hf f
    go_enter Tryd.func13, Tryd.ntmps13
    go_wp2_with (first
      | (go_at_call 30; refine HS.out.mono ?_; rintro e w1 ⟨u, rfl, _, hk⟩)
      | (go_at_call 31; refine (HCA.out _ hk).mono ?_; rintro e w2 ⟨v2, rfl, hG, hR⟩))
    go_ret2
    refine ⟨_, rfl, ?_, hR.below hk (fun b h => by cases h)⟩
    have := hG.recs ndF_len
    rw [← hm, HQ.out] at this
    exact this
  · have HR := Lib.hid (show compS xs = ([], (strS xs).2.2) by rw [compS, if_neg hv])
    rw [HR.out]
    generalize (strS xs).2.2 = c at *
    have hb := bne_noB hv
    clear HR hN hn hv
    go_enter Tryd.func13, Tryd.ntmps13
    go_wp2_with (go_at_call 30; refine HS.out.mono ?_; rintro e w1 ⟨u, rfl, _, hk⟩)
    go_ret2
    exact ⟨_, rfl, Recs.nil _ _ _, hk⟩

set_option maxRecDepth 100000 in
theorem rcompTop_any (v : Value) (xs : List Nd) (w : World) (hN : Nds w v xs) (hn : xs.length ≤ 9223372036854775807) : Calls Tryd.prog 14 #[v] w (compPost xs w) := by
  have HS := Lib.hid (rstarts_any v xs w hN hn)
  unfold compPost
  by_cases hv : (strS xs).2.2 = 0
  · obtain ⟨h0, h48, _, _, _⟩ := str_ok hv
    have HR := Lib.hid (show compS xs = (emitF xs xs.length [] (xs.length - 1), 0) by rw [compS, if_pos hv])
    have HL := Lib.hid (comp_len hv)
    obtain ⟨A, cap, rfl, hA⟩ := hN.at_
    obtain ⟨eb, eo, rfl, hb, _⟩ := hA h0
    have HEM := Lib.hid (remit_any xs hv eb eo cap)
    have HN := Lib.hid hN
    rw [HR.out]
    rw [hv] at HS
    obtain ⟨m, hm⟩ : ∃ m, xs.length = m + 1 := ⟨xs.length - 1, by omega⟩
    have h48 : m + 1 ≤ 48 := by omega
    have HCA := Lib.hid (fun w1 (hk : Kept w w1) => HEM.out xs.length m (by omega) (by omega) [] (.slice none 0 0) w1 w1.heap.size (Nds.ea (HN.out.kept hk) h0) (Nat.le_refl _) (GathR.nil _ _ _) (by have := HL.out; rw [show xs.length - 1 = m by omega] at this; exact this))
    rw [show xs.length - 1 = m by omega]
    generalize hq : emitF xs xs.length [] m = q at *
    have HQ := Lib.hid hq
    clear HR HL HEM HN hv hN hA hb hn h0 hq
    obtain ⟨f, hf⟩ : ∃ f, f = xs.length := ⟨_, rfl⟩
    rw [hm] at HS HCA ⊢
    unfold emPost at HCA
    have hmi : IntKind.i64.wrap (m : Int) = m := by rw [IntKind.wrap_i64]; omega
    clear hf f
    go_enter Tryd.func14, Tryd.ntmps14
    go_wp2_with (first
      | (go_at_call 32; refine HS.out.mono ?_; rintro e w1 ⟨u, rfl, _, hk⟩)
      | (go_at_call 33; refine (HCA.out _ hk).mono ?_; rintro e w2 ⟨v2, rfl, hG, hR⟩))
    go_ret2
    refine ⟨_, rfl, ?_, hR.below hk (fun b h => by cases h)⟩
    have := hG.recs ndF_len
    rw [← hm, HQ.out] at this
    exact this
  · have HR := Lib.hid (show compS xs = ([], (strS xs).2.2) by rw [compS, if_neg hv])
    rw [HR.out]
    generalize (strS xs).2.2 = c at *
    have hb := bne_noB hv
    clear HR hN hn hv
    go_enter Tryd.func14, Tryd.ntmps14
    go_wp2_with (go_at_call 32; refine HS.out.mono ?_; rintro e w1 ⟨u, rfl, _, hk⟩)
    go_ret2
    exact ⟨_, rfl, Recs.nil _ _ _, hk⟩

set_option maxRecDepth 100000 in
set_option maxHeartbeats 4000000 in
/-- two slices of the same operations -/
theorem nodes_same (va vb : Value) (xs : List Nd) (w : World) (ha : Nds w va xs) (hb : Nds w vb xs) (hn : xs.length ≤ 1000000) :
    Calls Tryd.prog 15 #[va, vb] w fun e w' => e = .returned (.bool true) ∧ Kept w w' := by
  obtain ⟨A, ca, rfl, hA⟩ := ha.at_
  obtain ⟨B, cb, rfl, hB⟩ := hb.at_
  obtain ⟨n, hxn⟩ : ∃ n, n = xs.length := ⟨_, rfl⟩
  rw [← hxn] at hA hB hn ⊢
  have HX := Lib.hid hxn
  clear hxn
  go_enter Tryd.func15, Tryd.ntmps15
  go_wp2_with fail
  go_loopw [5] (fun z wr => ∃ pos : Nat, pos ≤ n ∧ z = .int .i64 pos ∧ Kept w wr) (fun z _ => (n - intOf z).toNat)
  case atStart => exact ⟨0, Nat.zero_le _, rfl, Kept.refl _⟩
  case round =>
    obtain ⟨pos, hps, rfl, hK⟩ := hrel
    by_cases hp : pos < n
    · obtain ⟨b1, o1, rfl, hb1, hc1⟩ := hA (by omega)
      obtain ⟨b2, o2, rfl, hb2, hc2⟩ := hB (by omega)
      have hg : xs[pos]? = some (xs[pos]'(by have := HX.out; omega)) := List.getElem?_eq_getElem _
      obtain ⟨x0, x1⟩ := hc1 pos _ hg
      obtain ⟨y0, y1⟩ := hc2 pos _ hg
      clear hc1 hc2 hA hB
      generalize xs[pos]'(by have := HX.out; omega) = T at *
      clear hg
      have hw1 := Nat.lt_of_lt_of_le hb1 hK.size
      have hw2 := Nat.lt_of_lt_of_le hb2 hK.size
      have k0 := KW.cell hw1 (hK.cell (p := ⟨b1, _, none⟩) hb1 x0)
      have k1 := KW.cell hw1 (hK.cell (p := ⟨b1, _, none⟩) hb1 x1)
      have m0 := KW.cell hw2 (hK.cell (p := ⟨b2, _, none⟩) hb2 y0)
      have m1 := KW.cell hw2 (hK.cell (p := ⟨b2, _, none⟩) hb2 y1)
      clear x0 x1 y0 y1
      have hpi : (pos : Int) < n := by omega
      go_wp2_with fail
      refine wp_region_kept (by kernel_rfl) (by kernel_rfl) ?_
      repeat (go_big_quiet_step (fail))
      refine wpQuiet_nil ?_
      rintro _ ⟨⟨wx, hx2⟩, rfl⟩
      go_wp2_with fail
      go_roundw
      case rel => exact ⟨pos + 1, hp, by go_num, hK.trans hx2⟩
      case measure => simp only [intOf]; omega
    · have hpi : ¬ ((pos : Int) < n) := by omega
      go_wp2_with fail
      go_ret
      exact ⟨rfl, hK⟩
end Go.Proofs.YtnoegcdogcbhbaaDoor
