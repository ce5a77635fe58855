/- The walk of the law AppealFinal. -/
import Derived.Test.YtpickiepkdkigaaLaw41A
import Derived.Test.YtpickiepkdkigaaFrame
namespace Go.Proofs.Ytpickiepkdkigaa
open Go.RowKit

def FinInv (a : Ap) (n : Int) : Prop := validA a = true ∧ (n = 0 ∨ (n = 1 ∧ a.st ≠ 1) ∨ (n = 2 ∧ finalA a.st = true))
theorem FinInv.bd {a : Ap} {n : Int} (h : FinInv a n) : 0 ≤ n ∧ n ≤ 2 := by rcases h.2 with h | h | h <;> omega
theorem FinInv.step {a : Ap} {n s c d : Int} (h : FinInv a n) (ht : (transS a s c d).2 = 0) :
    finalA a.st = false ∧ validA ⟨a.id, a.fr, a.til, a.filed, a.dead, s, c⟩ = true ∧ transS a s c d = (⟨a.id, a.fr, a.til, a.filed, a.dead, s, c⟩, 0) ∧ FinInv ⟨a.id, a.fr, a.til, a.filed, a.dead, s, c⟩ (n + 1) := by
  obtain ⟨h1, h2, h3, h4⟩ := trans_ok h.1 ht
  rw [h3] at h2
  refine ⟨h1, h2, ?_, h2, ?_⟩
  · rw [← h3, ← ht]
  · simp only [permB, Bool.or_eq_true, Bool.and_eq_true, beq_iff_eq] at h4
    rcases h.2 with hn | ⟨hn, hs⟩ | ⟨hn, hs⟩
    · right; left
      refine ⟨by omega, ?_⟩
      show s ≠ 1
      omega
    · right; right
      refine ⟨by omega, ?_⟩
      show finalA s = true
      simp only [finalA, Bool.or_eq_true, beq_iff_eq]
      omega
    · rw [hs] at h1; cases h1
theorem FinInv.done {a : Ap} {n : Int} (h : FinInv a n) : n < 2 ∨ (n = 2 ∧ finalA a.st = true) := by
  rcases h.2 with h | h | h
  · left; omega
  · left; omega
  · exact .inr h

theorem cell_store7 {W : World} {g b o : Nat} (h : b ≠ g) (v0 v1 v2 v3 v4 v5 v6 : Value) :
    (((((((W.setCell ⟨g, 0, none⟩ v0).setCell ⟨g, 1, none⟩ v1).setCell ⟨g, 2, none⟩ v2).setCell ⟨g, 3, none⟩ v3).setCell ⟨g, 4, none⟩ v4).setCell ⟨g, 5, none⟩ v5).setCell ⟨g, 6, none⟩ v6).cell? ⟨b, o, none⟩ = W.cell? ⟨b, o, none⟩ := by
  have hne : ∀ k, (⟨g, k, none⟩ : Addr) ≠ ⟨b, o, none⟩ := fun k e => h (by injection e with e; exact e.symm)
  rw [World.cell?_setCell_other _ _ _ _ (hne 6), World.cell?_setCell_other _ _ _ _ (hne 5), World.cell?_setCell_other _ _ _ _ (hne 4), World.cell?_setCell_other _ _ _ _ (hne 3),
    World.cell?_setCell_other _ _ _ _ (hne 2), World.cell?_setCell_other _ _ _ _ (hne 1), World.cell?_setCell_other _ _ _ _ (hne 0)]
theorem size_store7 {W : World} {g : Nat} (v0 v1 v2 v3 v4 v5 v6 : Value) :
    (((((((W.setCell ⟨g, 0, none⟩ v0).setCell ⟨g, 1, none⟩ v1).setCell ⟨g, 2, none⟩ v2).setCell ⟨g, 3, none⟩ v3).setCell ⟨g, 4, none⟩ v4).setCell ⟨g, 5, none⟩ v5).setCell ⟨g, 6, none⟩ v6).heap.size = W.heap.size := by
  simp [World.setCell]
theorem set7 {W : World} {g : Nat} {t : TypeId} {c0 c1 c2 c3 c4 c5 c6 : Value} (h : Blk W g t #[c0, c1, c2, c3, c4, c5, c6]) (v0 v1 v2 v3 v4 v5 v6 : Value) :
    Blk (((((((W.setCell ⟨g, 0, none⟩ v0).setCell ⟨g, 1, none⟩ v1).setCell ⟨g, 2, none⟩ v2).setCell ⟨g, 3, none⟩ v3).setCell ⟨g, 4, none⟩ v4).setCell ⟨g, 5, none⟩ v5).setCell ⟨g, 6, none⟩ v6) g t #[v0, v1, v2, v3, v4, v5, v6] := by
  simpa using ((((((h.set_ 0 v0).set_ 1 v1).set_ 2 v2).set_ 3 v3).set_ 4 v4).set_ 5 v5).set_ 6 v6
theorem far7 {W : World} {g b : Nat} {t : TypeId} {cs : Array Value} (h : Blk W b t cs) (hb : b ≠ g) (v0 v1 v2 v3 v4 v5 v6 : Value) :
    Blk (((((((W.setCell ⟨g, 0, none⟩ v0).setCell ⟨g, 1, none⟩ v1).setCell ⟨g, 2, none⟩ v2).setCell ⟨g, 3, none⟩ v3).setCell ⟨g, 4, none⟩ v4).setCell ⟨g, 5, none⟩ v5).setCell ⟨g, 6, none⟩ v6) b t cs :=
  ((((((h.far (p := ⟨g, 0, none⟩) hb v0).far (p := ⟨g, 1, none⟩) hb v1).far (p := ⟨g, 2, none⟩) hb v2).far (p := ⟨g, 3, none⟩) hb v3).far (p := ⟨g, 4, none⟩) hb v4).far (p := ⟨g, 5, none⟩) hb v5).far (p := ⟨g, 6, none⟩) hb v6
theorem kept7 {w W : World} {g : Nat} (h : Kept w W) (hg : w.heap.size ≤ g) (v0 v1 v2 v3 v4 v5 v6 : Value) :
    Kept w (((((((W.setCell ⟨g, 0, none⟩ v0).setCell ⟨g, 1, none⟩ v1).setCell ⟨g, 2, none⟩ v2).setCell ⟨g, 3, none⟩ v3).setCell ⟨g, 4, none⟩ v4).setCell ⟨g, 5, none⟩ v5).setCell ⟨g, 6, none⟩ v6) :=
  ((((((h.setCell (p := ⟨g, 0, none⟩) hg v0).setCell (p := ⟨g, 1, none⟩) hg v1).setCell (p := ⟨g, 2, none⟩) hg v2).setCell (p := ⟨g, 3, none⟩) hg v3).setCell (p := ⟨g, 4, none⟩) hg v4).setCell (p := ⟨g, 5, none⟩) hg v5).setCell (p := ⟨g, 6, none⟩) hg v6
/-- one transition from a valid appeal of the law's invariant: what it hands back -/
def SomeTrans (a0 a1 a2 a3 a4 a5 s n : Int) (w : World) (e : Ending) (w' : World) : Prop :=
  ∃ y0 y1 y2 y3 y4 y5 y6 k : Int, e = .returned (.tuple #[.agg #[.int .i64 y0, .int .i64 y1, .int .i64 y2, .int .i64 y3, .int .i64 y4, .int .i64 y5, .int .i64 y6], .int .i64 k]) ∧ Kept w w' ∧
    (k = 0 → y0 = a0 ∧ y1 = a1 ∧ y2 = a2 ∧ y3 = a3 ∧ y4 = a4 ∧ y5 = s ∧ finalA a5 = false ∧ validA ⟨a0, a1, a2, a3, a4, s, y6⟩ = true ∧ FinInv ⟨a0, a1, a2, a3, a4, s, y6⟩ (n + 1))
theorem trans_some (a0 a1 a2 a3 a4 a5 a6 s c d n : Int) (w : World) (h : FinInv ⟨a0, a1, a2, a3, a4, a5, a6⟩ n) :
    Calls Try.prog 26 #[.agg #[.int .i64 a0, .int .i64 a1, .int .i64 a2, .int .i64 a3, .int .i64 a4, .int .i64 a5, .int .i64 a6], .int .i64 s, .int .i64 c, .int .i64 d] w (SomeTrans a0 a1 a2 a3 a4 a5 s n w) := by
  refine (trans_any a0 a1 a2 a3 a4 a5 a6 s c d w).mono fun e w' ⟨he, hk⟩ => ?_
  refine ⟨_, _, _, _, _, _, _, _, he, hk, fun h0 => ?_⟩
  obtain ⟨h1, h2, h3, h4⟩ := h.step h0
  rw [h3]
  exact ⟨rfl, rfl, rfl, rfl, rfl, rfl, h1, h2, h4⟩

set_option maxHeartbeats 2000000 in
set_option maxRecDepth 100000 in
theorem lawFinal (i f t fi de st ce s1 s2 s3 c d : Int) (w : World) :
    Calls Try.prog 10 #[.agg #[.int .i64 i, .int .i64 f, .int .i64 t, .int .i64 fi, .int .i64 de, .int .i64 st, .int .i64 ce], .agg #[.int .i64 s1, .int .i64 s2, .int .i64 s3], .int .i64 c, .int .i64 d] w (LawPost w) := by
  cases hv : validA ⟨i, f, t, fi, de, st, ce⟩
  · have HV := Lib.hid hv
    clear hv
    go_enter Try.func10, Try.ntmps10
    go_wp2_with fail
    refine (validA_is HV.out).mono ?_
    rintro e w1 ⟨rfl, k1⟩
    go_wp2_with fail
    refine (awake41_any _).mono ?_
    rintro e w2 ⟨rfl, k2⟩
    go_wp2_with fail
    go_ret
    exact ⟨rfl, ((((Kept.refl _).alloc _).alloc _).trans k1).trans k2⟩
  · have HV := Lib.hid hv
    clear hv
    go_enter Try.func10, Try.ntmps10
    go_wp2_with fail
    refine (validA_is HV.out).mono ?_
    rintro e w1 ⟨rfl, k1⟩
    have B1 : Blk w1 w.heap.size 43 #[.int .i64 i, .int .i64 f, .int .i64 t, .int .i64 fi, .int .i64 de, .int .i64 st, .int .i64 ce] := ((Blk.new w _ _).alloc _).kept k1
    have B2 : Blk w1 (w.heap.size + 1) 50 #[.int .i64 s1, .int .i64 s2, .int .i64 s3] := by
      have h := (Blk.new (w.alloc (.cells #[.int .i64 i, .int .i64 f, .int .i64 t, .int .i64 fi, .int .i64 de, .int .i64 st, .int .i64 ce] 43)) 50 #[.int .i64 s1, .int .i64 s2, .int .i64 s3]).kept k1
      rwa [World.size_alloc] at h
    have kk : Kept w w1 := (((Kept.refl _).alloc _).alloc _).trans k1
    go_wp2_with fail
    go_loopw [9, 10] (fun x y wr => ∃ (n : Int) (j : Nat) (a : Ap), x = .int .i64 n ∧ y = .int .i64 j ∧ j ≤ 3 ∧ FinInv a n ∧ Kept w wr ∧ Blk wr w.heap.size 43 #[.int .i64 a.id, .int .i64 a.fr, .int .i64 a.til, .int .i64 a.filed, .int .i64 a.dead, .int .i64 a.st, .int .i64 a.cents] ∧ Blk wr (w.heap.size + 1) 50 #[.int .i64 s1, .int .i64 s2, .int .i64 s3])
      (fun _ y _ => 3 - (intOf y).toNat)
    case atStart => exact ⟨0, 0, ⟨i, f, t, fi, de, st, ce⟩, rfl, rfl, by omega, ⟨HV.out, .inl rfl⟩, kk, B1, B2⟩
    case round =>
      obtain ⟨n, j, ⟨a0, a1, a2, a3, a4, a5, a6⟩, rfl, rfl, hj, hinv, hw, D1, D2⟩ := hrel
      simp only at D1
      clear B1 B2 kk k1 HV
      have hb := hinv.bd
      have HI := Lib.hid hinv
      clear hinv
      have m1 := D1.cell
      have l1 := D1.lt
      by_cases hlt : j < 3
      · obtain ⟨sj, hsj⟩ : ∃ sj, (#[Value.int .i64 s1, .int .i64 s2, .int .i64 s3] : Array Value)[j]? = some (.int .i64 sj) := by
          have hj' : j = 0 ∨ j = 1 ∨ j = 2 := by omega
          rcases hj' with rfl | rfl | rfl
          · exact ⟨s1, rfl⟩
          · exact ⟨s2, rfl⟩
          · exact ⟨s3, rfl⟩
        have d0 := m1 0
        have d1 := m1 1
        have d2 := m1 2
        have d3 := m1 3
        have d4 := m1 4
        have d5 := m1 5
        have d6 := m1 6
        have dj := (D2.cell j).trans hsj
        have l2 := D2.lt
        clear m1
        simp only [List.getElem?_toArray, List.getElem?_cons_zero, List.getElem?_cons_succ] at d0 d1 d2 d3 d4 d5 d6
        go_wp2_with fail
        go_region_held3 (fun W => W.cell? ⟨w.heap.size, 0, none⟩ = some (.int .i64 a0) ∧ W.cell? ⟨w.heap.size, 1, none⟩ = some (.int .i64 a1) ∧ W.cell? ⟨w.heap.size, 2, none⟩ = some (.int .i64 a2) ∧ W.cell? ⟨w.heap.size, 3, none⟩ = some (.int .i64 a3) ∧ W.cell? ⟨w.heap.size, 4, none⟩ = some (.int .i64 a4) ∧ W.cell? ⟨w.heap.size, 5, none⟩ = some (.int .i64 a5) ∧ W.cell? ⟨w.heap.size, 6, none⟩ = some (.int .i64 a6) ∧ W.cell? ⟨w.heap.size + 1, j, none⟩ = some (.int .i64 sj) ∧ w.heap.size < W.heap.size ∧ w.heap.size + 1 < W.heap.size)
          ((repeat' apply And.intro) <;> first
            | (with_reducible refine hk'.cell ?_ ?_ <;> first | with_reducible assumption | (simp only [World.cell?_drew]; with_reducible assumption) | (simp; omega) | (simp only [World.cell?_drew]; with_reducible refine (World.cell?_alloc_past _ _ _ l1).trans ?_; with_reducible assumption) | (simp only [World.cell?_drew]; with_reducible refine (World.cell?_alloc_past _ _ _ l2).trans ?_; with_reducible assumption))
            | (with_reducible refine (World.cell?_alloc_past _ _ _ ?_).trans ?_ <;> first | with_reducible assumption | (simp; omega) | (simp only [World.cell?_drew]; with_reducible assumption) | (with_reducible refine hk'.cell ?_ ?_ <;> first | with_reducible assumption | (simp; omega) | (simp only [World.cell?_drew]; with_reducible assumption)))
            | (with_reducible refine (cell_store7 ?_ _ _ _ _ _ _ _).trans ?_ <;> first | omega | (with_reducible refine hk'.cell ?_ ?_ <;> first | with_reducible assumption | (simp; omega) | (simp only [World.cell?_drew]; with_reducible refine (World.cell?_alloc_past _ _ _ l1).trans ?_; with_reducible assumption) | (simp only [World.cell?_drew]; with_reducible refine (World.cell?_alloc_past _ _ _ l2).trans ?_; with_reducible assumption)))
            | (simp only [World.cell?_drew]; with_reducible first | assumption | (refine (World.cell?_alloc_past _ _ _ l1).trans ?_; assumption) | (refine (World.cell?_alloc_past _ _ _ l2).trans ?_; assumption))
            | with_reducible assumption | (rw [size_store7]; omega) | (simp; omega)) ((go_at_call 26; refine (trans_some _ _ _ _ _ _ _ _ _ _ _ _ HI.out).mono ?_; rintro e w' ⟨y0, y1, y2, y3, y4, y5, y6, k, rfl, hk', hy⟩; (try (have hN := Blk.kept (Blk.drew (Blk.new wr 43 #[.int .i64 0, .int .i64 0, .int .i64 0, .int .i64 0, .int .i64 0, .int .i64 0, .int .i64 0])) hk'; have hn1 := hN.cell; have hn2 := hN.frozen; have hn3 := hN.lt)); have hsx := Below.size hk'; (try simp at hsx); have hsy : w.heap.size < w'.heap.size := (by omega); have hsz : w.heap.size + 1 < w'.heap.size := (by omega)))
        · have E0 : Blk (w'.alloc (.cells #[.int .i64 y0, .int .i64 y1, .int .i64 y2, .int .i64 y3, .int .i64 y4, .int .i64 y5, .int .i64 y6] 43)) w'.heap.size 43 #[.int .i64 y0, .int .i64 y1, .int .i64 y2, .int .i64 y3, .int .i64 y4, .int .i64 y5, .int .i64 y6] := Blk.new _ _ _
          have E1 := (D1.drew.kept hk').alloc (.cells #[.int .i64 y0, .int .i64 y1, .int .i64 y2, .int .i64 y3, .int .i64 y4, .int .i64 y5, .int .i64 y6] 43)
          have E2 := (D2.drew.kept hk').alloc (.cells #[.int .i64 y0, .int .i64 y1, .int .i64 y2, .int .i64 y3, .int .i64 y4, .int .i64 y5, .int .i64 y6] 43)
          have EK : Kept w (w'.alloc (.cells #[.int .i64 y0, .int .i64 y1, .int .i64 y2, .int .i64 y3, .int .i64 y4, .int .i64 y5, .int .i64 y6] 43)) := (hw.drew.trans hk').alloc _
          generalize w'.alloc (.cells #[.int .i64 y0, .int .i64 y1, .int .i64 y2, .int .i64 y3, .int .i64 y4, .int .i64 y5, .int .i64 y6] 43) = W at E0 E1 E2 EK ⊢
          have gn1 : w.heap.size ≠ w'.heap.size := by omega
          have gn2 : w.heap.size + 1 ≠ w'.heap.size := by omega
          generalize w'.heap.size = g at E0 gn1 gn2 ⊢
          clear hsx hsy hsz hk' D1 D2 d0 d1 d2 d3 d4 d5 d6 dj hw l1 l2
          cases hk0 : (k == 0)
          · have hk1 : (k != 0) = true := by simpa using hk0
            clear hy
            go_wp2_with fail
            go_roundw
            case rel => exact ⟨n, j + 1, ⟨a0, a1, a2, a3, a4, a5, a6⟩, rfl, by go_num, by omega, HI.out, EK, E1, E2⟩
            case measure => simp only [intOf]; omega
          · have hk1 : (k != 0) = false := by simpa using hk0
            obtain ⟨rfl, rfl, rfl, rfl, rfl, rfl, hfin, hval, hnext⟩ := hy (by simpa using hk0)
            have HFIN := Lib.hid hfin
            have HVAL := Lib.hid hval
            have HNEXT := Lib.hid hnext
            clear hy hfin hval hnext
            have q0 := fun x : KW W => (E0.kept x.h).cell
            have q1 := fun x : KW W => (E1.kept x.h).cell
            have q2 := fun x : KW W => ((E2.kept x.h).cell j).trans hsj
            go_wp2_with fail
            refine wp_region_kept (by kernel_rfl) (by kernel_rfl) ?_
            repeat (go_big_quiet_step (first | (go_at_call 30; exact KW.call (finalA_is HFIN.out)) | (go_at_call 28; exact KW.call (validA_is HVAL.out))))
            refine wpQuiet_nil ?_
            rintro _ ⟨⟨wx, hx⟩, rfl⟩
            have F0 := E0.kept hx
            have F1 := E1.kept hx
            have F2 := E2.kept hx
            have FK := EK.trans hx
            clear q0 q1 q2 E0 E1 E2 EK hx
            have m0 := F0.cell
            have m1 := F1.cell
            have f1 := F1.frozen
            have l1 := F1.lt
            go_wp2_with fail
            go_roundw
            case rel => exact ⟨n + 1, j + 1, ⟨_, _, _, _, _, _, _⟩, rfl, by go_num, by omega, HNEXT.out, kept7 FK (Nat.le_refl _) _ _ _ _ _ _ _, set7 F1 _ _ _ _ _ _ _, far7 F2 (by omega) _ _ _ _ _ _ _⟩
            case measure => simp only [intOf]; omega
        · have E0 : Blk (((((((w'.setCell ⟨wr.heap.size, 0, none⟩ (.int .i64 y0)).setCell ⟨wr.heap.size, 1, none⟩ (.int .i64 y1)).setCell ⟨wr.heap.size, 2, none⟩ (.int .i64 y2)).setCell ⟨wr.heap.size, 3, none⟩ (.int .i64 y3)).setCell ⟨wr.heap.size, 4, none⟩ (.int .i64 y4)).setCell ⟨wr.heap.size, 5, none⟩ (.int .i64 y5)).setCell ⟨wr.heap.size, 6, none⟩ (.int .i64 y6)) wr.heap.size 43 #[.int .i64 y0, .int .i64 y1, .int .i64 y2, .int .i64 y3, .int .i64 y4, .int .i64 y5, .int .i64 y6] := (((((((hN.set_ 0 (.int .i64 y0)).set_ 1 (.int .i64 y1)).set_ 2 (.int .i64 y2)).set_ 3 (.int .i64 y3)).set_ 4 (.int .i64 y4)).set_ 5 (.int .i64 y5)).set_ 6 (.int .i64 y6))
          have gn1 : w.heap.size ≠ wr.heap.size := by omega
          have gn2 : w.heap.size + 1 ≠ wr.heap.size := by omega
          have E1 := far7 (g := wr.heap.size) ((D1.alloc (.cells #[.int .i64 0, .int .i64 0, .int .i64 0, .int .i64 0, .int .i64 0, .int .i64 0, .int .i64 0] 43)).drew.kept hk') gn1 (.int .i64 y0) (.int .i64 y1) (.int .i64 y2) (.int .i64 y3) (.int .i64 y4) (.int .i64 y5) (.int .i64 y6)
          have E2 := far7 (g := wr.heap.size) ((D2.alloc (.cells #[.int .i64 0, .int .i64 0, .int .i64 0, .int .i64 0, .int .i64 0, .int .i64 0, .int .i64 0] 43)).drew.kept hk') gn2 (.int .i64 y0) (.int .i64 y1) (.int .i64 y2) (.int .i64 y3) (.int .i64 y4) (.int .i64 y5) (.int .i64 y6)
          have EK := kept7 (g := wr.heap.size) ((hw.alloc (.cells #[.int .i64 0, .int .i64 0, .int .i64 0, .int .i64 0, .int .i64 0, .int .i64 0, .int .i64 0] 43)).drew.trans hk') (by omega) (.int .i64 y0) (.int .i64 y1) (.int .i64 y2) (.int .i64 y3) (.int .i64 y4) (.int .i64 y5) (.int .i64 y6)
          generalize (((((((w'.setCell ⟨wr.heap.size, 0, none⟩ (.int .i64 y0)).setCell ⟨wr.heap.size, 1, none⟩ (.int .i64 y1)).setCell ⟨wr.heap.size, 2, none⟩ (.int .i64 y2)).setCell ⟨wr.heap.size, 3, none⟩ (.int .i64 y3)).setCell ⟨wr.heap.size, 4, none⟩ (.int .i64 y4)).setCell ⟨wr.heap.size, 5, none⟩ (.int .i64 y5)).setCell ⟨wr.heap.size, 6, none⟩ (.int .i64 y6)) = W at E0 E1 E2 EK ⊢
          generalize wr.heap.size = g at E0 gn1 gn2 ⊢
          clear hN hn1 hn2 hn3 hsx hsy hsz hk' D1 D2 d0 d1 d2 d3 d4 d5 d6 dj hw l1 l2
          cases hk0 : (k == 0)
          · have hk1 : (k != 0) = true := by simpa using hk0
            clear hy
            go_wp2_with fail
            go_roundw
            case rel => exact ⟨n, j + 1, ⟨a0, a1, a2, a3, a4, a5, a6⟩, rfl, by go_num, by omega, HI.out, EK, E1, E2⟩
            case measure => simp only [intOf]; omega
          · have hk1 : (k != 0) = false := by simpa using hk0
            obtain ⟨rfl, rfl, rfl, rfl, rfl, rfl, hfin, hval, hnext⟩ := hy (by simpa using hk0)
            have HFIN := Lib.hid hfin
            have HVAL := Lib.hid hval
            have HNEXT := Lib.hid hnext
            clear hy hfin hval hnext
            have q0 := fun x : KW W => (E0.kept x.h).cell
            have q1 := fun x : KW W => (E1.kept x.h).cell
            have q2 := fun x : KW W => ((E2.kept x.h).cell j).trans hsj
            go_wp2_with fail
            refine wp_region_kept (by kernel_rfl) (by kernel_rfl) ?_
            repeat (go_big_quiet_step (first | (go_at_call 30; exact KW.call (finalA_is HFIN.out)) | (go_at_call 28; exact KW.call (validA_is HVAL.out))))
            refine wpQuiet_nil ?_
            rintro _ ⟨⟨wx, hx⟩, rfl⟩
            have F0 := E0.kept hx
            have F1 := E1.kept hx
            have F2 := E2.kept hx
            have FK := EK.trans hx
            clear q0 q1 q2 E0 E1 E2 EK hx
            have m0 := F0.cell
            have m1 := F1.cell
            have f1 := F1.frozen
            have l1 := F1.lt
            go_wp2_with fail
            go_roundw
            case rel => exact ⟨n + 1, j + 1, ⟨_, _, _, _, _, _, _⟩, rfl, by go_num, by omega, HNEXT.out, kept7 FK (Nat.le_refl _) _ _ _ _ _ _ _, set7 F1 _ _ _ _ _ _ _, far7 F2 (by omega) _ _ _ _ _ _ _⟩
            case measure => simp only [intOf]; omega
      · obtain rfl : j = 3 := by omega
        rcases HI.out.done with hn2 | ⟨hn2, hfn⟩
        · clear m1 l1 hlt
          have hbd := HI.out.bd
          go_wp2_with fail
          refine (awake41_any _).mono ?_
          rintro e w2 ⟨rfl, k2⟩
          go_wp2_with fail
          go_ret
          exact ⟨rfl, hw.trans k2⟩
        · subst hn2
          have HFN := Lib.hid hfn
          clear l1 hlt hfn
          go_wp2_with fail
          refine (finalA_is HFN.out).mono ?_
          rintro e w2 ⟨rfl, k2⟩
          go_wp2_with fail
          refine (awake41_any _).mono ?_
          rintro e w3 ⟨rfl, k3⟩
          go_wp2_with fail
          go_ret
          exact ⟨rfl, (hw.trans k2).trans k3⟩
end Go.Proofs.Ytpickiepkdkigaa
