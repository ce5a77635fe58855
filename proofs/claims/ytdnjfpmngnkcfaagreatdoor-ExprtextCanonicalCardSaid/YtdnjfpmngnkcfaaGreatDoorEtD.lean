/- What Starts of package expr and Format of package exprtext compute. -/
import Derived.Test.YtdnjfpmngnkcfaaGreatDoorEtB
import Derived.Test.YtdnjfpmngnkcfaaGreatDoorBcRow
import Derived.Deep.AppendLies
namespace Go.Proofs.YtdnjfpmngnkcfaaGreatDoor
open Go.RowKit

set_option maxRecDepth 100000 in
theorem startsX_any (v : Value) (xs : List Nd) (w : World) (hN : Nds w v xs) (hn : xs.length ≤ 9223372036854775807) : Calls Tryz.prog 14 #[v] w fun e w' => ∃ u, e = .returned (.tuple #[u, .int .i64 (strS xs).2.2]) ∧ Kept w w' := by
  have HS := Lib.hid (structure_any v xs w hN hn)
  clear hN hn
  go_enter Tryz.func14, Tryz.ntmps14
  go_wp2_with (go_at_call 23; refine HS.out.mono ?_; rintro e w1 ⟨u, rfl, hu, hk⟩)
  go_ret2
  exact ⟨u, rfl, hk⟩
theorem pcF_one (x : Pc) : ∀ u ∈ pcF x, u.oneCell' = true := by
  intro u hu
  simp only [pcF, List.mem_cons, List.not_mem_nil, or_false] at hu
  rcases hu with rfl | rfl | rfl <;> rfl
theorem pc_new {W : World} {x : Pc} {t : TypeId} : ∀ j u, (pcF x)[j]? = some u → (W.alloc (.cells #[.string x.t, .int .i64 x.c, .bool x.b] t)).cell? ((⟨W.heap.size, 0, none⟩ : Addr).add j) = some u :=
  blk_cells (l := pcF x)
theorem Tryz.infoPc : (Tryz.prog.info? 50).map (fun i => (i.zero, i.size, i.bytes)) = some (some (.agg #[.string ⟨#[]⟩, .int .i64 0, .bool false]), 3, 32) := by kernel_rfl
/-- what Format keeps from node to node -/
structure FmAt (nm : Nm) (xs : List Nd) (i : Nat) (stk : List Pc) : Prop where
  str : ∃ ss st : List Nat, ss.length = stk.length ∧ ss.length ≤ 12 ∧ strF (xs.drop i) i ss st = strS xs
  out : fmtE nm (xs.drop i) stk = fmtX nm xs
  sz : (stk.map fun p => p.t.size).sum ≤ i * 281474976711000
  pos : 0 < i → 0 < stk.length
theorem sum_mem {l : List Pc} {p : Pc} (h : p ∈ l) : p.t.size ≤ (l.map fun p => p.t.size).sum := by
  induction l with
  | nil => cases h
  | cons x r ih =>
    rw [List.map_cons, List.sum_cons]
    rcases List.mem_cons.1 h with rfl | h
    · omega
    · have := ih h; omega
theorem sum_cut (l : List Pc) (m : Nat) : ((l.take m).map fun p => p.t.size).sum + ((l.drop m).map fun p => p.t.size).sum = (l.map fun p => p.t.size).sum := by
  rw [← List.sum_append_nat, ← List.map_append, List.take_append_drop]
/-- a node of an expression in order -/
theorem FmAt.step {nm : Nm} {xs : List Nd} {i : Nat} {stk : List Pc} (h : FmAt nm xs i stk) (hv : (strS xs).2.2 = 0) {x : Nd} (hx : xs[i]? = some x) (hz : ∀ a, (rend nm x a).1.t.size ≤ (a.map fun p => p.t.size).sum + 281474976711000) :
    ∃ a m : Nat, arS x.o = a ∧ stk.length = m + a ∧ m + 1 ≤ 12 ∧ a ≤ 3 ∧
      (x.n ≠ 0 → usesB x.o = false → fmtX nm xs = (⟨#[]⟩, 2)) ∧
      (¬ (x.n ≠ 0 ∧ usesB x.o = false) → (rend nm x (stk.drop m)).2 ≠ 0 → fmtX nm xs = (⟨#[]⟩, (rend nm x (stk.drop m)).2)) ∧
      (¬ (x.n ≠ 0 ∧ usesB x.o = false) → (rend nm x (stk.drop m)).2 = 0 → FmAt nm xs (i + 1) (stk.take m ++ [(rend nm x (stk.drop m)).1])) := by
  obtain ⟨⟨ss, st, hl, h12, hrun⟩, hout, hsz, _⟩ := h
  have hab := arS_bd x.o
  have hneg : ¬ arS x.o < 0 := fun hn => by rw [strF_form hrun hx hn] at hv; cases hv
  obtain ⟨a, ha⟩ : ∃ a : Nat, arS x.o = a := ⟨(arS x.o).toNat, by omega⟩
  have htr : ¬ ss.length < a := fun hn => by rw [strF_trunc hrun hx ha hn] at hv; cases hv
  obtain ⟨m, hm⟩ : ∃ m, ss.length = m + a := ⟨ss.length - a, by omega⟩
  have hd : ¬ 12 < m + 1 := fun hn => by rw [strF_deep hrun hx ha hm hn] at hv; cases hv
  have hnx := strF_next hrun hx ha hm hd
  have hix : i < xs.length := (List.getElem?_eq_some_iff.1 hx).1
  have hxe := (List.getElem?_eq_some_iff.1 hx).2
  have hlm : stk.length - (arS x.o).toNat = m := by omega
  rw [List.drop_eq_getElem_cons hix, hxe, fmtE, hlm] at hout
  refine ⟨a, m, ha, by omega, by omega, by omega, fun h1 h2 => ?_, fun h1 h2 => ?_, fun h1 h2 => ?_⟩
  · rw [if_pos ⟨h1, h2⟩] at hout; exact hout.symm
  · rw [if_neg h1, if_neg h2] at hout; exact hout.symm
  · rw [if_neg h1, if_pos h2] at hout
    refine ⟨⟨_, _, ?_, ?_, hnx⟩, hout, ?_, fun _ => by simp⟩
    · rw [List.length_append, List.length_append, List.length_take, List.length_take]; simp; omega
    · rw [List.length_append, List.length_take]; simp; omega
    · rw [List.map_append, List.sum_append_nat]
      have h3 := hz (stk.drop m)
      have h4 := sum_cut stk m
      simp only [List.map_cons, List.map_nil, List.sum_cons, List.sum_nil]
      rw [Nat.add_mul]
      omega
theorem FmAt.len {nm : Nm} {xs : List Nd} {i : Nat} {stk : List Pc} (h : FmAt nm xs i stk) : stk.length ≤ 12 := by
  obtain ⟨⟨ss, st, hl, h12, hrun⟩, _, _, _⟩ := h; omega
theorem FmAt.done {nm : Nm} {xs : List Nd} {stk : List Pc} (h : FmAt nm xs xs.length stk) (hv : (strS xs).2.2 = 0) (hp : 0 < xs.length) : ∃ p, stk = [p] ∧ fmtX nm xs = (p.t, 0) := by
  obtain ⟨⟨ss, st, hl, h12, hrun⟩, hout, _, hpos⟩ := h
  have h1 : ¬ 1 < ss.length := fun hn => by rw [strF_long hrun (Nat.lt_irrefl _) rfl hn] at hv; cases hv
  have h2 := hpos hp
  match stk, hl, h2, hout with
  | [p], _, _, hout =>
    rw [List.drop_length, fmtE] at hout
    exact ⟨p, rfl, hout.symm⟩
  | p :: q :: r, hl, _, _ => simp at hl; omega
/-- the last records of a slice -/
theorem Recs.drop {α : Type} {f : α → List Value} {k : Nat} {w : World} {b o n c d m a : Nat} {xs : List α} (h : Recs w f k (.slice (some ⟨b, o, none⟩) n c) xs) (hl : xs.length = m + a) : Recs w f k (.slice (some ⟨b, o + m * k, none⟩) a d) (xs.drop m) := by
  obtain ⟨A, c', hv, hA⟩ := h
  simp only [Value.slice.injEq] at hv
  obtain ⟨rfl, _, rfl⟩ := hv
  refine ⟨_, d, by rw [List.length_drop, hl, Nat.add_sub_cancel_left], fun hp => ?_⟩
  rw [List.length_drop] at hp
  obtain ⟨b', o', hbo, hb, hc⟩ := hA (by omega)
  simp only [Option.some.injEq, Addr.mk.injEq] at hbo
  obtain ⟨rfl, rfl, _⟩ := hbo
  refine ⟨_, _, rfl, hb, fun j x hx i u hu => ?_⟩
  rw [List.getElem?_drop] at hx
  have := hc (m + j) x hx i u hu
  rw [Nat.add_mul] at this
  rw [show o + m * k + j * k + i = o + (m * k + j * k) + i by omega]
  exact this
end Go.Proofs.YtdnjfpmngnkcfaaGreatDoor
/- What Format of package exprtext computes. (Printed by wip/genetfmt.py.) -/
namespace Go.Proofs.YtdnjfpmngnkcfaaGreatDoor
open Go.RowKit

theorem Recs.none_ {w : World} {A : Option Addr} {a c : Nat} {xs : List Pc} (_ : True) (hl : xs.length = a) (h0 : a = 0) {p : Prop} (_ : p) : Recs w pcF 3 (.slice A a c) xs := ⟨A, c, by rw [hl], fun h => by omega⟩
theorem Recs.from_ {w w' : World} {A : Option Addr} {n c d m a : Nat} {xs : List Pc} (h : Recs w pcF 3 (.slice A n c) xs) (hl : xs.length = m + a) (hk : Kept w w') : Recs w' pcF 3 (.slice (Option.map (fun x => x.add (m * 3)) A) a d) (xs.drop m) := by
  by_cases ha : a = 0
  · exact ⟨_, d, by rw [List.length_drop, hl, Nat.add_sub_cancel_left], fun h => by rw [List.length_drop] at h; omega⟩
  obtain ⟨A', c', hv, hA⟩ := id h
  simp only [Value.slice.injEq] at hv
  obtain ⟨rfl, _, rfl⟩ := hv
  obtain ⟨b, o, rfl, _, _⟩ := hA (by omega)
  have e : (⟨b, o, none⟩ : Addr).add (m * 3) = ⟨b, o + m * 3, none⟩ := by unfold Addr.add; split <;> simp_all
  rw [Option.map_some, e]
  exact (Recs.drop h hl).kept hk
def fmPost (nm : Nm) (xs : List Nd) (w : World) (e : Ending) (w' : World) : Prop := e = .returned (.tuple #[.string (fmtX nm xs).1, .int .i64 (fmtX nm xs).2]) ∧ Kept w w'
set_option maxRecDepth 100000 in
set_option maxHeartbeats 8000000 in
theorem formatX_any (v nv : Value) (xs : List Nd) (nm : Nm) (w : World) (hN : Nds w v xs) (hNm : Names w nv nm) (hn : xs.length ≤ 9223372036854775807) (hi64 : ∀ x ∈ xs, -9223372036854775808 ≤ x.n ∧ x.n ≤ 9223372036854775807)
    (hs : ∀ x ∈ xs, ∀ s ∈ refN nm x, s.size ≤ 140737488355328) (hz : ∀ x ∈ xs, ∀ a, (rend nm x a).1.t.size ≤ (a.map fun p => p.t.size).sum + 281474976711000) (hM : Mon w) (hP : Pow w) :
    Calls Tryz.prog 9 #[v, nv] w (fmPost nm xs w) := by
  have HS := Lib.hid (fun w1 (h : Kept w w1) => startsX_any v xs w1 (hN.kept h) hn)
  obtain ⟨A, cap, rfl, hA⟩ := hN.at_
  have HNM := Lib.hid hNm
  obtain ⟨AE, ne, ce, AT, nt, ct, AI, ni, ci, AD, nd, cd, AM, nmm, cm, rfl⟩ := hNm.form
  have hKx := (Kept.refl w).alloc (.cells #[.slice AE ne ce, .slice AT nt ct, .slice AI ni ci, .slice AD nd cd, .slice AM nmm cm] 26)
  have hBx := Blk.new w 26 #[.slice AE ne ce, .slice AT nt ct, .slice AI ni ci, .slice AD nd cd, .slice AM nmm cm]
  unfold fmPost
  by_cases hv : (strS xs).2.2 = 0
  case neg =>
    have HR := Lib.hid (show fmtX nm xs = (⟨#[]⟩, (strS xs).2.2) by rw [fmtX, if_neg hv])
    rw [HR.out]
    generalize (strS xs).2.2 = c at *
    have hb := bne_noB hv
    clear HR hM hP hs hz hi64 hNm hN hA hn HNM
    go_enter Tryz.func9, Tryz.ntmps9
    go_wp2_with (go_at_call 14; refine (HS.out _ hKx).mono ?_; rintro e w1 ⟨u, rfl, hk⟩)
    go_ret2
    exact ⟨rfl, hKx.trans hk⟩
  have H0 : FmAt nm xs 0 [] := ⟨⟨[], [], rfl, by decide, by
    have := hv
    unfold strS at this ⊢
    split at this
    · cases this
    · split at this
      · cases this
      · rename_i h1 h2; rw [if_neg h1, if_neg h2]; rfl⟩, by rw [fmtX, if_pos hv]; rfl, by simp, fun h => absurd h (by decide)⟩
  obtain ⟨n, hxn⟩ : ∃ n, n = xs.length := ⟨_, rfl⟩
  have hpos : 0 < n ∧ n ≤ 48 := by
    unfold strS at hv
    split at hv
    · cases hv
    · split at hv
      · cases hv
      · omega
  rw [← hxn] at hA hn HS ⊢
  rw [hv] at HS
  have HX := Lib.hid hxn
  have HV := Lib.hid hv
  have HZ := Lib.hid hz
  have HI := Lib.hid hi64
  have HSZ := Lib.hid hs
  have HM := Lib.hid hM
  have HP := Lib.hid hP
  obtain ⟨i0, hi, hz0, hz1, hz2⟩ := info_parts Tryz.infoPc
  obtain ⟨b1, o1, rfl, hb1, hc1⟩ := hA (by omega)
  have HC1 := Lib.hid hc1
  have H00 := Lib.hid H0
  clear hxn hv hz hi64 hs hM hP hc1 hA hN hNm H0
  go_enter Tryz.func9, Tryz.ntmps9
  go_wp2_with (go_at_call 14; refine (HS.out _ hKx).mono ?_; rintro e w1 ⟨u, rfl, hk⟩)
  have hKy := hKx.trans hk
  have hBy := hBx.kept hk
  clear hKx hBx hk HS
  go_loopw [8, 24] (fun x y wr => ∃ (i : Nat) (stk : List Pc), y = .int .i64 i ∧ i ≤ n ∧ Kept w wr ∧ Blk wr w.heap.size 26 #[.slice AE ne ce, .slice AT nt ct, .slice AI ni ci, .slice AD nd cd, .slice AM nmm cm] ∧ GathR wr (w.heap.size + 1) 50 pcF 3 x stk ∧ FmAt nm xs i stk) (fun _ y _ => n - (intOf y).toNat)
  case atStart => exact ⟨0, [], rfl, Nat.zero_le _, hKy, hBy, GathR.nil _ _ _, H00.out⟩
  case round =>
    obtain ⟨i, stk, rfl, hin, hK, hB, hG, hF⟩ := hrel
    clear hKy hBy H00
    have hstk := hF.len
    obtain ⟨A, scap, hvv, hsc1, hsc2⟩ := hG.form
    by_cases hlt : i < n
    · have hg : xs[i]? = some (xs[i]'(by have := HX.out; omega)) := List.getElem?_eq_getElem _
      have hmem := List.mem_of_getElem? hg
      obtain ⟨a, m, ha, hm, hm12, ha3, hq1, hq2, hq3⟩ := hF.step HV.out hg (HZ.out _ hmem)
      have hn64 := HI.out _ hmem
      have hsz := HSZ.out _ hmem
      generalize xs[i]'(by have := HX.out; omega) = T at *
      obtain ⟨x0, x1⟩ := HC1.out i _ hg
      have X0 := hK.cell (p := ⟨b1, _, none⟩) hb1 x0
      have X1 := hK.cell (p := ⟨b1, _, none⟩) hb1 x1
      have hii : (i : Int) < n := by omega
      have HAR := Lib.hid (fun w => (by have := arity_any T.o w; rwa [ha] at this : Calls Tryz.prog 16 #[.int .i64 T.o] w fun e w' => e = .returned (.int .i64 (a : Int)) ∧ w = w'))
      have HA := Lib.hid ha
      have HUS := Lib.hid (fun w => usesN_any T.o w)
      have HK := Lib.hid hK
      have HF := Lib.hid hF
      have HG := Lib.hid hG
      have HQ1 := Lib.hid hq1
      have HQ2 := Lib.hid hq2
      have HQ3 := Lib.hid hq3
      have HSX := Lib.hid hsz
      have HRN := Lib.hid (fun av w1 hA har => render_any T (stk.drop m) av _ nm w1 hA (HNM.out.kept har))
      clear x0 x1 hg hmem hq1 hq2 hq3 hsz hK hF ha hG
      by_cases hbad : T.n ≠ 0 ∧ usesB T.o = false
      · have HR := Lib.hid (HQ1.out hbad.1 hbad.2)
        have hne := bne_noB hbad.1
        rw [hbad.2] at HUS
        clear HQ1 HQ2 HQ3 hbad
        go_wp2_with (go_at_call 15; refine (HUS.out _).mono ?_; rintro e w' ⟨rfl, rfl⟩)
        go_ret2
        rw [HR.out]
        exact ⟨rfl, HK.out.alloc _⟩
      · subst hvv
        rw [hm] at hsc1 ⊢
        have HB2 := Lib.hid (HQ2.out hbad)
        have HB3 := Lib.hid (HQ3.out hbad)
        have HLN := Lib.hid hm
        have HT := Lib.hid ((hm ▸ HG.out).take (m := m) pcF_len (by omega))
        have HRC := Lib.hid (hm ▸ HG.out.recs pcF_len)
        have HBB := Lib.hid hB
        have HLM := Lib.hid (show (stk.take m).length = m by rw [List.length_take]; omega)
        have HPS := Lib.hid (show ∀ p ∈ stk.drop m, p.t.size ≤ 18014398509481984 from fun p hp => by have h1 := sum_mem (List.mem_of_mem_drop hp); have h2 := HF.out.sz; omega)
        have hus : T.n ≠ 0 → usesB T.o = true := fun h => by cases hu : usesB T.o with | true => rfl | false => exact absurd ⟨h, hu⟩ hbad
        clear HQ1 HQ2 HQ3 hbad hm hB HF
        have hwp : IntKind.i64.wrap (m : Int) = m := by rw [IntKind.wrap_i64]; omega
        by_cases hn0 : T.n = 0
        · clear hus
          rw [hn0] at X1
          rw [show ndV T = .agg #[.int .i64 T.o, .int .i64 0] by unfold ndV; rw [hn0]] at HRN
          clear hn0
          go_wp2_with (go_at_call 16; refine (HAR.out _).mono ?_; rintro e w' ⟨rfl, rfl⟩)
          have BN := Blk.new wr 41 #[.int .i64 T.o, .int .i64 0]
          have BS := HBB.out.alloc (.cells #[.int .i64 T.o, .int .i64 0] 41)
          have KN := (Kept.refl wr).alloc (.cells #[.int .i64 T.o, .int .i64 0] 41)
          generalize wr.alloc (.cells #[.int .i64 T.o, .int .i64 0] 41) = W1 at BN BS KN ⊢
          have HKN := Lib.hid KN
          clear KN X0 X1
          generalize wr.heap.size = g at BN ⊢
          have d0 := BN.cell 0
          have d1 := BN.cell 1
          have dl := BN.lt
          have s0 := BS.cell 0
          have s1 := BS.cell 1
          have s2 := BS.cell 2
          have s3 := BS.cell 3
          have s4 := BS.cell 4
          have sl := BS.lt
          simp only [List.getElem?_toArray, List.getElem?_cons_zero, List.getElem?_cons_succ] at d0 d1 s0 s1 s2 s3 s4
          have hma : ¬ ((m : Int) + a < m) := by omega
          have hmc : (m : Int) + a ≤ scap := by omega
          have hmd : (m : Int) ≤ scap := by omega
          have hml : (m : Int) ≤ (m : Int) + a := by omega
          by_cases hsm : scap = m
          · replace hsm := hsm.symm
            subst hsm
            obtain rfl : a = 0 := by omega
            clear hma hmc hml hmd
            rw [Nat.add_zero]
            have HRE := Lib.hid (show ∀ w', Kept W1 w' → Calls Tryz.prog 17 #[.agg #[.int .i64 T.o, .int .i64 0], .slice A 0 0, .agg #[.slice AE ne ce, .slice AT nt ct, .slice AI ni ci, .slice AD nd cd, .slice AM nmm cm]] w' (rnPost (rend nm T (stk.drop m)) w') from fun w' h => HRN.out _ w' (Recs.none_ trivial (show (stk.drop m).length = 0 from by rw [List.length_drop, HLN.out, Nat.add_sub_cancel_left]) rfl  (HKN.out.trans h)) ((HK.out.trans HKN.out).trans h) (by rw [List.length_drop, HLN.out, Nat.add_sub_cancel_left]; exact HA.out) hn64.1 hn64.2 HSX.out HPS.out (HM.out.kept ((HK.out.trans HKN.out).trans h)) (HP.out.kept ((HK.out.trans HKN.out).trans h)))
            unfold rnPost pcV at HRE
            generalize rend nm T (stk.drop m) = R at HRE HB2 HB3
            obtain ⟨⟨rt, rc, rb⟩, code⟩ := R
            dsimp only at HRE HB2 HB3
            have HALL := Lib.hid (show ∀ W, Kept W1 W → Kept W1 W ∧ W.cell? ⟨g, 0, none⟩ = some (.int .i64 T.o) ∧ W.cell? ⟨g, 1, none⟩ = some (.int .i64 0) ∧ W.cell? ⟨w.heap.size, 0, none⟩ = some (.slice AE ne ce) ∧ W.cell? ⟨w.heap.size, 1, none⟩ = some (.slice AT nt ct) ∧ W.cell? ⟨w.heap.size, 2, none⟩ = some (.slice AI ni ci) ∧ W.cell? ⟨w.heap.size, 3, none⟩ = some (.slice AD nd cd) ∧ W.cell? ⟨w.heap.size, 4, none⟩ = some (.slice AM nmm cm) from
              fun W h => ⟨h, h.cell (p := ⟨g, _, none⟩) dl d0, h.cell (p := ⟨g, _, none⟩) dl d1, h.cell (p := ⟨w.heap.size, _, none⟩) sl s0, h.cell (p := ⟨w.heap.size, _, none⟩) sl s1, h.cell (p := ⟨w.heap.size, _, none⟩) sl s2, h.cell (p := ⟨w.heap.size, _, none⟩) sl s3, h.cell (p := ⟨w.heap.size, _, none⟩) sl s4⟩)
            clear HRN BN BS
            go_region_held3 (fun W => Kept W1 W ∧ W.cell? ⟨g, 0, none⟩ = some (.int .i64 T.o) ∧ W.cell? ⟨g, 1, none⟩ = some (.int .i64 0) ∧ W.cell? ⟨w.heap.size, 0, none⟩ = some (.slice AE ne ce) ∧ W.cell? ⟨w.heap.size, 1, none⟩ = some (.slice AT nt ct) ∧ W.cell? ⟨w.heap.size, 2, none⟩ = some (.slice AI ni ci) ∧ W.cell? ⟨w.heap.size, 3, none⟩ = some (.slice AD nd cd) ∧ W.cell? ⟨w.heap.size, 4, none⟩ = some (.slice AM nmm cm))
              ((refine HALL.out _ ?_; (repeat (first | with_reducible exact Kept.refl _ | with_reducible assumption | with_reducible refine Kept.drew ?_ | with_reducible refine Kept.alloc ?_ _ | with_reducible refine Kept.setCell ?_ (by simp only; omega) _ | with_reducible refine Kept.trans ?_ ‹Kept _ _›))))
              ((go_at_call 17; refine (HRE.out _ ?_).mono ?_; (· (repeat (first | with_reducible exact Kept.refl _ | with_reducible assumption | with_reducible refine Kept.drew ?_ | with_reducible refine Kept.alloc ?_ _ | with_reducible refine Kept.setCell ?_ (by simp only; omega) _ | with_reducible refine Kept.trans ?_ ‹Kept _ _›))); rintro e w' ⟨rfl, hk'⟩; (try (have hN := Blk.kept (Blk.drew (Blk.new W1 50 #[.string ⟨#[]⟩, .int .i64 0, .bool false])) hk'; have hn1 := hN.cell; have hn2 := hN.frozen; have hn3 := hN.lt)); have hsx := Below.size hk'; (try simp at hsx)))
            · have hBl := Blk.new w' 50 #[.string rt, .int .i64 rc, .bool rb]
              have hW : Kept W1 (w'.alloc (.cells #[.string rt, .int .i64 rc, .bool rb] 50)) := Kept.alloc (Kept.trans (Kept.drew (Kept.refl _)) hk') _
              clear hk' hsx
              rename_i hHeld
              clear hHeld d0 d1 dl
              generalize w'.alloc (.cells #[.string rt, .int .i64 rc, .bool rb] 50) = W at hW hBl ⊢
              generalize w'.heap.size = g' at hBl ⊢
              have hW0 := HK.out.trans (HKN.out.trans hW)
              have HG4 := HT.out.keptOwn (HKN.out.trans hW)
              have HBW := HBB.out.kept (HKN.out.trans hW)
              have HKW := Lib.hid hW0
              have HGW := Lib.hid HG4
              have HBX := Lib.hid HBW
              have d0 := hBl.cell 0
              have d1 := hBl.cell 1
              have d2 := hBl.cell 2
              have dl := hBl.lt
              simp only [List.getElem?_toArray, List.getElem?_cons_zero, List.getElem?_cons_succ] at d0 d1 d2
              have HNEWS := Lib.hid (pc_new (W := W.drew) (x := ⟨rt, rc, rb⟩) (t := 50))
              have HOW : Hid ((W.drew.alloc (.cells #[.string rt, .int .i64 rc, .bool rb] 50)).ownsRow (w.heap.size + 1) 50 3 (.slice A m m) m ((stk.take m).flatMap pcF)) := Lib.hid (by
                have h := GathR.alloc (w := W.drew) HG4 (.cells #[.string rt, .int .i64 rc, .bool rb] 50)
                unfold GathR at h
                rwa [HLM.out] at h)
              have HBS : Hid (w.heap.size + 1 ≤ (W.drew.alloc (.cells #[.string rt, .int .i64 rc, .bool rb] 50)).heap.size) := Lib.hid (by have := hW0.size; have := HBW.lt; simp; omega)
              have HONE := Lib.hid (pcF_one ⟨rt, rc, rb⟩)
              have hmx : m + 1 ≤ maxLen := by unfold maxLen; omega
              clear hW hBl HG4 HBW hW0
              by_cases hcd : code = 0
              · have HN := Lib.hid (HB3.out hcd)
                subst hcd
                clear HB2 HB3
                go_wp2_with fail
                go_region_law (first | (refine step_append_lies _ rfl (.tmp 57) (.tmp 59) 46 rfl (w.heap.size + 1) 50 i0 (.agg #[.string ⟨#[]⟩, .int .i64 0, .bool false]) 3 32 Tryz.underlying46 hi hz0 hz1 hz2 rfl (by decide) _ m ((stk.take m).flatMap pcF) (by simp [Act.eval]) HOW.out ⟨W.drew.heap.size, 0, none⟩ 1 1 (pcF ⟨rt, rc, rb⟩) (by simp [Act.eval]) rfl HNEWS.out HONE.out (by decide) hmx (by omega) HBS.out _ rfl ?_; intro g' cap' w2 hown' hgrow _ _))
                all_goals
                  go_wp2_with fail
                  go_roundw
                  case rel =>
                    have hg2 : (W.drew.alloc (.cells #[.string rt, .int .i64 rc, .bool rb] 50)).grownBy w2 (Value.slice A m m).ownBlock := hgrow
                    exact ⟨i + 1, stk.take m ++ [⟨rt, rc, rb⟩], rfl, hlt, ownGrown_kept (wr := W.drew) (HKW.out.drewN 1) HGW.out (Nat.le_succ _) hg2, (ownGrown_block (wr := W.drew) HGW.out hg2 HBX.out.lt (Nat.lt_succ_self _)).trans HBX.out, GathR.snoc (by rw [HLM.out]; exact hown'), HN.out⟩
                  case measure => simp [intOf]; omega
              · have HR := Lib.hid (HB2.out hcd)
                have hcb := bne_noB hcd
                clear HB2 HB3
                go_wp2_with fail
                go_ret2
                rw [HR.out]
                exact ⟨rfl, HKW.out⟩
            · have hBl := ((hN.set_ 0 (.string rt)).set_ 1 (.int .i64 rc)).set_ 2 (.bool rb)
              have hW : Kept W1 (((w'.setCell ⟨W1.heap.size, 0, none⟩ (.string rt)).setCell ⟨W1.heap.size, 1, none⟩ (.int .i64 rc)).setCell ⟨W1.heap.size, 2, none⟩ (.bool rb)) := by
                have hk2 : Kept W1 w' := Kept.trans (Kept.drew (Kept.alloc (Kept.refl _) _)) hk'
                refine Kept.setCell (Kept.setCell (Kept.setCell hk2 ?_ _) ?_ _) ?_ _ <;> exact Nat.le_refl _
              replace hBl : Blk _ W1.heap.size 50 #[.string rt, .int .i64 rc, .bool rb] := hBl
              clear hk' hsx hN hn1 hn2 hn3
              rename_i hHeld
              clear hHeld d0 d1 dl
              generalize ((w'.setCell ⟨W1.heap.size, 0, none⟩ (.string rt)).setCell ⟨W1.heap.size, 1, none⟩ (.int .i64 rc)).setCell ⟨W1.heap.size, 2, none⟩ (.bool rb) = W at hW hBl ⊢
              generalize W1.heap.size = g' at hBl ⊢
              have hW0 := HK.out.trans (HKN.out.trans hW)
              have HG4 := HT.out.keptOwn (HKN.out.trans hW)
              have HBW := HBB.out.kept (HKN.out.trans hW)
              have HKW := Lib.hid hW0
              have HGW := Lib.hid HG4
              have HBX := Lib.hid HBW
              have d0 := hBl.cell 0
              have d1 := hBl.cell 1
              have d2 := hBl.cell 2
              have dl := hBl.lt
              simp only [List.getElem?_toArray, List.getElem?_cons_zero, List.getElem?_cons_succ] at d0 d1 d2
              have HNEWS := Lib.hid (pc_new (W := W.drew) (x := ⟨rt, rc, rb⟩) (t := 50))
              have HOW : Hid ((W.drew.alloc (.cells #[.string rt, .int .i64 rc, .bool rb] 50)).ownsRow (w.heap.size + 1) 50 3 (.slice A m m) m ((stk.take m).flatMap pcF)) := Lib.hid (by
                have h := GathR.alloc (w := W.drew) HG4 (.cells #[.string rt, .int .i64 rc, .bool rb] 50)
                unfold GathR at h
                rwa [HLM.out] at h)
              have HBS : Hid (w.heap.size + 1 ≤ (W.drew.alloc (.cells #[.string rt, .int .i64 rc, .bool rb] 50)).heap.size) := Lib.hid (by have := hW0.size; have := HBW.lt; simp; omega)
              have HONE := Lib.hid (pcF_one ⟨rt, rc, rb⟩)
              have hmx : m + 1 ≤ maxLen := by unfold maxLen; omega
              clear hW hBl HG4 HBW hW0
              by_cases hcd : code = 0
              · have HN := Lib.hid (HB3.out hcd)
                subst hcd
                clear HB2 HB3
                go_wp2_with fail
                go_region_law (first | (refine step_append_lies _ rfl (.tmp 57) (.tmp 59) 46 rfl (w.heap.size + 1) 50 i0 (.agg #[.string ⟨#[]⟩, .int .i64 0, .bool false]) 3 32 Tryz.underlying46 hi hz0 hz1 hz2 rfl (by decide) _ m ((stk.take m).flatMap pcF) (by simp [Act.eval]) HOW.out ⟨W.drew.heap.size, 0, none⟩ 1 1 (pcF ⟨rt, rc, rb⟩) (by simp [Act.eval]) rfl HNEWS.out HONE.out (by decide) hmx (by omega) HBS.out _ rfl ?_; intro g' cap' w2 hown' hgrow _ _))
                all_goals
                  go_wp2_with fail
                  go_roundw
                  case rel =>
                    have hg2 : (W.drew.alloc (.cells #[.string rt, .int .i64 rc, .bool rb] 50)).grownBy w2 (Value.slice A m m).ownBlock := hgrow
                    exact ⟨i + 1, stk.take m ++ [⟨rt, rc, rb⟩], rfl, hlt, ownGrown_kept (wr := W.drew) (HKW.out.drewN 1) HGW.out (Nat.le_succ _) hg2, (ownGrown_block (wr := W.drew) HGW.out hg2 HBX.out.lt (Nat.lt_succ_self _)).trans HBX.out, GathR.snoc (by rw [HLM.out]; exact hown'), HN.out⟩
                  case measure => simp [intOf]; omega
              · have HR := Lib.hid (HB2.out hcd)
                have hcb := bne_noB hcd
                clear HB2 HB3
                go_wp2_with fail
                go_ret2
                rw [HR.out]
                exact ⟨rfl, HKW.out⟩
          · have HRE := Lib.hid (show ∀ w', Kept W1 w' → Calls Tryz.prog 17 #[.agg #[.int .i64 T.o, .int .i64 0], .slice (Option.map (fun x => x.add (m * 3)) A) a (scap - m), .agg #[.slice AE ne ce, .slice AT nt ct, .slice AI ni ci, .slice AD nd cd, .slice AM nmm cm]] w' (rnPost (rend nm T (stk.drop m)) w') from fun w' h => HRN.out _ w' (Recs.from_ HRC.out HLN.out  (HKN.out.trans h)) ((HK.out.trans HKN.out).trans h) (by rw [List.length_drop, HLN.out, Nat.add_sub_cancel_left]; exact HA.out) hn64.1 hn64.2 HSX.out HPS.out (HM.out.kept ((HK.out.trans HKN.out).trans h)) (HP.out.kept ((HK.out.trans HKN.out).trans h)))
            unfold rnPost pcV at HRE
            generalize rend nm T (stk.drop m) = R at HRE HB2 HB3
            obtain ⟨⟨rt, rc, rb⟩, code⟩ := R
            dsimp only at HRE HB2 HB3
            have HALL := Lib.hid (show ∀ W, Kept W1 W → Kept W1 W ∧ W.cell? ⟨g, 0, none⟩ = some (.int .i64 T.o) ∧ W.cell? ⟨g, 1, none⟩ = some (.int .i64 0) ∧ W.cell? ⟨w.heap.size, 0, none⟩ = some (.slice AE ne ce) ∧ W.cell? ⟨w.heap.size, 1, none⟩ = some (.slice AT nt ct) ∧ W.cell? ⟨w.heap.size, 2, none⟩ = some (.slice AI ni ci) ∧ W.cell? ⟨w.heap.size, 3, none⟩ = some (.slice AD nd cd) ∧ W.cell? ⟨w.heap.size, 4, none⟩ = some (.slice AM nmm cm) from
              fun W h => ⟨h, h.cell (p := ⟨g, _, none⟩) dl d0, h.cell (p := ⟨g, _, none⟩) dl d1, h.cell (p := ⟨w.heap.size, _, none⟩) sl s0, h.cell (p := ⟨w.heap.size, _, none⟩) sl s1, h.cell (p := ⟨w.heap.size, _, none⟩) sl s2, h.cell (p := ⟨w.heap.size, _, none⟩) sl s3, h.cell (p := ⟨w.heap.size, _, none⟩) sl s4⟩)
            clear HRN BN BS
            go_region_held3 (fun W => Kept W1 W ∧ W.cell? ⟨g, 0, none⟩ = some (.int .i64 T.o) ∧ W.cell? ⟨g, 1, none⟩ = some (.int .i64 0) ∧ W.cell? ⟨w.heap.size, 0, none⟩ = some (.slice AE ne ce) ∧ W.cell? ⟨w.heap.size, 1, none⟩ = some (.slice AT nt ct) ∧ W.cell? ⟨w.heap.size, 2, none⟩ = some (.slice AI ni ci) ∧ W.cell? ⟨w.heap.size, 3, none⟩ = some (.slice AD nd cd) ∧ W.cell? ⟨w.heap.size, 4, none⟩ = some (.slice AM nmm cm))
              ((refine HALL.out _ ?_; (repeat (first | with_reducible exact Kept.refl _ | with_reducible assumption | with_reducible refine Kept.drew ?_ | with_reducible refine Kept.alloc ?_ _ | with_reducible refine Kept.setCell ?_ (by simp only; omega) _ | with_reducible refine Kept.trans ?_ ‹Kept _ _›))))
              ((go_at_call 17; refine (HRE.out _ ?_).mono ?_; (· (repeat (first | with_reducible exact Kept.refl _ | with_reducible assumption | with_reducible refine Kept.drew ?_ | with_reducible refine Kept.alloc ?_ _ | with_reducible refine Kept.setCell ?_ (by simp only; omega) _ | with_reducible refine Kept.trans ?_ ‹Kept _ _›))); rintro e w' ⟨rfl, hk'⟩; (try (have hN := Blk.kept (Blk.drew (Blk.new W1 50 #[.string ⟨#[]⟩, .int .i64 0, .bool false])) hk'; have hn1 := hN.cell; have hn2 := hN.frozen; have hn3 := hN.lt)); have hsx := Below.size hk'; (try simp at hsx)))
            · have hBl := Blk.new w' 50 #[.string rt, .int .i64 rc, .bool rb]
              have hW : Kept W1 (w'.alloc (.cells #[.string rt, .int .i64 rc, .bool rb] 50)) := Kept.alloc (Kept.trans (Kept.drew (Kept.refl _)) hk') _
              clear hk' hsx
              rename_i hHeld
              clear hHeld d0 d1 dl
              generalize w'.alloc (.cells #[.string rt, .int .i64 rc, .bool rb] 50) = W at hW hBl ⊢
              generalize w'.heap.size = g' at hBl ⊢
              have hW0 := HK.out.trans (HKN.out.trans hW)
              have HG4 := HT.out.keptOwn (HKN.out.trans hW)
              have HBW := HBB.out.kept (HKN.out.trans hW)
              have HKW := Lib.hid hW0
              have HGW := Lib.hid HG4
              have HBX := Lib.hid HBW
              have d0 := hBl.cell 0
              have d1 := hBl.cell 1
              have d2 := hBl.cell 2
              have dl := hBl.lt
              simp only [List.getElem?_toArray, List.getElem?_cons_zero, List.getElem?_cons_succ] at d0 d1 d2
              have HNEWS := Lib.hid (pc_new (W := W.drew) (x := ⟨rt, rc, rb⟩) (t := 50))
              have HOW : Hid ((W.drew.alloc (.cells #[.string rt, .int .i64 rc, .bool rb] 50)).ownsRow (w.heap.size + 1) 50 3 (.slice A m scap) m ((stk.take m).flatMap pcF)) := Lib.hid (by
                have h := GathR.alloc (w := W.drew) HG4 (.cells #[.string rt, .int .i64 rc, .bool rb] 50)
                unfold GathR at h
                rwa [HLM.out] at h)
              have HBS : Hid (w.heap.size + 1 ≤ (W.drew.alloc (.cells #[.string rt, .int .i64 rc, .bool rb] 50)).heap.size) := Lib.hid (by have := hW0.size; have := HBW.lt; simp; omega)
              have HONE := Lib.hid (pcF_one ⟨rt, rc, rb⟩)
              have hmx : m + 1 ≤ maxLen := by unfold maxLen; omega
              clear hW hBl HG4 HBW hW0
              by_cases hcd : code = 0
              · have HN := Lib.hid (HB3.out hcd)
                subst hcd
                clear HB2 HB3
                go_wp2_with fail
                go_region_law (first | (refine step_append_lies _ rfl (.tmp 57) (.tmp 59) 46 rfl (w.heap.size + 1) 50 i0 (.agg #[.string ⟨#[]⟩, .int .i64 0, .bool false]) 3 32 Tryz.underlying46 hi hz0 hz1 hz2 rfl (by decide) _ m ((stk.take m).flatMap pcF) (by simp [Act.eval]) HOW.out ⟨W.drew.heap.size, 0, none⟩ 1 1 (pcF ⟨rt, rc, rb⟩) (by simp [Act.eval]) rfl HNEWS.out HONE.out (by decide) hmx (by omega) HBS.out _ rfl ?_; intro g' cap' w2 hown' hgrow _ _))
                all_goals
                  go_wp2_with fail
                  go_roundw
                  case rel =>
                    have hg2 : (W.drew.alloc (.cells #[.string rt, .int .i64 rc, .bool rb] 50)).grownBy w2 (Value.slice A m scap).ownBlock := hgrow
                    exact ⟨i + 1, stk.take m ++ [⟨rt, rc, rb⟩], rfl, hlt, ownGrown_kept (wr := W.drew) (HKW.out.drewN 1) HGW.out (Nat.le_succ _) hg2, (ownGrown_block (wr := W.drew) HGW.out hg2 HBX.out.lt (Nat.lt_succ_self _)).trans HBX.out, GathR.snoc (by rw [HLM.out]; exact hown'), HN.out⟩
                  case measure => simp [intOf]; omega
              · have HR := Lib.hid (HB2.out hcd)
                have hcb := bne_noB hcd
                clear HB2 HB3
                go_wp2_with fail
                go_ret2
                rw [HR.out]
                exact ⟨rfl, HKW.out⟩
            · have hBl := ((hN.set_ 0 (.string rt)).set_ 1 (.int .i64 rc)).set_ 2 (.bool rb)
              have hW : Kept W1 (((w'.setCell ⟨W1.heap.size, 0, none⟩ (.string rt)).setCell ⟨W1.heap.size, 1, none⟩ (.int .i64 rc)).setCell ⟨W1.heap.size, 2, none⟩ (.bool rb)) := by
                have hk2 : Kept W1 w' := Kept.trans (Kept.drew (Kept.alloc (Kept.refl _) _)) hk'
                refine Kept.setCell (Kept.setCell (Kept.setCell hk2 ?_ _) ?_ _) ?_ _ <;> exact Nat.le_refl _
              replace hBl : Blk _ W1.heap.size 50 #[.string rt, .int .i64 rc, .bool rb] := hBl
              clear hk' hsx hN hn1 hn2 hn3
              rename_i hHeld
              clear hHeld d0 d1 dl
              generalize ((w'.setCell ⟨W1.heap.size, 0, none⟩ (.string rt)).setCell ⟨W1.heap.size, 1, none⟩ (.int .i64 rc)).setCell ⟨W1.heap.size, 2, none⟩ (.bool rb) = W at hW hBl ⊢
              generalize W1.heap.size = g' at hBl ⊢
              have hW0 := HK.out.trans (HKN.out.trans hW)
              have HG4 := HT.out.keptOwn (HKN.out.trans hW)
              have HBW := HBB.out.kept (HKN.out.trans hW)
              have HKW := Lib.hid hW0
              have HGW := Lib.hid HG4
              have HBX := Lib.hid HBW
              have d0 := hBl.cell 0
              have d1 := hBl.cell 1
              have d2 := hBl.cell 2
              have dl := hBl.lt
              simp only [List.getElem?_toArray, List.getElem?_cons_zero, List.getElem?_cons_succ] at d0 d1 d2
              have HNEWS := Lib.hid (pc_new (W := W.drew) (x := ⟨rt, rc, rb⟩) (t := 50))
              have HOW : Hid ((W.drew.alloc (.cells #[.string rt, .int .i64 rc, .bool rb] 50)).ownsRow (w.heap.size + 1) 50 3 (.slice A m scap) m ((stk.take m).flatMap pcF)) := Lib.hid (by
                have h := GathR.alloc (w := W.drew) HG4 (.cells #[.string rt, .int .i64 rc, .bool rb] 50)
                unfold GathR at h
                rwa [HLM.out] at h)
              have HBS : Hid (w.heap.size + 1 ≤ (W.drew.alloc (.cells #[.string rt, .int .i64 rc, .bool rb] 50)).heap.size) := Lib.hid (by have := hW0.size; have := HBW.lt; simp; omega)
              have HONE := Lib.hid (pcF_one ⟨rt, rc, rb⟩)
              have hmx : m + 1 ≤ maxLen := by unfold maxLen; omega
              clear hW hBl HG4 HBW hW0
              by_cases hcd : code = 0
              · have HN := Lib.hid (HB3.out hcd)
                subst hcd
                clear HB2 HB3
                go_wp2_with fail
                go_region_law (first | (refine step_append_lies _ rfl (.tmp 57) (.tmp 59) 46 rfl (w.heap.size + 1) 50 i0 (.agg #[.string ⟨#[]⟩, .int .i64 0, .bool false]) 3 32 Tryz.underlying46 hi hz0 hz1 hz2 rfl (by decide) _ m ((stk.take m).flatMap pcF) (by simp [Act.eval]) HOW.out ⟨W.drew.heap.size, 0, none⟩ 1 1 (pcF ⟨rt, rc, rb⟩) (by simp [Act.eval]) rfl HNEWS.out HONE.out (by decide) hmx (by omega) HBS.out _ rfl ?_; intro g' cap' w2 hown' hgrow _ _))
                all_goals
                  go_wp2_with fail
                  go_roundw
                  case rel =>
                    have hg2 : (W.drew.alloc (.cells #[.string rt, .int .i64 rc, .bool rb] 50)).grownBy w2 (Value.slice A m scap).ownBlock := hgrow
                    exact ⟨i + 1, stk.take m ++ [⟨rt, rc, rb⟩], rfl, hlt, ownGrown_kept (wr := W.drew) (HKW.out.drewN 1) HGW.out (Nat.le_succ _) hg2, (ownGrown_block (wr := W.drew) HGW.out hg2 HBX.out.lt (Nat.lt_succ_self _)).trans HBX.out, GathR.snoc (by rw [HLM.out]; exact hown'), HN.out⟩
                  case measure => simp [intOf]; omega
              · have HR := Lib.hid (HB2.out hcd)
                have hcb := bne_noB hcd
                clear HB2 HB3
                go_wp2_with fail
                go_ret2
                rw [HR.out]
                exact ⟨rfl, HKW.out⟩
        · have hne := bne_noB hn0
          rw [hus hn0] at HUS
          unfold ndV at HRN
          clear hn0
          go_wp2_with (first
            | (go_at_call 16; refine (HAR.out _).mono ?_; rintro e w' ⟨rfl, rfl⟩)
            | (go_at_call 15; refine (HUS.out _).mono ?_; rintro e w' ⟨rfl, rfl⟩))
          have BN := Blk.new wr 41 #[.int .i64 T.o, .int .i64 T.n]
          have BS := HBB.out.alloc (.cells #[.int .i64 T.o, .int .i64 T.n] 41)
          have KN := (Kept.refl wr).alloc (.cells #[.int .i64 T.o, .int .i64 T.n] 41)
          generalize wr.alloc (.cells #[.int .i64 T.o, .int .i64 T.n] 41) = W1 at BN BS KN ⊢
          have HKN := Lib.hid KN
          clear KN X0 X1
          generalize wr.heap.size = g at BN ⊢
          have d0 := BN.cell 0
          have d1 := BN.cell 1
          have dl := BN.lt
          have s0 := BS.cell 0
          have s1 := BS.cell 1
          have s2 := BS.cell 2
          have s3 := BS.cell 3
          have s4 := BS.cell 4
          have sl := BS.lt
          simp only [List.getElem?_toArray, List.getElem?_cons_zero, List.getElem?_cons_succ] at d0 d1 s0 s1 s2 s3 s4
          have hma : ¬ ((m : Int) + a < m) := by omega
          have hmc : (m : Int) + a ≤ scap := by omega
          have hmd : (m : Int) ≤ scap := by omega
          have hml : (m : Int) ≤ (m : Int) + a := by omega
          by_cases hsm : scap = m
          · replace hsm := hsm.symm
            subst hsm
            obtain rfl : a = 0 := by omega
            clear hma hmc hml hmd
            rw [Nat.add_zero]
            have HRE := Lib.hid (show ∀ w', Kept W1 w' → Calls Tryz.prog 17 #[.agg #[.int .i64 T.o, .int .i64 T.n], .slice A 0 0, .agg #[.slice AE ne ce, .slice AT nt ct, .slice AI ni ci, .slice AD nd cd, .slice AM nmm cm]] w' (rnPost (rend nm T (stk.drop m)) w') from fun w' h => HRN.out _ w' (Recs.none_ trivial (show (stk.drop m).length = 0 from by rw [List.length_drop, HLN.out, Nat.add_sub_cancel_left]) rfl  (HKN.out.trans h)) ((HK.out.trans HKN.out).trans h) (by rw [List.length_drop, HLN.out, Nat.add_sub_cancel_left]; exact HA.out) hn64.1 hn64.2 HSX.out HPS.out (HM.out.kept ((HK.out.trans HKN.out).trans h)) (HP.out.kept ((HK.out.trans HKN.out).trans h)))
            unfold rnPost pcV at HRE
            generalize rend nm T (stk.drop m) = R at HRE HB2 HB3
            obtain ⟨⟨rt, rc, rb⟩, code⟩ := R
            dsimp only at HRE HB2 HB3
            have HALL := Lib.hid (show ∀ W, Kept W1 W → Kept W1 W ∧ W.cell? ⟨g, 0, none⟩ = some (.int .i64 T.o) ∧ W.cell? ⟨g, 1, none⟩ = some (.int .i64 T.n) ∧ W.cell? ⟨w.heap.size, 0, none⟩ = some (.slice AE ne ce) ∧ W.cell? ⟨w.heap.size, 1, none⟩ = some (.slice AT nt ct) ∧ W.cell? ⟨w.heap.size, 2, none⟩ = some (.slice AI ni ci) ∧ W.cell? ⟨w.heap.size, 3, none⟩ = some (.slice AD nd cd) ∧ W.cell? ⟨w.heap.size, 4, none⟩ = some (.slice AM nmm cm) from
              fun W h => ⟨h, h.cell (p := ⟨g, _, none⟩) dl d0, h.cell (p := ⟨g, _, none⟩) dl d1, h.cell (p := ⟨w.heap.size, _, none⟩) sl s0, h.cell (p := ⟨w.heap.size, _, none⟩) sl s1, h.cell (p := ⟨w.heap.size, _, none⟩) sl s2, h.cell (p := ⟨w.heap.size, _, none⟩) sl s3, h.cell (p := ⟨w.heap.size, _, none⟩) sl s4⟩)
            clear HRN BN BS
            go_region_held3 (fun W => Kept W1 W ∧ W.cell? ⟨g, 0, none⟩ = some (.int .i64 T.o) ∧ W.cell? ⟨g, 1, none⟩ = some (.int .i64 T.n) ∧ W.cell? ⟨w.heap.size, 0, none⟩ = some (.slice AE ne ce) ∧ W.cell? ⟨w.heap.size, 1, none⟩ = some (.slice AT nt ct) ∧ W.cell? ⟨w.heap.size, 2, none⟩ = some (.slice AI ni ci) ∧ W.cell? ⟨w.heap.size, 3, none⟩ = some (.slice AD nd cd) ∧ W.cell? ⟨w.heap.size, 4, none⟩ = some (.slice AM nmm cm))
              ((refine HALL.out _ ?_; (repeat (first | with_reducible exact Kept.refl _ | with_reducible assumption | with_reducible refine Kept.drew ?_ | with_reducible refine Kept.alloc ?_ _ | with_reducible refine Kept.setCell ?_ (by simp only; omega) _ | with_reducible refine Kept.trans ?_ ‹Kept _ _›))))
              ((go_at_call 17; refine (HRE.out _ ?_).mono ?_; (· (repeat (first | with_reducible exact Kept.refl _ | with_reducible assumption | with_reducible refine Kept.drew ?_ | with_reducible refine Kept.alloc ?_ _ | with_reducible refine Kept.setCell ?_ (by simp only; omega) _ | with_reducible refine Kept.trans ?_ ‹Kept _ _›))); rintro e w' ⟨rfl, hk'⟩; (try (have hN := Blk.kept (Blk.drew (Blk.new W1 50 #[.string ⟨#[]⟩, .int .i64 0, .bool false])) hk'; have hn1 := hN.cell; have hn2 := hN.frozen; have hn3 := hN.lt)); have hsx := Below.size hk'; (try simp at hsx)))
            · have hBl := Blk.new w' 50 #[.string rt, .int .i64 rc, .bool rb]
              have hW : Kept W1 (w'.alloc (.cells #[.string rt, .int .i64 rc, .bool rb] 50)) := Kept.alloc (Kept.trans (Kept.drew (Kept.refl _)) hk') _
              clear hk' hsx
              rename_i hHeld
              clear hHeld d0 d1 dl
              generalize w'.alloc (.cells #[.string rt, .int .i64 rc, .bool rb] 50) = W at hW hBl ⊢
              generalize w'.heap.size = g' at hBl ⊢
              have hW0 := HK.out.trans (HKN.out.trans hW)
              have HG4 := HT.out.keptOwn (HKN.out.trans hW)
              have HBW := HBB.out.kept (HKN.out.trans hW)
              have HKW := Lib.hid hW0
              have HGW := Lib.hid HG4
              have HBX := Lib.hid HBW
              have d0 := hBl.cell 0
              have d1 := hBl.cell 1
              have d2 := hBl.cell 2
              have dl := hBl.lt
              simp only [List.getElem?_toArray, List.getElem?_cons_zero, List.getElem?_cons_succ] at d0 d1 d2
              have HNEWS := Lib.hid (pc_new (W := W.drew) (x := ⟨rt, rc, rb⟩) (t := 50))
              have HOW : Hid ((W.drew.alloc (.cells #[.string rt, .int .i64 rc, .bool rb] 50)).ownsRow (w.heap.size + 1) 50 3 (.slice A m m) m ((stk.take m).flatMap pcF)) := Lib.hid (by
                have h := GathR.alloc (w := W.drew) HG4 (.cells #[.string rt, .int .i64 rc, .bool rb] 50)
                unfold GathR at h
                rwa [HLM.out] at h)
              have HBS : Hid (w.heap.size + 1 ≤ (W.drew.alloc (.cells #[.string rt, .int .i64 rc, .bool rb] 50)).heap.size) := Lib.hid (by have := hW0.size; have := HBW.lt; simp; omega)
              have HONE := Lib.hid (pcF_one ⟨rt, rc, rb⟩)
              have hmx : m + 1 ≤ maxLen := by unfold maxLen; omega
              clear hW hBl HG4 HBW hW0
              by_cases hcd : code = 0
              · have HN := Lib.hid (HB3.out hcd)
                subst hcd
                clear HB2 HB3
                go_wp2_with fail
                go_region_law (first | (refine step_append_lies _ rfl (.tmp 57) (.tmp 59) 46 rfl (w.heap.size + 1) 50 i0 (.agg #[.string ⟨#[]⟩, .int .i64 0, .bool false]) 3 32 Tryz.underlying46 hi hz0 hz1 hz2 rfl (by decide) _ m ((stk.take m).flatMap pcF) (by simp [Act.eval]) HOW.out ⟨W.drew.heap.size, 0, none⟩ 1 1 (pcF ⟨rt, rc, rb⟩) (by simp [Act.eval]) rfl HNEWS.out HONE.out (by decide) hmx (by omega) HBS.out _ rfl ?_; intro g' cap' w2 hown' hgrow _ _))
                all_goals
                  go_wp2_with fail
                  go_roundw
                  case rel =>
                    have hg2 : (W.drew.alloc (.cells #[.string rt, .int .i64 rc, .bool rb] 50)).grownBy w2 (Value.slice A m m).ownBlock := hgrow
                    exact ⟨i + 1, stk.take m ++ [⟨rt, rc, rb⟩], rfl, hlt, ownGrown_kept (wr := W.drew) (HKW.out.drewN 1) HGW.out (Nat.le_succ _) hg2, (ownGrown_block (wr := W.drew) HGW.out hg2 HBX.out.lt (Nat.lt_succ_self _)).trans HBX.out, GathR.snoc (by rw [HLM.out]; exact hown'), HN.out⟩
                  case measure => simp [intOf]; omega
              · have HR := Lib.hid (HB2.out hcd)
                have hcb := bne_noB hcd
                clear HB2 HB3
                go_wp2_with fail
                go_ret2
                rw [HR.out]
                exact ⟨rfl, HKW.out⟩
            · have hBl := ((hN.set_ 0 (.string rt)).set_ 1 (.int .i64 rc)).set_ 2 (.bool rb)
              have hW : Kept W1 (((w'.setCell ⟨W1.heap.size, 0, none⟩ (.string rt)).setCell ⟨W1.heap.size, 1, none⟩ (.int .i64 rc)).setCell ⟨W1.heap.size, 2, none⟩ (.bool rb)) := by
                have hk2 : Kept W1 w' := Kept.trans (Kept.drew (Kept.alloc (Kept.refl _) _)) hk'
                refine Kept.setCell (Kept.setCell (Kept.setCell hk2 ?_ _) ?_ _) ?_ _ <;> exact Nat.le_refl _
              replace hBl : Blk _ W1.heap.size 50 #[.string rt, .int .i64 rc, .bool rb] := hBl
              clear hk' hsx hN hn1 hn2 hn3
              rename_i hHeld
              clear hHeld d0 d1 dl
              generalize ((w'.setCell ⟨W1.heap.size, 0, none⟩ (.string rt)).setCell ⟨W1.heap.size, 1, none⟩ (.int .i64 rc)).setCell ⟨W1.heap.size, 2, none⟩ (.bool rb) = W at hW hBl ⊢
              generalize W1.heap.size = g' at hBl ⊢
              have hW0 := HK.out.trans (HKN.out.trans hW)
              have HG4 := HT.out.keptOwn (HKN.out.trans hW)
              have HBW := HBB.out.kept (HKN.out.trans hW)
              have HKW := Lib.hid hW0
              have HGW := Lib.hid HG4
              have HBX := Lib.hid HBW
              have d0 := hBl.cell 0
              have d1 := hBl.cell 1
              have d2 := hBl.cell 2
              have dl := hBl.lt
              simp only [List.getElem?_toArray, List.getElem?_cons_zero, List.getElem?_cons_succ] at d0 d1 d2
              have HNEWS := Lib.hid (pc_new (W := W.drew) (x := ⟨rt, rc, rb⟩) (t := 50))
              have HOW : Hid ((W.drew.alloc (.cells #[.string rt, .int .i64 rc, .bool rb] 50)).ownsRow (w.heap.size + 1) 50 3 (.slice A m m) m ((stk.take m).flatMap pcF)) := Lib.hid (by
                have h := GathR.alloc (w := W.drew) HG4 (.cells #[.string rt, .int .i64 rc, .bool rb] 50)
                unfold GathR at h
                rwa [HLM.out] at h)
              have HBS : Hid (w.heap.size + 1 ≤ (W.drew.alloc (.cells #[.string rt, .int .i64 rc, .bool rb] 50)).heap.size) := Lib.hid (by have := hW0.size; have := HBW.lt; simp; omega)
              have HONE := Lib.hid (pcF_one ⟨rt, rc, rb⟩)
              have hmx : m + 1 ≤ maxLen := by unfold maxLen; omega
              clear hW hBl HG4 HBW hW0
              by_cases hcd : code = 0
              · have HN := Lib.hid (HB3.out hcd)
                subst hcd
                clear HB2 HB3
                go_wp2_with fail
                go_region_law (first | (refine step_append_lies _ rfl (.tmp 57) (.tmp 59) 46 rfl (w.heap.size + 1) 50 i0 (.agg #[.string ⟨#[]⟩, .int .i64 0, .bool false]) 3 32 Tryz.underlying46 hi hz0 hz1 hz2 rfl (by decide) _ m ((stk.take m).flatMap pcF) (by simp [Act.eval]) HOW.out ⟨W.drew.heap.size, 0, none⟩ 1 1 (pcF ⟨rt, rc, rb⟩) (by simp [Act.eval]) rfl HNEWS.out HONE.out (by decide) hmx (by omega) HBS.out _ rfl ?_; intro g' cap' w2 hown' hgrow _ _))
                all_goals
                  go_wp2_with fail
                  go_roundw
                  case rel =>
                    have hg2 : (W.drew.alloc (.cells #[.string rt, .int .i64 rc, .bool rb] 50)).grownBy w2 (Value.slice A m m).ownBlock := hgrow
                    exact ⟨i + 1, stk.take m ++ [⟨rt, rc, rb⟩], rfl, hlt, ownGrown_kept (wr := W.drew) (HKW.out.drewN 1) HGW.out (Nat.le_succ _) hg2, (ownGrown_block (wr := W.drew) HGW.out hg2 HBX.out.lt (Nat.lt_succ_self _)).trans HBX.out, GathR.snoc (by rw [HLM.out]; exact hown'), HN.out⟩
                  case measure => simp [intOf]; omega
              · have HR := Lib.hid (HB2.out hcd)
                have hcb := bne_noB hcd
                clear HB2 HB3
                go_wp2_with fail
                go_ret2
                rw [HR.out]
                exact ⟨rfl, HKW.out⟩
          · have HRE := Lib.hid (show ∀ w', Kept W1 w' → Calls Tryz.prog 17 #[.agg #[.int .i64 T.o, .int .i64 T.n], .slice (Option.map (fun x => x.add (m * 3)) A) a (scap - m), .agg #[.slice AE ne ce, .slice AT nt ct, .slice AI ni ci, .slice AD nd cd, .slice AM nmm cm]] w' (rnPost (rend nm T (stk.drop m)) w') from fun w' h => HRN.out _ w' (Recs.from_ HRC.out HLN.out  (HKN.out.trans h)) ((HK.out.trans HKN.out).trans h) (by rw [List.length_drop, HLN.out, Nat.add_sub_cancel_left]; exact HA.out) hn64.1 hn64.2 HSX.out HPS.out (HM.out.kept ((HK.out.trans HKN.out).trans h)) (HP.out.kept ((HK.out.trans HKN.out).trans h)))
            unfold rnPost pcV at HRE
            generalize rend nm T (stk.drop m) = R at HRE HB2 HB3
            obtain ⟨⟨rt, rc, rb⟩, code⟩ := R
            dsimp only at HRE HB2 HB3
            have HALL := Lib.hid (show ∀ W, Kept W1 W → Kept W1 W ∧ W.cell? ⟨g, 0, none⟩ = some (.int .i64 T.o) ∧ W.cell? ⟨g, 1, none⟩ = some (.int .i64 T.n) ∧ W.cell? ⟨w.heap.size, 0, none⟩ = some (.slice AE ne ce) ∧ W.cell? ⟨w.heap.size, 1, none⟩ = some (.slice AT nt ct) ∧ W.cell? ⟨w.heap.size, 2, none⟩ = some (.slice AI ni ci) ∧ W.cell? ⟨w.heap.size, 3, none⟩ = some (.slice AD nd cd) ∧ W.cell? ⟨w.heap.size, 4, none⟩ = some (.slice AM nmm cm) from
              fun W h => ⟨h, h.cell (p := ⟨g, _, none⟩) dl d0, h.cell (p := ⟨g, _, none⟩) dl d1, h.cell (p := ⟨w.heap.size, _, none⟩) sl s0, h.cell (p := ⟨w.heap.size, _, none⟩) sl s1, h.cell (p := ⟨w.heap.size, _, none⟩) sl s2, h.cell (p := ⟨w.heap.size, _, none⟩) sl s3, h.cell (p := ⟨w.heap.size, _, none⟩) sl s4⟩)
            clear HRN BN BS
            go_region_held3 (fun W => Kept W1 W ∧ W.cell? ⟨g, 0, none⟩ = some (.int .i64 T.o) ∧ W.cell? ⟨g, 1, none⟩ = some (.int .i64 T.n) ∧ W.cell? ⟨w.heap.size, 0, none⟩ = some (.slice AE ne ce) ∧ W.cell? ⟨w.heap.size, 1, none⟩ = some (.slice AT nt ct) ∧ W.cell? ⟨w.heap.size, 2, none⟩ = some (.slice AI ni ci) ∧ W.cell? ⟨w.heap.size, 3, none⟩ = some (.slice AD nd cd) ∧ W.cell? ⟨w.heap.size, 4, none⟩ = some (.slice AM nmm cm))
              ((refine HALL.out _ ?_; (repeat (first | with_reducible exact Kept.refl _ | with_reducible assumption | with_reducible refine Kept.drew ?_ | with_reducible refine Kept.alloc ?_ _ | with_reducible refine Kept.setCell ?_ (by simp only; omega) _ | with_reducible refine Kept.trans ?_ ‹Kept _ _›))))
              ((go_at_call 17; refine (HRE.out _ ?_).mono ?_; (· (repeat (first | with_reducible exact Kept.refl _ | with_reducible assumption | with_reducible refine Kept.drew ?_ | with_reducible refine Kept.alloc ?_ _ | with_reducible refine Kept.setCell ?_ (by simp only; omega) _ | with_reducible refine Kept.trans ?_ ‹Kept _ _›))); rintro e w' ⟨rfl, hk'⟩; (try (have hN := Blk.kept (Blk.drew (Blk.new W1 50 #[.string ⟨#[]⟩, .int .i64 0, .bool false])) hk'; have hn1 := hN.cell; have hn2 := hN.frozen; have hn3 := hN.lt)); have hsx := Below.size hk'; (try simp at hsx)))
            · have hBl := Blk.new w' 50 #[.string rt, .int .i64 rc, .bool rb]
              have hW : Kept W1 (w'.alloc (.cells #[.string rt, .int .i64 rc, .bool rb] 50)) := Kept.alloc (Kept.trans (Kept.drew (Kept.refl _)) hk') _
              clear hk' hsx
              rename_i hHeld
              clear hHeld d0 d1 dl
              generalize w'.alloc (.cells #[.string rt, .int .i64 rc, .bool rb] 50) = W at hW hBl ⊢
              generalize w'.heap.size = g' at hBl ⊢
              have hW0 := HK.out.trans (HKN.out.trans hW)
              have HG4 := HT.out.keptOwn (HKN.out.trans hW)
              have HBW := HBB.out.kept (HKN.out.trans hW)
              have HKW := Lib.hid hW0
              have HGW := Lib.hid HG4
              have HBX := Lib.hid HBW
              have d0 := hBl.cell 0
              have d1 := hBl.cell 1
              have d2 := hBl.cell 2
              have dl := hBl.lt
              simp only [List.getElem?_toArray, List.getElem?_cons_zero, List.getElem?_cons_succ] at d0 d1 d2
              have HNEWS := Lib.hid (pc_new (W := W.drew) (x := ⟨rt, rc, rb⟩) (t := 50))
              have HOW : Hid ((W.drew.alloc (.cells #[.string rt, .int .i64 rc, .bool rb] 50)).ownsRow (w.heap.size + 1) 50 3 (.slice A m scap) m ((stk.take m).flatMap pcF)) := Lib.hid (by
                have h := GathR.alloc (w := W.drew) HG4 (.cells #[.string rt, .int .i64 rc, .bool rb] 50)
                unfold GathR at h
                rwa [HLM.out] at h)
              have HBS : Hid (w.heap.size + 1 ≤ (W.drew.alloc (.cells #[.string rt, .int .i64 rc, .bool rb] 50)).heap.size) := Lib.hid (by have := hW0.size; have := HBW.lt; simp; omega)
              have HONE := Lib.hid (pcF_one ⟨rt, rc, rb⟩)
              have hmx : m + 1 ≤ maxLen := by unfold maxLen; omega
              clear hW hBl HG4 HBW hW0
              by_cases hcd : code = 0
              · have HN := Lib.hid (HB3.out hcd)
                subst hcd
                clear HB2 HB3
                go_wp2_with fail
                go_region_law (first | (refine step_append_lies _ rfl (.tmp 57) (.tmp 59) 46 rfl (w.heap.size + 1) 50 i0 (.agg #[.string ⟨#[]⟩, .int .i64 0, .bool false]) 3 32 Tryz.underlying46 hi hz0 hz1 hz2 rfl (by decide) _ m ((stk.take m).flatMap pcF) (by simp [Act.eval]) HOW.out ⟨W.drew.heap.size, 0, none⟩ 1 1 (pcF ⟨rt, rc, rb⟩) (by simp [Act.eval]) rfl HNEWS.out HONE.out (by decide) hmx (by omega) HBS.out _ rfl ?_; intro g' cap' w2 hown' hgrow _ _))
                all_goals
                  go_wp2_with fail
                  go_roundw
                  case rel =>
                    have hg2 : (W.drew.alloc (.cells #[.string rt, .int .i64 rc, .bool rb] 50)).grownBy w2 (Value.slice A m scap).ownBlock := hgrow
                    exact ⟨i + 1, stk.take m ++ [⟨rt, rc, rb⟩], rfl, hlt, ownGrown_kept (wr := W.drew) (HKW.out.drewN 1) HGW.out (Nat.le_succ _) hg2, (ownGrown_block (wr := W.drew) HGW.out hg2 HBX.out.lt (Nat.lt_succ_self _)).trans HBX.out, GathR.snoc (by rw [HLM.out]; exact hown'), HN.out⟩
                  case measure => simp [intOf]; omega
              · have HR := Lib.hid (HB2.out hcd)
                have hcb := bne_noB hcd
                clear HB2 HB3
                go_wp2_with fail
                go_ret2
                rw [HR.out]
                exact ⟨rfl, HKW.out⟩
            · have hBl := ((hN.set_ 0 (.string rt)).set_ 1 (.int .i64 rc)).set_ 2 (.bool rb)
              have hW : Kept W1 (((w'.setCell ⟨W1.heap.size, 0, none⟩ (.string rt)).setCell ⟨W1.heap.size, 1, none⟩ (.int .i64 rc)).setCell ⟨W1.heap.size, 2, none⟩ (.bool rb)) := by
                have hk2 : Kept W1 w' := Kept.trans (Kept.drew (Kept.alloc (Kept.refl _) _)) hk'
                refine Kept.setCell (Kept.setCell (Kept.setCell hk2 ?_ _) ?_ _) ?_ _ <;> exact Nat.le_refl _
              replace hBl : Blk _ W1.heap.size 50 #[.string rt, .int .i64 rc, .bool rb] := hBl
              clear hk' hsx hN hn1 hn2 hn3
              rename_i hHeld
              clear hHeld d0 d1 dl
              generalize ((w'.setCell ⟨W1.heap.size, 0, none⟩ (.string rt)).setCell ⟨W1.heap.size, 1, none⟩ (.int .i64 rc)).setCell ⟨W1.heap.size, 2, none⟩ (.bool rb) = W at hW hBl ⊢
              generalize W1.heap.size = g' at hBl ⊢
              have hW0 := HK.out.trans (HKN.out.trans hW)
              have HG4 := HT.out.keptOwn (HKN.out.trans hW)
              have HBW := HBB.out.kept (HKN.out.trans hW)
              have HKW := Lib.hid hW0
              have HGW := Lib.hid HG4
              have HBX := Lib.hid HBW
              have d0 := hBl.cell 0
              have d1 := hBl.cell 1
              have d2 := hBl.cell 2
              have dl := hBl.lt
              simp only [List.getElem?_toArray, List.getElem?_cons_zero, List.getElem?_cons_succ] at d0 d1 d2
              have HNEWS := Lib.hid (pc_new (W := W.drew) (x := ⟨rt, rc, rb⟩) (t := 50))
              have HOW : Hid ((W.drew.alloc (.cells #[.string rt, .int .i64 rc, .bool rb] 50)).ownsRow (w.heap.size + 1) 50 3 (.slice A m scap) m ((stk.take m).flatMap pcF)) := Lib.hid (by
                have h := GathR.alloc (w := W.drew) HG4 (.cells #[.string rt, .int .i64 rc, .bool rb] 50)
                unfold GathR at h
                rwa [HLM.out] at h)
              have HBS : Hid (w.heap.size + 1 ≤ (W.drew.alloc (.cells #[.string rt, .int .i64 rc, .bool rb] 50)).heap.size) := Lib.hid (by have := hW0.size; have := HBW.lt; simp; omega)
              have HONE := Lib.hid (pcF_one ⟨rt, rc, rb⟩)
              have hmx : m + 1 ≤ maxLen := by unfold maxLen; omega
              clear hW hBl HG4 HBW hW0
              by_cases hcd : code = 0
              · have HN := Lib.hid (HB3.out hcd)
                subst hcd
                clear HB2 HB3
                go_wp2_with fail
                go_region_law (first | (refine step_append_lies _ rfl (.tmp 57) (.tmp 59) 46 rfl (w.heap.size + 1) 50 i0 (.agg #[.string ⟨#[]⟩, .int .i64 0, .bool false]) 3 32 Tryz.underlying46 hi hz0 hz1 hz2 rfl (by decide) _ m ((stk.take m).flatMap pcF) (by simp [Act.eval]) HOW.out ⟨W.drew.heap.size, 0, none⟩ 1 1 (pcF ⟨rt, rc, rb⟩) (by simp [Act.eval]) rfl HNEWS.out HONE.out (by decide) hmx (by omega) HBS.out _ rfl ?_; intro g' cap' w2 hown' hgrow _ _))
                all_goals
                  go_wp2_with fail
                  go_roundw
                  case rel =>
                    have hg2 : (W.drew.alloc (.cells #[.string rt, .int .i64 rc, .bool rb] 50)).grownBy w2 (Value.slice A m scap).ownBlock := hgrow
                    exact ⟨i + 1, stk.take m ++ [⟨rt, rc, rb⟩], rfl, hlt, ownGrown_kept (wr := W.drew) (HKW.out.drewN 1) HGW.out (Nat.le_succ _) hg2, (ownGrown_block (wr := W.drew) HGW.out hg2 HBX.out.lt (Nat.lt_succ_self _)).trans HBX.out, GathR.snoc (by rw [HLM.out]; exact hown'), HN.out⟩
                  case measure => simp [intOf]; omega
              · have HR := Lib.hid (HB2.out hcd)
                have hcb := bne_noB hcd
                clear HB2 HB3
                go_wp2_with fail
                go_ret2
                rw [HR.out]
                exact ⟨rfl, HKW.out⟩
    · obtain rfl : i = n := by omega
      have hd := hF
      rw [HX.out] at hd
      obtain ⟨p, rfl, hr⟩ := hd.done HV.out (by have := HX.out; omega)
      have HR := Lib.hid hr
      have hi0 : ¬ ((i : Int) < i) := by omega
      have hrc := hG.recs pcF_len
      subst hvv
      obtain ⟨A', c', hv', hA'⟩ := hrc
      simp only [Value.slice.injEq] at hv'
      obtain ⟨rfl, _, rfl⟩ := hv'
      obtain ⟨b, off, rfl, hb, hc⟩ := hA' (by simp)
      have x00 : wr.cell? ⟨b, off, none⟩ = some (.string p.t) := hc 0 _ rfl 0 _ rfl
      clear hc hA' hG hd hF hr
      go_wp2_with fail
      go_ret2
      rw [HR.out]
      exact ⟨rfl, hK⟩
end Go.Proofs.YtdnjfpmngnkcfaaGreatDoor
/- How long the text of a node is. -/
namespace Go.Proofs.YtdnjfpmngnkcfaaGreatDoor
open Go.RowKit

theorem dateS_sizeX {n : Int} (h : isDate n = true) : (dateS n).size = 10 := by
  have h1 := dparS_dateS h
  cases hB : dparB (dateS n)
  · rw [dparS_no hB] at h1
    exact absurd (show (2 : Int) = 0 from congrArg Prod.snd h1) (by decide)
  · unfold dparB at hB
    simp only [Bool.and_eq_true, decide_eq_true_eq] at hB
    exact hB.1
theorem vtext_sizeX {k e n : Int} {ms : List (List ByteArray)} (hm : ∀ l ∈ ms, l.length ≤ 20 ∧ ∀ x ∈ l, x.size ≤ 80) (hv : vtB k e ms = true) (hi : inB n k e ms = true) : (vtext k e n ms).size ≤ 140737488355328 := by
  have hb := (inB_iff hv).1 hi
  rcases vt_true hv with ⟨hk, rfl⟩ | ⟨rfl, _⟩
  · rcases hk with rfl | rfl | rfl | rfl | rfl
    · show (if n = 0 then (⟨#[102, 97, 108, 115, 101]⟩ : ByteArray) else ⟨#[116, 114, 117, 101]⟩).size ≤ _
      split <;> decide
    · obtain ⟨b0, b1⟩ : -1000000000000 ≤ n ∧ n ≤ 1000000000000 := hb
      have := numS_size n (by omega) (by omega)
      show (numS n).size ≤ _
      omega
    · obtain ⟨b0, b1⟩ : -1000000000000000 ≤ n ∧ n ≤ 1000000000000000 := hb
      exact Nat.le_trans (fixS_small n 2 (by omega) (by omega) (by decide)) (by decide)
    · obtain ⟨b0, b1⟩ : -1000000000 ≤ n ∧ n ≤ 1000000000 := hb
      have hl := absD_len n (by omega) (by omega)
      show (fixS n 4 ++ ⟨#[37]⟩).size ≤ _
      rw [ByteArray.size_append]
      unfold fixS
      rw [if_neg (by decide), bs_size, fixT, List.length_append, List.length_append, List.length_append, List.length_take, List.length_drop, padD, List.length_append, List.length_replicate, sgn]
      show _ + 1 ≤ _
      split <;> simp <;> omega
    · obtain ⟨b0, b1⟩ : 0 ≤ n ∧ n ≤ 109572 := hb
      show (dateS n).size ≤ _
      rw [dateS_sizeX (isDate_iff.2 ⟨b0, b1⟩)]; decide
  · show ((memS e ms)[n.toNat]?.getD ⟨#[]⟩).size ≤ _
    unfold memS
    cases hg : ms[e.toNat]? with
    | none => show (⟨#[]⟩ : ByteArray).size ≤ _; decide
    | some l =>
      rw [Option.getD_some]
      cases hx : l[n.toNat]? with
      | none => show (⟨#[]⟩ : ByteArray).size ≤ _; decide
      | some x =>
        have := (hm l (List.mem_of_getElem? hg)).2 x (List.mem_of_getElem? hx)
        rw [Option.getD_some]; omega
theorem vfmt_sizeX {ms : List (List ByteArray)} (hm : ∀ l ∈ ms, l.length ≤ 20 ∧ ∀ x ∈ l, x.size ≤ 80) (k e n : Int) : (L (vfmtS k e n ms).1).length ≤ 140737488355328 := by
  rw [L_length, vfmtS]
  cases hv : vtB k e ms
  · exact Nat.zero_le _
  · cases hi : inB n k e ms
    · exact Nat.zero_le _
    · exact vtext_sizeX hm hv hi
theorem modeW_sizeX (m : Int) : (modeW m).size ≤ 4 := by
  unfold modeW
  repeat' split
  all_goals decide
theorem opSg_size (o : Int) : (opSg o).1.size ≤ 3 := by
  unfold opSg
  repeat' split
  all_goals decide
def szP (a : List Pc) : Nat := (a.map fun p => p.t.size).sum
theorem arg_sum (a : List Pc) : (argP a 0).t.size + (argP a 1).t.size + (argP a 2).t.size ≤ szP a := by
  unfold argP szP
  match a with
  | [] => decide
  | [p] => simp [pc0]; exact Nat.le_refl _
  | [p, q] => simp [pc0]; exact Nat.le_refl _
  | p :: q :: r :: s => simp; omega
theorem withS_sizeX (p : Pc) (c : Int) : (withS p c).size ≤ p.t.size + 2 := by
  unfold withS
  split
  · rw [ByteArray.size_append, ByteArray.size_append]; show 1 + _ + 1 ≤ _; omega
  · omega
theorem nameAt_size (l : List ByteArray) (i : Int) (pre post : ByteArray) (h : (l[i.toNat]?.getD ⟨#[]⟩).size ≤ 140737488355328) : (nameAt l i pre post).1.t.size ≤ pre.size + 140737488355328 + post.size := by
  unfold nameAt
  split
  · exact Nat.zero_le _
  · show (pre ++ _ ++ post).size ≤ _
    rw [ByteArray.size_append, ByteArray.size_append]; omega
theorem vfmt0_size (o n : Int) : (vfmtS o 0 n []).1.size ≤ 140737488355328 := by
  have := vfmt_sizeX (ms := []) (fun l hl => by cases hl) o 0 n
  rwa [L_length] at this
set_option maxHeartbeats 2000000 in
theorem rend_size (nm : Nm) (x : Nd) (hs : ∀ s ∈ refN nm x, s.size ≤ 140737488355328) (a : List Pc) : (rend nm x a).1.t.size ≤ (a.map fun p => p.t.size).sum + 281474976711000 := by
  have h3 := arg_sum a
  have hm := modeW_sizeX x.n
  have hm8 := modeW_sizeX (x.n % 8)
  have hc := callW_size x.o
  have ho := opSg_size x.o
  have hw0 := fun c => withS_sizeX (argP a 0) c
  have hw1 := fun c => withS_sizeX (argP a 1) c
  change _ ≤ szP a + 281474976711000
  generalize szP a = z at *
  generalize hp0 : (argP a 0).t.size = z0 at *
  generalize hp1 : (argP a 1).t.size = z1 at *
  generalize hp2 : (argP a 2).t.size = z2 at *
  by_cases h1 : 1 ≤ x.o ∧ x.o ≤ 5
  · rw [rend, if_pos h1]
    split
    · have := vfmt0_size x.o x.n
      show (vfmtS x.o 0 x.n []).1.size ≤ _
      omega
    · exact Nat.zero_le _
  by_cases h6 : x.o = 6
  · rw [rend, if_neg h1, if_pos h6]
    unfold refN at hs
    rw [if_pos h6] at hs
    split
    · exact Nat.zero_le _
    · have e1 := hs _ (by simp : nm.en[(x.n / 16).toNat]?.getD ⟨#[]⟩ ∈ _)
      have e2 := hs _ (by simp : (nm.ms[(x.n / 16).toNat]?.getD [])[(x.n % 16).toNat]?.getD ⟨#[]⟩ ∈ _)
      have := nameAt_size (nm.ms[(x.n / 16).toNat]?.getD []) (x.n % 16) (nm.en[(x.n / 16).toNat]?.getD ⟨#[]⟩ ++ ⟨#[58]⟩) ⟨#[]⟩ e2
      rw [ByteArray.size_append] at this
      have e3 : (⟨#[58]⟩ : ByteArray).size = 1 := rfl
      have e4 : (⟨#[]⟩ : ByteArray).size = 0 := rfl
      omega
  by_cases h7 : x.o = 7
  · rw [rend, if_neg h1, if_neg h6, if_pos h7]
    unfold refN at hs
    rw [if_neg h6, if_pos h7] at hs
    have e2 := hs _ (List.mem_singleton.2 rfl)
    have := nameAt_size nm.ins x.n ⟨#[]⟩ ⟨#[]⟩ e2
    have e4 : (⟨#[]⟩ : ByteArray).size = 0 := rfl
    omega
  by_cases h8 : x.o = 8
  · rw [rend, if_neg h1, if_neg h6, if_neg h7, if_pos h8]
    unfold refN at hs
    rw [if_neg h6, if_neg h7, if_pos h8] at hs
    have e2 := hs _ (List.mem_singleton.2 rfl)
    have := nameAt_size nm.ds x.n ⟨#[]⟩ ⟨#[]⟩ e2
    have e4 : (⟨#[]⟩ : ByteArray).size = 0 := rfl
    omega
  by_cases h36 : 36 ≤ x.o ∧ x.o ≤ 39
  · rw [rend, if_neg h1, if_neg h6, if_neg h7, if_neg h8, if_pos h36]
    unfold refN at hs
    rw [if_neg h6, if_neg h7, if_neg h8, if_neg (by omega), if_pos h36] at hs
    have e2 := hs _ (List.mem_singleton.2 rfl)
    have := nameAt_size nm.md x.n (callW x.o ++ ⟨#[40]⟩) ⟨#[41]⟩ e2
    rw [ByteArray.size_append] at this
    have e3 : (⟨#[40]⟩ : ByteArray).size = 1 := rfl
    have e4 : (⟨#[41]⟩ : ByteArray).size = 1 := rfl
    omega
  have ht : (x.o = 33 ∨ x.o = 34) → (nm.tb[(tabI x).toNat]?.getD ⟨#[]⟩).size ≤ 140737488355328 := fun h => by
    unfold refN at hs
    rw [if_neg h6, if_neg h7, if_neg h8, if_pos h] at hs
    exact hs _ (List.mem_singleton.2 rfl)
  rw [rend, if_neg h1, if_neg h6, if_neg h7, if_neg h8, if_neg h36]
  have k1 : ∀ u : UInt8, (⟨#[u]⟩ : ByteArray).size = 1 := fun _ => rfl
  have k2 : ∀ u v : UInt8, (⟨#[u, v]⟩ : ByteArray).size = 2 := fun _ _ => rfl
  have k3 : (⟨#[105, 102, 32]⟩ : ByteArray).size = 3 := rfl
  have k4 : (⟨#[32, 116, 104, 101, 110, 32]⟩ : ByteArray).size = 6 := rfl
  have k5 : (⟨#[32, 101, 108, 115, 101, 32]⟩ : ByteArray).size = 6 := rfl
  have k6 : (⟨#[110, 111, 116, 32]⟩ : ByteArray).size = 4 := rfl
  have q0 := hw0 6
  have q1 := hw0 (if (opSg x.o).2 = 3 then 4 else (opSg x.o).2)
  have q2 := hw1 ((opSg x.o).2 + 1)
  split
  · rename_i hh
    have := ht hh
    split
    · exact Nat.zero_le _
    · split
      · split
        · exact Nat.zero_le _
        · simp only [atomP, ByteArray.size_append, k1, k2, hp0]; omega
      · simp only [atomP, ByteArray.size_append, k1, k2, hp0]; omega
  split
  · show 5 ≤ _; omega
  split
  · show 7 ≤ _; omega
  split
  · simp only [atomP, ByteArray.size_append, k1, hp0]; omega
  split
  · simp only [atomP, ByteArray.size_append, k1, k2, hp0, hp1]; omega
  split
  · split
    · exact Nat.zero_le _
    · simp only [atomP, ByteArray.size_append, k1, k2, hp0, hp1]; omega
  split
  · simp only [ByteArray.size_append, k3, k4, k5, hp0, hp1, hp2]; omega
  split
  · simp only [ByteArray.size_append, k6]; omega
  split
  · split
    · simp only [ByteArray.size_append, k1, hp0]; omega
    · simp only [ByteArray.size_append, k1]; omega
  · simp only [ByteArray.size_append, k1]; omega
end Go.Proofs.YtdnjfpmngnkcfaaGreatDoor
/- The contract of Format of package exprtext. -/
namespace Go.Proofs.YtdnjfpmngnkcfaaGreatDoor
open Go.RowKit

theorem fmtT_any (v nv : Value) (xs : List Nd) (nm : Nm) (w : World) (hN : Nds w v xs) (hNm : Names w nv nm) (hn : xs.length ≤ 9223372036854775807) (hi64 : ∀ x ∈ xs, -9223372036854775808 ≤ x.n ∧ x.n ≤ 9223372036854775807)
    (hs : ∀ x ∈ xs, ∀ s ∈ refN nm x, s.size ≤ 140737488355328) (hM : Mon w) (hP : Pow w) : Calls Tryz.prog 9 #[v, nv] w (fmPost nm xs w) :=
  formatX_any v nv xs nm w hN hNm hn hi64 hs (fun x hx a => rend_size nm x (hs x hx) a) hM hP
end Go.Proofs.YtdnjfpmngnkcfaaGreatDoor
