/- What number and Parse of the reference of package value compute. -/
import Derived.Test.YtjdljholajacdaaDoorValG
namespace Go.Proofs.YtjdljholajacdaaDoor
open Go.RowKit

/-- the last byte -/
theorem last_cases (s : ByteArray) : (s = ⟨#[]⟩ ∧ (L s).getLast? ≠ some 37) ∨ ∃ m : Nat, ∃ h : s.size = m + 1, (L s).dropLast = L (s.extract 0 m) ∧
    ((((s[m]'(by omega)).toNat : Int) == 37) = true ∧ (L s).getLast? = some 37 ∨ (((s[m]'(by omega)).toNat : Int) == 37) = false ∧ (L s).getLast? ≠ some 37) := by
  by_cases h0 : s.size = 0
  · have e : s = ⟨#[]⟩ := L_inj.1 (List.length_eq_zero_iff.1 (by rw [L_length]; exact h0))
    subst e
    exact .inl ⟨rfl, by decide⟩
  · refine .inr ⟨s.size - 1, by omega, ?_, ?_⟩
    · rw [L_extract, List.drop_zero, List.dropLast_eq_take, L_length]; rfl
    · have hg : (L s).getLast? = some (s[s.size - 1]'(by omega)) := by
        rw [List.getLast?_eq_getElem?, L_length, L_get s (s.size - 1) (by omega)]
      rw [hg]
      generalize s[s.size - 1]'(by omega) = c
      by_cases hc : c = 37
      · subst hc; exact .inl ⟨rfl, rfl⟩
      · have : c.toNat ≠ 37 := fun e => hc (UInt8.toNat_inj.1 e)
        exact .inr ⟨beq_no (by omega), by simpa using hc⟩

set_option maxRecDepth 100000 in
set_option maxHeartbeats 8000000 in
theorem vrnum_any (s : ByteArray) (k : Int) (hk : k = 1 ∨ k = 2 ∨ k = 3 ∨ k = 4 ∨ k = 5) (ms : List (List ByteArray)) (w : World) (hs : s.size ≤ 1000000) :
    Calls Tryd.prog 46 #[.string s, .int .i64 k] w fun r w' => r = .returned (.tuple #[.int .i64 (vnumS s k 0 ms).1, .int .i64 (vnumS s k 0 ms).2]) ∧ Kept w w' := by
  rcases hk with rfl | rfl | rfl | rfl | rfl
  · rcases vnum_bool s 0 ms with ⟨rfl, h⟩ | ⟨rfl, h⟩ | ⟨h1, h2, h⟩
    all_goals
      have HR := Lib.hid h
      clear h
      go_enter Tryd.func46, Tryd.ntmps46
      go_wp2_with fail
      go_ret2
      rw [HR.out]
      exact ⟨rfl, Kept.refl _⟩
  · have hF := Lib.hid (fun w => rparseInt_any s hs w)
    have HR := Lib.hid (show vnumS s 2 0 ms = refI (L s) from rfl)
    generalize refI (L s) = q at *
    obtain ⟨q1, q2⟩ := q
    dsimp only at hF
    go_enter Tryd.func46, Tryd.ntmps46
    go_wp2_with (go_at_call 62; refine (hF.out _).mono ?_; rintro r w1 ⟨rfl, rfl⟩)
    go_ret2
    exact ⟨ret_two HR.out, Kept.refl _⟩
  · have hF := Lib.hid (fun w => rparseFixed_any s 2 hs w)
    have HR := Lib.hid (show vnumS s 3 0 ms = refP (L s) 2 from rfl)
    generalize refP (L s) 2 = q at *
    obtain ⟨q1, q2⟩ := q
    dsimp only at hF
    go_enter Tryd.func46, Tryd.ntmps46
    go_wp2_with (go_at_call 64; refine (hF.out _).mono ?_; rintro r w1 ⟨rfl, hk⟩)
    go_ret2
    exact ⟨ret_two HR.out, hk⟩
  · rcases last_cases s with ⟨rfl, hl⟩ | ⟨m, hm, hd, ⟨hc, hl⟩ | ⟨hc, hl⟩⟩
    · have HR := Lib.hid (vnum_rate_no (e := 0) (ms := ms) hl)
      clear hl
      go_enter Tryd.func46, Tryd.ntmps46
      go_wp2_with fail
      go_ret2
      rw [HR.out]
      exact ⟨rfl, Kept.refl _⟩
    · have HR := Lib.hid (vnum_rate_yes (e := 0) (ms := ms) hl)
      rw [hd] at HR
      have hF := Lib.hid (fun w => rparseFixed_any (s.extract 0 m) 4 (by rw [ext_size _ _ _ (by omega)]; omega) w)
      generalize refP (L (s.extract 0 m)) 4 = q at *
      obtain ⟨q1, q2⟩ := q
      dsimp only at hF
      have he : (s.toList == []) = false := by
        rw [toList_L]
        have : L s ≠ [] := fun e => by have := congrArg List.length e; rw [L_length, List.length_nil] at this; omega
        simpa using this
      clear hl hd
      go_enter Tryd.func46, Tryd.ntmps46
      go_wp2_with (go_at_call 64; refine (hF.out _).mono ?_; rintro r w1 ⟨rfl, hk⟩)
      go_ret2
      exact ⟨ret_two HR.out, hk⟩
    · have HR := Lib.hid (vnum_rate_no (e := 0) (ms := ms) hl)
      have he : (s.toList == []) = false := by
        rw [toList_L]
        have : L s ≠ [] := fun e => by have := congrArg List.length e; rw [L_length, List.length_nil] at this; omega
        simpa using this
      clear hl hd
      go_enter Tryd.func46, Tryd.ntmps46
      go_wp2_with fail
      go_ret2
      rw [HR.out]
      exact ⟨rfl, Kept.refl _⟩
  · have hF := Lib.hid (fun w => rparse_any s w)
    have HR := Lib.hid (show vnumS s 5 0 ms = dparS s from rfl)
    generalize dparS s = q at *
    obtain ⟨q1, q2⟩ := q
    dsimp only at hF
    go_enter Tryd.func46, Tryd.ntmps46
    go_wp2_with (go_at_call 79; refine (hF.out _).mono ?_; rintro r w1 ⟨rfl, hk⟩)
    go_ret2
    exact ⟨ret_two HR.out, hk⟩

set_option maxRecDepth 100000 in
set_option maxHeartbeats 8000000 in
theorem rvparse_any (s : ByteArray) (k e : Int) (v : Value) (ms : List (List ByteArray)) (hs : k ≠ 6 → s.size ≤ 1000000) (w : World) (hE : Enums w v ms) :
    Calls Tryd.prog 19 #[.string s, .agg #[.int .i64 k, .int .i64 e], v] w fun r w' => r = .returned (vpV (vparS s k e ms)) ∧ Kept w w' := by
  have hE1 := fun w' (h : Kept w w') => hE.kept h
  have hT := Lib.hid (fun w h => rvtype_any k e v ms w h)
  cases hv : vtB k e ms
  · have HR := Lib.hid (show vparS s k e ms = (0, 0, 0, 8) by rw [vparS, hv]; rfl)
    rw [hv] at hT
    clear hv
    go_enter Tryd.func19, Tryd.ntmps19
    go_wp2_with (go_at_call 26; refine (hT.out _ (hE1 _ (((Kept.refl _).alloc _).alloc _))).mono ?_; rintro r w1 ⟨rfl, hk⟩; have hK := (((Kept.refl _).alloc _).alloc _).trans hk; have B := hk.blk2.2; have b := B.cell; have l := B.lt; have f := B.frozen)
    refine bodyPost_ret (v := vpV (vparS s k e ms)) (by rw [HR.out]; simp [vpV, results, Tryd.results19, go_sem, b]) rfl ⟨rfl, ?_⟩
    repeat refine Kept.setCell ?_ (by simp only; omega) _
    exact hK
  have HV : vparS s k e ms = (if (vnumS s k e ms).2 = 0 then (if inB (vnumS s k e ms).1 k e ms then (k, e, (vnumS s k e ms).1, 0) else (0, 0, 0, 3)) else (0, 0, 0, (vnumS s k e ms).2)) := by rw [vparS, hv]; rfl
  have hv2 := hv
  rw [hv] at hT
  rcases vt_true hv with ⟨hk, rfl⟩ | ⟨rfl, j, rfl, hj⟩
  · have hN := Lib.hid (fun w => vrnum_any s k hk ms w (hs (by omega)))
    have hI := Lib.hid (fun n w h => rin_any n k 0 v ms w h)
    have hk6 := beq_no (show k ≠ 6 by omega)
    clear hv hk hs hv2
    generalize vnumS s k 0 ms = N at *
    obtain ⟨n, c⟩ := N
    dsimp only at HV hN
    by_cases hc : c = 0
    · subst hc
      rw [if_pos rfl] at HV
      have hI := Lib.hid (hI.out n)
      generalize inB n k 0 ms = i at *
      cases i
      · have HR := Lib.hid (show vparS s k 0 ms = (0, 0, 0, 3) from HV)
        clear HV
        go_enter Tryd.func19, Tryd.ntmps19
        go_wp2_with (first
          | (go_at_call 26; refine (hT.out _ (hE1 _ (((Kept.refl _).alloc _).alloc _))).mono ?_; rintro r w1 ⟨rfl, hk⟩; have hK := (((Kept.refl _).alloc _).alloc _).trans hk; have B := hk.blk2.2; have b := B.cell; have l := B.lt; have f := B.frozen; have T := hk.blk2.1; have t := T.cell)
          | (go_at_call 46; refine (hN.out _).mono ?_; rintro r w2 ⟨rfl, hk⟩; have hK := hK.trans hk; have B := B.kept hk; have b := B.cell; have l := B.lt; have f := B.frozen; have T := T.kept hk; have t := T.cell)
          | (go_at_call 47; refine (hI.out _ (hE1 _ hK)).mono ?_; rintro r w3 ⟨rfl, hk⟩; have hK := hK.trans hk; have B := B.kept hk; have b := B.cell; have l := B.lt; have f := B.frozen; have T := T.kept hk; have t := T.cell))
        refine bodyPost_ret (v := vpV (vparS s k 0 ms)) (by rw [HR.out]; simp [vpV, results, Tryd.results19, go_sem, b]) rfl ⟨rfl, ?_⟩
        repeat refine Kept.setCell ?_ (by simp only; omega) _
        exact hK
      · have HR := Lib.hid (show vparS s k 0 ms = (k, 0, n, 0) from HV)
        clear HV
        go_enter Tryd.func19, Tryd.ntmps19
        go_wp2_with (first
          | (go_at_call 26; refine (hT.out _ (hE1 _ (((Kept.refl _).alloc _).alloc _))).mono ?_; rintro r w1 ⟨rfl, hk⟩; have hK := (((Kept.refl _).alloc _).alloc _).trans hk; have B := hk.blk2.2; have b := B.cell; have l := B.lt; have f := B.frozen; have T := hk.blk2.1; have t := T.cell)
          | (go_at_call 46; refine (hN.out _).mono ?_; rintro r w2 ⟨rfl, hk⟩; have hK := hK.trans hk; have B := B.kept hk; have b := B.cell; have l := B.lt; have f := B.frozen; have T := T.kept hk; have t := T.cell)
          | (go_at_call 47; refine (hI.out _ (hE1 _ hK)).mono ?_; rintro r w3 ⟨rfl, hk⟩; have hK := hK.trans hk; have B := B.kept hk; have b := B.cell; have l := B.lt; have f := B.frozen; have T := T.kept hk; have t := T.cell))
        refine bodyPost_ret (v := vpV (vparS s k 0 ms)) (by rw [HR.out]; simp [vpV, results, Tryd.results19, go_sem, b]) rfl ⟨rfl, ?_⟩
        repeat refine Kept.setCell ?_ (by simp only; omega) _
        exact hK
    · have HR := Lib.hid (show vparS s k 0 ms = (0, 0, 0, c) by rw [HV, if_neg hc])
      have hcb := beq_no hc
      clear HV hI
      go_enter Tryd.func19, Tryd.ntmps19
      go_wp2_with (first
        | (go_at_call 26; refine (hT.out _ (hE1 _ (((Kept.refl _).alloc _).alloc _))).mono ?_; rintro r w1 ⟨rfl, hk⟩; have hK := (((Kept.refl _).alloc _).alloc _).trans hk; have B := hk.blk2.2; have b := B.cell; have l := B.lt; have f := B.frozen; have T := hk.blk2.1; have t := T.cell)
        | (go_at_call 46; refine (hN.out _).mono ?_; rintro r w2 ⟨rfl, hk⟩; have hK := hK.trans hk; have B := B.kept hk; have b := B.cell; have l := B.lt; have f := B.frozen; have T := T.kept hk; have t := T.cell))
      refine bodyPost_ret (v := vpV (vparS s k 0 ms)) (by rw [HR.out]; simp [vpV, results, Tryd.results19, go_sem, b]) rfl ⟨rfl, ?_⟩
      repeat refine Kept.setCell ?_ (by simp only; omega) _
      exact hK
  · obtain ⟨b3, off, cap, N, B2, cc, l, hl, hN, hn9, rfl, hb, hcl, hcm⟩ := hE.at_ hj
    have hm := hE
    obtain ⟨_, _, _, hm, _⟩ := hm
    rw [vnum_six hl] at HV
    have hin : ∀ p : Nat, p < N → inB p 6 j ms = true := fun p hp => by
      rw [inB_six hl hv2, decide_eq_true (by omega), decide_eq_true (by omega)]; rfl
    have HVat := Lib.hid (fun (p : Nat) (hp : p < N) (h : vsix s l = ((p : Int), 0)) => (show vparS s 6 j ms = (6, (j : Int), (p : Int), 0) by rw [HV, h, if_pos rfl, if_pos (hin p hp)]))
    have HVno := Lib.hid (fun (h : vsix s l = (0, 6)) => (show vparS s 6 j ms = (0, 0, 0, 6) by rw [HV, h, if_neg (by decide)]))
    clear hl hin HV hv hv2 hs
    have HN := Lib.hid hN
    clear hN
    have hji : (j : Int) < ms.length := by omega
    go_enter Tryd.func19, Tryd.ntmps19
    go_wp2_with (go_at_call 26; refine (hT.out _ (hE1 _ (((Kept.refl _).alloc _).alloc _))).mono ?_; rintro r w1 ⟨rfl, hk⟩; have hK := (((Kept.refl _).alloc _).alloc _).trans hk; have B := hk.blk2.2; have b := B.cell; have l2 := B.lt; have f := B.frozen; have T := hk.blk2.1; have t := T.cell; have hcl1 := hK.cell (p := ⟨b3, _, none⟩) hb hcl)
    go_loop [9] (fun z => ∃ pos : Nat, pos ≤ N ∧ z = .int .i64 pos ∧ NoneS s l pos) (fun z => (N - intOf z).toNat)
    case atStart => exact ⟨0, Nat.zero_le _, rfl, NoneS.zero _ _⟩
    case round =>
      obtain ⟨pos, hps, rfl, hno⟩ := hrel
      by_cases hp : pos < N
      · obtain ⟨b4, off4, rfl, hb4, hc3⟩ := hcm (by omega)
        have hx : l[pos]? = some (l[pos]'(by have := HN.out; omega)) := List.getElem?_eq_getElem _
        have hc4 := hK.cell (p := ⟨b4, off4 + pos, none⟩) hb4 (hc3 pos hp)
        rw [hx] at hc4
        have HF := Lib.hid (fun (h : l[pos]'(by have := HN.out; omega) = s) => HVat.out pos hp (vsix_at (s := s) (by rw [hx, h]) hno))
        have HS := Lib.hid (fun (h : l[pos]'(by have := HN.out; omega) ≠ s) => hno.succ (by rw [hx]; exact fun e => h (Option.some.inj e)))
        clear hx hc3 hcm hno HVat HVno
        generalize l[pos]'(by have := HN.out; omega) = X at *
        have hpi : (pos : Int) < N := by omega
        change w1.cell? _ = some (.string X) at hc4
        cases hd : decide (X = s)
        · have HS := Lib.hid (HS.out (by simpa using hd))
          rw [← neqV] at hd
          clear HF
          go_wp2_with fail
          go_round
          case rel => exact ⟨pos + 1, hp, by go_num, HS.out⟩
          case measure => simp only [intOf]; omega
        · have HF := Lib.hid (HF.out (by simpa using hd))
          rw [← neqV] at hd
          clear HS
          go_wp2_with fail
          refine bodyPost_ret (v := vpV (vparS s 6 j ms)) (by rw [HF.out]; simp [vpV, results, Tryd.results19, go_sem, b]) rfl ⟨rfl, ?_⟩
          repeat refine Kept.setCell ?_ (by simp only; omega) _
          exact hK
      · have HF := Lib.hid (HVno.out (vsix_end (s := s) (l := l) (by rw [HN.out, show N = pos by omega]; exact hno)))
        clear hno HVat HVno
        have hpi : ¬ ((pos : Int) < N) := by omega
        go_wp2_with fail
        refine bodyPost_ret (v := vpV (vparS s 6 j ms)) (by rw [HF.out]; simp [vpV, results, Tryd.results19, go_sem, b]) rfl ⟨rfl, ?_⟩
        repeat refine Kept.setCell ?_ (by simp only; omega) _
        exact hK
end Go.Proofs.YtjdljholajacdaaDoor
