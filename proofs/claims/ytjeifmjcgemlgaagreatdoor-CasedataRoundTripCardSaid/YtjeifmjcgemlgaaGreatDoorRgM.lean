/- What parseValues of package casedata computes. -/
import Derived.Test.YtjeifmjcgemlgaaGreatDoorRgL
import Derived.Deep.DeepCutAuto
import Derived.Deep.AppendLies
import Derived.Test.YtjeifmjcgemlgaaGreatDoorRgE
import Derived.Test.YtjeifmjcgemlgaaGreatDoorRgF
import Derived.Test.YtjeifmjcgemlgaaGreatDoorRgD
import Derived.Test.YtjeifmjcgemlgaaGreatDoorRgA
import Derived.Test.YtjeifmjcgemlgaaGreatDoorRgI
namespace Go.Proofs.YtjeifmjcgemlgaaGreatDoor
open Go.RowKit

/-- the variable internal/bytealg.MaxLen holds some integer -/
def MaxV (w : World) : Prop := ∃ m, w.cell? ⟨1, 0, none⟩ = some (.int .i64 m)
theorem MaxV.kept {w w' : World} (h : MaxV w) (hk : Kept w w') : MaxV w' := by
  obtain ⟨m, hm⟩ := h
  refine ⟨m, hk.cell (p := ⟨1, 0, none⟩) ?_ hm⟩
  rcases Nat.lt_or_ge 1 w.heap.size with hlt | hge
  · exact hlt
  · simp [World.cell?, Array.getElem?_eq_none hge] at hm
theorem splitB_sizesC : ∀ (k : Nat) (s : ByteArray) (n : Nat), s.size ≤ n → ∀ x ∈ Lib.splitB ⟨#[32]⟩ 0 k s, x.size ≤ n
  | 0, s, n, hn, x, hx => by
    rw [Lib.splitB_zero] at hx
    obtain rfl : x = s := by simpa using hx
    exact hn
  | k + 1, s, n, hn, x, hx => by
    rw [Lib.splitB] at hx
    split at hx
    · obtain rfl : x = s := by simpa using hx
      exact hn
    · rcases List.mem_cons.1 hx with rfl | hx
      · rw [ByteArray.size_extract]; omega
      · exact splitB_sizesC k _ n (by rw [ByteArray.size_extract]; omega) x hx
/-- a line with a word, or without -/
theorem line_cases (line word : List UInt8) (hw : 32 ∉ word) : (line = word ∧ spl [] line = [word]) ∨
    (line ≠ word ∧ Lib.hasPrefix line (word ++ [32]) = false ∧ (spl [] line).head? ≠ some word) ∨
    (line ≠ word ∧ Lib.hasPrefix line (word ++ [32]) = true ∧ ∃ r, Lib.trimPrefix line (word ++ [32]) = r ∧ r.length ≤ line.length ∧ spl [] line = word :: spl [] r) := by
  by_cases h : line = word
  · subst h
    left
    exact ⟨rfl, by rw [spl_no _ _ hw]; rfl⟩
  · right
    cases hp : Lib.hasPrefix line (word ++ [32])
    · left
      refine ⟨h, rfl, fun hh => ?_⟩
      obtain ⟨x, ws, h1, h2⟩ := spl_text line []
      rw [h1] at hh
      obtain rfl : x = word := Option.some.inj hh
      cases ws with
      | nil => exact h (by simpa using h2.symm)
      | cons y ys =>
        have : Lib.hasPrefix line (x ++ [32]) = true := by
          unfold Lib.hasPrefix
          rw [List.isPrefixOf_iff_prefix]
          refine ⟨y ++ ys.flatMap (fun w => 32 :: w), ?_⟩
          rw [List.flatMap_cons] at h2
          simpa using h2
        rw [hp] at this; cases this
    · right
      have hpre : (word ++ [32]) <+: line := by
        unfold Lib.hasPrefix at hp
        rwa [List.isPrefixOf_iff_prefix] at hp
      obtain ⟨r, hr⟩ := hpre
      refine ⟨h, rfl, r, ?_, ?_, ?_⟩
      · rw [Lib.trimPrefix, if_pos hp, ← hr, List.drop_left]
      · rw [← hr, List.length_append]; omega
      · rw [← hr, List.append_assoc]
        exact spl_app word [] r hw
theorem parV_at {ms : List (List ByteArray)} {ts : List Ty} {ws : List (List UInt8)} {acc : List Vl} {i : Nat} {t : Ty} {l : List UInt8} (h1 : ts[i]? = some t) (h2 : ws[i]? = some l) :
    parV ms (ts.drop i) (ws.drop i) acc = if (vparS (bs l) t.k t.e ms).2.2.2 = 0 then parV ms (ts.drop (i + 1)) (ws.drop (i + 1)) (acc ++ [⟨(vparS (bs l) t.k t.e ms).1, (vparS (bs l) t.k t.e ms).2.1, (vparS (bs l) t.k t.e ms).2.2.1⟩]) else ([], (vparS (bs l) t.k t.e ms).2.2.2) := by
  obtain ⟨hi, rfl⟩ := List.getElem?_eq_some_iff.1 h1
  obtain ⟨hj, rfl⟩ := List.getElem?_eq_some_iff.1 h2
  rw [List.drop_eq_getElem_cons hi, List.drop_eq_getElem_cons hj, parV]
theorem parV_end {ms : List (List ByteArray)} {ts : List Ty} {ws : List (List UInt8)} {acc : List Vl} {i : Nat} (h : ¬ i < ws.length) : parV ms (ts.drop i) (ws.drop i) acc = (acc, 0) := by
  rw [List.drop_eq_nil_iff.2 (show ws.length ≤ i by omega)]
  cases ts.drop i <;> rfl
theorem strs_of_list (w : World) (l : List ByteArray) (t : TypeId) (n : Nat) (hn : n = l.length) : Strs (w.alloc (.cells (l.map Value.string).toArray t)) (.slice (some ⟨w.heap.size, 0, none⟩) n n) l := by
  subst hn
  refine ⟨_, _, rfl, fun _ => ⟨w.heap.size, 0, rfl, by simp, fun j hj => ?_⟩⟩
  rw [Nat.zero_add, World.cell?_alloc_at _ _ _ _ rfl, List.getElem?_toArray, List.getElem?_map, List.getElem?_eq_getElem hj]
  rfl
theorem Tryz.infoVal : (Tryz.prog.info? 61).map (fun i => (i.zero, i.size, i.bytes)) = some (some (.agg #[.int .i64 0, .int .i64 0, .int .i64 0]), 3, 24) := by kernel_rfl
theorem split_any (s : ByteArray) (hs : s.size ≤ 1000000) (w : World) (hX : MaxV w) : Calls Tryz.prog 43 #[.string s, .string ⟨#[32]⟩] w fun e w' => ∃ v xs, e = .returned v ∧ Strs w' v xs ∧ xs.map L = spl [] (L s) ∧ xs.length ≤ 1000001 ∧ (∀ x ∈ xs, x.size ≤ s.size) ∧ Kept w w' := by
  obtain ⟨m, hm⟩ := hX
  refine (Tryz.strings_Split s ⟨#[32]⟩ m w (by omega) hm (by decide)).mono ?_
  rintro e w' ⟨rfl, rfl⟩
  have hl := Lib.splitB_all ⟨#[32]⟩ (by decide) 0 _ s rfl
  have hc := Lib.countB_le ⟨#[32]⟩ (by decide) _ s (Nat.le_refl _)
  refine ⟨_, _, rfl, ?_, split_spl _ s rfl, by omega, splitB_sizesC _ s _ (Nat.le_refl _), (Kept.refl _).alloc _⟩
  have := strs_of_list w (Lib.splitB ⟨#[32]⟩ 0 (Lib.countB s ⟨#[32]⟩) s) 9 (Lib.countB s ⟨#[32]⟩ + 1) hl.symm
  exact this
theorem bne_noV {a b : Int} (h : a ≠ b) : (a != b) = true := by simpa using h
theorem gath_low {α : Type} {f : α → List Value} {k : Nat} {w : World} {B B' : Nat} {e : TypeId} {v : Value} {xs : List α} (h : GathR w B e f k v xs) (hb : B' ≤ B) : GathR w B' e f k v xs := by
  refine ⟨h.1, ?_⟩
  rcases h.2 with hn | ⟨g, cap, cur, hv, hg, r⟩
  · exact .inl hn
  · exact .inr ⟨g, cap, cur, hv, Nat.le_trans hb hg, r⟩
theorem vlF_one (x : Vl) : ∀ u ∈ vlF x, u.oneCell' = true := by
  intro u hu
  simp only [vlF, List.mem_cons, List.not_mem_nil, or_false] at hu
  rcases hu with rfl | rfl | rfl <;> rfl
theorem vl_new {W : World} {x : Vl} {t : TypeId} : ∀ j u, (vlF x)[j]? = some u → (W.alloc (.cells #[.int .i64 x.k, .int .i64 x.e, .int .i64 x.n] t)).cell? ((⟨W.heap.size, 0, none⟩ : Addr).add j) = some u :=
  blk_cells (l := vlF x)
def pvPost (ms : List (List ByteArray)) (word line : ByteArray) (ts : List Ty) (w : World) (e : Ending) (w' : World) : Prop :=
  ∃ u, e = .returned (.tuple #[u, .int .i64 (parI ms (L word) ts (L line)).2]) ∧ GathR w' w.heap.size 61 vlF 3 u (parI ms (L word) ts (L line)).1 ∧ Kept w w'
set_option maxRecDepth 100000 in
set_option maxHeartbeats 8000000 in
theorem parseValues_any (ev : Value) (At As : Option Addr) (nt ct ns cs : Nat) (iv : Value) (ms : List (List ByteArray)) (ts : List Ty) (line word : ByteArray) (w : World) (hE : Enums w ev ms) (hI : Fds w iv ts)
    (hls : line.size ≤ 1000000) (hws : word.size ≤ 100) (hw : 32 ∉ L word) (htl : ts.length ≤ 9223372036854775807) (hX : MaxV w) (hMo : Mon w) :
    Calls Tryz.prog 25 #[.agg #[ev, .slice At nt ct, .slice As ns cs], .string line, .string word, iv] w (pvPost ms word line ts w) := by
  unfold pvPost
  obtain ⟨i0, hi, hz0, hz1, hz2⟩ := info_parts Tryz.infoVal
  have HE := Lib.hid hE
  have HI := Lib.hid hI
  obtain ⟨AE, ce, rfl, _, _⟩ := id hE
  obtain ⟨AI, ci, rfl, hAI⟩ := id hI
  have hBx := Blk.new w 26 #[.slice AE ms.length ce, .slice At nt ct, .slice As ns cs]
  have hKx := (Kept.refl w).alloc (.cells #[.slice AE ms.length ce, .slice At nt ct, .slice As ns cs] 26)
  have hneq := neqS line word
  have hcat : word ++ ⟨#[32]⟩ = bs (L word ++ [32]) := by rw [← L_inj, L_append]; rfl
  have hcs : (word ++ ⟨#[32]⟩ : ByteArray).size ≤ 101 := by rw [ByteArray.size_append]; show _ + 1 ≤ _; omega
  have HCP := Lib.hid (fun w => Tryz.strings_CutPrefix line (bs (L word ++ [32])) w)
  rw [show line.data.toList = L line from rfl, show (bs (L word ++ [32])).data.toList = L word ++ [32] from rfl, ← hcat] at HCP
  have hlc := line_cases (L line) (L word) hw
  rw [L_inj] at hlc
  have HPI := Lib.hid (show ∀ ws : List (List UInt8), spl [] (L line) = L word :: ws → parI ms (L word) ts (L line) = if [] ∈ ws then ([], 2) else if ws.length < ts.length then ([], 5) else if ts.length < ws.length then ([], 4) else parV ms ts ws [] from fun ws h => by
    rw [parI, h]
    simp)
  have HNO := Lib.hid (show (spl [] (L line)).head? ≠ some (L word) → parI ms (L word) ts (L line) = ([], 2) from fun h => by rw [parI, if_pos (.inl h)])
  clear hE hI hcat
  go_enter Tryz.func25, Tryz.ntmps25
  go_upto_if 20 with fail
  go_cut [10] (fun t wx => ∃ xs : List ByteArray, Strs wx t xs ∧ xs.length ≤ 1000001 ∧ (∀ x ∈ xs, x.size ≤ 1000000) ∧ spl [] (L line) = L word :: xs.map L ∧ Kept w wx ∧ Blk wx w.heap.size 26 #[.slice AE ms.length ce, .slice At nt ct, .slice As ns cs])
  case first =>
    rcases hlc with ⟨he, hs1⟩ | ⟨hne, hp, hhd⟩ | ⟨hne, hp, r, htr, hrl, hsp⟩
    · rw [show (!decide (line = word)) = false by rw [decide_eq_true he]; rfl]
      have HS1 := Lib.hid hs1
      clear hs1 HPI HNO HCP hX hMo he hneq
      go_wp2_with fail
      go_meet
      exact ⟨[], Strs.nil _, by decide, by simp, HS1.out, by first | exact hKx.setCell (by simp only; omega) _ | exact hKx, by first | exact hBx | skip⟩
    · rw [show (!decide (line = word)) = true by rw [decide_eq_false (fun h => hne (by rw [h]))]; rfl]
      rw [hp] at HCP
      have HN2 := Lib.hid (HNO.out hhd)
      clear hp hhd HPI HNO hX hMo hneq hne
      go_wp2_with (go_at_call 23; refine (HCP.out _).mono ?_; rintro e w1 ⟨rfl, rfl⟩)
      go_ret2
      rw [HN2.out]
      exact ⟨_, rfl, GathR.nil _ _ _, hKx⟩
    · rw [show (!decide (line = word)) = true by rw [decide_eq_false (fun h => hne (by rw [h]))]; rfl]
      rw [hp, htr] at HCP
      have hrs : (bs r).size ≤ 1000000 := by rw [bs_size]; rw [L_length] at hrl; omega
      have HSP := Lib.hid (fun w h => split_any (bs r) hrs w h)
      have HSX := Lib.hid hsp
      rw [L_bs] at HSP
      have HX := Lib.hid hX
      rw [show (⟨r.toArray⟩ : ByteArray) = bs r from rfl] at HCP
      have hbr := bs_size r
      clear hp HPI HNO hMo htr hsp hX hneq hne
      generalize bs r = R at *
      go_wp2_with (first
        | (go_at_call 23; refine (HCP.out _).mono ?_; rintro e w1 ⟨rfl, rfl⟩)
        | (go_at_call 43; refine (HSP.out _ (HX.out.kept (by first | exact hKx | exact hKx.setCell (by simp only; omega) _))).mono ?_; rintro e w2 ⟨v, xs, rfl, hS, hm, hl, hsz, hk⟩))
      go_meet
      refine ⟨xs, hS, hl, fun x hx => Nat.le_trans (hsz x hx) hrs, by rw [hm]; exact HSX.out, hKx.trans hk, ?_⟩
      exact hBx.kept hk
  case rest =>
    obtain ⟨xs, hS, hxl, hxs, hsp, hK, hB⟩ := hcut
    obtain ⟨A, cap, rfl, hA⟩ := hS.at3
    have HCT := Lib.hid (contains_any _ xs ⟨#[]⟩ wc hS (by omega))
    have hpi := HPI.out _ hsp
    have hXc := hX.kept hK
    have hMc := hMo.kept hK
    have hEc := HE.out.kept hK
    obtain ⟨n, hn⟩ : ∃ n, n = xs.length := ⟨_, rfl⟩
    obtain ⟨mt, hmt⟩ : ∃ n, n = ts.length := ⟨_, rfl⟩
    rw [← hn] at HCT hxl hA ⊢
    rw [← hmt] at htl hpi hAI ⊢
    have HN := Lib.hid hn
    have HMT := Lib.hid hmt
    clear HPI HNO HCP hlc hX hMo hKx hBx hneq hS hsp hcs hn hmt HE
    by_cases hm0 : (⟨#[]⟩ : ByteArray) ∈ xs
    · rw [decide_eq_true (idxS_in hm0)] at HCT
      rw [if_pos (show [] ∈ xs.map L from List.mem_map.2 ⟨_, hm0, rfl⟩)] at hpi
      have HR := Lib.hid hpi
      clear hm0 hpi hA
      go_wp2_with (go_at_call 44; refine HCT.out.mono ?_; rintro e w1 ⟨rfl, rfl⟩)
      go_ret2
      rw [HR.out]
      exact ⟨_, rfl, GathR.nil _ _ _, hK⟩
    · rw [decide_eq_false (by rw [idxS_out hm0]; decide)] at HCT
      rw [if_neg (fun h => by obtain ⟨x, hx, he⟩ := List.mem_map.1 h; exact hm0 (by rwa [← L_inj.1 (show L x = L ⟨#[]⟩ from he)])), List.length_map] at hpi
      rw [← HN.out] at hpi
      by_cases hlt : n < mt
      · rw [if_pos hlt] at hpi
        have HR := Lib.hid hpi
        have hlti : (n : Int) < mt := by omega
        clear hm0 hpi hA
        go_wp2_with (go_at_call 44; refine HCT.out.mono ?_; rintro e w1 ⟨rfl, rfl⟩)
        go_ret2
        rw [HR.out]
        exact ⟨_, rfl, GathR.nil _ _ _, hK⟩
      rw [if_neg hlt] at hpi
      have hlti : ¬ (n : Int) < mt := by omega
      by_cases hgt : mt < n
      · rw [if_pos hgt] at hpi
        have HR := Lib.hid hpi
        have hgti : (mt : Int) < n := by omega
        clear hm0 hpi hA
        go_wp2_with (go_at_call 44; refine HCT.out.mono ?_; rintro e w1 ⟨rfl, rfl⟩)
        go_ret2
        rw [HR.out]
        exact ⟨_, rfl, GathR.nil _ _ _, hK⟩
      rw [if_neg hgt] at hpi
      obtain rfl : n = mt := by omega
      have HPA := Lib.hid hpi
      have HA := Lib.hid hA
      have HAI := Lib.hid hAI
      clear hm0 hpi hA hAI hlt hgt hlti
      go_wp2_with (go_at_call 44; refine HCT.out.mono ?_; rintro e w1 ⟨rfl, rfl⟩)
      go_loopw [13, 49] (fun x z wr => ∃ (i : Nat) (acc : List Vl), z = .int .i64 i ∧ i ≤ n ∧ acc.length = i ∧ Kept wc wr ∧ GathR wr wc.heap.size 61 vlF 3 x acc ∧ parV ms (ts.drop i) ((xs.map L).drop i) acc = parI ms (L word) ts (L line)) (fun _ z _ => n - (intOf z).toNat)
      case atStart => exact ⟨0, [], rfl, Nat.zero_le _, rfl, Kept.refl _, GathR.nil _ _ _, HPA.out.symm⟩
      case round =>
        obtain ⟨i, acc, rfl, hin, hal, hKr, hG, hrun⟩ := hrel
        by_cases hlt : i < n
        · obtain ⟨b1, o1, rfl, hb1, hc1⟩ := HA.out (by omega)
          obtain ⟨b2, o2, rfl, hb2, hc2⟩ := HAI.out (by omega)
          have hg1 : xs[i]? = some (xs[i]'(by have := HN.out; omega)) := List.getElem?_eq_getElem _
          have hg2 : ts[i]? = some (ts[i]'(by have := HMT.out; omega)) := List.getElem?_eq_getElem _
          have hgm : (xs.map L)[i]? = some (L (xs[i]'(by have := HN.out; omega))) := by rw [List.getElem?_map, hg1]; rfl
          have x0 := hc1 i _ hg1
          obtain ⟨y0, y1⟩ := hc2 i _ hg2
          have hxz := hxs _ (List.mem_of_getElem? hg1)
          rw [parV_at hg2 hgm] at hrun
          generalize xs[i]'(by have := HN.out; omega) = X at *
          generalize ts[i]'(by have := HMT.out; omega) = T at *
          obtain ⟨tk, te⟩ := T
          dsimp only at hrun y0 y1
          rw [bs_L] at hrun
          have X0 := hKr.cell (p := ⟨b1, _, none⟩) hb1 x0
          have Y0 := (hK.trans hKr).cell (p := ⟨b2, _, none⟩) hb2 y0
          have Y1 := (hK.trans hKr).cell (p := ⟨b2, _, none⟩) hb2 y1
          have hBr := hB.kept hKr
          have c0 := hBr.cell 0
          have cl := hBr.lt
          have b1r := Nat.lt_of_lt_of_le hb1 hKr.size
          have b2r := Nat.lt_of_lt_of_le hb2 (hK.trans hKr).size
          have hii : (i : Int) < n := by omega
          have HVP := Lib.hid (fun w' (h : Kept wc w') => vparse_any X tk te (.slice AE ms.length ce) ms (fun _ => hxz) w' (hEc.kept h) (hMc.kept h))
          generalize vparS X tk te ms = R at *
          obtain ⟨rk, re, rn, rc⟩ := R
          unfold vpV at HVP
          dsimp only at hrun HVP
          have HHR := Lib.hid hrun
          have HKR := Lib.hid hKr
          have HKK := Lib.hid hK
          obtain ⟨A2, c2, hv2, _, _⟩ := hG.form
          subst hv2
          have HHG := Lib.hid hG
          have HAL := Lib.hid hal
          have HMC := Lib.hid hMc
          have HEC := Lib.hid hEc
          have HXC := Lib.hid hXc
          have HXS := Lib.hid hxs
          have hali : acc.length ≤ 1000001 := by omega
          clear hal x0 y0 y1 hc1 hc2 hg1 hg2 hgm hMc hEc hXc hxs HCT HPA HA HAI hG hrun hKr hB hBr hK
          go_wp2_with fail
          have HALL := Lib.hid (show ∀ W, Kept wr W → Kept wr W ∧ W.cell? ⟨b2, o2 + i * 3 + 1, none⟩ = some (.int .i64 tk) ∧ W.cell? ⟨b2, o2 + i * 3 + 2, none⟩ = some (.int .i64 te) ∧ W.cell? ⟨w.heap.size, 0, none⟩ = some (.slice AE ms.length ce) from fun W h => ⟨h, h.cell (p := ⟨b2, _, none⟩) b2r Y0, h.cell (p := ⟨b2, _, none⟩) b2r Y1, h.cell (p := ⟨w.heap.size, _, none⟩) cl c0⟩)
          go_region_held3 (fun W => Kept wr W ∧ W.cell? ⟨b2, o2 + i * 3 + 1, none⟩ = some (.int .i64 tk) ∧ W.cell? ⟨b2, o2 + i * 3 + 2, none⟩ = some (.int .i64 te) ∧ W.cell? ⟨w.heap.size, 0, none⟩ = some (.slice AE ms.length ce))
            ((refine HALL.out _ ?_; (repeat (first | with_reducible exact Kept.refl _ | with_reducible assumption | with_reducible refine Kept.drew ?_ | with_reducible refine Kept.alloc ?_ _ | with_reducible refine Kept.setCell ?_ (by simp only; omega) _ | with_reducible refine Kept.trans ?_ ‹Kept _ _›))))
            ((go_at_call 45; refine (HVP.out _ (HKR.out.trans ?_)).mono ?_; (· (repeat (first | with_reducible exact Kept.refl _ | with_reducible assumption | with_reducible refine Kept.drew ?_ | with_reducible refine Kept.alloc ?_ _ | with_reducible refine Kept.setCell ?_ (by simp only; omega) _ | with_reducible refine Kept.trans ?_ ‹Kept _ _›))); rintro e w' ⟨rfl, hk'⟩; (try (have hN := Blk.kept (Blk.drew (Blk.new wr 61 #[.int .i64 0, .int .i64 0, .int .i64 0])) hk'; have hn1 := hN.cell; have hn2 := hN.frozen; have hn3 := hN.lt)); have hsx := Below.size hk'; (try simp at hsx)))
          · have hBl := Blk.new w' 61 #[.int .i64 rk, .int .i64 re, .int .i64 rn]
            have hW : Kept wr (w'.alloc (.cells #[.int .i64 rk, .int .i64 re, .int .i64 rn] 61)) := Kept.alloc (Kept.trans (Kept.drew (Kept.refl _)) hk') _
            clear hk' hsx
            rename_i hHeld
            clear hHeld
            generalize w'.alloc (.cells #[.int .i64 rk, .int .i64 re, .int .i64 rn] 61) = W at hW hBl ⊢
            generalize w'.heap.size = g at hBl ⊢
            have hW0 := HKR.out.trans hW
            have HG4 := HHG.out.keptOwn hW
            have d0 := hBl.cell 0
            have d1 := hBl.cell 1
            have d2 := hBl.cell 2
            have dl := hBl.lt
            simp only [List.getElem?_toArray, List.getElem?_cons_zero, List.getElem?_cons_succ] at d0 d1 d2
            clear hW hBl HVP
            have hacl : acc.length + 1 ≤ maxLen := by unfold maxLen; omega
            have hacl2 : (acc.length + 1) * 24 ≤ 140737488355328 := by omega
            by_cases hrc : rc = 0
            · have HRUN := Lib.hid (HHR.out.symm.trans (if_pos hrc)).symm
              have HO4 := HG4.alloc (.cells #[.int .i64 rk, .int .i64 re, .int .i64 rn] 61)
              subst hrc
              have hw14 := hW0.size
              go_wp2_with (at_builtin; refine wpList_append_own _ rfl (.tmp 69) (.tmp 71) 27 rfl wc.heap.size 61 i0 (.agg #[.int .i64 0, .int .i64 0, .int .i64 0]) 3 24 Tryz.underlying27 hi hz0 hz1 hz2 rfl (by decide) _ acc.length (acc.flatMap vlF) rfl HO4 ⟨W.heap.size, 0, none⟩ 1 1 (vlF ⟨rk, re, rn⟩) rfl rfl vl_new (vlF_one _) hacl hacl2 (by simp; omega) ?_; intro v' w5 hown' hgrow _)
              go_roundw
              case rel => exact ⟨i + 1, acc ++ [⟨rk, re, rn⟩], rfl, hlt, by rw [List.length_append, HAL.out]; rfl, ownGrown_kept hW0 HG4 (Nat.le_refl _) hgrow, GathR.snoc hown', HRUN.out⟩
              case measure => simp [intOf]; omega
            · have HR := Lib.hid (HHR.out.symm.trans (if_neg hrc)).symm
              have hrcb := bne_noV hrc
              go_wp2_with fail
              go_ret2
              rw [← HR.out]
              exact ⟨_, rfl, GathR.nil _ _ _, HKK.out.trans hW0⟩
          · have hBl := ((hN.set_ 0 (.int .i64 rk)).set_ 1 (.int .i64 re)).set_ 2 (.int .i64 rn)
            have hW : Kept wr (((w'.setCell ⟨wr.heap.size, 0, none⟩ (.int .i64 rk)).setCell ⟨wr.heap.size, 1, none⟩ (.int .i64 re)).setCell ⟨wr.heap.size, 2, none⟩ (.int .i64 rn)) := by
              have hk2 : Kept wr w' := Kept.trans (Kept.drew (Kept.alloc (Kept.refl _) _)) hk'
              refine Kept.setCell (Kept.setCell (Kept.setCell hk2 ?_ _) ?_ _) ?_ _ <;> exact Nat.le_refl _
            replace hBl : Blk _ wr.heap.size 61 #[.int .i64 rk, .int .i64 re, .int .i64 rn] := hBl
            clear hk' hsx hN hn1 hn2 hn3
            rename_i hHeld
            clear hHeld
            generalize ((w'.setCell ⟨wr.heap.size, 0, none⟩ (.int .i64 rk)).setCell ⟨wr.heap.size, 1, none⟩ (.int .i64 re)).setCell ⟨wr.heap.size, 2, none⟩ (.int .i64 rn) = W at hW hBl ⊢
            generalize wr.heap.size = g at hBl ⊢
            have hW0 := HKR.out.trans hW
            have HG4 := HHG.out.keptOwn hW
            have d0 := hBl.cell 0
            have d1 := hBl.cell 1
            have d2 := hBl.cell 2
            have dl := hBl.lt
            simp only [List.getElem?_toArray, List.getElem?_cons_zero, List.getElem?_cons_succ] at d0 d1 d2
            clear hW hBl HVP
            have hacl : acc.length + 1 ≤ maxLen := by unfold maxLen; omega
            have hacl2 : (acc.length + 1) * 24 ≤ 140737488355328 := by omega
            by_cases hrc : rc = 0
            · have HRUN := Lib.hid (HHR.out.symm.trans (if_pos hrc)).symm
              have HO4 := HG4.alloc (.cells #[.int .i64 rk, .int .i64 re, .int .i64 rn] 61)
              subst hrc
              have hw14 := hW0.size
              go_wp2_with (at_builtin; refine wpList_append_own _ rfl (.tmp 69) (.tmp 71) 27 rfl wc.heap.size 61 i0 (.agg #[.int .i64 0, .int .i64 0, .int .i64 0]) 3 24 Tryz.underlying27 hi hz0 hz1 hz2 rfl (by decide) _ acc.length (acc.flatMap vlF) rfl HO4 ⟨W.heap.size, 0, none⟩ 1 1 (vlF ⟨rk, re, rn⟩) rfl rfl vl_new (vlF_one _) hacl hacl2 (by simp; omega) ?_; intro v' w5 hown' hgrow _)
              go_roundw
              case rel => exact ⟨i + 1, acc ++ [⟨rk, re, rn⟩], rfl, hlt, by rw [List.length_append, HAL.out]; rfl, ownGrown_kept hW0 HG4 (Nat.le_refl _) hgrow, GathR.snoc hown', HRUN.out⟩
              case measure => simp [intOf]; omega
            · have HR := Lib.hid (HHR.out.symm.trans (if_neg hrc)).symm
              have hrcb := bne_noV hrc
              go_wp2_with fail
              go_ret2
              rw [← HR.out]
              exact ⟨_, rfl, GathR.nil _ _ _, HKK.out.trans hW0⟩
        · obtain rfl : i = n := by omega
          rw [parV_end (by rw [List.length_map]; have := HN.out; omega)] at hrun
          have HR := Lib.hid hrun
          clear hrun
          go_wp2_with fail
          go_ret2
          rw [← HR.out]
          exact ⟨_, rfl, gath_low hG hK.size, hK.trans hKr⟩
end Go.Proofs.YtjeifmjcgemlgaaGreatDoor
/- What Parse of package casedata computes. -/
namespace Go.Proofs.YtjeifmjcgemlgaaGreatDoor
open Go.RowKit

section
variable {α : Type} {f : α → List Value} {k : Nat} {w : World} {B : Nat} {e : TypeId}
theorem GathR.blockC {v : Value} {xs : List α} (h : GathR w B e f k v xs) {g : Nat} (hv : v.ownBlock = some g) : ∃ cur, w.heap[g]? = some (.cells cur e (0, 0)) := by
  rcases h.2 with ⟨rfl, _⟩ | ⟨g', cap, cur, rfl, _, hg, _⟩
  · cases hv
  · obtain rfl : g' = g := Option.some.inj hv
    exact ⟨cur, hg⟩
theorem GathR.frozenC {v : Value} {xs : List α} (h : GathR w B e f k v xs) {g : Nat} (hv : v.ownBlock = some g) (i : Nat) : w.frozen? ⟨g, i, none⟩ = false := by
  obtain ⟨cur, hc⟩ := h.blockC hv
  simp [World.frozen?, hc]
/-- a row that is not the row that has grown -/
theorem GathR.grownC {w' : World} {v : Value} {xs : List α} {row : Option Nat} (h : GathR w B e f k v xs) (hg : w.grownBy w' row) (hne : ∀ b, v.ownBlock = some b → row ≠ some b) : GathR w' B e f k v xs := by
  refine ⟨h.1, ?_⟩
  rcases h.2 with hn | ⟨g, cap, cur, rfl, hb, hc, r⟩
  · exact .inl hn
  · exact .inr ⟨g, cap, cur, rfl, hb, (hg.block g (Array.getElem?_eq_some_iff.1 hc).1 (fun e => hne g rfl e.symm)).trans hc, r⟩
theorem GathR.farC {v : Value} {xs : List α} {p : Addr} {u : Value} (h : GathR w B e f k v xs) (hp : ∀ b, v.ownBlock = some b → b ≠ p.block) : GathR (w.setCell p u) B e f k v xs := by
  refine ⟨h.1, ?_⟩
  rcases h.2 with hn | ⟨g, cap, cur, rfl, hb, hc, r⟩
  · exact .inl hn
  · exact .inr ⟨g, cap, cur, rfl, hb, (Below.heap_setCell w p u g (hp g rfl)).trans hc, r⟩
end
theorem lns_sizesC (s : ByteArray) : ∀ (l : List UInt8) (pos st : Nat) (p : List ByteArray × Nat), lns s l pos st = some p → ∀ x ∈ p.1, x.size ≤ s.size
  | [], pos, st, p, h => by
    rw [lns] at h
    obtain rfl := Option.some.inj h
    intro x hx; simp at hx
  | c :: r, pos, st, p, h => by
    rw [lns] at h
    split at h
    · cases hq : lns s r (pos + 1) (pos + 1) with
      | none => rw [hq] at h; cases h
      | some q =>
        rw [hq] at h
        obtain rfl := Option.some.inj h
        intro x hx
        rcases List.mem_cons.1 hx with rfl | hx
        · rw [ByteArray.size_extract]; omega
        · exact lns_sizesC s r _ _ q hq x hx
    · split at h
      · exact lns_sizesC s r _ _ p h
      · cases h
theorem lines_sizeC (s : ByteArray) : ∀ x ∈ (linR s).1, x.size ≤ 65536 := by
  intro x hx
  unfold linR at hx
  split at hx
  · simp at hx
  · split at hx
    · simp at hx
    · rename_i l e hl
      split at hx
      · have := lns_sizesC s (L s) 0 0 (l, e) hl x hx
        omega
      · simp at hx
theorem parM_at {ms : List (List ByteArray)} {ts : List Ty} {lim i : Nat} {ls : List (List UInt8)} {acc : List (List Vl)} {l : List UInt8} (h : ls[i]? = some l) :
    parM ms ts lim i (ls.drop i) acc = if lim ≤ acc.length then ([], i, 4) else if (parI ms [109, 101, 109, 98, 101, 114] ts l).2 = 0 then parM ms ts lim (i + 1) (ls.drop (i + 1)) (acc ++ [(parI ms [109, 101, 109, 98, 101, 114] ts l).1]) else ([], i, (parI ms [109, 101, 109, 98, 101, 114] ts l).2) := by
  obtain ⟨hi, rfl⟩ := List.getElem?_eq_some_iff.1 h
  rw [List.drop_eq_getElem_cons hi, parM]
theorem parM_end {ms : List (List ByteArray)} {ts : List Ty} {lim i : Nat} {ls : List (List UInt8)} {acc : List (List Vl)} (h : ¬ i < ls.length) : parM ms ts lim i (ls.drop i) acc = (acc, 0, 0) := by
  rw [List.drop_eq_nil_iff.2 (by omega), parM]
theorem memI_bd {scs : List Sc} {sp : Sc} (h : ∀ (j : Nat) (s : Sc), scs[j]? = some s → s.ins.length ≤ 9223372036854775807) : (memI scs sp).1.length ≤ 9223372036854775807 ∧ (memI scs sp).2 ≤ 8 := by
  unfold memI
  split
  · exact ⟨by simp, by decide⟩
  · refine ⟨?_, Nat.le_refl _⟩
    cases hg : scs[sp.m.toNat]? with
    | none => simp
    | some s => simpa using h _ s hg
theorem Tryz.infoVals : (Tryz.prog.info? 27).map (fun i => (i.zero, i.size, i.bytes)) = some (some (.slice none 0 0), 1, 24) := by kernel_rfl
/-- the members read so far: rows of their own, apart from the list -/
def MemR (w : World) (B : Nat) (mv : Value) (vs : List Value) (acc : List (List Vl)) : Prop :=
  vs.length = acc.length ∧ GathR w B 27 (fun v => [v]) 1 mv vs ∧ ∀ (j : Nat) (l : List Vl) (v : Value), acc[j]? = some l → vs[j]? = some v → GathR w B 61 vlF 3 v l ∧ ∀ b, v.ownBlock = some b → mv.ownBlock ≠ some b
/-- all old blocks but one are as they were -/
def KeptX (w : World) (g : Nat) (w' : World) : Prop := w.heap.size ≤ w'.heap.size ∧ ∀ b, b < w.heap.size → b ≠ g → w'.heap[b]? = w.heap[b]?
theorem MemR.far {w : World} {B : Nat} {mv : Value} {vs : List Value} {acc : List (List Vl)} (h : MemR w B mv vs acc) {p : Addr} (u : Value) (hp : p.block < B) : MemR (w.setCell p u) B mv vs acc :=
  ⟨h.1, h.2.1.farC (fun b hb => by have := (h.2.1.owned hb).1; omega), fun j l v h1 h2 => ⟨(h.2.2 j l v h1 h2).1.farC (fun b hb => by have := ((h.2.2 j l v h1 h2).1.owned hb).1; omega), (h.2.2 j l v h1 h2).2⟩⟩
theorem MemR.mems {w : World} {B : Nat} {mv : Value} {vs : List Value} {acc : List (List Vl)} (h : MemR w B mv vs acc) (hl : acc.length ≤ 8) : Mems w mv acc := by
  obtain ⟨hvl, hG, hv⟩ := h
  obtain ⟨A, cap, hm, hx⟩ := GathR.recs (f := fun v : Value => [v]) (k := 1) (fun _ => rfl) hG
  rw [hvl] at hm hx
  refine ⟨A, cap, hm, by omega, fun hp => ?_⟩
  obtain ⟨b, off, hA, hb, hc⟩ := hx hp
  refine ⟨b, off, hA, hb, fun j l hj => ?_⟩
  have hjv : vs[j]? = some (vs[j]'(by have := (List.getElem?_eq_some_iff.1 hj).1; omega)) := List.getElem?_eq_getElem _
  have hG2 := (hv j l _ hj hjv).1
  refine ⟨?_, _, ?_, hG2.recs (fun _ => rfl)⟩
  · obtain ⟨_, c, _, h1, h2⟩ := hG2.form
    unfold maxLen at h2
    omega
  · have := hc j _ hjv 0 _ rfl
    rwa [show off + j * 1 + 0 = off + j by omega] at this
theorem GathR.keptX {α : Type} {f : α → List Value} {k : Nat} {w w' : World} {B g : Nat} {e : TypeId} {v : Value} {xs : List α} (h : GathR w B e f k v xs) (hk : KeptX w g w') (hg : g < B) : GathR w' B e f k v xs := by
  refine ⟨h.1, ?_⟩
  rcases h.2 with hn | ⟨g', cap, cur, rfl, hb, hc, r⟩
  · exact .inl hn
  · exact .inr ⟨g', cap, cur, rfl, hb, (hk.2 g' (Array.getElem?_eq_some_iff.1 hc).1 (by omega)).trans hc, r⟩
theorem GathR.apart {α β : Type} {f : α → List Value} {f' : β → List Value} {k k' : Nat} {w : World} {B B' : Nat} {e e' : TypeId} {v v' : Value} {xs : List α} {ys : List β} (h : GathR w B e f k v xs) (h' : GathR w B' e' f' k' v' ys) (hne : e ≠ e') (b : Nat) (hb : v.ownBlock = some b) : v'.ownBlock ≠ some b := by
  intro hb'
  obtain ⟨c, hc⟩ := h.blockC hb
  obtain ⟨c', hc'⟩ := h'.blockC hb'
  rw [hc] at hc'
  simp only [Option.some.injEq, Obj.cells.injEq] at hc'
  exact hne hc'.2.1
theorem MemR.snoc {w5 w8 : World} {B : Nat} {mv v' u : Value} {vs : List Value} {acc : List (List Vl)} {l : List Vl} {o : Obj} (h : MemR w5 B mv vs acc) (hu : GathR w5 B 61 vlF 3 u l) (hg : (w5.alloc o).grownBy w8 mv.ownBlock) (hv : GathR w8 B 27 (fun v => [v]) 1 v' (vs ++ [u])) : MemR w8 B v' (vs ++ [u]) (acc ++ [l]) := by
  have hold : ∀ (v : Value) (l : List Vl), GathR w5 B 61 vlF 3 v l → GathR w8 B 61 vlF 3 v l ∧ ∀ b, v.ownBlock = some b → v'.ownBlock ≠ some b := fun v l hvl => by
    have h1 : GathR w8 B 61 vlF 3 v l := (hvl.keptOwn ((Kept.refl _).alloc o)).grownC hg (fun b hb => hvl.apart h.2.1 (by decide) b hb)
    exact ⟨h1, fun b hb => h1.apart hv (by decide) b hb⟩
  refine ⟨by rw [List.length_append, List.length_append, h.1]; rfl, hv, fun j l' v h1 h2 => ?_⟩
  by_cases hj : j < acc.length
  · rw [List.getElem?_append_left hj] at h1
    rw [List.getElem?_append_left (by rw [h.1]; exact hj)] at h2
    exact hold v l' (h.2.2 j l' v h1 h2).1
  · rw [List.getElem?_append_right (by omega)] at h1
    rw [List.getElem?_append_right (by rw [h.1]; omega), h.1] at h2
    have hj0 : j - acc.length = 0 := by
      have := (List.getElem?_eq_some_iff.1 h1).1
      simp only [List.length_cons, List.length_nil] at this
      omega
    rw [hj0] at h1 h2
    obtain rfl : l = l' := Option.some.inj h1
    obtain rfl : u = v := Option.some.inj h2
    exact hold u l hu
theorem MemR.keptOwn {w w' : World} {B : Nat} {mv : Value} {vs : List Value} {acc : List (List Vl)} (h : MemR w B mv vs acc) (hk : Kept w w') : MemR w' B mv vs acc :=
  ⟨h.1, h.2.1.keptOwn hk, fun j l v h1 h2 => ⟨(h.2.2 j l v h1 h2).1.keptOwn hk, (h.2.2 j l v h1 h2).2⟩⟩
theorem Fds.keptX {w w' : World} {v : Value} {ts : List Ty} {g : Nat} {t : TypeId} {d : Int} {A A2 : Option Addr} {n c n2 c2 : Nat} (h : Fds w v ts) (hB : Blk w g t #[.int .i64 d, .slice A n c, .slice A2 n2 c2]) (hk : KeptX w g w') : Fds w' v ts := by
  obtain ⟨A0, cap, hv, hx⟩ := h
  refine ⟨A0, cap, hv, fun hp => ?_⟩
  obtain ⟨b, off, hA, hb, hc⟩ := hx hp
  have hne : b ≠ g := by
    rintro rfl
    have h0 := (hc 0 _ (List.getElem?_eq_getElem hp)).1
    rw [hB.cell, show off + 0 * 3 + 1 = off + 1 by omega] at h0
    match off, h0 with
    | 0, h0 => simp at h0
    | 1, h0 => simp at h0
    | k + 2, h0 => simp at h0
  refine ⟨b, off, hA, Nat.lt_of_lt_of_le hb hk.1, fun j t hj => ?_⟩
  have := hc j t hj
  simp only [World.cell?] at this ⊢
  rwa [hk.2 b hb hne]
def csPost (R : Cs × Nat × Int) (w : World) (e : Ending) (w' : World) : Prop :=
  ∃ iv mv, e = .returned (.tuple #[.agg #[.int .i64 R.1.d, iv, mv], .int .i64 (R.2.1 : Nat), .int .i64 R.2.2]) ∧ Vals w' iv R.1.ins ∧ Mems w' mv R.1.mem ∧ Kept w w'
theorem csPost.none {w w' : World} {i : Nat} {c : Int} (h : Kept w w') : csPost (cs0, i, c) w (.returned (.tuple #[.agg #[.int .i64 0, .slice none 0 0, .slice none 0 0], .int .i64 (i : Nat), .int .i64 c])) w' :=
  ⟨_, _, rfl, Recs.nil _ _ _, Mems.nil _, h⟩
theorem pre_take (l p : List UInt8) : Lib.hasPrefix l p = decide (l.take p.length = p) := by
  unfold Lib.hasPrefix
  by_cases h : l.take p.length = p
  · rw [decide_eq_true h, List.isPrefixOf_iff_prefix]
    exact ⟨l.drop p.length, by have := List.take_append_drop p.length l; rwa [h] at this⟩
  · rw [decide_eq_false h]
    cases hb : p.isPrefixOf l
    · rfl
    · rw [List.isPrefixOf_iff_prefix] at hb
      exact absurd (List.prefix_iff_eq_take.1 hb).symm h
set_option maxRecDepth 100000 in
set_option maxHeartbeats 8000000 in
theorem cparse_any (lv : Value) (ms : List (List ByteArray)) (scs : List Sc) (sc : Int) (s : ByteArray) (w : World) (hL : LawM w lv ms scs) (hs : s.size ≤ 1000000) (hX : MaxV w) (hMo : Mon w) :
    Calls Tryz.prog 10 #[lv, .int .i64 sc, .string s] w (csPost (parCs ms scs sc s) w) := by
  obtain ⟨ev, At, nt, ct, sv, rfl, hE, hS⟩ := hL
  obtain ⟨AE, ce, rfl, _, _⟩ := id hE
  obtain ⟨AS, cs, rfl, hsl, hx⟩ := id hS
  have K0 := Lib.hid (((Kept.refl w).alloc (.cells #[.slice AE ms.length ce, .slice At nt ct, .slice AS scs.length cs] 26)).alloc (.cells #[.int .i64 0, .slice none 0 0, .slice none 0 0] 30))
  by_cases h1 : sc < 0
  · have HR := Lib.hid (show parCs ms scs sc s = (cs0, 0, 6) by rw [parCs, if_pos (.inl h1)])
    rw [HR.out]
    clear hE hS hX hMo hx
    go_enter Tryz.func10, Tryz.ntmps10
    go_wp2_with fail
    refine bodyPost_ret (v := .tuple #[.agg #[.int .i64 0, .slice none 0 0, .slice none 0 0], .int .i64 (0 : Nat), .int .i64 6]) (by simp [results, Tryz.results10, go_sem]) rfl (csPost.none ?_)
    repeat refine Kept.setCell ?_ (by simp only; omega) _
    exact K0.out
  by_cases h2 : (scs.length : Int) ≤ sc
  · have HR := Lib.hid (show parCs ms scs sc s = (cs0, 0, 6) by rw [parCs, if_pos (.inr h2)])
    rw [HR.out]
    clear hE hS hX hMo hx
    go_enter Tryz.func10, Tryz.ntmps10
    go_wp2_with fail
    refine bodyPost_ret (v := .tuple #[.agg #[.int .i64 0, .slice none 0 0, .slice none 0 0], .int .i64 (0 : Nat), .int .i64 6]) (by simp [results, Tryz.results10, go_sem]) rfl (csPost.none ?_)
    repeat refine Kept.setCell ?_ (by simp only; omega) _
    exact K0.out
  obtain ⟨k, hk⟩ : ∃ k : Nat, sc = k := ⟨sc.toNat, by omega⟩
  subst hk
  have hks : k < scs.length := by omega
  have hksi : (k : Int) < scs.length := by omega
  obtain ⟨b1, o1, rfl, hb1, hc1⟩ := hx (by omega)
  have hg : scs[k]? = some (scs[k]'hks) := List.getElem?_eq_getElem hks
  obtain ⟨hin, _, iv, hiv, hF⟩ := hc1 k _ hg
  have hpc : parCs ms scs k s = if (linR s).2 ≠ 0 then (cs0, 0, (linR s).2)
      else match (linR s).1.map L with
        | [] => (cs0, 0, 5)
        | l0 :: r =>
          if l0.take 5 ≠ datW then (cs0, 0, 2)
          else if (dparS (bs (l0.drop 5))).2 ≠ 0 then (cs0, 0, (dparS (bs (l0.drop 5))).2)
          else match r with
            | [] => (cs0, 1, 5)
            | l1 :: r =>
              if (parI ms [105, 110] (scs[k]'hks).ins l1).2 ≠ 0 then (cs0, 1, (parI ms [105, 110] (scs[k]'hks).ins l1).2)
              else if (parM ms (memI scs (scs[k]'hks)).1 (memI scs (scs[k]'hks)).2 2 r []).2.2 ≠ 0 then (cs0, (parM ms (memI scs (scs[k]'hks)).1 (memI scs (scs[k]'hks)).2 2 r []).2.1, (parM ms (memI scs (scs[k]'hks)).1 (memI scs (scs[k]'hks)).2 2 r []).2.2)
              else (⟨(dparS (bs (l0.drop 5))).1, (parI ms [105, 110] (scs[k]'hks).ins l1).1, (parM ms (memI scs (scs[k]'hks)).1 (memI scs (scs[k]'hks)).2 2 r []).1⟩, 0, 0) := by
    rw [parCs, if_neg (by omega), Int.toNat_natCast, hg]
    rfl
  have HMI := Lib.hid (fun w' (h : Kept w w') => memberInputs_any (.slice AE ms.length ce) (.slice (some ⟨b1, o1, none⟩) scs.length cs) At nt ct scs k w' AE ms.length ce rfl (hS.kept h) hks)
  unfold memPost at HMI
  simp only [hg, Option.getD_some] at HMI
  generalize scs[k]'hks = sp at *
  have hmb : (memI scs sp).1.length ≤ 9223372036854775807 ∧ (memI scs sp).2 ≤ 8 := memI_bd (fun j s hj => (hc1 j s hj).1)
  have HE := Lib.hid hE
  have HX := Lib.hid hX
  have HMO := Lib.hid hMo
  have HF := Lib.hid hF
  have HL0 := Lib.hid (fun w => lines_any s hs w)
  have hsz := lines_sizeC s
  generalize linR s = R at *
  obtain ⟨xs, code⟩ := R
  dsimp only at HL0 hsz hpc
  obtain ⟨n, hn⟩ : ∃ n, n = xs.length := ⟨_, rfl⟩
  have HL : Hid (∀ w, Calls Tryz.prog 22 #[.string s] w fun e w' => ∃ A cap, e = .returned (.tuple #[.slice A n cap, .int .i64 code]) ∧ (0 < n → ∃ b off, A = some ⟨b, off, none⟩ ∧ b < w'.heap.size ∧ ∀ (j : Nat) x, xs[j]? = some x → w'.cell? ⟨b, off + j, none⟩ = some (.string x)) ∧ Kept w w') :=
    Lib.hid (fun w => (HL0.out w).mono (fun e w' h => by
      obtain ⟨v, h1, h2, h3⟩ := h
      obtain ⟨A, cap, h4, h5⟩ := h2.at3
      subst h4
      rw [← hn] at h1 h5
      exact ⟨A, cap, h1, h5, h3⟩))
  clear h1 h2 hE hS hX hMo hF hg HL0 hx hc1
  by_cases hcode : code ≠ 0
  · rw [if_pos hcode] at hpc
    have HR := Lib.hid hpc
    have hcb := bne_noV hcode
    clear hpc hcode hsz
    rw [HR.out]
    go_enter Tryz.func10, Tryz.ntmps10
    go_wp2_with (go_at_call 22; refine (HL.out _).mono ?_; rintro e w1 ⟨A, cap, rfl, hA, hk⟩; have K1 := K0.out.trans hk; have B6 := hk.blk2.2; have b6 := B6.cell; have l6 := B6.lt; have f6 := B6.frozen)
    refine bodyPost_ret (v := .tuple #[.agg #[.int .i64 0, .slice none 0 0, .slice none 0 0], .int .i64 (0 : Nat), .int .i64 code]) (by simp [results, Tryz.results10, go_sem, b6]) rfl (csPost.none ?_)
    repeat refine Kept.setCell ?_ (by simp only; omega) _
    exact K1
  obtain rfl : code = 0 := by simpa using hcode
  rw [if_neg hcode] at hpc
  clear hcode
  cases xs with
  | nil =>
    have HR := Lib.hid hpc
    simp only [List.length_nil] at hn
    subst hn
    clear hpc hsz
    rw [HR.out.trans rfl]
    go_enter Tryz.func10, Tryz.ntmps10
    go_wp2_with (go_at_call 22; refine (HL.out _).mono ?_; rintro e w1 ⟨A, cap, rfl, hA, hk⟩; have K1 := K0.out.trans hk; have B6 := hk.blk2.2; have b6 := B6.cell; have l6 := B6.lt; have f6 := B6.frozen)
    refine bodyPost_ret (v := .tuple #[.agg #[.int .i64 0, .slice none 0 0, .slice none 0 0], .int .i64 (0 : Nat), .int .i64 5]) (by simp [results, Tryz.results10, go_sem, b6]) rfl (csPost.none ?_)
    repeat refine Kept.setCell ?_ (by simp only; omega) _
    exact K1
  | cons l0 r =>
    have hn0 : 0 < n := by rw [hn, List.length_cons]; omega
    have hg0 : (l0 :: r)[0]? = some l0 := rfl
    have HCP := Lib.hid (fun w => Tryz.strings_CutPrefix l0 ⟨#[100, 97, 116, 101, 32]⟩ w)
    rw [show (⟨#[100, 97, 116, 101, 32]⟩ : ByteArray).data.toList = datW from rfl, show l0.data.toList = L l0 from rfl, Lib.trimPrefix, pre_take, show datW.length = 5 from rfl] at HCP
    rw [List.map_cons] at hpc
    dsimp only at hpc
    have HN := Lib.hid hn
    clear hn
    have hn0b : ((n : Int) == 0) = false := by simp; omega
    by_cases hd : (L l0).take 5 ≠ datW
    · rw [if_pos hd] at hpc
      rw [decide_eq_false hd] at HCP
      have HR := Lib.hid hpc
      clear hpc hd hsz
      rw [HR.out]
      go_enter Tryz.func10, Tryz.ntmps10
      go_wp2_with (first
        | (go_at_call 22; refine (HL.out _).mono ?_; rintro e w1 ⟨A, cap, rfl, hA, hk⟩; obtain ⟨b2, o2, rfl, hb2, hc2⟩ := hA hn0; have x0 := hc2 0 _ hg0; rw [Nat.add_zero] at x0; have X0 := Kept.cell (p := ⟨b2, o2, none⟩) ((Kept.refl w1).alloc (.cells #[.int .i64 0, .slice none 0 0, .slice none 0 0] 30)) hb2 x0; have K1 := (K0.out.trans hk).alloc (.cells #[.int .i64 0, .slice none 0 0, .slice none 0 0] 30); have B6 := hk.blk2.2.alloc (.cells #[.int .i64 0, .slice none 0 0, .slice none 0 0] 30); have b6 := B6.cell; have l6 := B6.lt; have f6 := B6.frozen)
        | (go_at_call 23; refine (HCP.out _).mono ?_; rintro e w2 ⟨rfl, rfl⟩))
      refine bodyPost_ret (v := .tuple #[.agg #[.int .i64 0, .slice none 0 0, .slice none 0 0], .int .i64 (0 : Nat), .int .i64 2]) (by simp [results, Tryz.results10, go_sem, b6]) rfl (csPost.none ?_)
      repeat refine Kept.setCell ?_ (by simp only; omega) _
      exact K1
    obtain hd : (L l0).take 5 = datW := Decidable.not_not.1 hd
    rw [if_neg (by simpa using hd)] at hpc
    rw [decide_eq_true hd, if_pos rfl, show (⟨((L l0).drop 5).toArray⟩ : ByteArray) = bs ((L l0).drop 5) from rfl] at HCP
    generalize bs ((L l0).drop 5) = D at *
    have HDP := Lib.hid (fun w' h => parse_any D w' h)
    generalize dparS D = DR at *
    obtain ⟨d, dc⟩ := DR
    dsimp only at HDP hpc
    clear hd
    have HZ := Lib.hid hsz
    have HPC := Lib.hid hpc
    clear hsz hpc
    go_enter Tryz.func10, Tryz.ntmps10
    go_upto_region 12 with (first
        | (go_at_call 22; refine (HL.out _).mono ?_; rintro e w1 ⟨A, cap, rfl, hA, hk⟩; obtain ⟨b2, o2, rfl, hb2, hc2⟩ := hA hn0; have x0 := hc2 0 _ hg0; rw [Nat.add_zero] at x0; have X0 := Kept.cell (p := ⟨b2, o2, none⟩) ((Kept.refl w1).alloc (.cells #[.int .i64 0, .slice none 0 0, .slice none 0 0] 30)) hb2 x0)
        | (go_at_call 23; refine (HCP.out _).mono ?_; rintro e w2 ⟨rfl, rfl⟩))
    have K1 : Kept w w1 := K0.out.trans hk
    have hw1 := hk.size
    simp only [World.size_alloc] at hw1
    have KA := K1.alloc (.cells #[.int .i64 0, .slice none 0 0, .slice none 0 0] 30)
    have KB := (Kept.refl w1).alloc (.cells #[.int .i64 0, .slice none 0 0, .slice none 0 0] 30)
    have H6 := Lib.hid hk.blk2.2
    have H3 := Lib.hid hk.blk2.1
    have b3 := hk.blk2.1.cell
    have c0 := b3 0
    have c1 := b3 1
    have c2 := b3 2
    have c3l := hk.blk2.1.lt
    simp only [List.getElem?_toArray, List.getElem?_cons_zero, List.getElem?_cons_succ] at c0 c1 c2
    clear b3
    have B3 := hk.blk2.1.alloc (.cells #[.int .i64 0, .slice none 0 0, .slice none 0 0] 30)
    have B6 := hk.blk2.2.alloc (.cells #[.int .i64 0, .slice none 0 0, .slice none 0 0] 30)
    have B11 := Blk.new w1 30 #[.int .i64 0, .slice none 0 0, .slice none 0 0]
    have HDP1 := Lib.hid (HDP.out _ (HMO.out.kept KA))
    clear HCP HDP hA x0 X0 HL hk hg0
    by_cases hdc : dc ≠ 0
    · have HR := Lib.hid (HPC.out.trans (if_pos hdc))
      have hdcb := bne_noV hdc
      clear hdc
      go_wp2_with (go_at_call 24; refine HDP1.out.mono ?_; rintro e w3 ⟨rfl, hk3⟩; have b6 := (B6.kept hk3).cell; have l6 := (B6.kept hk3).lt; have f6 := (B6.kept hk3).frozen; have b11 := (B11.kept hk3).cell; have l11 := (B11.kept hk3).lt; have f11 := (B11.kept hk3).frozen)
      rw [HR.out]
      refine bodyPost_ret (v := .tuple #[.agg #[.int .i64 0, .slice none 0 0, .slice none 0 0], .int .i64 (0 : Nat), .int .i64 dc]) (by simp [results, Tryz.results10, go_sem, b6]) rfl (csPost.none ?_)
      repeat refine Kept.setCell ?_ (by simp only; omega) _
      exact KA.trans hk3
    obtain rfl : dc = 0 := by simpa using hdc
    have HPD := Lib.hid (HPC.out.trans (if_neg hdc))
    clear hdc HPC
    go_upto_region 15 with (go_at_call 24; refine HDP1.out.mono ?_; rintro e w3 ⟨rfl, hk3⟩; have b11 := (B11.kept hk3).cell; have l11 := (B11.kept hk3).lt; have f11 := (B11.kept hk3).frozen)
    have K14 : Kept w1 (w3.setCell ⟨w1.heap.size, 0, none⟩ (.int .i64 d)) := (KB.trans hk3).setCell (Nat.le_refl _) _
    have KW := Lib.hid (K1.trans K14)
    have C3 := (B3.kept hk3).far (p := ⟨w1.heap.size, 0, none⟩) (by simp only; omega) (.int .i64 d)
    have C6 := (B6.kept hk3).far (p := ⟨w1.heap.size, 0, none⟩) (by simp only; omega) (.int .i64 d)
    have C11 : Blk _ w1.heap.size 30 #[.int .i64 d, .slice none 0 0, .slice none 0 0] := (B11.kept hk3).set_ 0 (.int .i64 d)
    have HC2 := Lib.hid hc2
    have hbw : b1 < w1.heap.size := Nat.lt_of_lt_of_le hb1 K1.size
    have hv := K1.cell (p := ⟨b1, o1 + k * 5 + 2, none⟩) hb1 hiv
    have KK1 := Lib.hid K1
    clear hc2 B3 B6 B11 HDP1 KA KB K1 b11 l11 f11 hk3
    generalize w3.setCell ⟨w1.heap.size, 0, none⟩ (.int .i64 d) = W4 at *
    obtain ⟨gc, hgc⟩ : ∃ gc, gc = w1.heap.size := ⟨_, rfl⟩
    rw [← hgc] at hw1 hb2 hbw c3l C11 ⊢
    have hgc1 : w1.heap.size ≤ gc := Nat.le_of_eq hgc.symm
    have hgc2 : gc ≤ w1.heap.size := Nat.le_of_eq hgc
    clear hgc
    have b6 := C6.cell
    have l6 := C6.lt
    have f6 := C6.frozen
    cases r with
    | nil =>
      have HR := Lib.hid HPD.out
      obtain rfl : n = 1 := HN.out
      simp only [List.map_nil] at HR
      go_wp2_with fail
      rw [HR.out]
      refine bodyPost_ret (v := .tuple #[.agg #[.int .i64 0, .slice none 0 0, .slice none 0 0], .int .i64 (1 : Nat), .int .i64 5]) (by simp [results, Tryz.results10, go_sem, b6]) rfl (csPost.none ?_)
      repeat refine Kept.setCell ?_ (by simp only; omega) _
      exact KW.out
    | cons l1 r =>
      have hn1b : ((n : Int) == 1) = false := by simp; have := HN.out; simp only [List.length_cons] at this; omega
      have hn1i : (1 : Int) < n := by have := HN.out; simp only [List.length_cons] at this; omega
      have hX1 := HC2.out 1 l1 rfl
      have hl1 : l1.size ≤ 1000000 := Nat.le_trans (HZ.out l1 (by simp)) (by decide)
      have HPI := Lib.hid (fun w' (h : Kept w1 w') => parseValues_any (.slice AE ms.length ce) At (some ⟨b1, o1, none⟩) nt ct scs.length cs iv ms sp.ins l1 ⟨#[105, 110]⟩ w' (HE.out.kept (KK1.out.trans h)) (HF.out.kept (KK1.out.trans h)) hl1 (by decide) (by decide) hin (HX.out.kept (KK1.out.trans h)) (HMO.out.kept (KK1.out.trans h)))
      unfold pvPost at HPI
      rw [show L ⟨#[105, 110]⟩ = [105, 110] from rfl] at HPI
      have HPE := HPD.out
      rw [List.map_cons] at HPE
      dsimp only at HPE
      generalize parI ms [105, 110] sp.ins (L l1) = R1 at *
      obtain ⟨ins, ic⟩ := R1
      dsimp only at HPI HPE
      have HALL := Lib.hid (show ∀ W, Kept w1 W → Kept w1 W ∧ W.cell? ⟨w.heap.size, 0, none⟩ = some (.slice AE ms.length ce) ∧ W.cell? ⟨w.heap.size, 1, none⟩ = some (.slice At nt ct) ∧ W.cell? ⟨w.heap.size, 2, none⟩ = some (.slice (some ⟨b1, o1, none⟩) scs.length cs) ∧ W.cell? ⟨b2, o2 + 1, none⟩ = some (.string l1) ∧ W.cell? ⟨b1, o1 + k * 5 + 2, none⟩ = some iv from fun W h => ⟨h, h.cell (p := ⟨w.heap.size, _, none⟩) (by simp only; omega) c0, h.cell (p := ⟨w.heap.size, _, none⟩) (by simp only; omega) c1, h.cell (p := ⟨w.heap.size, _, none⟩) (by simp only; omega) c2, h.cell (p := ⟨b2, _, none⟩) (by simp only; omega) hX1, h.cell (p := ⟨b1, _, none⟩) (by simp only; omega) hv⟩)
      obtain ⟨_, d0, d1, d2, d3, d4⟩ := HALL.out W4 K14
      have l11 := C11.lt
      have HPF := Lib.hid HPE
      clear HPE HPD c0 c1 c2 hX1 hv
      go_wp2_with fail
      go_region_held3 (fun W => Kept w1 W ∧ W.cell? ⟨w.heap.size, 0, none⟩ = some (.slice AE ms.length ce) ∧ W.cell? ⟨w.heap.size, 1, none⟩ = some (.slice At nt ct) ∧ W.cell? ⟨w.heap.size, 2, none⟩ = some (.slice (some ⟨b1, o1, none⟩) scs.length cs) ∧ W.cell? ⟨b2, o2 + 1, none⟩ = some (.string l1) ∧ W.cell? ⟨b1, o1 + k * 5 + 2, none⟩ = some iv)
            ((refine HALL.out _ ?_; (repeat (first | with_reducible exact Kept.refl _ | with_reducible assumption | with_reducible refine Kept.drew ?_ | with_reducible refine Kept.alloc ?_ _ | with_reducible refine Kept.setCell ?_ (by simp only; omega) _ | with_reducible refine Kept.trans ?_ ‹Kept _ _›))))
            ((go_at_call 25; refine (HPI.out _ ?_).mono ?_; (· (repeat (first | with_reducible exact Kept.refl _ | with_reducible assumption | with_reducible refine Kept.drew ?_ | with_reducible refine Kept.alloc ?_ _ | with_reducible refine Kept.setCell ?_ (by simp only; omega) _ | with_reducible refine Kept.trans ?_ ‹Kept _ _›))); rintro e w5 ⟨u, rfl, hG, hk5⟩; obtain ⟨Au, cu, hu, _, _⟩ := hG.form; subst hu; have N11 := C11.drew.kept hk5; have hn1 := N11.cell; have hn2 := N11.frozen; have hn3 := N11.lt; have hsx := Below.size hk5; (try simp at hsx)))
      rename_i hHeld
      clear hHeld
      have M6 := (C6.drew.kept hk5).far (p := ⟨gc, 1, none⟩) (by simp only; omega) (.slice Au ins.length cu)
      have M3 := (C3.drew.kept hk5).far (p := ⟨gc, 1, none⟩) (by simp only; omega) (.slice Au ins.length cu)
      have M11 : Blk _ gc 30 #[.int .i64 d, .slice Au ins.length cu, .slice none 0 0] := N11.set_ 1 (.slice Au ins.length cu)
      have k15 : Kept w1 (w5.setCell ⟨gc, 1, none⟩ (.slice Au ins.length cu)) := (K14.drew.trans hk5).setCell hgc1 _
      have G6 := gath_low (hG.farC (p := ⟨gc, 1, none⟩) (u := .slice Au ins.length cu) (fun b hb => by
        have h : W4.heap.size ≤ b := (hG.owned hb).1
        simp only; omega)) (show gc + 1 ≤ W4.drew.heap.size from l11)
      clear hG N11 hn1 hn2 hn3 hsx C3 C6 C11 b6 l6 f6 K14 KW hk5 d0 d1 d2 d3 d4 HPI l11
      generalize w5.setCell ⟨gc, 1, none⟩ (.slice Au ins.length cu) = W6 at *
      have b6 := M6.cell
      have l6 := M6.lt
      have f6 := M6.frozen
      have K6 := KK1.out.trans k15
      by_cases hic : ic ≠ 0
      · have HR := Lib.hid (HPF.out.trans (if_pos hic))
        have hicb := bne_noV hic
        clear hic
        go_wp2_with fail
        rw [HR.out]
        refine bodyPost_ret (v := .tuple #[.agg #[.int .i64 0, .slice none 0 0, .slice none 0 0], .int .i64 (1 : Nat), .int .i64 ic]) (by simp [results, Tryz.results10, go_sem, b6]) rfl (csPost.none ?_)
        repeat refine Kept.setCell ?_ (by simp only; omega) _
        exact K6
      obtain rfl : ic = 0 := by simpa using hic
      have HPG := Lib.hid (HPF.out.trans (if_neg hic))
      obtain ⟨_, d0, d1, d2, _, _⟩ := HALL.out W6 k15
      clear hic HPF
      have hg6 : gc + 1 ≤ W6.heap.size := M11.lt
      go_upto_region 21 with (go_at_call 17; refine (HMI.out _ K6).mono ?_; rintro e w7 ⟨jv, rfl, hJ, hk7⟩)
      have k17 := k15.trans hk7
      have N11 := M11.kept hk7
      have G7 := G6.keptOwn hk7
      have HJ := Lib.hid hJ
      have HP : Hid (parCs ms scs k s = if (parM ms (memI scs sp).1 (memI scs sp).2 2 (r.map L) []).2.2 ≠ 0 then (cs0, (parM ms (memI scs sp).1 (memI scs sp).2 2 (r.map L) []).2.1, (parM ms (memI scs sp).1 (memI scs sp).2 2 (r.map L) []).2.2) else (⟨d, ins, (parM ms (memI scs sp).1 (memI scs sp).2 2 (r.map L) []).1⟩, 0, 0)) := HPG
      clear hJ hk7 M11 G6 M3 M6 b6 l6 f6 k15 K6 d0 d1 d2 hg6 HALL HPG HMI
      generalize (memI scs sp).1 = mts at *
      generalize (memI scs sp).2 = lim at *
      obtain ⟨hmt, hlim⟩ := hmb
      generalize hls : l0 :: l1 :: r = xs at *
      have HLS := Lib.hid hls
      clear hls
      go_wp2_with fail
      go_loopw [16] (fun z wr => ∃ (i : Nat) (acc : List (List Vl)) (vs : List Value) (mv : Value), z = .int .i64 i ∧ i = 2 + acc.length ∧ i ≤ n ∧ acc.length ≤ 8 ∧ KeptX w7 gc wr ∧ Kept w1 wr ∧ Blk wr gc 30 #[.int .i64 d, .slice Au ins.length cu, mv] ∧ MemR wr w7.heap.size mv vs acc ∧ parM ms mts lim i ((xs.map L).drop i) acc = parM ms mts lim 2 (r.map L) []) (fun z _ => n - (intOf z).toNat)
      case atStart =>
        refine ⟨2, [], [], .slice none 0 0, rfl, rfl, by omega, by decide, ⟨Nat.le_refl _, fun _ _ _ => rfl⟩, k17, N11, ⟨rfl, GathR.nil _ _ _, fun j l v h => by simp at h⟩, ?_⟩
        rw [← HLS.out]
        rfl
      case round =>
        obtain ⟨i, acc, vs, mv, rfl, hi2, hin, ha8, hKX, hK1, hB, ⟨hvl, hGm, hGv⟩, hrun⟩ := hrel
        have hi2a : i ≤ 2 + acc.length := by omega
        have hi2b : 2 + acc.length ≤ i := by omega
        clear hi2
        have b6 := (H6.out.kept hK1).cell
        have l6 := (H6.out.kept hK1).lt
        have f6 := (H6.out.kept hK1).frozen
        have K6 := KK1.out.trans hK1
        obtain ⟨Am, cm, hmv, _, _⟩ := hGm.form
        subst hmv
        have b11 := hB.cell
        have l11 := hB.lt
        have f11 := hB.frozen
        have HB := Lib.hid hB
        have HVL := Lib.hid hvl
        by_cases hlt : i < n
        · have hii : (i : Int) < n := by omega
          have hg1 : xs[i]? = some (xs[i]'(by have := HN.out; omega)) := List.getElem?_eq_getElem _
          have hgm : (xs.map L)[i]? = some (L (xs[i]'(by have := HN.out; omega))) := by rw [List.getElem?_map, hg1]; rfl
          have hX1 := hK1.cell (p := ⟨b2, o2 + i, none⟩) (by simp only; omega) (HC2.out i _ hg1)
          have hxz := HZ.out _ (List.mem_of_getElem? hg1)
          rw [parM_at hgm] at hrun
          generalize xs[i]'(by have := HN.out; omega) = X at *
          by_cases hfull : lim ≤ acc.length
          · rw [if_pos hfull] at hrun
            have HR := Lib.hid (show parCs ms scs k s = (cs0, i, 4) by rw [HP.out, ← hrun]; rfl)
            have hfi : (lim : Int) ≤ vs.length := by omega
            clear hrun hGm hGv hg1 hgm hX1
            go_wp2_with fail
            rw [HR.out]
            refine bodyPost_ret (v := .tuple #[.agg #[.int .i64 0, .slice none 0 0, .slice none 0 0], .int .i64 (i : Nat), .int .i64 4]) (by simp [results, Tryz.results10, go_sem, b6]) rfl (csPost.none ?_)
            repeat refine Kept.setCell ?_ (by simp only; omega) _
            exact K6
          rw [if_neg hfull] at hrun
          have hfi : ¬ ((lim : Int) ≤ vs.length) := by omega
          have hfi2 : ¬ lim ≤ vs.length := by omega
          have hJr := HJ.out.keptX N11 hKX
          have HPI := Lib.hid (fun w' (h : Kept wr w') => parseValues_any (.slice AE ms.length ce) At (some ⟨b1, o1, none⟩) nt ct scs.length cs jv ms mts X ⟨#[109, 101, 109, 98, 101, 114]⟩ w' (HE.out.kept (K6.trans h)) (hJr.kept h) (Nat.le_trans hxz (by decide)) (by decide) (by decide) hmt (HX.out.kept (K6.trans h)) (HMO.out.kept (K6.trans h)))
          unfold pvPost at HPI
          rw [show L ⟨#[109, 101, 109, 98, 101, 114]⟩ = [109, 101, 109, 98, 101, 114] from rfl] at HPI
          generalize parI ms [109, 101, 109, 98, 101, 114] mts (L X) = R2 at *
          obtain ⟨vl, ic⟩ := R2
          dsimp only at HPI hrun
          have B3 := H3.out.kept hK1
          have d0 := B3.cell 0
          have d1 := B3.cell 1
          have d2 := B3.cell 2
          have d3 := B3.lt
          simp only [List.getElem?_toArray, List.getElem?_cons_zero, List.getElem?_cons_succ] at d0 d1 d2
          have d4 : b2 < wr.heap.size := Nat.lt_of_lt_of_le (show b2 < w1.heap.size by omega) hK1.size
          have HALL := Lib.hid (show ∀ W, Kept wr W → Kept wr W ∧ W.cell? ⟨w.heap.size, 0, none⟩ = some (.slice AE ms.length ce) ∧ W.cell? ⟨w.heap.size, 1, none⟩ = some (.slice At nt ct) ∧ W.cell? ⟨w.heap.size, 2, none⟩ = some (.slice (some ⟨b1, o1, none⟩) scs.length cs) ∧ W.cell? ⟨b2, o2 + i, none⟩ = some (.string X) from fun W h => ⟨h, h.cell (p := ⟨w.heap.size, _, none⟩) d3 d0, h.cell (p := ⟨w.heap.size, _, none⟩) d3 d1, h.cell (p := ⟨w.heap.size, _, none⟩) d3 d2, h.cell (p := ⟨b2, _, none⟩) d4 hX1⟩)
          have HRUN := Lib.hid hrun
          have HGM := Lib.hid hGm
          have HGV := Lib.hid hGv
          have C6 := H6.out.kept hK1
          have HK1 := Lib.hid hK1
          have HKX := Lib.hid hKX
          clear hrun hGm hGv hg1 hgm hfull hvl b6 l6 f6 B3 hB hJr hKX
          go_wp2_with fail
          go_region_held3 (fun W => Kept wr W ∧ W.cell? ⟨w.heap.size, 0, none⟩ = some (.slice AE ms.length ce) ∧ W.cell? ⟨w.heap.size, 1, none⟩ = some (.slice At nt ct) ∧ W.cell? ⟨w.heap.size, 2, none⟩ = some (.slice (some ⟨b1, o1, none⟩) scs.length cs) ∧ W.cell? ⟨b2, o2 + i, none⟩ = some (.string X))
            ((refine HALL.out _ ?_; (repeat (first | with_reducible exact Kept.refl _ | with_reducible assumption | with_reducible refine Kept.drew ?_ | with_reducible refine Kept.alloc ?_ _ | with_reducible refine Kept.setCell ?_ (by simp only; omega) _ | with_reducible refine Kept.trans ?_ ‹Kept _ _›))))
            ((go_at_call 25; refine (HPI.out _ ?_).mono ?_; (· (repeat (first | with_reducible exact Kept.refl _ | with_reducible assumption | with_reducible refine Kept.drew ?_ | with_reducible refine Kept.alloc ?_ _ | with_reducible refine Kept.setCell ?_ (by simp only; omega) _ | with_reducible refine Kept.trans ?_ ‹Kept _ _›))); rintro e w5 ⟨u, rfl, hG, hk5⟩; obtain ⟨Au2, cu2, hu, _, _⟩ := hG.form; subst hu))
          rename_i hHeld
          clear hHeld
          have k5 : Kept wr w5 := (Kept.refl wr).drew.trans hk5
          have b6 := (C6.kept k5).cell
          have l6 := (C6.kept k5).lt
          have f6 := (C6.kept k5).frozen
          by_cases hic : ic = 0
          · subst hic
            have HM5 := MemR.keptOwn ⟨HVL.out, HGM.out, HGV.out⟩ k5
            have HG4 := HM5.2.1
            have HO4 := HG4.alloc (.cells #[.slice Au2 vl.length cu2] 27)
            have HU5 := gath_low hG (show w7.heap.size ≤ wr.drew.heap.size from HKX.out.1)
            have hgw : gc < w7.heap.size := N11.lt
            have hw75 : w7.heap.size ≤ w5.heap.size := Nat.le_trans HKX.out.1 k5.size
            have hacl : vs.length + 1 ≤ maxLen := by have := HVL.out; unfold maxLen; omega
            have hacl2 : (vs.length + 1) * 24 ≤ 140737488355328 := by have := HVL.out; omega
            have B5 := HB.out.kept k5
            have n1 := B5.cell
            have n2 := B5.lt
            have n3 := B5.frozen
            obtain ⟨i0, hi, hz0, hz1, hz2⟩ := info_parts Tryz.infoVals
            have HRUN2 := Lib.hid (HRUN.out.symm.trans (if_pos rfl)).symm
            clear b11 l11 f11
            go_wp2_with (at_builtin; refine wpList_append_own _ rfl (.tmp 120) (.tmp 122) 28 rfl w7.heap.size 27 i0 (.slice none 0 0) 1 24 Tryz.underlying28 hi hz0 hz1 hz2 rfl (by decide) _ vs.length (vs.flatMap fun v => [v]) rfl HO4 ⟨w5.heap.size, 0, none⟩ 1 1 [.slice Au2 vl.length cu2] rfl rfl blk_cells (by intro u hu; obtain rfl := List.mem_singleton.1 hu; rfl) hacl hacl2 (by simp; omega) ?_; intro v' w8 hown' hgrow _; replace hgrow : (w5.alloc (.cells #[.slice Au2 vl.length cu2] 27)).grownBy w8 (Value.slice Am vs.length cm).ownBlock := hgrow; have GS : GathR w8 w7.heap.size 27 (fun v => [v]) 1 v' (vs ++ [.slice Au2 vl.length cu2]) := GathR.snoc hown'; obtain ⟨Am2, cm2, hv', _, _⟩ := GS.form; subst hv'; have N8 : Blk w8 gc 30 #[.int .i64 d, .slice Au ins.length cu, .slice Am vs.length cm] := (ownGrown_block HG4 hgrow B5.lt hgw).trans B5; have n81 := N8.cell; have n82 := N8.lt; have n83 := N8.frozen)
            have GS2 : GathR w8 w7.heap.size 27 (fun v => [v]) 1 (.slice Am2 (vs.length + 1) cm2) (vs ++ [.slice Au2 vl.length cu2]) := by
              have := GS
              rwa [List.length_append, List.length_singleton] at this
            have N9 : Blk (w8.setCell ⟨gc, 2, none⟩ (.slice Am2 (vs.length + 1) cm2)) gc 30 #[.int .i64 d, .slice Au ins.length cu, .slice Am2 (vs.length + 1) cm2] := N8.set_ 2 (.slice Am2 (vs.length + 1) cm2)
            refine ⟨⟨i + 1, acc ++ [vl], vs ++ [.slice Au2 vl.length cu2], .slice Am2 (vs.length + 1) cm2, rfl, ?_, hlt, ?_, ⟨?_, fun b hb hne => ?_⟩, ?_, N9, ?_, HRUN2.out⟩, by simp [intOf]; omega⟩
            · rw [List.length_append, List.length_singleton]; omega
            · rw [List.length_append, List.length_singleton]; have := HVL.out; omega
            · have h8 := ownGrown_size hgrow
              have h9 : w7.heap.size ≤ w8.heap.size := by omega
              first | (simp only [World.setCell, Array.size_modify]; exact h9) | (simp [World.setCell]; exact h9) | (simp; omega)
            · exact (Below.heap_setCell w8 ⟨gc, 2, none⟩ _ b hne).trans ((ownGrown_block HG4 hgrow (Nat.lt_of_lt_of_le hb hw75) hb).trans ((k5.block b (Nat.lt_of_lt_of_le hb HKX.out.1)).trans (HKX.out.2 b hb hne)))
            · exact (ownGrown_kept (HK1.out.trans k5) HG4 (by omega) hgrow).setCell hgc1 _
            · exact (HM5.snoc HU5 hgrow GS2).far (p := ⟨gc, 2, none⟩) _ hgw
          · have HR := Lib.hid (show parCs ms scs k s = (cs0, i, ic) by
              rw [HP.out, ← HRUN.out, if_neg hic]
              exact if_pos hic)
            have hicb := bne_noV hic
            go_wp2_with fail
            rw [HR.out]
            refine bodyPost_ret (v := .tuple #[.agg #[.int .i64 0, .slice none 0 0, .slice none 0 0], .int .i64 (i : Nat), .int .i64 ic]) (by simp [results, Tryz.results10, go_sem, b6]) rfl (csPost.none ?_)
            repeat refine Kept.setCell ?_ (by simp only; omega) _
            exact (K6.trans k5)
        · obtain rfl : i = n := by omega
          rw [parM_end (by rw [List.length_map]; have := HN.out; omega)] at hrun
          have HR := Lib.hid (show parCs ms scs k s = (⟨d, ins, acc⟩, 0, 0) by rw [HP.out, ← hrun]; rfl)
          clear hrun
          go_wp2_with fail
          rw [HR.out]
          refine bodyPost_ret (v := .tuple #[.agg #[.int .i64 d, .slice Au ins.length cu, .slice Am acc.length cm], .int .i64 (0 : Nat), .int .i64 0]) (by simp [results, Tryz.results10, go_sem, b6]) rfl ⟨.slice Au ins.length cu, .slice Am acc.length cm, rfl, ?_, ?_, ?_⟩
          · have G8 := G7.keptX hKX (Nat.lt_succ_self _)
            refine GathR.recs (B := gc + 1) (e := 61) (fun _ => rfl) ?_
            repeat refine GathR.farC ?_ (fun b hb => by have := (G8.owned hb).1; simp only; omega)
            exact G8
          · have hM : MemR wr w7.heap.size (.slice Am vs.length cm) vs acc := ⟨hvl, hGm, hGv⟩
            have := N11.lt
            have hM2 := ((hM.far (p := ⟨w.heap.size + 1, 0, none⟩) (.int .i64 d) (by simp only; omega)).far (p := ⟨w.heap.size + 1, 1, none⟩) (.slice Au ins.length cu) (by simp only; omega)).far (p := ⟨w.heap.size + 1, 2, none⟩) (.slice Am vs.length cm) (by simp only; omega)
            have hM3 := hM2.mems ha8
            rwa [hvl] at hM3
          · repeat refine Kept.setCell ?_ (by simp only; omega) _
            exact K6
end Go.Proofs.YtjeifmjcgemlgaaGreatDoor
/- The fixed examples of the chapter on cases, in plain Lean. -/
namespace Go.Proofs.YtjeifmjcgemlgaaGreatDoor
open Go.RowKit

def exI : List Ty := [⟨3, 0⟩, ⟨1, 0⟩]
def exS : List Sc := [⟨-1, exI⟩]
def exV : List Vl := [⟨3, 0, 1250⟩, ⟨1, 0, 1⟩]
def exT : ByteArray := ⟨#[100, 97, 116, 101, 32, 50, 48, 48, 48, 45, 48, 49, 45, 48, 49, 10, 105, 110, 32, 49, 50, 46, 53, 48, 32, 116, 114, 117, 101, 10]⟩
def exU : ByteArray := ⟨#[100, 97, 116, 101, 32, 50, 48, 48, 48, 45, 48, 49, 45, 48, 49, 10, 105, 110, 32, 49, 50, 46, 53, 32, 116, 114, 117, 101, 10]⟩
def exL0 : List UInt8 := [100, 97, 116, 101, 32, 50, 48, 48, 48, 45, 48, 49, 45, 48, 49]
def exL1 : List UInt8 := [105, 110, 32, 49, 50, 46, 53, 48, 32, 116, 114, 117, 101]
def exL2 : List UInt8 := [105, 110, 32, 49, 50, 46, 53, 32, 116, 114, 117, 101]
theorem ex19_lt : linR exT = ([bs exL0, bs exL1], 0) := by rfl
theorem ex19_lu : linR exU = ([bs exL0, bs exL2], 0) := by rfl
theorem ex19_d : dparS ⟨#[50, 48, 48, 48, 45, 48, 49, 45, 48, 49]⟩ = (36524, 0) := by
  have e : dparB ⟨#[50, 48, 48, 48, 45, 48, 49, 45, 48, 49]⟩ = true := by
    unfold dparB
    rw [L_extract, L_extract, L_extract]
    decide
  rw [dparS_yes e, L_extract, L_extract, L_extract]
  decide
theorem ex19_v1 : vparS (bs [49, 50, 46, 53, 48]) 3 0 [] = (3, 0, 1250, 0) := by
  have h1 : vnumS (bs [49, 50, 46, 53, 48]) 3 0 [] = (1250, 0) := show refP (L (bs [49, 50, 46, 53, 48])) 2 = _ by decide
  rw [vparS, h1]; rfl
theorem ex19_v2 : vparS (bs [49, 50, 46, 53]) 3 0 [] = (0, 0, 0, 2) := by
  have h1 : vnumS (bs [49, 50, 46, 53]) 3 0 [] = (0, 2) := show refP (L (bs [49, 50, 46, 53])) 2 = _ by decide
  rw [vparS, h1]; rfl
theorem ex19_v3 : vparS (bs [116, 114, 117, 101]) 1 0 [] = (1, 0, 1, 0) := by
  have h1 : vnumS (bs [116, 114, 117, 101]) 1 0 [] = (1, 0) := by
    rw [vnumS, if_pos rfl, if_neg (fun h => absurd (congrArg L h) (by decide)), if_pos (show bs [116, 114, 117, 101] = ⟨#[116, 114, 117, 101]⟩ from rfl)]
  rw [vparS, h1]; rfl
theorem ex19_i : parI [] [105, 110] exI exL1 = (exV, 0) := by
  have hs : spl [] exL1 = [[105, 110], [49, 50, 46, 53, 48], [116, 114, 117, 101]] := by decide
  rw [parI, hs, if_neg (by decide), if_neg (by decide), if_neg (by decide)]
  show parV [] [⟨3, 0⟩, ⟨1, 0⟩] [[49, 50, 46, 53, 48], [116, 114, 117, 101]] [] = _
  rw [parV]
  dsimp only
  rw [ex19_v1, if_pos rfl, parV]
  dsimp only
  rw [ex19_v3, if_pos rfl]
  simp [parV, exV]
theorem ex19_j : parI [] [105, 110] exI exL2 = ([], 2) := by
  have hs : spl [] exL2 = [[105, 110], [49, 50, 46, 53], [116, 114, 117, 101]] := by decide
  rw [parI, hs, if_neg (by decide), if_neg (by decide), if_neg (by decide)]
  show parV [] [⟨3, 0⟩, ⟨1, 0⟩] [[49, 50, 46, 53], [116, 114, 117, 101]] [] = _
  rw [parV]
  dsimp only
  rw [ex19_v2, if_neg (by decide)]
theorem ex19_p : parCs [] exS 0 exT = (⟨36524, exV, []⟩, 0, 0) := by
  rw [parCs, if_neg (by decide), ex19_lt, if_neg (by decide)]
  show (if exL0.take 5 ≠ datW then _ else _) = _
  rw [if_neg (by decide)]
  show (if (dparS ⟨#[50, 48, 48, 48, 45, 48, 49, 45, 48, 49]⟩).2 ≠ 0 then _ else _) = _
  rw [ex19_d, if_neg (by decide)]
  show (if (parI [] [105, 110] exI exL1).2 ≠ 0 then _ else _) = _
  rw [ex19_i, if_neg (by decide)]
  show (if (0 : Int) ≠ 0 then _ else ((⟨(dparS ⟨#[50, 48, 48, 48, 45, 48, 49, 45, 48, 49]⟩).1, (parI [] [105, 110] exI exL1).1, []⟩, 0, 0) : Cs × Nat × Int)) = _
  rw [ex19_d, ex19_i, if_neg (by decide)]
theorem ex19_u : parCs [] exS 0 exU = (cs0, 1, 2) := by
  rw [parCs, if_neg (by decide), ex19_lu, if_neg (by decide)]
  show (if exL0.take 5 ≠ datW then _ else _) = _
  rw [if_neg (by decide)]
  show (if (dparS ⟨#[50, 48, 48, 48, 45, 48, 49, 45, 48, 49]⟩).2 ≠ 0 then _ else _) = _
  rw [ex19_d, if_neg (by decide)]
  show (if (parI [] [105, 110] exI exL2).2 ≠ 0 then (cs0, 1, (parI [] [105, 110] exI exL2).2) else _) = _
  rw [ex19_j, if_pos (by decide)]
theorem ex19_c : valC [] exS 0 36524 exV [] = (0, 0, 0) := by
  have := (cs_canon (ms := []) (scs := exS) (sc := 0) (s := exT) (by rw [ex19_p])).1
  rwa [ex19_p] at this
theorem ex19_t : bs (textL (caseT [] 36524 exV [])) = exT := by
  have := (cs_canon (ms := []) (scs := exS) (sc := 0) (s := exT) (by rw [ex19_p])).2
  rwa [ex19_p] at this
theorem ex19_f : fmtCs [] exS 0 36524 exV [] = (exT, 0) := by
  rw [fmtCs, ex19_c, if_pos rfl, ex19_t]
theorem ex19_m : valC [] exS 0 36524 exV [[]] = (0, -1, 4) := by
  have h := ex19_c
  unfold valC at h ⊢
  rw [if_neg (by decide), if_neg (by decide)] at h ⊢
  have hx : exS[(0 : Int).toNat]?.getD ⟨0, []⟩ = ⟨-1, exI⟩ := rfl
  rw [hx] at h ⊢
  dsimp only at h ⊢
  by_cases hc : (chkV [] exI exV).2 = 0
  · rw [if_pos hc]; rfl
  · rw [if_neg hc] at h
    exact absurd (congrArg (fun p : Int × Int × Int => p.1) h) (by decide)
end Go.Proofs.YtjeifmjcgemlgaaGreatDoor
/- What guerdonsame.Values, ValueLists and Case compute. -/
namespace Go.Proofs.YtjeifmjcgemlgaaGreatDoor
open Go.RowKit

def vlB (x y : Vl) : Bool := decide (x.k = y.k) && (decide (x.e = y.e) && decide (x.n = y.n))
def vlsB : List Vl → List Vl → Bool
  | [], [] => true
  | x :: xs, y :: ys => vlB x y && vlsB xs ys
  | _, _ => false
def memB : List (List Vl) → List (List Vl) → Bool
  | [], [] => true
  | x :: xs, y :: ys => vlsB x y && memB xs ys
  | _, _ => false
def csB (d : Int) (a : List Vl) (m : List (List Vl)) (d' : Int) (a' : List Vl) (m' : List (List Vl)) : Bool := decide (d = d') && (vlsB a a' && memB m m')
theorem vlB_iff {x y : Vl} : vlB x y = true ↔ x = y := by
  obtain ⟨a, b, c⟩ := x
  obtain ⟨a', b', c'⟩ := y
  simp [vlB]
theorem vlsB_self : ∀ xs, vlsB xs xs = true
  | [] => rfl
  | x :: xs => by rw [vlsB, vlB_iff.2 rfl, vlsB_self xs]; rfl
theorem memB_self : ∀ xs, memB xs xs = true
  | [] => rfl
  | x :: xs => by rw [memB, vlsB_self, memB_self xs]; rfl
theorem vlB_comm (x y : Vl) : vlB x y = vlB y x := by
  unfold vlB
  rw [decide_eq_decide.2 (eq_comm (a := x.k)), decide_eq_decide.2 (eq_comm (a := x.e)), decide_eq_decide.2 (eq_comm (a := x.n))]
theorem vlsB_comm : ∀ xs ys, vlsB xs ys = vlsB ys xs
  | [], [] => rfl
  | [], _ :: _ => rfl
  | _ :: _, [] => rfl
  | x :: xs, y :: ys => by rw [vlsB, vlsB, vlB_comm, vlsB_comm xs ys]
theorem memB_comm : ∀ xs ys, memB xs ys = memB ys xs
  | [], [] => rfl
  | [], _ :: _ => rfl
  | _ :: _, [] => rfl
  | x :: xs, y :: ys => by rw [memB, memB, vlsB_comm, memB_comm xs ys]
theorem csB_comm (d : Int) (a : List Vl) (m : List (List Vl)) (d' : Int) (a' : List Vl) (m' : List (List Vl)) : csB d a m d' a' m' = csB d' a' m' d a m := by
  unfold csB
  rw [decide_eq_decide.2 (eq_comm (a := d)), vlsB_comm, memB_comm]
theorem csB_self (d : Int) (a : List Vl) (m : List (List Vl)) : csB d a m d a m = true := by
  unfold csB
  rw [decide_eq_true rfl, vlsB_self, memB_self]; rfl
theorem vlsB_len : ∀ xs ys, xs.length ≠ ys.length → vlsB xs ys = false
  | [], [], h => absurd rfl h
  | [], _ :: _, _ => rfl
  | _ :: _, [], _ => rfl
  | x :: xs, y :: ys, h => by rw [vlsB, vlsB_len xs ys (by simpa using h), Bool.and_false]
theorem memB_len : ∀ xs ys, xs.length ≠ ys.length → memB xs ys = false
  | [], [], h => absurd rfl h
  | [], _ :: _, _ => rfl
  | _ :: _, [], _ => rfl
  | x :: xs, y :: ys, h => by rw [memB, memB_len xs ys (by simpa using h), Bool.and_false]
theorem vlsB_at {xs ys : List Vl} {i : Nat} {x y : Vl} (h1 : xs[i]? = some x) (h2 : ys[i]? = some y) : vlsB (xs.drop i) (ys.drop i) = (vlB x y && vlsB (xs.drop (i + 1)) (ys.drop (i + 1))) := by
  obtain ⟨hi, rfl⟩ := List.getElem?_eq_some_iff.1 h1
  obtain ⟨hj, rfl⟩ := List.getElem?_eq_some_iff.1 h2
  rw [List.drop_eq_getElem_cons hi, List.drop_eq_getElem_cons hj, vlsB]
theorem memB_at {xs ys : List (List Vl)} {i : Nat} {x y : List Vl} (h1 : xs[i]? = some x) (h2 : ys[i]? = some y) : memB (xs.drop i) (ys.drop i) = (vlsB x y && memB (xs.drop (i + 1)) (ys.drop (i + 1))) := by
  obtain ⟨hi, rfl⟩ := List.getElem?_eq_some_iff.1 h1
  obtain ⟨hj, rfl⟩ := List.getElem?_eq_some_iff.1 h2
  rw [List.drop_eq_getElem_cons hi, List.drop_eq_getElem_cons hj, memB]
theorem bne_noS {a b : Int} (h : a ≠ b) : (a != b) = true := by simpa using h
theorem beq_noS {a b : Int} (h : a ≠ b) : (a == b) = false := by simpa using h
def smPost (r : Bool) (w : World) (e : Ending) (w' : World) : Prop := e = .returned (.bool r) ∧ Kept w w'
theorem vlB_ways (x y : Vl) : (vlB x y = true ∧ x = y) ∨ (vlB x y = false ∧ ((x.k ≠ y.k) ∨ (x.k = y.k ∧ x.e ≠ y.e) ∨ (x.k = y.k ∧ x.e = y.e ∧ x.n ≠ y.n))) := by
  cases h : vlB x y
  · right
    refine ⟨rfl, ?_⟩
    by_cases h1 : x.k = y.k
    · by_cases h2 : x.e = y.e
      · by_cases h3 : x.n = y.n
        · rw [vlB, decide_eq_true h1, decide_eq_true h2, decide_eq_true h3] at h; cases h
        · exact .inr (.inr ⟨h1, h2, h3⟩)
      · exact .inr (.inl ⟨h1, h2⟩)
    · exact .inl h1
  · exact .inl ⟨rfl, vlB_iff.1 h⟩
set_option maxRecDepth 100000 in
set_option maxHeartbeats 4000000 in
theorem sameVals_any (va vb : Value) (xs ys : List Vl) (w : World) (ha : Vals w va xs) (hb : Vals w vb ys) (hx : xs.length ≤ 9223372036854775807) (_hy : ys.length ≤ 9223372036854775807) :
    Calls Tryz.prog 26 #[va, vb] w (smPost (vlsB xs ys) w) := by
  unfold smPost
  obtain ⟨A, ca, rfl, hA⟩ := ha.at_
  obtain ⟨B, cb, rfl, hB⟩ := hb.at_
  by_cases hl : xs.length = ys.length
  · obtain ⟨n, hxn⟩ : ∃ n, n = xs.length := ⟨_, rfl⟩
    have hyn : n = ys.length := hxn.trans hl
    rw [← hxn] at hA hx ⊢
    rw [← hyn] at hB ⊢
    have HX := Lib.hid hxn
    have HY := Lib.hid hyn
    clear hxn hyn ha hb hl
    go_enter Tryz.func26, Tryz.ntmps26
    go_wp2_with fail
    go_loopw [5] (fun z wr => ∃ i : Nat, i ≤ n ∧ z = .int .i64 i ∧ Kept w wr ∧ vlsB (xs.drop i) (ys.drop i) = vlsB xs ys) (fun z _ => (n - intOf z).toNat)
    case atStart => exact ⟨0, Nat.zero_le _, rfl, Kept.refl _, rfl⟩
    case round =>
      obtain ⟨i, hin, rfl, hK, hrun⟩ := hrel
      by_cases hp : i < n
      · obtain ⟨b1, o1, rfl, hb1, hc1⟩ := hA (by omega)
        obtain ⟨b2, o2, rfl, hb2, hc2⟩ := hB (by omega)
        have hg1 : xs[i]? = some (xs[i]'(by have := HX.out; omega)) := List.getElem?_eq_getElem _
        have hg2 : ys[i]? = some (ys[i]'(by have := HY.out; omega)) := List.getElem?_eq_getElem _
        obtain ⟨x0, x1, x2⟩ := hc1 i _ hg1
        obtain ⟨y0, y1, y2⟩ := hc2 i _ hg2
        rw [vlsB_at hg1 hg2] at hrun
        clear hc1 hc2 hA hB hg1 hg2
        generalize xs[i]'(by have := HX.out; omega) = X at *
        generalize ys[i]'(by have := HY.out; omega) = Y at *
        have hw1 := Nat.lt_of_lt_of_le hb1 hK.size
        have hw2 := Nat.lt_of_lt_of_le hb2 hK.size
        have k0 := KW.cell hw1 (hK.cell (p := ⟨b1, _, none⟩) hb1 x0)
        have k1 := KW.cell hw1 (hK.cell (p := ⟨b1, _, none⟩) hb1 x1)
        have k2 := KW.cell hw1 (hK.cell (p := ⟨b1, _, none⟩) hb1 x2)
        have m0 := KW.cell hw2 (hK.cell (p := ⟨b2, _, none⟩) hb2 y0)
        have m1 := KW.cell hw2 (hK.cell (p := ⟨b2, _, none⟩) hb2 y1)
        have m2 := KW.cell hw2 (hK.cell (p := ⟨b2, _, none⟩) hb2 y2)
        clear x0 x1 x2 y0 y1 y2
        have hpi : (i : Int) < n := by omega
        obtain ⟨xk, xe, xn⟩ := X
        obtain ⟨yk, ye, yn⟩ := Y
        dsimp only at k0 k1 k2 m0 m1 m2
        rcases vlB_ways ⟨xk, xe, xn⟩ ⟨yk, ye, yn⟩ with ⟨hv, he⟩ | ⟨hv, he⟩
        · rw [hv, Bool.true_and] at hrun
          obtain ⟨rfl, rfl, rfl⟩ : xk = yk ∧ xe = ye ∧ xn = yn := by simpa using he
          have HR := Lib.hid hrun
          clear hrun he hv
          go_wp2_with fail
          refine wp_region_kept (by kernel_rfl) (by kernel_rfl) ?_
          repeat (go_big_quiet_step (fail))
          refine wpQuiet_nil ?_
          rintro _ ⟨⟨wx, hx2⟩, rfl⟩
          go_wp2_with fail
          go_roundw
          case rel => exact ⟨i + 1, hp, by go_num, hK.trans hx2, HR.out⟩
          case measure => simp only [intOf]; omega
        · rw [hv, Bool.false_and] at hrun
          have HR := Lib.hid hrun
          dsimp only at he
          clear hrun hv
          rcases he with h | ⟨h1, h⟩ | ⟨h1, h2, h⟩
          all_goals
            have hne := beq_noS h
            have hne2 := bne_noS h
            (try subst h1)
            (try subst h2)
            clear h
            go_wp2_with fail
            refine wp_region_kept (by kernel_rfl) (by kernel_rfl) ?_
            repeat (go_big_quiet_step (fail))
            refine wpQuiet_nil ?_
            rintro _ ⟨⟨wx, hx2⟩, rfl⟩
            go_wp2_with fail
            go_ret
            rw [← HR.out]
            exact ⟨rfl, hK.trans hx2⟩
      · have hpi : ¬ ((i : Int) < n) := by omega
        have hr : vlsB xs ys = true := by
          rw [← hrun, List.drop_eq_nil_iff.2 (by have := HX.out; omega), List.drop_eq_nil_iff.2 (by have := HY.out; omega)]; rfl
        have HR := Lib.hid hr
        clear hrun hr
        go_wp2_with fail
        go_ret
        rw [HR.out]
        exact ⟨rfl, hK⟩
  · have HR := Lib.hid (vlsB_len xs ys hl)
    have hli : ((xs.length : Int) != ys.length) = true := bne_noS (by omega)
    rw [HR.out]
    clear hl ha hb hA hB
    go_enter Tryz.func26, Tryz.ntmps26
    go_wp2_with fail
    go_ret
    exact ⟨rfl, Kept.refl _⟩
set_option maxRecDepth 100000 in
set_option maxHeartbeats 4000000 in
theorem sameLists_any (va vb : Value) (xs ys : List (List Vl)) (w : World) (ha : Mems w va xs) (hb : Mems w vb ys) :
    Calls Tryz.prog 27 #[va, vb] w (smPost (memB xs ys) w) := by
  unfold smPost
  obtain ⟨A, ca, rfl, hx, hA⟩ := ha.at_
  obtain ⟨B, cb, rfl, hy, hB⟩ := hb.at_
  by_cases hl : xs.length = ys.length
  · obtain ⟨n, hxn⟩ : ∃ n, n = xs.length := ⟨_, rfl⟩
    have hyn : n = ys.length := hxn.trans hl
    rw [← hxn] at hA hx ⊢
    rw [← hyn] at hB ⊢
    have HX := Lib.hid hxn
    have HY := Lib.hid hyn
    clear hxn hyn ha hb hl
    go_enter Tryz.func27, Tryz.ntmps27
    go_wp2_with fail
    go_loopw [5] (fun z wr => ∃ i : Nat, i ≤ n ∧ z = .int .i64 i ∧ Kept w wr ∧ memB (xs.drop i) (ys.drop i) = memB xs ys) (fun z _ => (n - intOf z).toNat)
    case atStart => exact ⟨0, Nat.zero_le _, rfl, Kept.refl _, rfl⟩
    case round =>
      obtain ⟨i, hin, rfl, hK, hrun⟩ := hrel
      by_cases hp : i < n
      · obtain ⟨b1, o1, rfl, hb1, hc1⟩ := hA (by omega)
        obtain ⟨b2, o2, rfl, hb2, hc2⟩ := hB (by omega)
        have hg1 : xs[i]? = some (xs[i]'(by have := HX.out; omega)) := List.getElem?_eq_getElem _
        have hg2 : ys[i]? = some (ys[i]'(by have := HY.out; omega)) := List.getElem?_eq_getElem _
        obtain ⟨hl1, A1, e1, x0, hv1⟩ := hc1 i _ hg1
        obtain ⟨hl2, A2, e2, y0, hv2⟩ := hc2 i _ hg2
        rw [memB_at hg1 hg2] at hrun
        clear hc1 hc2 hA hB hg1 hg2
        generalize xs[i]'(by have := HX.out; omega) = X at *
        generalize ys[i]'(by have := HY.out; omega) = Y at *
        have hw1 := Nat.lt_of_lt_of_le hb1 hK.size
        have hw2 := Nat.lt_of_lt_of_le hb2 hK.size
        have k0 := KW.cell hw1 (hK.cell (p := ⟨b1, _, none⟩) hb1 x0)
        have m0 := KW.cell hw2 (hK.cell (p := ⟨b2, _, none⟩) hb2 y0)
        have HV := Lib.hid (fun (x : KW wr) => sameVals_any _ _ X Y x.W (hv1.kept (hK.trans x.h)) (hv2.kept (hK.trans x.h)) hl1 hl2)
        unfold smPost at HV
        clear x0 y0 hv1 hv2 hl1 hl2
        have hpi : (i : Int) < n := by omega
        generalize vlsB X Y = r at *
        cases r
        · rw [Bool.false_and] at hrun
          have HR := Lib.hid hrun
          clear hrun
          go_wp2_with fail
          refine wp_region_kept (by kernel_rfl) (by kernel_rfl) ?_
          repeat (go_big_quiet_step (first | (go_at_call 26; exact KW.call (HV.out _))))
          refine wpQuiet_nil ?_
          rintro _ ⟨⟨wx, hx2⟩, rfl⟩
          go_wp2_with fail
          go_ret
          rw [← HR.out]
          exact ⟨rfl, hK.trans hx2⟩
        · rw [Bool.true_and] at hrun
          have HR := Lib.hid hrun
          clear hrun
          go_wp2_with fail
          refine wp_region_kept (by kernel_rfl) (by kernel_rfl) ?_
          repeat (go_big_quiet_step (first | (go_at_call 26; exact KW.call (HV.out _))))
          refine wpQuiet_nil ?_
          rintro _ ⟨⟨wx, hx2⟩, rfl⟩
          go_wp2_with fail
          go_roundw
          case rel => exact ⟨i + 1, hp, by go_num, hK.trans hx2, HR.out⟩
          case measure => simp only [intOf]; omega
      · have hpi : ¬ ((i : Int) < n) := by omega
        have hr : memB xs ys = true := by
          rw [← hrun, List.drop_eq_nil_iff.2 (by have := HX.out; omega), List.drop_eq_nil_iff.2 (by have := HY.out; omega)]; rfl
        have HR := Lib.hid hr
        clear hrun hr
        go_wp2_with fail
        go_ret
        rw [HR.out]
        exact ⟨rfl, hK⟩
  · have HR := Lib.hid (memB_len xs ys hl)
    have hli : ((xs.length : Int) != ys.length) = true := bne_noS (by omega)
    rw [HR.out]
    clear hl ha hb hA hB
    go_enter Tryz.func27, Tryz.ntmps27
    go_wp2_with fail
    go_ret
    exact ⟨rfl, Kept.refl _⟩
theorem Vals.form {w : World} {v : Value} {xs : List Vl} (h : Vals w v xs) : ∃ A cap, v = .slice A xs.length cap := by
  obtain ⟨A, cap, hv, _⟩ := h
  exact ⟨A, cap, hv⟩
set_option maxRecDepth 100000 in
set_option maxHeartbeats 4000000 in
theorem sameCase_any (d d' : Int) (iv mv iv' mv' : Value) (ins ins' : List Vl) (mem mem' : List (List Vl)) (w : World) (hI : Vals w iv ins) (hM : Mems w mv mem) (hI' : Vals w iv' ins') (hM' : Mems w mv' mem')
    (hl : ins.length ≤ 9223372036854775807) (hl' : ins'.length ≤ 9223372036854775807) :
    Calls Tryz.prog 11 #[.agg #[.int .i64 d, iv, mv], .agg #[.int .i64 d', iv', mv']] w (smPost (csB d ins mem d' ins' mem') w) := by
  unfold smPost
  obtain ⟨A1, c1, rfl⟩ := hI.form
  obtain ⟨A1', c1', rfl⟩ := hI'.form
  obtain ⟨A2, c2, rfl, _⟩ := id hM
  obtain ⟨A2', c2', rfl, _⟩ := id hM'
  have HV := Lib.hid (fun w1 (h : Kept w w1) => sameVals_any _ _ ins ins' w1 (hI.kept h) (hI'.kept h) hl hl')
  have HL := Lib.hid (fun w1 (h : Kept w w1) => sameLists_any _ _ mem mem' w1 (hM.kept h) (hM'.kept h))
  unfold smPost at HV HL
  have K0 := Lib.hid (((Kept.refl w).alloc (.cells #[.int .i64 d, .slice A1 ins.length c1, .slice A2 mem.length c2] 30)).alloc (.cells #[.int .i64 d', .slice A1' ins'.length c1', .slice A2' mem'.length c2'] 30))
  have hcs : csB d ins mem d' ins' mem' = (decide (d = d') && (vlsB ins ins' && memB mem mem')) := rfl
  generalize csB d ins mem d' ins' mem' = R at *
  generalize vlsB ins ins' = r1 at *
  generalize memB mem mem' = r2 at *
  clear hI hI' hM hM' hl hl'
  by_cases hd : d = d'
  · subst hd
    rw [decide_eq_true rfl, Bool.true_and] at hcs
    have hself : (d == d) = true := by simp
    cases r1
    · have HR := Lib.hid hcs
      clear hcs
      go_enter Tryz.func11, Tryz.ntmps11
      go_wp2_with (go_at_call 26; refine (HV.out _ K0.out).mono ?_; rintro e w1 ⟨rfl, k1⟩)
      go_ret
      rw [HR.out]
      exact ⟨rfl, K0.out.trans k1⟩
    · rw [Bool.true_and] at hcs
      have HR := Lib.hid hcs
      clear hcs
      go_enter Tryz.func11, Tryz.ntmps11
      go_wp2_with (first
        | (go_at_call 26; refine (HV.out _ K0.out).mono ?_; rintro e w1 ⟨rfl, k1⟩; have K1 := K0.out.trans k1; obtain ⟨B1, B2⟩ := k1.blk2; have b1 := B1.cell 2; have b2 := B2.cell 2; have l1 := B1.lt; have l2 := B2.lt)
        | (go_at_call 27; refine (HL.out _ K1).mono ?_; rintro e w2 ⟨rfl, k2⟩))
      go_ret
      rw [HR.out]
      exact ⟨rfl, K1.trans k2⟩
  · rw [decide_eq_false hd, Bool.false_and] at hcs
    have hne := beq_noS hd
    have HR := Lib.hid hcs
    clear hcs hd
    go_enter Tryz.func11, Tryz.ntmps11
    go_wp2_with fail
    go_ret
    rw [HR.out]
    exact ⟨rfl, K0.out⟩
end Go.Proofs.YtjeifmjcgemlgaaGreatDoor
/- The chapter's examples on cases hold. -/
namespace Go.Proofs.YtjeifmjcgemlgaaGreatDoor
open Go.RowKit

def exPost (w : World) (e : Ending) (w' : World) : Prop := ∃ A, e = .returned (.agg #[.slice none 0 0, .slice none 0 0, .slice A 1 1]) ∧ LawM w' (.agg #[.slice none 0 0, .slice none 0 0, .slice A 1 1]) [] exS ∧ Kept w w'
theorem ex_law {W : World} {g2 g3 t2 t3 : Nat} {s a b : ByteArray} (B2 : Blk W g2 t2 #[.string a, .int .i64 3, .int .i64 0, .string b, .int .i64 1, .int .i64 0])
    (B3 : Blk W g3 t3 #[.string s, .int .i64 (-1), .slice (some ⟨g2, 0, none⟩) 2 2, .slice none 0 0, .slice none 0 0]) :
    LawM W (.agg #[.slice none 0 0, .slice none 0 0, .slice (some ⟨g3, 0, none⟩) 1 1]) [] exS := by
  refine ⟨_, none, 0, 0, _, rfl, Enums.nil _, ⟨some ⟨g3, 0, none⟩, 1, rfl, by decide, fun _ => ⟨g3, 0, rfl, B3.lt, fun j sc hj => ?_⟩⟩⟩
  match j, hj with
  | 0, hj =>
    obtain rfl := Option.some.inj hj
    refine ⟨by decide, B3.cell 1, _, B3.cell 2, ⟨_, 2, rfl, fun _ => ⟨g2, 0, rfl, B2.lt, fun j t hj => ?_⟩⟩⟩
    match j, hj with
    | 0, hj => obtain rfl := Option.some.inj hj; exact ⟨B2.cell 1, B2.cell 2⟩
    | 1, hj => obtain rfl := Option.some.inj hj; exact ⟨B2.cell 4, B2.cell 5⟩
set_option maxRecDepth 100000 in
set_option maxHeartbeats 4000000 in
theorem example19_any (w : World) : Calls Tryz.prog 15 #[] w (exPost w) := by
  unfold exPost
  go_enter Tryz.func15, Tryz.ntmps15
  go_wp2_with fail
  have B1 := ((Blk.new w 26 #[.slice none 0 0, .slice none 0 0, .slice (some ⟨w.heap.size + 1 + 1, 0, none⟩) 1 1]).alloc (.cells #[.string ⟨#[97]⟩, .int .i64 3, .int .i64 0, .string ⟨#[98]⟩, .int .i64 1, .int .i64 0] 88)).alloc (.cells #[.string ⟨#[115]⟩, .int .i64 (-1), .slice (some ⟨w.heap.size + 1, 0, none⟩) 2 2, .slice none 0 0, .slice none 0 0] 54)
  have B2 := (Blk.new (w.alloc (.cells #[.slice none 0 0, .slice none 0 0, .slice (some ⟨w.heap.size + 1 + 1, 0, none⟩) 1 1] 26)) 88 #[.string ⟨#[97]⟩, .int .i64 3, .int .i64 0, .string ⟨#[98]⟩, .int .i64 1, .int .i64 0]).alloc (.cells #[.string ⟨#[115]⟩, .int .i64 (-1), .slice (some ⟨w.heap.size + 1, 0, none⟩) 2 2, .slice none 0 0, .slice none 0 0] 54)
  have B3 := Blk.new ((w.alloc (.cells #[.slice none 0 0, .slice none 0 0, .slice (some ⟨w.heap.size + 1 + 1, 0, none⟩) 1 1] 26)).alloc (.cells #[.string ⟨#[97]⟩, .int .i64 3, .int .i64 0, .string ⟨#[98]⟩, .int .i64 1, .int .i64 0] 88)) 54 #[.string ⟨#[115]⟩, .int .i64 (-1), .slice (some ⟨w.heap.size + 1, 0, none⟩) 2 2, .slice none 0 0, .slice none 0 0]
  have hK := (((Kept.refl w).alloc (.cells #[.slice none 0 0, .slice none 0 0, .slice (some ⟨w.heap.size + 1 + 1, 0, none⟩) 1 1] 26)).alloc (.cells #[.string ⟨#[97]⟩, .int .i64 3, .int .i64 0, .string ⟨#[98]⟩, .int .i64 1, .int .i64 0] 88)).alloc (.cells #[.string ⟨#[115]⟩, .int .i64 (-1), .slice (some ⟨w.heap.size + 1, 0, none⟩) 2 2, .slice none 0 0, .slice none 0 0] 54)
  rw [World.size_alloc] at B2 B3
  rw [World.size_alloc] at B3
  generalize ((w.alloc (.cells #[.slice none 0 0, .slice none 0 0, .slice (some ⟨w.heap.size + 1 + 1, 0, none⟩) 1 1] 26)).alloc (.cells #[.string ⟨#[97]⟩, .int .i64 3, .int .i64 0, .string ⟨#[98]⟩, .int .i64 1, .int .i64 0] 88)).alloc (.cells #[.string ⟨#[115]⟩, .int .i64 (-1), .slice (some ⟨w.heap.size + 1, 0, none⟩) 2 2, .slice none 0 0, .slice none 0 0] 54) = W at *
  have b10 := B1.cell 0
  have b11 := B1.cell 1
  have b12 := B1.cell 2
  refine bodyPost_ret (v := .agg #[.slice none 0 0, .slice none 0 0, .slice (some ⟨w.heap.size + 1 + 1, 0, none⟩) 1 1]) (by simp [results, Tryz.results15, go_sem, b10, b11, b12]) rfl ⟨_, rfl, ex_law B2 B3, hK⟩
theorem p19_any (lv : Value) (w : World) (hL : LawM w lv [] exS) (hX : MaxV w) (hMo : Mon w) :
    Calls Tryz.prog 10 #[lv, .int .i64 0, .string ⟨#[100, 97, 116, 101, 32, 50, 48, 48, 48, 45, 48, 49, 45, 48, 49, 10, 105, 110, 32, 49, 50, 46, 53, 48, 32, 116, 114, 117, 101, 10]⟩] w fun e w' =>
      ∃ iv mv, e = .returned (.tuple #[.agg #[.int .i64 36524, iv, mv], .int .i64 0, .int .i64 0]) ∧ Vals w' iv exV ∧ Mems w' mv [] ∧ Kept w w' := by
  have := cparse_any lv [] exS 0 exT w hL (by decide) hX hMo
  rw [ex19_p] at this
  exact this
theorem u19_any (lv : Value) (w : World) (hL : LawM w lv [] exS) (hX : MaxV w) (hMo : Mon w) :
    Calls Tryz.prog 10 #[lv, .int .i64 0, .string ⟨#[100, 97, 116, 101, 32, 50, 48, 48, 48, 45, 48, 49, 45, 48, 49, 10, 105, 110, 32, 49, 50, 46, 53, 32, 116, 114, 117, 101, 10]⟩] w fun e w' =>
      ∃ iv mv, e = .returned (.tuple #[.agg #[.int .i64 0, iv, mv], .int .i64 1, .int .i64 2]) ∧ Vals w' iv [] ∧ Mems w' mv [] ∧ Kept w w' := by
  have := cparse_any lv [] exS 0 exU w hL (by decide) hX hMo
  rw [ex19_u] at this
  exact this
theorem f19_any (lv iv mv : Value) (w : World) (hL : LawM w lv [] exS) (hI : Vals w iv exV) (hM : Mems w mv []) (hMo : Mon w) (hP : Pow w) :
    Calls Tryz.prog 9 #[lv, .int .i64 0, .agg #[.int .i64 36524, iv, mv]] w fun e w' =>
      e = .returned (.tuple #[.string ⟨#[100, 97, 116, 101, 32, 50, 48, 48, 48, 45, 48, 49, 45, 48, 49, 10, 105, 110, 32, 49, 50, 46, 53, 48, 32, 116, 114, 117, 101, 10]⟩, .int .i64 0]) ∧ Kept w w' := by
  have hb : (textL (caseT [] 36524 exV [])).length ≤ 1000000000 := by rw [← bs_size, ex19_t]; decide
  have := cformat_any lv iv mv [] exS 0 36524 exV [] w hL hI (by decide) hM (fun _ => hb) hMo hP
  rw [ex19_f] at this
  exact this
theorem v19_any (lv iv mv : Value) (w : World) (hL : LawM w lv [] exS) (hI : Vals w iv exV) (hM : Mems w mv [[]]) :
    Calls Tryz.prog 8 #[lv, .int .i64 0, .agg #[.int .i64 36524, iv, mv]] w fun e w' =>
      e = .returned (.tuple #[.int .i64 0, .int .i64 (-1), .int .i64 4]) ∧ Kept w w' := by
  have := validate_any lv iv mv [] exS 0 36524 exV [[]] w hL hI (by decide) hM
  rw [ex19_m] at this
  exact this
set_option maxRecDepth 100000 in
set_option maxHeartbeats 8000000 in
theorem awake19_any (w : World) (hMo : Mon w) (hP : Pow w) (hX : MaxV w) :
    Calls Tryz.prog 7 #[] w fun e w' => e = .returned (.bool true) ∧ Kept w w' := by
  go_enter Tryz.func7, Tryz.ntmps7
  go_wp2_with fail
  refine (example19_any w).mono ?_
  rintro e w1 ⟨AS, rfl, hL1, k1⟩
  go_wp2_with fail
  have K1 := k1.alloc (.cells #[.slice none 0 0, .slice none 0 0, .slice AS 1 1] 26)
  have L1 := hL1.kept ((Kept.refl w1).alloc (.cells #[.slice none 0 0, .slice none 0 0, .slice AS 1 1] 26))
  refine (p19_any _ _ L1 (hX.kept K1) (hMo.kept K1)).mono ?_
  rintro r w2 ⟨iv, mv, rfl, hI2, hM2, k2⟩
  obtain ⟨AI, ci, hiv⟩ : ∃ A c, iv = .slice A 2 c := hI2.form
  obtain ⟨AM, cm, hmv, _⟩ : ∃ A c, mv = .slice A 0 c ∧ _ := hM2
  subst hiv hmv
  have B1 := k2.blk1
  have K2 := K1.trans k2
  have L2 := L1.kept k2
  have k12 : Kept w1 w2 := ((Kept.refl w1).alloc _).trans k2
  have HL1 := Lib.hid hL1
  have HI2 := Lib.hid hI2
  have b10 := B1.cell 0
  have b11 := B1.cell 1
  have b12 := B1.cell 2
  have b1l := B1.lt
  clear k2 K1 L1 hL1 k1
  go_wp2_with fail
  have K3 := K2.alloc (.cells #[.int .i64 36524, .slice AI 2 ci, .slice AM 0 cm] 30)
  have L3 := L2.kept ((Kept.refl w2).alloc (.cells #[.int .i64 36524, .slice AI 2 ci, .slice AM 0 cm] 30))
  have I3 := hI2.kept ((Kept.refl w2).alloc (.cells #[.int .i64 36524, .slice AI 2 ci, .slice AM 0 cm] 30))
  refine (f19_any _ _ _ _ L3 I3 ⟨AM, cm, rfl, by decide, fun h => absurd h (by decide)⟩ (hMo.kept K3) (hP.kept K3)).mono ?_
  rintro r w3 ⟨rfl, k3⟩
  have C1 := (B1.alloc (.cells #[.int .i64 36524, .slice AI 2 ci, .slice AM 0 cm] 30)).kept k3
  have C2 := k3.blk1
  have K4 := K3.trans k3
  have k23 : Kept w2 w3 := ((Kept.refl w2).alloc _).trans k3
  have K2h := Lib.hid K2
  have L4 := L3.kept k3
  have I4 := I3.kept k3
  have hg2 : w1.heap.size < w2.heap.size := B1.lt
  clear b10 b11 b12 b1l B1 k3 K3 L3 I3 K2 L2 hI2
  have b10 := C1.cell 0
  have b11 := C1.cell 1
  have b12 := C1.cell 2
  have b1l := C1.lt
  go_wp2_with fail
  refine (u19_any _ _ L4 (hX.kept K4) (hMo.kept K4)).mono ?_
  rintro r w4 ⟨iv2, mv2, rfl, hi2, hm2, k4⟩
  obtain ⟨AI2, ci2, hiv⟩ : ∃ A c, iv2 = .slice A 0 c := hi2.form
  obtain ⟨AM2, cm2, hmv, _⟩ : ∃ A c, mv2 = .slice A 0 c ∧ _ := hm2
  subst hiv hmv
  have k24 := k23.trans k4
  have D1 := C1.kept k4
  have D2 := C2.kept k4
  have K5 := K4.trans k4
  have L5 := L4.kept k4
  have I5 := I4.kept k4
  clear b10 b11 b12 b1l C1 C2 k4 K4 L4 I4 hi2
  have b10 := D1.cell 0
  have b11 := D1.cell 1
  have b12 := D1.cell 2
  have b1l := D1.lt
  have b20 := D2.cell 0
  have b21 := D2.cell 1
  have b22 := D2.cell 2
  have b2l := D2.lt
  have b2f := D2.frozen
  clear L5 I5 K5
  go_wp2_with fail
  have E2 : Blk (w4.setCell ⟨w2.heap.size, 2, none⟩ (.slice (some ⟨w4.heap.size + 1, 0, none⟩) 1 1)) w2.heap.size 30 #[.int .i64 36524, .slice AI 2 ci, .slice (some ⟨w4.heap.size + 1, 0, none⟩) 1 1] := D2.set_ 2 (.slice (some ⟨w4.heap.size + 1, 0, none⟩) 1 1)
  have hsz : (w4.setCell ⟨w2.heap.size, 2, none⟩ (.slice (some ⟨w4.heap.size + 1, 0, none⟩) 1 1)).heap.size = w4.heap.size := by simp
  have k25 := k24.setCell (p := ⟨w2.heap.size, 2, none⟩) (Nat.le_refl _) (.slice (some ⟨w4.heap.size + 1, 0, none⟩) 1 1)
  clear b10 b11 b12 b1l b20 b21 b22 b2l b2f D1 D2 k24
  generalize w4.setCell ⟨w2.heap.size, 2, none⟩ (.slice (some ⟨w4.heap.size + 1, 0, none⟩) 1 1) = V at *
  have N := Blk.new (V.alloc (.cells #[.int .i64 0, .slice AI2 0 ci2, .slice AM2 0 cm2] 30)) 27 #[.slice none 0 0]
  rw [World.size_alloc, hsz] at N
  have E3 := (E2.alloc (.cells #[.int .i64 0, .slice AI2 0 ci2, .slice AM2 0 cm2] 30)).alloc (.cells #[.slice none 0 0] 27)
  have k26 := (k25.alloc (.cells #[.int .i64 0, .slice AI2 0 ci2, .slice AM2 0 cm2] 30)).alloc (.cells #[.slice none 0 0] 27)
  have M5 : Mems ((V.alloc (.cells #[.int .i64 0, .slice AI2 0 ci2, .slice AM2 0 cm2] 30)).alloc (.cells #[.slice none 0 0] 27)) (.slice (some ⟨w4.heap.size + 1, 0, none⟩) 1 1) [[]] := by
    refine ⟨_, 1, rfl, by decide, fun _ => ⟨w4.heap.size + 1, 0, rfl, N.lt, fun j l hj => ?_⟩⟩
    match j, hj with
    | 0, hj =>
      obtain rfl := Option.some.inj hj
      exact ⟨by decide, _, N.cell 0, Recs.nil _ _ _⟩
  refine (v19_any _ _ _ _ (HL1.out.kept (k12.trans k26)) (HI2.out.kept k26) M5).mono ?_
  rintro r w5 ⟨rfl, k5⟩
  have E5 := E3.kept k5
  have k27 := k26.trans k5
  have I5 := HI2.out.kept k27
  obtain ⟨A, c, hv, hx⟩ := Vals.at_ I5
  simp only [Value.slice.injEq] at hv
  obtain ⟨rfl, h2, rfl⟩ := hv
  clear h2
  obtain ⟨b, off, rfl, hb, hc⟩ := hx (by decide)
  have x2 := (hc 0 _ rfl).2.2
  rw [Nat.zero_mul, Nat.add_zero] at x2
  dsimp only at x2
  have b20 := E5.cell 0
  have b21 := E5.cell 1
  have b2l := E5.lt
  have KK := K2h.out.trans k27
  clear hx hc k25 k26 E2 E3 N M5 E5 hsz I5 k27 k12 k23
  go_wp2_with fail
  go_ret
  exact ⟨rfl, KK⟩
end Go.Proofs.YtjeifmjcgemlgaaGreatDoor
/- What the size tests of guerdonsame tell of laws and cases. -/
namespace Go.Proofs.YtjeifmjcgemlgaaGreatDoor
open Go.RowKit

theorem SlW.at_ {w : World} {k : Nat} {p : World → Nat → Nat → Prop} {v : Value} (h : SlW w k p v) : ∃ A n cap, v = .slice A n cap ∧ n ≤ 9223372036854775807 ∧ (0 < n → ∃ b off, A = some ⟨b, off, none⟩ ∧ b < w.heap.size ∧ ∀ j, j < n → p w b (off + j * k)) := h
def SmallB (Q : Prop) (w : World) (r : Ending) (w' : World) : Prop := ∃ b : Bool, r = .returned (.bool b) ∧ Kept w w' ∧ (b = true → Q)
set_option maxRecDepth 100000 in
set_option maxHeartbeats 8000000 in
theorem smallScope_any (nm : ByteArray) (m : Int) (iv dv rv : Value) (w : World) (hI : SlW w 3 StrAt iv) (hD : SlW w 3 StrAt dv) (hR : SlW w 9 RuP rv) :
    Calls Tryz.prog 13 #[.agg #[.string nm, .int .i64 m, iv, dv, rv]] w (SmallB True w) := by
  obtain ⟨A1, n1, c1, rfl, hn1, hx1⟩ := hI.at_
  obtain ⟨A2, n2, c2, rfl, hn2, hx2⟩ := hD.at_
  obtain ⟨A3, n3, c3, rfl, hn3, hx3⟩ := hR.at_
  have K0 := Lib.hid ((Kept.refl w).alloc (.cells #[.string nm, .int .i64 m, .slice A1 n1 c1, .slice A2 n2 c2, .slice A3 n3 c3] 54))
  clear hI hD hR
  rcases (show 80 < (nm.size : Int) ∨ (¬ 80 < (nm.size : Int) ∧ 14 < (n1 : Int)) ∨ (¬ 80 < (nm.size : Int) ∧ ¬ 14 < (n1 : Int) ∧ 14 < (n2 : Int)) ∨ (¬ 80 < (nm.size : Int) ∧ ¬ 14 < (n1 : Int) ∧ ¬ 14 < (n2 : Int) ∧ 60 < (n3 : Int)) ∨ (¬ 80 < (nm.size : Int) ∧ ¬ 14 < (n1 : Int) ∧ ¬ 14 < (n2 : Int) ∧ ¬ 60 < (n3 : Int)) by omega) with h | ⟨h, h1⟩ | ⟨h, h1, h2⟩ | ⟨h, h1, h2, h3⟩ | ⟨h, h1, h2, h3⟩
  iterate 4
    clear hx1 hx2 hx3
    go_enter Tryz.func13, Tryz.ntmps13
    go_wp2_with fail
    go_ret
    exact ⟨_, rfl, K0.out, fun h => trivial⟩
  go_enter Tryz.func13, Tryz.ntmps13
  go_wp2_with fail
  have B := Blk.new w 54 #[.string nm, .int .i64 m, .slice A1 n1 c1, .slice A2 n2 c2, .slice A3 n3 c3]
  have KK := K0.out
  generalize w.alloc (.cells #[.string nm, .int .i64 m, .slice A1 n1 c1, .slice A2 n2 c2, .slice A3 n3 c3] 54) = W at *
  have c0 := B.cell 2
  have c1' := B.cell 3
  have c2' := B.cell 4
  have cl := B.lt
  go_loopw [3] (fun y wr => ∃ i : Nat, y = .int .i64 i ∧ i ≤ n1 ∧ wr = W) (fun y _ => n1 - (intOf y).toNat)
  case atStart => exact ⟨0, rfl, Nat.zero_le _, rfl⟩
  case round =>
    obtain ⟨i, rfl, hin, rfl⟩ := hrel
    by_cases hlt : i < n1
    · obtain ⟨b, off, rfl, hb, hc⟩ := hx1 (by omega)
      obtain ⟨s, hs⟩ := hc i hlt
      have X0 := KK.cell (p := ⟨b, _, none⟩) hb hs
      have hb2 := Nat.lt_of_lt_of_le hb KK.size
      have hii : (i : Int) < n1 := by omega
      clear hc hs hx1 hx2 hx3
      by_cases h8 : 80 < (s.size : Int)
      · go_wp2_with fail
        go_ret
        exact ⟨_, rfl, KK, fun h => trivial⟩
      · go_wp2_with fail
        go_roundw
        case rel => exact ⟨i + 1, rfl, hlt, trivial⟩
        case measure => simp [intOf]; omega
    · have hii : ¬ ((i : Int) < n1) := by omega
      go_wp2_with fail
      go_loopw [4] (fun y wr' => ∃ i : Nat, y = .int .i64 i ∧ i ≤ n2 ∧ wr' = wr) (fun y _ => n2 - (intOf y).toNat)
      case atStart => exact ⟨0, rfl, Nat.zero_le _, rfl⟩
      case round =>
        obtain ⟨j, rfl, hjn, rfl⟩ := hrel
        by_cases hlt2 : j < n2
        · obtain ⟨b, off, rfl, hb, hc⟩ := hx2 (by omega)
          obtain ⟨s, hs⟩ := hc j hlt2
          have X0 := KK.cell (p := ⟨b, _, none⟩) hb hs
          have hb2 := Nat.lt_of_lt_of_le hb KK.size
          have hjj : (j : Int) < n2 := by omega
          clear hc hs hx1 hx2 hx3
          by_cases h8 : 80 < (s.size : Int)
          · go_wp2_with fail
            go_ret
            exact ⟨_, rfl, KK, fun h => trivial⟩
          · go_wp2_with fail
            go_roundw
            case rel => exact ⟨j + 1, rfl, hlt2, trivial⟩
            case measure => simp [intOf]; omega
        · have hjj : ¬ ((j : Int) < n2) := by omega
          go_wp2_with fail
          go_loopw [5] (fun y wr' => ∃ i : Nat, y = .int .i64 i ∧ i ≤ n3 ∧ Kept wr wr') (fun y _ => n3 - (intOf y).toNat)
          case atStart => exact ⟨0, rfl, Nat.zero_le _, Kept.refl _⟩
          case round =>
            obtain ⟨q, rfl, hqn, hK⟩ := hrel
            have B2 := B.kept hK
            have d2 := B2.cell 4
            have dl := B2.lt
            by_cases hlt3 : q < n3
            · obtain ⟨b, off, rfl, hb, hc⟩ := hx3 (by omega)
              have hru := RuP.kept _ _ _ _ (KK.trans hK) hb (hc q hlt3)
              obtain ⟨⟨s0, g0⟩, ⟨z1, g1⟩, ⟨z2, g2⟩, ⟨z3, g3⟩, ⟨z4, g4⟩, ⟨z5, g5⟩, ⟨A6, n6, c6, g6, l6⟩, ⟨A7, n7, c7, g7, l7⟩, ⟨s8, g8⟩⟩ := hru
              have hb2 := Nat.lt_of_lt_of_le hb (KK.trans hK).size
              have hqq : (q : Int) < n3 := by omega
              clear hc hx1 hx2 hx3 h h1 h2 h3
              rcases (show 80 < (s0.size : Int) ∨ (¬ 80 < (s0.size : Int) ∧ 80 < (s8.size : Int)) ∨ (¬ 80 < (s0.size : Int) ∧ ¬ 80 < (s8.size : Int) ∧ 50 < (n6 : Int)) ∨ (¬ 80 < (s0.size : Int) ∧ ¬ 80 < (s8.size : Int) ∧ ¬ 50 < (n6 : Int) ∧ 50 < (n7 : Int)) ∨ (¬ 80 < (s0.size : Int) ∧ ¬ 80 < (s8.size : Int) ∧ ¬ 50 < (n6 : Int) ∧ ¬ 50 < (n7 : Int)) by omega) with h | ⟨h, h1⟩ | ⟨h, h1, h2⟩ | ⟨h, h1, h2, h3⟩ | ⟨h, h1, h2, h3⟩
              iterate 4
                go_wp2_with fail
                go_ret
                exact ⟨_, rfl, (KK.trans hK).alloc _, fun h => trivial⟩
              go_wp2_with fail
              go_roundw
              case rel => exact ⟨q + 1, rfl, hlt3, hK.alloc _⟩
              case measure => simp [intOf]; omega
            · have hqq : ¬ ((q : Int) < n3) := by omega
              go_wp2_with fail
              go_ret
              exact ⟨_, rfl, KK.trans hK, fun h => trivial⟩
set_option maxRecDepth 100000 in
set_option maxHeartbeats 8000000 in
theorem smallCase_any (d : Int) (iv mv : Value) (ins : List Vl) (mem : List (List Vl)) (w : World) (hI : Vals w iv ins) (hM : Mems w mv mem) :
    Calls Tryz.prog 5 #[.agg #[.int .i64 d, iv, mv]] w (SmallB (ins.length ≤ 14 ∧ mem.length ≤ 10 ∧ ∀ l ∈ mem, l.length ≤ 14) w) := by
  obtain ⟨A1, c1, rfl, _⟩ := hI
  obtain ⟨A2, c2, rfl, hml, hx⟩ := hM.at_
  obtain ⟨n1, hn1⟩ : ∃ n, n = ins.length := ⟨_, rfl⟩
  obtain ⟨n2, hn2⟩ : ∃ n, n = mem.length := ⟨_, rfl⟩
  rw [← hn2] at hx hml
  rw [← hn1, ← hn2]
  obtain ⟨Q, hQ⟩ : ∃ Q, (n1 ≤ 14 ∧ n2 ≤ 10 ∧ ∀ l ∈ mem, l.length ≤ 14) = Q := ⟨_, rfl⟩
  rw [hQ]
  have HQ := Lib.hid (fun h => hQ ▸ h : (n1 ≤ 14 ∧ n2 ≤ 10 ∧ ∀ l ∈ mem, l.length ≤ 14) → Q)
  have HN := Lib.hid hn2
  clear hn1 hn2 hM hQ
  have K0 := Lib.hid ((Kept.refl w).alloc (.cells #[.int .i64 d, .slice A1 n1 c1, .slice A2 n2 c2] 30))
  rcases (show 14 < (n1 : Int) ∨ (¬ 14 < (n1 : Int) ∧ 10 < (n2 : Int)) ∨ (¬ 14 < (n1 : Int) ∧ ¬ 10 < (n2 : Int)) by omega) with h | ⟨h, h1⟩ | ⟨h, h1⟩
  iterate 2
    clear hx
    go_enter Tryz.func5, Tryz.ntmps5
    go_wp2_with fail
    go_ret
    exact ⟨_, rfl, K0.out, fun h => by cases h⟩
  have hh : n1 ≤ 14 ∧ n2 ≤ 10 := by omega
  have HH := Lib.hid hh
  go_enter Tryz.func5, Tryz.ntmps5
  go_wp2_with fail
  have B := Blk.new w 30 #[.int .i64 d, .slice A1 n1 c1, .slice A2 n2 c2]
  have KK := K0.out
  generalize w.alloc (.cells #[.int .i64 d, .slice A1 n1 c1, .slice A2 n2 c2] 30) = W at *
  have c2' := B.cell 2
  have cl := B.lt
  go_loopw [3] (fun y wr => ∃ i : Nat, y = .int .i64 i ∧ i ≤ n2 ∧ wr = W ∧ ∀ (j : Nat) l, j < i → mem[j]? = some l → l.length ≤ 14) (fun y _ => n2 - (intOf y).toNat)
  case atStart => exact ⟨0, rfl, Nat.zero_le _, rfl, fun _ _ h => absurd h (Nat.not_lt_zero _)⟩
  case round =>
    obtain ⟨i, rfl, hin, rfl, hall⟩ := hrel
    have HALL := Lib.hid hall
    clear hall
    by_cases hlt : i < n2
    · obtain ⟨b, off, rfl, hb, hc⟩ := hx (by omega)
      have hg : mem[i]? = some (mem[i]'(by have := HN.out; omega)) := List.getElem?_eq_getElem _
      obtain ⟨hll, Al, cl', y0, _⟩ := hc i _ hg
      have HG := Lib.hid hg
      generalize mem[i]'(by have := HN.out; omega) = l at *
      have Y0 := KK.cell (p := ⟨b, _, none⟩) hb y0
      have hb2 := Nat.lt_of_lt_of_le hb KK.size
      have hii : (i : Int) < n2 := by omega
      clear hc y0 hx hg
      by_cases h8 : 14 < (l.length : Int)
      · go_wp2_with fail
        go_ret
        exact ⟨_, rfl, KK, fun h => by cases h⟩
      · go_wp2_with fail
        go_roundw
        case rel =>
          refine ⟨i + 1, rfl, hlt, trivial, fun j l' hj hl' => ?_⟩
          by_cases hji : j = i
          · subst hji
            rw [HG.out] at hl'
            obtain rfl := Option.some.inj hl'
            omega
          · exact HALL.out j l' (by omega) hl'
        case measure => simp [intOf]; omega
    · have hii : ¬ ((i : Int) < n2) := by omega
      go_wp2_with fail
      go_ret
      refine ⟨_, rfl, KK, fun _ => HQ.out ⟨HH.out.1, HH.out.2, fun l hl => ?_⟩⟩
      obtain ⟨j, hj⟩ := List.getElem?_of_mem hl
      have hjl := (List.getElem?_eq_some_iff.1 hj).1
      exact HALL.out j l (by have := HN.out; omega) hj
theorem wrap_any (x : Int) : -9223372036854775808 ≤ wrap64 x ∧ wrap64 x ≤ 9223372036854775807 := by
  unfold wrap64
  omega
set_option maxRecDepth 100000 in
set_option maxHeartbeats 8000000 in
theorem smallLaw_any (lv : Value) (ms : List (List ByteArray)) (scs : List Sc) (w : World) (hL : LawM w lv ms scs) (hR : LawR w lv) :
    Calls Tryz.prog 4 #[lv] w (SmallB (∀ l ∈ ms, l.length ≤ 20 ∧ ∀ x ∈ l, x.size ≤ 80) w) := by
  obtain ⟨ev, At, nt, ct, sv, rfl, hE, hS⟩ := hL
  obtain ⟨ev', tv', sv', hv, rE, rT, rS⟩ := hR
  simp only [Value.agg.injEq, Array.mk.injEq, List.cons.injEq, and_true] at hv
  obtain ⟨rfl, rfl, rfl⟩ := hv
  obtain ⟨AE, ce, rfl, hme, hxe⟩ := hE
  obtain ⟨AE', ne', ce', hv, _, hre⟩ := rE.at_
  simp only [Value.slice.injEq] at hv
  obtain ⟨rfl, rfl, rfl⟩ := hv
  obtain ⟨AT', nt', ct', hv, hnt, hrt⟩ := rT.at_
  simp only [Value.slice.injEq] at hv
  obtain ⟨rfl, rfl, rfl⟩ := hv
  obtain ⟨AS, ns, cs, rfl, hns, hrs⟩ := rS.at_
  obtain ⟨ne, hne⟩ : ∃ n, n = ms.length := ⟨_, rfl⟩
  rw [← hne] at hxe hre hme ⊢
  have HN := Lib.hid hne
  obtain ⟨Q, hQ⟩ : ∃ Q, (∀ l ∈ ms, l.length ≤ 20 ∧ ∀ x ∈ l, x.size ≤ 80) = Q := ⟨_, rfl⟩
  rw [hQ]
  have HQ := Lib.hid (fun h => hQ ▸ h : (∀ l ∈ ms, l.length ≤ 20 ∧ ∀ x ∈ l, x.size ≤ 80) → Q)
  clear hne hS rT rS rE hQ
  have K0 := Lib.hid ((Kept.refl w).alloc (.cells #[.slice AE ne ce, .slice At nt ct, .slice AS ns cs] 26))
  rcases (show 9 < (ne : Int) ∨ (¬ 9 < (ne : Int) ∧ 9 < (nt : Int)) ∨ (¬ 9 < (ne : Int) ∧ ¬ 9 < (nt : Int) ∧ 5 < (ns : Int)) ∨ (¬ 9 < (ne : Int) ∧ ¬ 9 < (nt : Int) ∧ ¬ 5 < (ns : Int)) by omega) with h | ⟨h, h1⟩ | ⟨h, h1, h2⟩ | ⟨h, h1, h2⟩
  iterate 3
    clear hxe hre hrt hrs
    go_enter Tryz.func4, Tryz.ntmps4
    go_wp2_with fail
    go_ret
    exact ⟨_, rfl, K0.out, fun h => by cases h⟩
  go_enter Tryz.func4, Tryz.ntmps4
  go_wp2_with fail
  have B := Blk.new w 26 #[.slice AE ne ce, .slice At nt ct, .slice AS ns cs]
  have KK := K0.out
  generalize w.alloc (.cells #[.slice AE ne ce, .slice At nt ct, .slice AS ns cs] 26) = W at *
  have c0 := B.cell 0
  have c1 := B.cell 1
  have c2 := B.cell 2
  have cl := B.lt
  go_loopw [5] (fun y wr => ∃ i : Nat, y = .int .i64 i ∧ i ≤ ne ∧ wr = W ∧ ∀ (j : Nat) l, j < i → ms[j]? = some l → l.length ≤ 20 ∧ ∀ x ∈ l, x.size ≤ 80) (fun y _ => ne - (intOf y).toNat)
  case atStart => exact ⟨0, rfl, Nat.zero_le _, rfl, fun _ _ h => absurd h (Nat.not_lt_zero _)⟩
  case round =>
    obtain ⟨i, rfl, hin, rfl, hall⟩ := hrel
    have HALL := Lib.hid hall
    clear hall
    by_cases hlt : i < ne
    · obtain ⟨b, off, rfl, hb, hc⟩ := hxe (by omega)
      obtain ⟨b', off', hAe, _, hc'⟩ := hre (by omega)
      simp only [Option.some.injEq, Addr.mk.injEq, and_true] at hAe
      obtain ⟨rfl, rfl⟩ := hAe
      obtain ⟨s0, hs0⟩ := hc' i hlt
      have hg : ms[i]? = some (ms[i]'(by have := HN.out; omega)) := List.getElem?_eq_getElem _
      obtain ⟨hll, mv, hmv, hstr⟩ := hc i _ hg
      have HG := Lib.hid hg
      generalize ms[i]'(by have := HN.out; omega) = l at *
      obtain ⟨Al, cl', rfl, hxl⟩ := hstr.at3
      have X0 := KK.cell (p := ⟨b, _, none⟩) hb hs0
      have X1 := KK.cell (p := ⟨b, _, none⟩) hb hmv
      have hb2 := Nat.lt_of_lt_of_le hb KK.size
      have hii : (i : Int) < ne := by omega
      clear hc hc' hs0 hmv hg
      rcases (show 80 < (s0.size : Int) ∨ (¬ 80 < (s0.size : Int) ∧ 20 < (l.length : Int)) ∨ (¬ 80 < (s0.size : Int) ∧ ¬ 20 < (l.length : Int)) by omega) with h8 | ⟨h8, h9⟩ | ⟨h8, h9⟩
      iterate 2
        go_wp2_with fail
        go_ret
        exact ⟨_, rfl, KK, fun h => by cases h⟩
      obtain ⟨nl, hnl⟩ : ∃ n, n = l.length := ⟨_, rfl⟩
      rw [← hnl] at X1 h9 hxl hll
      have HL := Lib.hid hnl
      clear hnl hstr
      go_wp2_with fail
      go_loopw [6] (fun y wr' => ∃ k : Nat, y = .int .i64 k ∧ k ≤ nl ∧ wr' = wr ∧ ∀ (j : Nat) x, j < k → l[j]? = some x → x.size ≤ 80) (fun y _ => nl - (intOf y).toNat)
      case atStart => exact ⟨0, rfl, Nat.zero_le _, rfl, fun _ _ h => absurd h (Nat.not_lt_zero _)⟩
      case round =>
        obtain ⟨k, rfl, hkn, rfl, hak⟩ := hrel
        have HAK := Lib.hid hak
        clear hak
        by_cases hkl : k < nl
        · obtain ⟨b3, o3, rfl, hb3, hc3⟩ := hxl (by omega)
          have hg3 : l[k]? = some (l[k]'(by have := HL.out; omega)) := List.getElem?_eq_getElem _
          have y0 := hc3 k _ hg3
          have HG3 := Lib.hid hg3
          generalize l[k]'(by have := HL.out; omega) = x at *
          have Y0 := KK.cell (p := ⟨b3, _, none⟩) hb3 y0
          have hb4 := Nat.lt_of_lt_of_le hb3 KK.size
          have hkk : (k : Int) < nl := by omega
          clear hc3 y0 hg3
          by_cases hx8 : 80 < (x.size : Int)
          · go_wp2_with fail
            go_ret
            exact ⟨_, rfl, KK, fun h => by cases h⟩
          · go_wp2_with fail
            go_roundw
            case rel =>
              refine ⟨k + 1, rfl, hkl, trivial, fun j x' hj hx' => ?_⟩
              by_cases hjk : j = k
              · subst hjk
                rw [HG3.out] at hx'
                obtain rfl := Option.some.inj hx'
                omega
              · exact HAK.out j x' (by omega) hx'
            case measure => simp [intOf]; omega
        · have hkk : ¬ ((k : Int) < nl) := by omega
          have HLL := Lib.hid (show l.length ≤ 20 ∧ ∀ x ∈ l, x.size ≤ 80 from ⟨by have := HL.out; omega, fun x hx => by
            obtain ⟨j, hj⟩ := List.getElem?_of_mem hx
            have hjl := (List.getElem?_eq_some_iff.1 hj).1
            exact HAK.out j x (by have := HL.out; omega) hj⟩)
          go_wp2_with fail
          go_roundw
          case rel =>
            refine ⟨i + 1, rfl, hlt, trivial, fun j l' hj hl' => ?_⟩
            by_cases hji : j = i
            · subst hji
              rw [HG.out] at hl'
              obtain rfl := Option.some.inj hl'
              exact HLL.out
            · exact HALL.out j l' (by omega) hl'
          case measure => simp [intOf]; omega
    · have hii : ¬ ((i : Int) < ne) := by omega
      have HMS := Lib.hid (show ∀ l ∈ ms, l.length ≤ 20 ∧ ∀ x ∈ l, x.size ≤ 80 from fun l hl => by
        obtain ⟨j, hj⟩ := List.getElem?_of_mem hl
        have hjl := (List.getElem?_eq_some_iff.1 hj).1
        exact HALL.out j l (by have := HN.out; omega) hj)
      clear HALL hxe hre
      go_wp2_with fail
      go_loopw [3, 7] (fun x y wr' => ∃ (r : Int) (i : Nat), x = .int .i64 r ∧ (-9223372036854775808 ≤ r ∧ r ≤ 9223372036854775807) ∧ y = .int .i64 i ∧ i ≤ nt ∧ wr' = wr) (fun _ y _ => nt - (intOf y).toNat)
      case atStart => exact ⟨0, 0, rfl, by omega, rfl, Nat.zero_le _, rfl⟩
      case round =>
        obtain ⟨r, j, rfl, hrb, rfl, hjn, rfl⟩ := hrel
        by_cases hlt2 : j < nt
        · obtain ⟨b, off, rfl, hb, hc⟩ := hrt (by omega)
          obtain ⟨⟨s, hs⟩, A5, n5, c5, h5, hn5⟩ := hc j hlt2
          have X0 := KK.cell (p := ⟨b, _, none⟩) hb hs
          have X5 := KK.cell (p := ⟨b, _, none⟩) hb h5
          have hb2 := Nat.lt_of_lt_of_le hb KK.size
          have hjj : (j : Int) < nt := by omega
          clear hc hs h5
          obtain ⟨r2, hr2⟩ : ∃ r2, wrap64 (r + n5) = r2 := ⟨_, rfl⟩
          have hw := wrap_any (r + n5)
          rw [hr2] at hw
          rcases (show 80 < (s.size : Int) ∨ (¬ 80 < (s.size : Int) ∧ 150 < r2) ∨ (¬ 80 < (s.size : Int) ∧ ¬ 150 < r2) by omega) with h8 | ⟨h8, h9⟩ | ⟨h8, h9⟩
          iterate 2
            go_wp2_with fail
            go_ret
            exact ⟨_, rfl, KK, fun h => by cases h⟩
          go_wp2_with fail
          go_roundw
          case rel => exact ⟨r2, j + 1, by rw [hr2], hw, rfl, hlt2, trivial⟩
          case measure => simp [intOf]; omega
        · have hjj : ¬ ((j : Int) < nt) := by omega
          clear hrt
          go_wp2_with fail
          go_loopw [4, 8] (fun x y wr' => ∃ (r : Int) (i : Nat), x = .int .i64 r ∧ (-9223372036854775808 ≤ r ∧ r ≤ 9223372036854775807) ∧ y = .int .i64 i ∧ i ≤ ns ∧ Kept wr wr') (fun _ y _ => ns - (intOf y).toNat)
          case atStart => exact ⟨0, 0, rfl, by omega, rfl, Nat.zero_le _, Kept.refl _⟩
          case round =>
            obtain ⟨r3, q, rfl, hrb3, rfl, hqn, hK⟩ := hrel
            have B2 := B.kept hK
            have d2 := B2.cell 2
            have dl := B2.lt
            by_cases hlt3 : q < ns
            · obtain ⟨b, off, rfl, hb, hc⟩ := hrs (by omega)
              have hsp := ScP.kept _ _ _ _ (KK.trans hK) hb (hc q hlt3)
              obtain ⟨⟨s0, g0⟩, ⟨z1, g1⟩, ⟨v2, g2, p2⟩, ⟨v3, g3, p3⟩, v4, g4, p4⟩ := hsp
              obtain ⟨A2, n2, e2, rfl, _, _⟩ := id p2
              obtain ⟨A3, n3, e3, rfl, _, _⟩ := id p3
              obtain ⟨A4, n4, e4, rfl, hn4, _⟩ := id p4
              have hb2 := Nat.lt_of_lt_of_le hb (KK.trans hK).size
              have hqq : (q : Int) < ns := by omega
              have HSS := Lib.hid (smallScope_any s0 z1 _ _ _ wr p2 p3 p4)
              unfold SmallB at HSS
              obtain ⟨r2, hr2⟩ : ∃ r2, wrap64 (r3 + n4) = r2 := ⟨_, rfl⟩
              have hw := wrap_any (r3 + n4)
              rw [hr2] at hw
              clear hc hrs p2 p3 p4
              by_cases h9 : 60 < r2
              · go_wp2_with fail
                go_ret
                exact ⟨_, rfl, KK.trans hK, fun h => by cases h⟩
              · go_wp2_with fail
                refine HSS.out.mono ?_
                rintro e w5 ⟨b5, rfl, k5, _⟩
                cases b5
                · go_wp2_with fail
                  go_ret
                  exact ⟨_, rfl, (KK.trans hK).trans k5, fun h => by cases h⟩
                · go_wp2_with fail
                  go_roundw
                  case rel => exact ⟨r2, q + 1, by first | rfl | rw [hr2], hw, rfl, hlt3, hK.trans k5⟩
                  case measure => simp [intOf]; omega
            · have hqq : ¬ ((q : Int) < ns) := by omega
              go_wp2_with fail
              go_ret
              exact ⟨_, rfl, KK.trans hK, fun h => HQ.out HMS.out⟩
end Go.Proofs.YtjeifmjcgemlgaaGreatDoor
/- The walk of the law CasedataEqual: what slices.Equal, slices.EqualFunc and Equal of package casedata compute. -/
namespace Go.Proofs.YtjeifmjcgemlgaaGreatDoor
open Go.RowKit

set_option maxRecDepth 100000 in
set_option maxHeartbeats 4000000 in
theorem eqVals_any (va vb : Value) (xs ys : List Vl) (w : World) (ha : Vals w va xs) (hb : Vals w vb ys) (hx : xs.length ≤ 9223372036854775807) :
    Calls Tryz.prog 28 #[va, vb] w (smPost (vlsB xs ys) w) := by
  unfold smPost
  obtain ⟨A, ca, rfl, hA⟩ := ha.at_
  obtain ⟨B, cb, rfl, hB⟩ := hb.at_
  by_cases hl : xs.length = ys.length
  · obtain ⟨n, hxn⟩ : ∃ n, n = xs.length := ⟨_, rfl⟩
    have hyn : n = ys.length := hxn.trans hl
    rw [← hxn] at hA hx ⊢
    rw [← hyn] at hB ⊢
    have HX := Lib.hid hxn
    have HY := Lib.hid hyn
    clear hxn hyn ha hb hl
    go_enter Tryz.func28, Tryz.ntmps28
    go_wp2_with fail
    go_loopw [13] (fun z wr => ∃ i : Nat, i ≤ n ∧ z = .int .i64 i ∧ Kept w wr ∧ vlsB (xs.drop i) (ys.drop i) = vlsB xs ys) (fun z _ => (n - intOf z).toNat)
    case atStart => exact ⟨0, Nat.zero_le _, rfl, Kept.refl _, rfl⟩
    case round =>
      obtain ⟨i, hin, rfl, hK, hrun⟩ := hrel
      by_cases hp : i < n
      · obtain ⟨b1, o1, rfl, hb1, hc1⟩ := hA (by omega)
        obtain ⟨b2, o2, rfl, hb2, hc2⟩ := hB (by omega)
        have hg1 : xs[i]? = some (xs[i]'(by have := HX.out; omega)) := List.getElem?_eq_getElem _
        have hg2 : ys[i]? = some (ys[i]'(by have := HY.out; omega)) := List.getElem?_eq_getElem _
        obtain ⟨x0, x1, x2⟩ := hc1 i _ hg1
        obtain ⟨y0, y1, y2⟩ := hc2 i _ hg2
        rw [vlsB_at hg1 hg2] at hrun
        clear hc1 hc2 hA hB hg1 hg2
        generalize xs[i]'(by have := HX.out; omega) = X at *
        generalize ys[i]'(by have := HY.out; omega) = Y at *
        have hw1 := Nat.lt_of_lt_of_le hb1 hK.size
        have hw2 := Nat.lt_of_lt_of_le hb2 hK.size
        have k0 := KW.cell hw1 (hK.cell (p := ⟨b1, _, none⟩) hb1 x0)
        have k1 := KW.cell hw1 (hK.cell (p := ⟨b1, _, none⟩) hb1 x1)
        have k2 := KW.cell hw1 (hK.cell (p := ⟨b1, _, none⟩) hb1 x2)
        have m0 := KW.cell hw2 (hK.cell (p := ⟨b2, _, none⟩) hb2 y0)
        have m1 := KW.cell hw2 (hK.cell (p := ⟨b2, _, none⟩) hb2 y1)
        have m2 := KW.cell hw2 (hK.cell (p := ⟨b2, _, none⟩) hb2 y2)
        clear x0 x1 x2 y0 y1 y2
        have hpi : (i : Int) < n := by omega
        obtain ⟨xk, xe, xn⟩ := X
        obtain ⟨yk, ye, yn⟩ := Y
        dsimp only at k0 k1 k2 m0 m1 m2
        rcases vlB_ways ⟨xk, xe, xn⟩ ⟨yk, ye, yn⟩ with ⟨hv, he⟩ | ⟨hv, he⟩
        · rw [hv, Bool.true_and] at hrun
          obtain ⟨rfl, rfl, rfl⟩ : xk = yk ∧ xe = ye ∧ xn = yn := by simpa using he
          have HR := Lib.hid hrun
          clear hrun he hv
          go_wp2_with fail
          refine wp_region_kept (by kernel_rfl) (by kernel_rfl) ?_
          repeat (go_big_quiet_step (fail))
          refine wpQuiet_nil ?_
          rintro _ ⟨⟨wx, hx2⟩, rfl⟩
          go_wp2_with fail
          go_roundw
          case rel => exact ⟨i + 1, hp, by go_num, hK.trans hx2, HR.out⟩
          case measure => simp only [intOf]; omega
        · rw [hv, Bool.false_and] at hrun
          have HR := Lib.hid hrun
          dsimp only at he
          clear hrun hv
          rcases he with h | ⟨h1, h⟩ | ⟨h1, h2, h⟩
          all_goals
            have hne := beq_noS h
            have hne2 := bne_noS h
            (try subst h1)
            (try subst h2)
            clear h
            go_wp2_with fail
            refine wp_region_kept (by kernel_rfl) (by kernel_rfl) ?_
            repeat (go_big_quiet_step (fail))
            refine wpQuiet_nil ?_
            rintro _ ⟨⟨wx, hx2⟩, rfl⟩
            go_wp2_with fail
            go_ret
            rw [← HR.out]
            exact ⟨rfl, hK.trans hx2⟩
      · have hpi : ¬ ((i : Int) < n) := by omega
        have hr : vlsB xs ys = true := by
          rw [← hrun, List.drop_eq_nil_iff.2 (by have := HX.out; omega), List.drop_eq_nil_iff.2 (by have := HY.out; omega)]; rfl
        have HR := Lib.hid hr
        clear hrun hr
        go_wp2_with fail
        go_ret
        rw [HR.out]
        exact ⟨rfl, hK⟩
  · have HR := Lib.hid (vlsB_len xs ys hl)
    have hli : ((xs.length : Int) != ys.length) = true := bne_noS (by omega)
    rw [HR.out]
    clear hl ha hb hA hB
    go_enter Tryz.func28, Tryz.ntmps28
    go_wp2_with fail
    go_ret
    exact ⟨rfl, Kept.refl _⟩
theorem eqClo_any (va vb : Value) (xs ys : List Vl) (w : World) (ha : Vals w va xs) (hb : Vals w vb ys) (hx : xs.length ≤ 9223372036854775807) :
    Calls Tryz.prog 30 #[va, vb] w (smPost (vlsB xs ys) w) := by
  have HE := Lib.hid (eqVals_any va vb xs ys w ha hb hx)
  unfold smPost at HE ⊢
  obtain ⟨A, ca, rfl⟩ := Vals.form ha
  obtain ⟨B, cb, rfl⟩ := Vals.form hb
  generalize vlsB xs ys = r at *
  clear ha hb hx
  go_enter Tryz.func30, Tryz.ntmps30
  go_wp2_with (go_at_call 28; refine HE.out.mono ?_; rintro e w1 ⟨rfl, k1⟩)
  go_ret
  exact ⟨rfl, k1⟩
set_option maxRecDepth 100000 in
set_option maxHeartbeats 4000000 in
theorem eqLists_any (va vb : Value) (xs ys : List (List Vl)) (w : World) (ha : Mems w va xs) (hb : Mems w vb ys) :
    Calls Tryz.prog 29 #[va, vb, .func (.func 30) #[] #[]] w (smPost (memB xs ys) w) := by
  unfold smPost
  obtain ⟨A, ca, rfl, hx, hA⟩ := ha.at_
  obtain ⟨B, cb, rfl, hy, hB⟩ := hb.at_
  by_cases hl : xs.length = ys.length
  · obtain ⟨n, hxn⟩ : ∃ n, n = xs.length := ⟨_, rfl⟩
    have hyn : n = ys.length := hxn.trans hl
    rw [← hxn] at hA hx ⊢
    rw [← hyn] at hB ⊢
    have HX := Lib.hid hxn
    have HY := Lib.hid hyn
    clear hxn hyn ha hb hl hy
    go_enter Tryz.func29, Tryz.ntmps29
    go_wp2_with fail
    go_loopw [17] (fun z wr => ∃ i : Nat, i ≤ n ∧ z = .int .i64 i ∧ Kept w wr ∧ memB (xs.drop i) (ys.drop i) = memB xs ys) (fun z _ => (n - intOf z).toNat)
    case atStart => exact ⟨0, Nat.zero_le _, rfl, Kept.refl _, rfl⟩
    case round =>
      obtain ⟨i, hin, rfl, hK, hrun⟩ := hrel
      by_cases hp : i < n
      · obtain ⟨b1, o1, rfl, hb1, hc1⟩ := hA (by omega)
        obtain ⟨b2, o2, rfl, hb2, hc2⟩ := hB (by omega)
        have hg1 : xs[i]? = some (xs[i]'(by have := HX.out; omega)) := List.getElem?_eq_getElem _
        have hg2 : ys[i]? = some (ys[i]'(by have := HY.out; omega)) := List.getElem?_eq_getElem _
        obtain ⟨hl1, A1, e1, x0, hv1⟩ := hc1 i _ hg1
        obtain ⟨hl2, A2, e2, y0, hv2⟩ := hc2 i _ hg2
        rw [memB_at hg1 hg2] at hrun
        clear hc1 hc2 hA hB hg1 hg2
        generalize xs[i]'(by have := HX.out; omega) = X at *
        generalize ys[i]'(by have := HY.out; omega) = Y at *
        have hw1 := Nat.lt_of_lt_of_le hb1 hK.size
        have hw2 := Nat.lt_of_lt_of_le hb2 hK.size
        have k0 := hK.cell (p := ⟨b1, _, none⟩) hb1 x0
        have m0 := hK.cell (p := ⟨b2, _, none⟩) hb2 y0
        have HV := Lib.hid (eqClo_any _ _ X Y wr (hv1.kept hK) (hv2.kept hK) hl1)
        unfold smPost at HV
        clear x0 y0 hv1 hv2 hl1 hl2
        have hpi : (i : Int) < n := by omega
        generalize vlsB X Y = r at *
        cases r
        · rw [Bool.false_and] at hrun
          have HR := Lib.hid hrun
          clear hrun
          go_wp2_with (go_at_call 30; refine HV.out.mono ?_; rintro e w1 ⟨rfl, k1⟩)
          go_ret
          rw [← HR.out]
          exact ⟨rfl, hK.trans k1⟩
        · rw [Bool.true_and] at hrun
          have HR := Lib.hid hrun
          clear hrun
          go_wp2_with (go_at_call 30; refine HV.out.mono ?_; rintro e w1 ⟨rfl, k1⟩)
          go_roundw
          case rel => exact ⟨i + 1, hp, by go_num, hK.trans k1, HR.out⟩
          case measure => simp only [intOf]; omega
      · have hpi : ¬ ((i : Int) < n) := by omega
        have hr : memB xs ys = true := by
          rw [← hrun, List.drop_eq_nil_iff.2 (by have := HX.out; omega), List.drop_eq_nil_iff.2 (by have := HY.out; omega)]; rfl
        have HR := Lib.hid hr
        clear hrun hr
        go_wp2_with fail
        go_ret
        rw [HR.out]
        exact ⟨rfl, hK⟩
  · have HR := Lib.hid (memB_len xs ys hl)
    have hli : ((xs.length : Int) != ys.length) = true := bne_noS (by omega)
    rw [HR.out]
    clear hl ha hb hA hB
    go_enter Tryz.func29, Tryz.ntmps29
    go_wp2_with fail
    go_ret
    exact ⟨rfl, Kept.refl _⟩
set_option maxRecDepth 100000 in
set_option maxHeartbeats 4000000 in
theorem eqCase_any (d d' : Int) (iv mv iv' mv' : Value) (ins ins' : List Vl) (mem mem' : List (List Vl)) (w : World) (hI : Vals w iv ins) (hM : Mems w mv mem) (hI' : Vals w iv' ins') (hM' : Mems w mv' mem')
    (hl : ins.length ≤ 9223372036854775807) :
    Calls Tryz.prog 12 #[.agg #[.int .i64 d, iv, mv], .agg #[.int .i64 d', iv', mv']] w (smPost (csB d ins mem d' ins' mem') w) := by
  unfold smPost
  obtain ⟨A1, c1, rfl⟩ := hI.form
  obtain ⟨A1', c1', rfl⟩ := hI'.form
  obtain ⟨A2, c2, rfl, _⟩ := id hM
  obtain ⟨A2', c2', rfl, _⟩ := id hM'
  have HV := Lib.hid (fun w1 (h : Kept w w1) => eqVals_any _ _ ins ins' w1 (hI.kept h) (hI'.kept h) hl)
  have HL := Lib.hid (fun w1 (h : Kept w w1) => eqLists_any _ _ mem mem' w1 (hM.kept h) (hM'.kept h))
  unfold smPost at HV HL
  have K0 := Lib.hid (((Kept.refl w).alloc (.cells #[.int .i64 d, .slice A1 ins.length c1, .slice A2 mem.length c2] 30)).alloc (.cells #[.int .i64 d', .slice A1' ins'.length c1', .slice A2' mem'.length c2'] 30))
  have hcs : csB d ins mem d' ins' mem' = (decide (d = d') && (vlsB ins ins' && memB mem mem')) := rfl
  generalize csB d ins mem d' ins' mem' = R at *
  generalize vlsB ins ins' = r1 at *
  generalize memB mem mem' = r2 at *
  clear hI hI' hM hM' hl
  by_cases hd : d = d'
  · subst hd
    rw [decide_eq_true rfl, Bool.true_and] at hcs
    have hself : (d == d) = true := by simp
    cases r1
    · have HR := Lib.hid hcs
      clear hcs
      go_enter Tryz.func12, Tryz.ntmps12
      go_wp2_with (go_at_call 28; refine (HV.out _ K0.out).mono ?_; rintro e w1 ⟨rfl, k1⟩)
      go_ret
      rw [HR.out]
      exact ⟨rfl, K0.out.trans k1⟩
    · rw [Bool.true_and] at hcs
      have HR := Lib.hid hcs
      clear hcs
      go_enter Tryz.func12, Tryz.ntmps12
      go_wp2_with (first
        | (go_at_call 28; refine (HV.out _ K0.out).mono ?_; rintro e w1 ⟨rfl, k1⟩; have K1 := K0.out.trans k1; obtain ⟨B1, B2⟩ := k1.blk2; have b1 := B1.cell 2; have b2 := B2.cell 2; have l1 := B1.lt; have l2 := B2.lt)
        | (go_at_call 29; refine (HL.out _ K1).mono ?_; rintro e w2 ⟨rfl, k2⟩))
      go_ret
      rw [HR.out]
      exact ⟨rfl, K1.trans k2⟩
  · rw [decide_eq_false hd, Bool.false_and] at hcs
    have hne := beq_noS hd
    have HR := Lib.hid hcs
    clear hcs hd
    go_enter Tryz.func12, Tryz.ntmps12
    go_wp2_with fail
    go_ret
    rw [HR.out]
    exact ⟨rfl, K0.out⟩
end Go.Proofs.YtjeifmjcgemlgaaGreatDoor
/- Cases of a law whose enumerations have distinct identifiers as members: the text of a valid case is read back. -/
namespace Go.Proofs.YtjeifmjcgemlgaaGreatDoor
open Go.RowKit

/-- a word: printable bytes, no blank, at least one and at most 80 -/
structure Wd (l : List UInt8) : Prop where
  ne : l ≠ []
  pr : ∀ c ∈ l, 33 ≤ c.toNat ∧ c.toNat ≤ 126
  len : l.length ≤ 80
/-- the members of each enumeration are distinct words -/
def GoodM (ms : List (List ByteArray)) : Prop := ∀ l ∈ ms, l.Nodup ∧ ∀ x ∈ l, Wd (L x)
theorem isDig_pr {c : UInt8} (h : isDig c = true) : 33 ≤ c.toNat ∧ c.toNat ≤ 126 := by
  unfold isDig at h
  have : 48 ≤ c.toNat ∧ c.toNat ≤ 57 := by simpa using h
  omega
theorem absD_pr (n : Int) : ∀ c ∈ absD n, 33 ≤ c.toNat ∧ c.toNat ≤ 126 := by
  have h1 : (absD n).all isDig = true := by unfold absD; exact decDigits_all _
  exact fun c hc => isDig_pr (List.all_eq_true.1 h1 c hc)
theorem numS_pr (n : Int) : ∀ c ∈ L (numS n), 33 ≤ c.toNat ∧ c.toNat ≤ 126 := by
  intro c hc
  by_cases h : n < 0
  · rw [numS_neg h, L_bs] at hc
    rcases List.mem_cons.1 hc with rfl | hc
    · exact ⟨by decide, by decide⟩
    · exact absD_pr n c hc
  · rw [numS_pos h, L_bs] at hc
    exact absD_pr n c hc
theorem wd_num (n : Int) (h0 : -9223372036854775808 ≤ n) (h1 : n ≤ 9223372036854775807) : Wd (L (numS n)) := by
  refine ⟨?_, numS_pr n, ?_⟩
  · by_cases h : n < 0
    · rw [numS_neg h, L_bs]; simp
    · rw [numS_pos h, L_bs]; exact decDigits_ne _
  · rw [L_length]
    have := numS_size n h0 h1
    omega
theorem padS_pr (n k : Int) : ∀ c ∈ L (padS n k), 33 ≤ c.toNat ∧ c.toNat ≤ 126 := by
  intro c hc
  rw [padS, L_bs, List.mem_append] at hc
  rcases hc with hc | hc
  · rw [List.mem_replicate] at hc; rw [hc.2]; exact ⟨by decide, by decide⟩
  · have hw := numS_pr n
    rw [numS, L_bs] at hw
    exact hw c hc
theorem dateS_ten {n : Int} (h : isDate n = true) : (dateS n).size = 10 := by
  have h1 := dparS_dateS h
  cases hB : dparB (dateS n)
  · rw [dparS_no hB] at h1
    exact absurd (show (2 : Int) = 0 from congrArg Prod.snd h1) (by decide)
  · unfold dparB at hB
    simp only [Bool.and_eq_true, decide_eq_true_eq] at hB
    exact hB.1
theorem wd_date {n : Int} (h : isDate n = true) : Wd (L (dateS n)) := by
  refine ⟨fun e => ?_, fun c hc => ?_, ?_⟩
  · have h1 := L_length (dateS n)
    rw [e, dateS_ten h] at h1
    exact absurd h1 (by decide)
  · rw [dateS_yes h, L_append, L_append, L_append, L_append] at hc
    simp only [List.mem_append] at hc
    have h45 : ∀ c ∈ L (⟨#[45]⟩ : ByteArray), 33 ≤ c.toNat ∧ c.toNat ≤ 126 := by
      intro c hc
      have : c = 45 := by simpa [show L ⟨#[45]⟩ = [45] from rfl] using hc
      subst this; exact ⟨by decide, by decide⟩
    rcases hc with (((hc | hc) | hc) | hc) | hc
    · exact padS_pr _ _ c hc
    · exact h45 c hc
    · exact padS_pr _ _ c hc
    · exact h45 c hc
    · exact padS_pr _ _ c hc
  · rw [L_length, dateS_ten h]; decide
theorem wd_fix (n : Int) (p : Int) (h0 : -9223372036854775808 ≤ n) (h1 : n ≤ 9223372036854775807) (hp : p ≠ 0) (hp9 : p ≤ 9) : Wd (L (fixS n p)) ∧ (L (fixS n p)).length ≤ 50 := by
  rw [fixS, if_neg hp, L_bs]
  have hl := absD_len n h0 h1
  have hpd : ∀ c ∈ padD n p.toNat, 33 ≤ c.toNat ∧ c.toNat ≤ 126 := by
    intro c hc
    unfold padD at hc
    rw [List.mem_append] at hc
    rcases hc with hc | hc
    · rw [List.mem_replicate] at hc; rw [hc.2]; exact ⟨by decide, by decide⟩
    · exact absD_pr n c hc
  have hlen : (fixT n p.toNat).length ≤ 50 := by
    rw [fixT, List.length_append, List.length_append, List.length_append, List.length_take, List.length_drop, padD, List.length_append, List.length_replicate, sgn]
    split <;> simp <;> omega
  refine ⟨⟨?_, fun c hc => ?_, by omega⟩, hlen⟩
  · unfold fixT; simp
  · unfold fixT at hc
    simp only [List.mem_append] at hc
    rcases hc with hc | hc | hc | hc
    · unfold sgn at hc
      split at hc
      · have : c = 45 := by simpa using hc
        subst this; exact ⟨by decide, by decide⟩
      · simp at hc
    · exact hpd c (List.mem_of_mem_take hc)
    · have : c = 46 := by simpa using hc
      subst this; exact ⟨by decide, by decide⟩
    · exact hpd c (List.mem_of_mem_drop hc)
/-- the text of a valid value is a word -/
theorem wd_text {k e n : Int} {ms : List (List ByteArray)} (hm : GoodM ms) (hv : vtB k e ms = true) (hi : inB n k e ms = true) : Wd (L (vtext k e n ms)) := by
  have hb := (inB_iff hv).1 hi
  rcases vtB_cases hv with ⟨rfl, hk⟩ | ⟨rfl, he0, he1⟩
  · rcases hk with rfl | rfl | rfl | rfl | rfl
    · show Wd (L (if n = 0 then (⟨#[102, 97, 108, 115, 101]⟩ : ByteArray) else ⟨#[116, 114, 117, 101]⟩))
      split
      · exact ⟨by decide, by decide, by decide⟩
      · exact ⟨by decide, by decide, by decide⟩
    · obtain ⟨b0, b1⟩ : -1000000000000 ≤ n ∧ n ≤ 1000000000000 := hb
      exact wd_num n (by omega) (by omega)
    · obtain ⟨b0, b1⟩ : -1000000000000000 ≤ n ∧ n ≤ 1000000000000000 := hb
      exact (wd_fix n 2 (by omega) (by omega) (by decide) (by decide)).1
    · obtain ⟨b0, b1⟩ : -1000000000 ≤ n ∧ n ≤ 1000000000 := hb
      obtain ⟨h1, h2⟩ := wd_fix n 4 (by omega) (by omega) (by decide) (by decide)
      show Wd (L (fixS n 4 ++ ⟨#[37]⟩))
      rw [L_append, show L ⟨#[37]⟩ = [37] from rfl]
      refine ⟨by simp, fun c hc => ?_, by rw [List.length_append, List.length_singleton]; omega⟩
      rcases List.mem_append.1 hc with hc | hc
      · exact h1.pr c hc
      · have : c = 37 := by simpa using hc
        subst this; exact ⟨by decide, by decide⟩
    · obtain ⟨b0, b1⟩ : 0 ≤ n ∧ n ≤ 109572 := hb
      exact wd_date (isDate_iff.2 ⟨b0, b1⟩)
  · have h2 : 0 ≤ n ∧ n ≤ ((memS e ms).length : Int) - 1 := hb
    show Wd (L ((memS e ms)[n.toNat]?.getD ⟨#[]⟩))
    have hg : ms[e.toNat]? = some (ms[e.toNat]'(by omega)) := List.getElem?_eq_getElem _
    have hme : memS e ms = ms[e.toNat]'(by omega) := by unfold memS; rw [hg]; rfl
    have hx : (memS e ms)[n.toNat]? = some ((memS e ms)[n.toNat]'(by omega)) := List.getElem?_eq_getElem _
    rw [hx, Option.getD_some]
    exact (hm _ (List.mem_of_getElem? hg)).2 _ (by rw [← hme]; exact List.mem_of_getElem? hx)
theorem inB_vt {n k e : Int} {ms : List (List ByteArray)} (h : inB n k e ms = true) : vtB k e ms = true := by
  cases hv : vtB k e ms
  · exfalso
    rw [inB, bndS, hv] at h
    simp at h
    omega
  · rfl
/-- it is read back -/
theorem vpar_text {k e n : Int} {ms : List (List ByteArray)} (hm : GoodM ms) (hi : inB n k e ms = true) : vparS (vtext k e n ms) k e ms = (k, e, n, 0) := by
  have hv := inB_vt hi
  have hb := (inB_iff hv).1 hi
  have hn : vnumS (vtext k e n ms) k e ms = (n, 0) := by
    obtain ⟨h1, h2⟩ := vnum_text hv hi
    by_cases h6 : k = 6
    · obtain ⟨i, hin, hp, hg⟩ := h2 h6
      subst h6
      have h3 : 0 ≤ n ∧ n ≤ ((memS e ms).length : Int) - 1 := hb
      have hg2 : (memS e ms)[n.toNat]? = some (vtext 6 e n ms) := by
        show _ = some ((memS e ms)[n.toNat]?.getD ⟨#[]⟩)
        rw [List.getElem?_eq_getElem (by omega)]
        rfl
      have hnd : (memS e ms).Nodup := by
        unfold memS
        cases hg : ms[e.toNat]? with
        | none => exact List.nodup_nil
        | some l => exact (hm l (List.mem_of_getElem? hg)).1
      have hil : i < (memS e ms).length := (List.getElem?_eq_some_iff.1 hg).1
      have := ((List.getElem?_inj hil hnd).1 (hg.trans hg2.symm) : i = n.toNat)
      rw [hp, this]
      congr 1
      omega
    · exact h1 h6
  unfold vparS
  rw [hv, if_pos rfl, hn]
  dsimp only
  rw [if_pos rfl, hi, if_pos rfl]
theorem vfmt_of {k e n : Int} {ms : List (List ByteArray)} (hi : inB n k e ms = true) : vfmtS k e n ms = (vtext k e n ms, 0) := by
  rw [vfmtS, inB_vt hi, if_pos rfl, hi, if_pos rfl]
theorem spl_plain : ∀ (a acc r : List UInt8), (∀ c ∈ a, c ≠ 32) → spl acc (a ++ r) = spl (acc ++ a) r
  | [], acc, r, _ => by simp
  | c :: a, acc, r, h => by
    rw [List.cons_append, spl, if_neg (h c (by simp)), spl_plain a _ r (fun x hx => h x (by simp [hx]))]
    simp
theorem spl_words : ∀ (ws : List (List UInt8)) (a acc : List UInt8), (∀ c ∈ a, c ≠ 32) → (∀ w ∈ ws, ∀ c ∈ w, c ≠ 32) → spl acc (a ++ ws.flatMap (fun w => 32 :: w)) = (acc ++ a) :: ws
  | [], a, acc, h, _ => by rw [spl_plain a acc _ h]; rfl
  | w :: ws, a, acc, h, hw => by
    rw [spl_plain a acc _ h, List.flatMap_cons, List.cons_append, spl, if_pos rfl, spl_words ws w [] (hw w (by simp)) (fun x hx => hw x (by simp [hx]))]
    rfl
theorem Wd.no32 {l : List UInt8} (h : Wd l) : ∀ c ∈ l, c ≠ 32 := fun c hc e => by
  have := h.pr c hc
  rw [e] at this
  exact absurd this.1 (by decide)
/-- values that are as the types ask -/
theorem chkF_all {ms : List (List ByteArray)} : ∀ {ts : List Ty} {vs : List Vl} {i : Nat}, ts.length = vs.length → (chkF ms i ts vs).2 = 0 → ∀ v ∈ vs, inB v.n v.k v.e ms = true
  | [], [], _, _, _ => fun v hv => by cases hv
  | t :: ts, v :: vs, i, hl, h => by
    rw [chkF] at h
    split at h
    · rename_i h1
      split at h
      · rename_i h2
        intro x hx
        rcases List.mem_cons.1 hx with rfl | hx
        · rw [h1.1, h1.2]; exact h2
        · exact chkF_all (by simpa using hl) h x hx
      · exact absurd (show (3 : Int) = 0 from h) (by decide)
    · exact absurd (show (8 : Int) = 0 from h) (by decide)
  | [], _ :: _, _, hl, _ => by simp at hl
  | _ :: _, [], _, hl, _ => by simp at hl
theorem chkV_all {ms : List (List ByteArray)} {ts : List Ty} {vs : List Vl} (h : (chkV ms ts vs).2 = 0) : ts.length = vs.length ∧ (chkF ms 0 ts vs).2 = 0 := by
  unfold chkV at h
  split at h
  · exact absurd (show (5 : Int) = 0 from h) (by decide)
  · split at h
    · exact absurd (show (4 : Int) = 0 from h) (by decide)
    · exact ⟨by omega, h⟩
noncomputable def txtsV (ms : List (List ByteArray)) (vs : List Vl) : List (List UInt8) := vs.map fun v => L (vfmtS v.k v.e v.n ms).1
theorem parV_text {ms : List (List ByteArray)} (hm : GoodM ms) : ∀ (ts : List Ty) (vs : List Vl) (i : Nat) (acc : List Vl), ts.length = vs.length → (chkF ms i ts vs).2 = 0 → parV ms ts (txtsV ms vs) acc = (acc ++ vs, 0)
  | [], [], _, acc, _, _ => by simp [parV]
  | t :: ts, v :: vs, i, acc, hl, h => by
    rw [chkF] at h
    split at h
    · rename_i h1
      split at h
      · rename_i h2
        obtain ⟨vk, ve, vn⟩ := v
        obtain ⟨tk, te⟩ := t
        dsimp only at h1 h2
        obtain ⟨rfl, rfl⟩ := h1
        have ih := parV_text hm ts vs (i + 1) (acc ++ [⟨vk, ve, vn⟩]) (by simpa using hl) h
        rw [txtsV, List.map_cons, parV, vfmt_of h2]
        dsimp only
        rw [bs_L, vpar_text hm h2]
        dsimp only
        rw [if_pos rfl]
        unfold txtsV at ih
        rw [ih]
        simp
      · exact absurd (show (3 : Int) = 0 from h) (by decide)
    · exact absurd (show (8 : Int) = 0 from h) (by decide)
  | [], _ :: _, _, _, hl, _ => by simp at hl
  | _ :: _, [], _, _, hl, _ => by simp at hl
theorem txts_wd {ms : List (List ByteArray)} (hm : GoodM ms) {vs : List Vl} (h : ∀ v ∈ vs, inB v.n v.k v.e ms = true) : ∀ l ∈ txtsV ms vs, Wd l := by
  intro l hl
  obtain ⟨v, hv, rfl⟩ := List.mem_map.1 hl
  have := h v hv
  rw [vfmt_of this]
  exact wd_text hm (inB_vt this) this
theorem lineV_txts (ms : List (List ByteArray)) (word : List UInt8) (vs : List Vl) : lineV ms word vs = word ++ (txtsV ms vs).flatMap (fun w => 32 :: w) := by
  unfold lineV txtsV
  rw [List.flatMap_map]
theorem parI_text {ms : List (List ByteArray)} (hm : GoodM ms) {word : List UInt8} (hw : ∀ c ∈ word, c ≠ 32) {ts : List Ty} {vs : List Vl} (h : (chkV ms ts vs).2 = 0) : parI ms word ts (lineV ms word vs) = (vs, 0) := by
  obtain ⟨hl, hf⟩ := chkV_all h
  have hwd := txts_wd hm (chkF_all hl hf)
  have hs : spl [] (lineV ms word vs) = word :: txtsV ms vs := by
    rw [lineV_txts, spl_words _ _ _ hw (fun w hx => (hwd w hx).no32)]
    rfl
  have hln : (txtsV ms vs).length = vs.length := by rw [txtsV, List.length_map]
  unfold parI
  rw [hs, List.head?_cons, List.drop_one, List.tail_cons, if_neg, if_neg (by omega), if_neg (by omega), parV_text hm ts vs 0 [] hl hf, List.nil_append]
  rintro (h1 | h1)
  · exact h1 rfl
  · exact (hwd [] h1).ne rfl
theorem parM_text {ms : List (List ByteArray)} (hm : GoodM ms) (ts : List Ty) (lim : Nat) : ∀ (mem : List (List Vl)) (i m : Nat) (acc : List (List Vl)), (chkM ms ts m mem).2.2 = 0 → acc.length + mem.length ≤ lim →
    parM ms ts lim i (mem.map (lineV ms [109, 101, 109, 98, 101, 114])) acc = (acc ++ mem, 0, 0)
  | [], i, m, acc, _, _ => by rw [List.map_nil, parM, List.append_nil]
  | vs :: r, i, m, acc, h, hl => by
    rw [chkM] at h
    split at h
    · rename_i h1
      rw [List.length_cons] at hl
      have hp := parI_text hm (word := [109, 101, 109, 98, 101, 114]) (by decide) h1
      rw [List.map_cons, parM, if_neg (by omega), hp]
      dsimp only
      rw [if_pos rfl, parM_text hm ts lim r (i + 1) (m + 1) (acc ++ [vs]) h (by rw [List.length_append, List.length_singleton]; omega)]
      simp
    · rename_i h1; exact absurd h h1
theorem chkM_all {ms : List (List ByteArray)} {ts : List Ty} : ∀ {mem : List (List Vl)} {m : Nat}, (chkM ms ts m mem).2.2 = 0 → ∀ l ∈ mem, (chkV ms ts l).2 = 0
  | [], _, _ => fun l hl => by cases hl
  | vs :: r, m, h => by
    rw [chkM] at h
    split at h
    · rename_i h1
      intro l hl
      rcases List.mem_cons.1 hl with rfl | hl
      · exact h1
      · exact chkM_all h l hl
    · rename_i h1; exact absurd h h1
theorem line_pr {l : List UInt8} (h : ∀ c ∈ l, 32 ≤ c.toNat ∧ c.toNat ≤ 126) : Line l := fun c hc => by
  have := h c hc
  omega
theorem words_pr {ws : List (List UInt8)} (h : ∀ w ∈ ws, Wd w) : ∀ c ∈ ws.flatMap (fun w => 32 :: w), 32 ≤ c.toNat ∧ c.toNat ≤ 126 := by
  intro c hc
  obtain ⟨w, hw, hc⟩ := List.mem_flatMap.1 hc
  rcases List.mem_cons.1 hc with rfl | hc
  · exact ⟨by decide, by decide⟩
  · have := (h w hw).pr c hc
    omega
theorem words_len : ∀ {ws : List (List UInt8)}, (∀ w ∈ ws, Wd w) → (ws.flatMap (fun w => 32 :: w)).length ≤ ws.length * 81
  | [], _ => Nat.le_refl _
  | w :: ws, h => by
    have h1 := (h w (by simp)).len
    have h2 := words_len (ws := ws) (fun x hx => h x (by simp [hx]))
    rw [List.flatMap_cons, List.length_append, List.length_cons, List.length_cons]
    omega
theorem lineV_ok {ms : List (List ByteArray)} (hm : GoodM ms) {word : List UInt8} (hw : ∀ c ∈ word, 32 ≤ c.toNat ∧ c.toNat ≤ 126) {ts : List Ty} {vs : List Vl} (h : (chkV ms ts vs).2 = 0) : Line (lineV ms word vs) ∧ (lineV ms word vs).length ≤ word.length + vs.length * 81 := by
  obtain ⟨hl, hf⟩ := chkV_all h
  have hwd := txts_wd hm (chkF_all hl hf)
  rw [lineV_txts]
  refine ⟨line_pr fun c hc => ?_, ?_⟩
  · rcases List.mem_append.1 hc with hc | hc
    · exact hw c hc
    · exact words_pr hwd c hc
  · have := words_len hwd
    rw [List.length_append]
    rw [show (txtsV ms vs).length = vs.length by rw [txtsV, List.length_map]] at this
    omega
theorem mems_len {ms : List (List ByteArray)} (hm : GoodM ms) {ts : List Ty} : ∀ {mem : List (List Vl)}, (∀ l ∈ mem, (chkV ms ts l).2 = 0) → (∀ l ∈ mem, l.length ≤ 14) → (textL (mem.map (lineV ms [109, 101, 109, 98, 101, 114]))).length ≤ mem.length * 1200
  | [], _, _ => Nat.le_refl _
  | l :: r, h, hl => by
    have h1 := mems_len hm (mem := r) (fun x hx => h x (by simp [hx])) (fun x hx => hl x (by simp [hx]))
    have h2 := (lineV_ok hm (word := [109, 101, 109, 98, 101, 114]) (by decide) (h l (by simp))).2
    have h3 := hl l (by simp)
    rw [List.map_cons, textL_cons, List.length_append, List.length_cons, List.length_cons]
    simp only [List.length_cons, List.length_nil] at h2
    omega
/-- **the text of a valid case is read back** -/
theorem rt_case {ms : List (List ByteArray)} {scs : List Sc} {sc d : Int} {ins : List Vl} {mem : List (List Vl)} (hm : GoodM ms) (h : (valC ms scs sc d ins mem).2.2 = 0) (hi : ins.length ≤ 14) (hmm : mem.length ≤ 10) (hml : ∀ l ∈ mem, l.length ≤ 14) :
    (fmtCs ms scs sc d ins mem).2 = 0 ∧ parCs ms scs sc (fmtCs ms scs sc d ins mem).1 = (⟨d, ins, mem⟩, 0, 0) := by
  unfold fmtCs
  rw [if_pos h]
  refine ⟨rfl, ?_⟩
  dsimp only
  unfold valC at h
  split at h
  · exact absurd h (by decide)
  · rename_i h1
    split at h
    · exact absurd h (by decide)
    · rename_i h2
      dsimp only at h
      obtain ⟨x, hx⟩ : ∃ x, scs[sc.toNat]?.getD ⟨0, []⟩ = x := ⟨_, rfl⟩
      rw [hx] at h
      split at h
      · rename_i h3
        split at h
        · exact absurd h (by simp)
        · rename_i h4
          have hd : isDate d = true := isDate_iff.2 (by omega)
          have hall := chkM_all h
          have hwd := wd_date hd
          have hlI := lineV_ok hm (word := [105, 110]) (by decide) h3
          have hmL := mems_len hm hall hml
          have hln : linR (bs (textL (caseT ms d ins mem))) = ((caseT ms d ins mem).map bs, 0) := by
            refine linR_text (fun l hl => ?_) ?_
            · unfold caseT at hl
              rcases List.mem_cons.1 hl with rfl | hl
              · refine line_pr fun c hc => ?_
                rcases List.mem_append.1 hc with hc | hc
                · have : ∀ c ∈ ([100, 97, 116, 101, 32] : List UInt8), 32 ≤ c.toNat ∧ c.toNat ≤ 126 := by decide
                  exact this c hc
                · have := hwd.pr c hc
                  omega
              · rcases List.mem_cons.1 hl with rfl | hl
                · exact hlI.1
                · obtain ⟨v, hv, rfl⟩ := List.mem_map.1 hl
                  exact (lineV_ok hm (word := [109, 101, 109, 98, 101, 114]) (by decide) (hall v hv)).1
            · unfold caseT
              rw [textL_cons, textL_cons]
              have h5 := hlI.2
              have h6 := hwd.len
              simp only [List.length_append, List.length_cons, List.length_nil] at h5 ⊢
              omega
          have hmap : ((caseT ms d ins mem).map bs).map L = caseT ms d ins mem := by
            rw [List.map_map]
            conv => rhs; rw [← List.map_id (caseT ms d ins mem)]
            exact List.map_congr_left fun l _ => L_bs l
          unfold parCs
          rw [if_neg h1, hln, if_neg (by simp)]
          dsimp only
          rw [hmap]
          unfold caseT
          dsimp only
          rw [hx, if_neg, show List.drop 5 ([100, 97, 116, 101, 32] ++ L (dateS d)) = L (dateS d) from rfl, bs_L, dparS_dateS hd]
          · dsimp only
            rw [if_neg (by simp), parI_text hm (word := [105, 110]) (by decide) h3]
            dsimp only
            rw [if_neg (by simp), parM_text hm _ _ mem 2 0 [] h (by rw [List.length_nil]; omega)]
            dsimp only
            rw [if_neg (by simp)]
            rfl
          · intro hne
            exact hne rfl
      · rename_i h3; exact absurd h h3
end Go.Proofs.YtjeifmjcgemlgaaGreatDoor
