/- The parser of expressions in plain Lean: more fuel changes nothing, and there is fuel enough. -/
import Derived.Test.YtdnjfpmngnkcfaaGreatDoorEtMath
import Derived.Test.YtdnjfpmngnkcfaaGreatDoorEtB
import Derived.Test.YtdnjfpmngnkcfaaGreatDoorTail
import Derived.Test.YtdnjfpmngnkcfaaGreatDoorBcStr
import Derived.Deep.AppendLies
import Derived.Test.YtdnjfpmngnkcfaaGreatDoorVlM
import Derived.Test.YtdnjfpmngnkcfaaGreatDoorShelf
import Derived.Test.YtdnjfpmngnkcfaaGreatDoorStrs
namespace Go.Proofs.YtdnjfpmngnkcfaaGreatDoor

def leR (r r' : PR) : Prop := ∀ x, r = some x → r' = some x
theorem leR.refl (r : PR) : leR r r := fun _ h => h
theorem thenP_le {r r' : PR} {f g : PS → PR} (h : leR r r') (hf : ∀ s, leR (f s) (g s)) : leR (thenP r f) (thenP r' g) := by
  intro x hx
  match r, h, hx with
  | none, _, hx => cases hx
  | some (true, s), h, hx =>
    rw [h _ rfl]
    exact hf s x hx
  | some (false, s), h, hx =>
    rw [h _ rfl]
    exact hx
theorem withR_le {α : Type} {r : Option α × PS} {f g : α → PS → PR} (hf : ∀ a s, leR (f a s) (g a s)) : leR (withR r f) (withR r g) := by
  obtain ⟨o, s⟩ := r
  cases o with
  | none => exact leR.refl _
  | some a => exact hf a s
theorem ite_le {c : Prop} [Decidable c] {a b a' b' : PR} (h1 : leR a a') (h2 : leR b b') : leR (if c then a else b) (if c then a' else b') := by
  by_cases h : c
  · rw [if_pos h, if_pos h]; exact h1
  · rw [if_neg h, if_neg h]; exact h2
/-- one unit of fuel more changes nothing -/
theorem parR_le (E : Int) (nm : Nm) : ∀ (f : Nat) (nt : NT) (s : PS), leR (parR E nm f nt s) (parR E nm (f + 1) nt s)
  | 0, nt, s => fun x h => by rw [parR] at h; cases h
  | f + 1, .expr, s => by
    rw [parR, parR]
    refine ite_le (thenP_le (parR_le E nm f _ _) fun s => thenP_le (leR.refl _) fun s => thenP_le (parR_le E nm f _ _) fun s => thenP_le (leR.refl _) fun s => thenP_le (parR_le E nm f _ _) fun s => leR.refl _) (parR_le E nm f _ _)
  | f + 1, .bin c, s => by
    rw [parR, parR]
    exact thenP_le (parR_le E nm f _ _) fun s => parR_le E nm f _ _
  | f + 1, .loop c g, s => by
    rw [parR, parR]
    exact ite_le (leR.refl _) (thenP_le (parR_le E nm f _ _) fun s => parR_le E nm f _ _)
  | f + 1, .un, s => by
    rw [parR, parR]
    exact ite_le (ite_le (leR.refl _) (thenP_le (parR_le E nm f _ _) fun s => leR.refl _)) (ite_le (thenP_le (parR_le E nm f _ _) fun s => leR.refl _) (parR_le E nm f _ _))
  | f + 1, .atom, s => by
    rw [parR, parR]
    exact ite_le (leR.refl _) (ite_le (leR.refl _) (ite_le (thenP_le (parR_le E nm f _ _) fun s => leR.refl _) (ite_le (leR.refl _) (ite_le (leR.refl _) (ite_le (leR.refl _) (ite_le (leR.refl _)
      (ite_le (thenP_le (leR.refl _) fun s => thenP_le (parR_le E nm f _ _) fun s => leR.refl _) (leR.refl _))))))))
  | f + 1, .call op, s => by
    rw [parR, parR]
    refine ite_le (leR.refl _) (ite_le (leR.refl _) (ite_le (withR_le fun i s => thenP_le (leR.refl _) fun s => thenP_le (parR_le E nm f _ _) fun s => leR.refl _)
      (thenP_le (parR_le E nm f _ _) fun s => ite_le (leR.refl _) (thenP_le (leR.refl _) fun s => thenP_le (parR_le E nm f _ _) fun s => leR.refl _))))
theorem parR_more {E : Int} {nm : Nm} {f g : Nat} {nt : NT} {s : PS} {x : Bool × PS} (h : parR E nm f nt s = some x) (hg : f ≤ g) : parR E nm g nt s = some x := by
  induction g with
  | zero =>
    obtain rfl : f = 0 := by omega
    exact h
  | succ g ih =>
    by_cases hf : f = g + 1
    · rw [← hf]; exact h
    · exact parR_le E nm g nt s x (ih (by omega))
/-- what comes of a reading: a state with no more tokens; k fewer where it was read well -/
def gotR (n k : Nat) (r : PR) : Prop := ∃ b s, r = some (b, s) ∧ s.ts.length ≤ n ∧ (b = true → s.ts.length + k ≤ n)
theorem gotR.mono {n n' k k' : Nat} {r : PR} (h : gotR n k r) (hn : n + k' ≤ n' + k) (hn2 : n ≤ n') : gotR n' k' r := by
  obtain ⟨b, s, h1, h2, h3⟩ := h
  exact ⟨b, s, h1, by omega, fun hb => by have := h3 hb; omega⟩
theorem gotR_then {n k m : Nat} {r : PR} {f : PS → PR} (h : gotR n k r) (hf : ∀ s : PS, s.ts.length + k ≤ n → gotR (n - k) m (f s)) : gotR n (k + m) (thenP r f) := by
  obtain ⟨b, s, rfl, h2, h3⟩ := h
  cases b
  · exact ⟨false, s, rfl, h2, fun hb => by cases hb⟩
  · have hk := h3 rfl
    obtain ⟨b', s', q1, q2, q3⟩ := hf s hk
    exact ⟨b', s', q1, by omega, fun hb => by have := q3 hb; omega⟩
theorem gotR_em (o n : Int) (s : PS) : gotR s.ts.length 0 (emP o n s) := ⟨true, s.em o n, rfl, Nat.le_refl _, fun _ => Nat.le_refl _⟩
theorem gotR_bad (E c : Int) (s : PS) {k : Nat} : gotR s.ts.length k (badP E c s) := ⟨false, s.bad E c, rfl, Nat.le_refl _, fun h => by cases h⟩
theorem hdT_lt {ts : List Tok} {k : Nat} {i : Int} (h : (hdT ts k).k = i) (hi : i ≠ 0) : k < ts.length := by
  unfold hdT at h
  rcases Nat.lt_or_ge k ts.length with hlt | hge
  · exact hlt
  · rw [List.getElem?_eq_none hge] at h
    exact absurd h.symm hi
theorem adv_len (s : PS) (k : Nat) : (s.adv k).ts.length = s.ts.length - k := List.length_drop
theorem atB_lt {s : PS} {k : Int} {t : List UInt8} (h : atB s k t = true) (hk : k ≠ 0) : 0 < s.ts.length := by
  unfold atB at h
  rw [Bool.and_eq_true, decide_eq_true_iff] at h
  exact hdT_lt h.1 hk
theorem gotR_exp {E k : Int} (hk : k ≠ 0) (t : List UInt8) (s : PS) : gotR s.ts.length 1 (expP E k t s) := by
  unfold expP
  by_cases h : atB s k t = true
  · rw [if_pos h]
    have := atB_lt h hk
    exact ⟨true, s.adv 1, rfl, by rw [adv_len]; omega, fun _ => by rw [adv_len]; omega⟩
  · rw [if_neg h]
    exact gotR_bad E 2 s
theorem gotR_le {n k : Nat} {s : PS} {r : PR} (h : gotR s.ts.length k r) (hs : s.ts.length ≤ n) : gotR n k r := h.mono (by omega) hs
theorem gotR_ite {c : Prop} [Decidable c] {n k : Nat} {a b : PR} (h1 : c → gotR n k a) (h2 : ¬ c → gotR n k b) : gotR n k (if c then a else b) := by
  by_cases h : c
  · rw [if_pos h]; exact h1 h
  · rw [if_neg h]; exact h2 h
/-- a name or a mode that is found takes a token -/
theorem gotR_find {E : Int} {l : List ByteArray} {s : PS} {f : Nat → PS → PR} {m : Nat} (hf : ∀ i s', s'.ts.length + 1 ≤ s.ts.length → gotR (s.ts.length - 1) m (f i s')) : gotR s.ts.length (1 + m) (withR (findR E l s) f) := by
  unfold findR
  split
  · exact ⟨false, _, rfl, Nat.le_refl _, fun h => by cases h⟩
  · rename_i hk
    have hlt : 0 < s.ts.length := hdT_lt (i := 1) (by
      by_cases h1 : (hdT s.ts 0).k = 1
      · exact h1
      · exact absurd (.inl h1) hk) (by decide)
    split
    · exact ⟨false, _, rfl, Nat.le_refl _, fun h => by cases h⟩
    · rename_i i _
      obtain ⟨b, s', h1, h2, h3⟩ := hf i (s.adv 1) (by rw [adv_len]; omega)
      exact ⟨b, s', h1, by omega, fun hb => by have := h3 hb; omega⟩
theorem gotR_mode {E : Int} {s : PS} {f : Int → PS → PR} {m : Nat} (hf : ∀ i s', s'.ts.length + 1 ≤ s.ts.length → gotR (s.ts.length - 1) m (f i s')) : gotR s.ts.length (1 + m) (withR (modeR E s) f) := by
  unfold modeR
  split
  · exact ⟨false, _, rfl, Nat.le_refl _, fun h => by cases h⟩
  · rename_i hk
    have hlt : 0 < s.ts.length := hdT_lt (i := 1) (by
      by_cases h1 : (hdT s.ts 0).k = 1
      · exact h1
      · exact absurd (.inl h1) hk) (by decide)
    obtain ⟨b, s', h1, h2, h3⟩ := hf _ (s.adv 1) (by rw [adv_len]; omega)
    exact ⟨b, s', h1, by omega, fun hb => by have := h3 hb; omega⟩
/-- how many tokens are taken at least -/
def takeN : NT → Nat
  | .loop _ _ => 0 | .call _ => 0 | _ => 1
theorem opOf_lt {s : PS} (h : (opOf (hdT s.ts 0)).1 ≠ 0) : 0 < s.ts.length := by
  rcases Nat.lt_or_ge 0 s.ts.length with hlt | hge
  · exact hlt
  · refine absurd ?_ h
    unfold hdT
    rw [List.getElem?_eq_none hge]
    rfl
theorem litO_lt {s : PS} {k : Nat} (h : litO (hdT s.ts k) ≠ 0) : k < s.ts.length := by
  rcases Nat.lt_or_ge k s.ts.length with hlt | hge
  · exact hlt
  · refine absurd ?_ h
    unfold hdT
    rw [List.getElem?_eq_none hge]
    rfl
theorem gotR_emA (o n : Int) (s : PS) {j k : Nat} (hk : 0 < s.ts.length) (hj : 0 < j) (hkj : k ≤ 1) : gotR s.ts.length k (emP o n (s.adv j)) :=
  (gotR_em o n (s.adv j)).mono (by rw [adv_len]; omega) (by rw [adv_len]; omega)
theorem parR_tot (E : Int) (nm : Nm) : ∀ (f : Nat) (nt : NT) (s : PS), 8 * s.ts.length + rankN nt < f → gotR s.ts.length (takeN nt) (parR E nm f nt s)
  | 0, nt, s, h => absurd h (Nat.not_lt_zero _)
  | f + 1, .expr, s, h => by
    have h' : 8 * s.ts.length + 6 < f + 1 := h
    rw [parR]
    refine gotR_ite (fun ha => ?_) (fun _ => ?_)
    · have hl := atB_lt ha (by decide)
      have e : (s.adv 1).ts.length = s.ts.length - 1 := adv_len s 1
      refine (gotR_then (m := 0) (parR_tot E nm f .expr (s.adv 1) (by show 8 * _ + 6 < f; omega)) (fun s1 h1 => ?_)).mono (k' := 1) (by show _ + 1 ≤ _ + (1 + 0); omega) (by omega)
      have h1' : s1.ts.length + 1 ≤ (s.adv 1).ts.length := h1
      refine (gotR_then (m := 0) (gotR_exp (E := E) (k := 1) (by decide) [116, 104, 101, 110] s1) (fun s2 h2 => ?_)).mono (k' := 0) (by omega) (by show _ ≤ _ - 1; omega)
      refine (gotR_then (m := 0) (parR_tot E nm f .expr s2 (by show 8 * _ + 6 < f; omega)) (fun s3 h3 => ?_)).mono (k' := 0) (by show _ + 0 ≤ _ + (1 + 0); omega) (by omega)
      have h3' : s3.ts.length + 1 ≤ s2.ts.length := h3
      refine (gotR_then (m := 0) (gotR_exp (E := E) (k := 1) (by decide) [101, 108, 115, 101] s3) (fun s4 h4 => ?_)).mono (k' := 0) (by omega) (by show _ ≤ _ - 1; omega)
      refine (gotR_then (m := 0) (parR_tot E nm f .expr s4 (by show 8 * _ + 6 < f; omega)) (fun s5 h5 => ?_)).mono (k' := 0) (by show _ + 0 ≤ _ + (1 + 0); omega) (by omega)
      have h5' : s5.ts.length + 1 ≤ s4.ts.length := h5
      exact (gotR_em 26 0 s5).mono (by omega) (by show _ ≤ _ - 1; omega)
    · exact parR_tot E nm f (.bin 1) s (by show 8 * _ + 5 < f; omega)
  | f + 1, .bin c, s, h => by
    have h' : 8 * s.ts.length + 5 < f + 1 := h
    rw [parR]
    refine (gotR_then (m := 0) (parR_tot E nm f .un s (by show 8 * _ + 4 < f; omega)) (fun s1 h1 => ?_)).mono (by show _ + 1 ≤ _ + (1 + 0); omega) (Nat.le_refl _)
    have h1' : s1.ts.length + 1 ≤ s.ts.length := h1
    exact (parR_tot E nm f (.loop c 5) s1 (by show 8 * _ + 1 < f; omega)).mono (by omega) (by show _ ≤ _ - 1; omega)
  | f + 1, .loop c g, s, h => by
    have h' : 8 * s.ts.length + 1 < f + 1 := h
    rw [parR]
    refine gotR_ite (fun _ => ⟨true, s, rfl, Nat.le_refl _, fun _ => Nat.le_refl _⟩) (fun ho => ?_)
    have hl := opOf_lt (s := s) (fun h => ho (.inl h))
    have e : (s.adv 1).ts.length = s.ts.length - 1 := adv_len s 1
    refine (gotR_then (m := 0) (parR_tot E nm f (.bin _) (s.adv 1) (by show 8 * _ + 5 < f; omega)) (fun s1 h1 => ?_)).mono (by show _ + 0 ≤ _ + (1 + 0); omega) (by omega)
    have h1' : s1.ts.length + 1 ≤ (s.adv 1).ts.length := h1
    exact (parR_tot E nm f (.loop c _) (s1.em _ 0) (by show 8 * s1.ts.length + 1 < f; omega)).mono (by show s1.ts.length + 0 ≤ _; omega) (by show s1.ts.length ≤ _ - 1; omega)
  | f + 1, .un, s, h => by
    have h' : 8 * s.ts.length + 4 < f + 1 := h
    have e : (s.adv 1).ts.length = s.ts.length - 1 := adv_len s 1
    rw [parR]
    refine gotR_ite (fun ha => ?_) (fun _ => gotR_ite (fun ha => ?_) (fun _ => ?_))
    · have hl := atB_lt ha (by decide)
      refine gotR_ite (fun _ => gotR_emA _ _ s hl (by decide) (by decide)) (fun _ => ?_)
      refine (gotR_then (m := 0) (parR_tot E nm f .un (s.adv 1) (by show 8 * _ + 4 < f; omega)) (fun s1 h1 => ?_)).mono (by show _ + 1 ≤ _ + (1 + 0); omega) (by omega)
      have h1' : s1.ts.length + 1 ≤ (s.adv 1).ts.length := h1
      exact (gotR_em 10 0 s1).mono (by omega) (by show _ ≤ _ - 1; omega)
    · have hl := atB_lt ha (by decide)
      refine (gotR_then (m := 0) (parR_tot E nm f .un (s.adv 1) (by show 8 * _ + 4 < f; omega)) (fun s1 h1 => ?_)).mono (by show _ + 1 ≤ _ + (1 + 0); omega) (by omega)
      have h1' : s1.ts.length + 1 ≤ (s.adv 1).ts.length := h1
      exact (gotR_em 25 0 s1).mono (by omega) (by show _ ≤ _ - 1; omega)
    · exact parR_tot E nm f .atom s (by show 8 * _ + 3 < f; omega)
  | f + 1, .atom, s, h => by
    have h' : 8 * s.ts.length + 3 < f + 1 := h
    have e : (s.adv 1).ts.length = s.ts.length - 1 := adv_len s 1
    rw [parR]
    refine gotR_ite (fun hl => gotR_emA _ _ s (litO_lt hl) (by decide) (by decide)) (fun _ => gotR_ite (fun hk => gotR_emA _ _ s (hdT_lt hk (by decide)) (by decide) (by decide)) (fun _ => gotR_ite (fun ha => ?_) (fun _ => gotR_ite (fun _ => gotR_bad E 2 s) (fun hk1 => ?_))))
    · have hl := atB_lt ha (by decide)
      refine (gotR_then (m := 0) (parR_tot E nm f .expr (s.adv 1) (by show 8 * _ + 6 < f; omega)) (fun s1 h1 => ?_)).mono (by show _ + 1 ≤ _ + (1 + 0); omega) (by omega)
      have h1' : s1.ts.length + 1 ≤ (s.adv 1).ts.length := h1
      exact (gotR_exp (E := E) (k := 7) (by decide) [41] s1).mono (by omega) (by show _ ≤ _ - 1; omega)
    · have hk1' : (hdT s.ts 0).k = 1 := Decidable.not_not.1 hk1
      have hl := hdT_lt hk1' (by decide)
      refine gotR_ite (fun _ => gotR_emA _ _ s hl (by decide) (by decide)) (fun _ => gotR_ite (fun _ => gotR_emA _ _ s hl (by decide) (by decide)) (fun _ => gotR_ite (fun _ => gotR_emA _ _ s hl (by decide) (by decide)) (fun _ => gotR_ite (fun _ => ?_) (fun _ => ?_))))
      · refine (gotR_then (m := 0) (gotR_exp (E := E) (k := 7) (by decide) [40] (s.adv 1)) (fun s1 h1 => ?_)).mono (by show _ + 1 ≤ _ + (1 + 0); omega) (by omega)
        refine (gotR_then (m := 0) (parR_tot E nm f (.call _) s1 (by show 8 * _ + 7 < f; omega)) (fun s2 h2 => ?_)).mono (by omega) (by omega)
        have h2' : s2.ts.length + 0 ≤ s1.ts.length := h2
        exact (gotR_exp (E := E) (k := 7) (by decide) [41] s2).mono (by omega) (by show _ ≤ _ - 0; omega)
      · unfold nameR
        refine gotR_ite (fun _ => gotR_bad E 2 s) (fun _ => gotR_ite (fun hc => ?_) (fun _ => ?_))
        · have hl2 := hdT_lt hc.1 (by decide)
          have e2 : (s.adv 2).ts.length = s.ts.length - 2 := adv_len s 2
          split
          · exact gotR_bad E 6 s
          · exact (gotR_find (m := 0) (fun i s' hs' => (gotR_em 6 _ s').mono (by omega) (by omega))).mono (by show _ + 1 ≤ _ + (1 + 0); omega) (by omega)
        · split
          · exact gotR_emA _ _ s hl (by decide) (by decide)
          · exact (gotR_find (m := 0) (fun i s' hs' => (gotR_em 8 _ s').mono (by omega) (by omega))).mono (by show _ + 1 ≤ _ + (1 + 0); omega) (Nat.le_refl _)
  | f + 1, .call op, s, h => by
    have h' : 8 * s.ts.length + 7 < f + 1 := h
    rw [parR]
    refine gotR_ite (fun _ => gotR_em 35 0 s) (fun _ => gotR_ite (fun _ => ?_) (fun _ => gotR_ite (fun _ => ?_) (fun _ => ?_)))
    · exact (gotR_find (m := 0) (fun i s' hs' => (gotR_em op _ s').mono (by omega) (by omega))).mono (by show _ + 0 ≤ _; omega) (Nat.le_refl _)
    · refine (gotR_find (m := 0) (fun i s1 h1 => ?_)).mono (by show _ + 0 ≤ _; omega) (Nat.le_refl _)
      refine (gotR_then (m := 0) (gotR_exp (E := E) (k := 7) (by decide) [44] s1) (fun s2 h2 => ?_)).mono (k' := 0) (by omega) (by omega)
      refine (gotR_then (m := 0) (parR_tot E nm f .expr s2 (by show 8 * _ + 6 < f; omega)) (fun s3 h3 => ?_)).mono (k' := 0) (by show _ + 0 ≤ _ + (1 + 0); omega) (by omega)
      have h3' : s3.ts.length + 1 ≤ s2.ts.length := h3
      refine gotR_ite (fun _ => (gotR_em 33 _ s3).mono (by omega) (by show _ ≤ _ - 1; omega)) (fun _ => ?_)
      refine (gotR_then (m := 0) (gotR_exp (E := E) (k := 7) (by decide) [44] s3) (fun s4 h4 => ?_)).mono (k' := 0) (by omega) (by show _ ≤ _ - 1; omega)
      exact (gotR_mode (m := 0) (fun j s' hs' => (gotR_em 34 _ s').mono (by omega) (by omega))).mono (by omega) (by omega)
    · refine (gotR_then (m := 0) (parR_tot E nm f .expr s (by show 8 * _ + 6 < f; omega)) (fun s1 h1 => ?_)).mono (k' := 0) (by show _ + 0 ≤ _ + (1 + 0); omega) (Nat.le_refl _)
      have h1' : s1.ts.length + 1 ≤ s.ts.length := h1
      refine gotR_ite (fun _ => (gotR_em op 0 s1).mono (by omega) (by show _ ≤ _ - 1; omega)) (fun _ => ?_)
      refine (gotR_then (m := 0) (gotR_exp (E := E) (k := 7) (by decide) [44] s1) (fun s2 h2 => ?_)).mono (k' := 0) (by omega) (by show _ ≤ _ - 1; omega)
      refine (gotR_then (m := 0) (parR_tot E nm f .expr s2 (by show 8 * _ + 6 < f; omega)) (fun s3 h3 => ?_)).mono (k' := 0) (by show _ + 0 ≤ _ + (1 + 0); omega) (by omega)
      have h3' : s3.ts.length + 1 ≤ s2.ts.length := h3
      refine gotR_ite (fun _ => ?_) (fun _ => (gotR_em op 0 s3).mono (by omega) (by show _ ≤ _ - 1; omega))
      refine (gotR_then (m := 0) (gotR_exp (E := E) (k := 7) (by decide) [44] s3) (fun s4 h4 => ?_)).mono (k' := 0) (by omega) (by show _ ≤ _ - 1; omega)
      exact (gotR_mode (m := 0) (fun j s' hs' => (gotR_em op _ s').mono (by omega) (by omega))).mono (by omega) (by omega)
end Go.Proofs.YtdnjfpmngnkcfaaGreatDoor
/- What peek and at of the parser of package exprtext compute. -/
namespace Go.Proofs.YtdnjfpmngnkcfaaGreatDoor
open Go.RowKit

/-- the cells of the parser in block g -/
def PCell (w : World) (g : Nat) (tv : Value) (i : Nat) (E : Int) (n0 n1 n2 n3 n4 nv : Value) (off code : Int) : Prop :=
  Blk w g 57 #[tv, .int .i64 i, .int .i64 E, n0, n1, n2, n3, n4, nv, .int .i64 off, .int .i64 code]
theorem toksX_at {w : World} {v : Value} {xs : List Tok} (h : Toks w v xs) : ∃ A cap, v = .slice A xs.length cap ∧ (0 < xs.length → ∃ b off, A = some ⟨b, off, none⟩ ∧ b < w.heap.size ∧
    ∀ j x, xs[j]? = some x → w.cell? ⟨b, off + j * 4, none⟩ = some (.int .i64 x.k) ∧ w.cell? ⟨b, off + j * 4 + 1, none⟩ = some (.string (bs x.t)) ∧ w.cell? ⟨b, off + j * 4 + 2, none⟩ = some (.int .i64 x.n) ∧ w.cell? ⟨b, off + j * 4 + 3, none⟩ = some (.int .i64 x.o)) := by
  obtain ⟨A, cap, hv, hA⟩ := h
  refine ⟨A, cap, hv, fun hp => ?_⟩
  obtain ⟨b, off, hb, hl, hc⟩ := hA hp
  exact ⟨b, off, hb, hl, fun j x hx => ⟨hc j x hx 0 _ rfl, hc j x hx 1 _ rfl, hc j x hx 2 _ rfl, hc j x hx 3 _ rfl⟩⟩
set_option maxRecDepth 100000 in
set_option maxHeartbeats 4000000 in
theorem peek_any (g : Nat) (tv : Value) (i k : Nat) (E : Int) (n0 n1 n2 n3 n4 nv : Value) (off code : Int) (toks : List Tok) (w : World) (hP : PCell w g tv i E n0 n1 n2 n3 n4 nv off code) (hT : Toks w tv toks)
    (hi : i ≤ toks.length) (hk : k ≤ 1) (hl : toks.length ≤ 1000000) : Calls Tryz.prog 49 #[.pointer (some ⟨g, 0, none⟩), .int .i64 k] w fun e w' => e = .returned (tokA (hdT (toks.drop i) k)) ∧ Kept w w' := by
  unfold PCell at hP
  obtain ⟨A, cap, rfl, hA⟩ := toksX_at hT
  obtain ⟨n, hn⟩ : ∃ n, n = toks.length := ⟨_, rfl⟩
  rw [← hn] at hP hA hi hl
  have HN := Lib.hid hn
  clear hT hn
  have p0 := hP.cell 0
  have p1 := hP.cell 1
  have pl := hP.lt
  simp only [List.getElem?_toArray, List.getElem?_cons_zero, List.getElem?_cons_succ] at p0 p1
  have hw : IntKind.i64.wrap ((i : Int) + k) = (i : Int) + k := by rw [IntKind.wrap_i64]; omega
  by_cases hlt : i + k < n
  · obtain ⟨b, o, rfl, hb, hc⟩ := hA (by omega)
    have hg : toks[i + k]? = some (toks[i + k]'(by have := HN.out; omega)) := List.getElem?_eq_getElem _
    have hR : hdT (toks.drop i) k = toks[i + k]'(by have := HN.out; omega) := by
      unfold hdT
      rw [List.getElem?_drop, hg]; rfl
    rw [hR]
    generalize toks[i + k]'(by have := HN.out; omega) = T at *
    obtain ⟨t0, t1, t2, t3⟩ := hc (i + k) T hg
    have hlti : (i : Int) + k < n := by omega
    clear hc hA hg hR
    unfold tokA
    have hix : (0:Int) ≤ (i:Int) + k := by omega
    obtain ⟨W0, hW0⟩ : ∃ W0, W0 = w.alloc (.cells #[.int .i64 0, .string ⟨#[]⟩, .int .i64 0, .int .i64 0] 73) := ⟨_, rfl⟩
    have KW0 : Kept w W0 := by rw [hW0]; exact (Kept.refl w).alloc _
    have B0 : Blk W0 w.heap.size 73 #[.int .i64 0, .string ⟨#[]⟩, .int .i64 0, .int .i64 0] := by rw [hW0]; exact Blk.new w _ _
    go_enter Tryz.func49, Tryz.ntmps49
    go_wp2_with fail
    rw [← hW0]
    clear hW0
    have g0 := Nat.lt_of_lt_of_le pl KW0.size
    have k0 := KW.cell g0 (KW0.cell (p := ⟨g, _, none⟩) pl p0)
    have k1 := KW.cell g0 (KW0.cell (p := ⟨g, _, none⟩) pl p1)
    refine wp_region_kept (by kernel_rfl) (by kernel_rfl) ?_
    repeat (go_big_quiet_step (fail))
    refine wpQuiet_nil ?_
    rintro wv ⟨⟨wx, hx⟩, hh⟩
    obtain rfl : wv = wx := hh
    clear k0 k1
    have B1 := B0.kept hx
    have KX := KW0.trans hx
    have g1 := Nat.lt_of_lt_of_le pl KX.size
    have k0 := KW.cell g1 (KX.cell (p := ⟨g, _, none⟩) pl p0)
    have k1 := KW.cell g1 (KX.cell (p := ⟨g, _, none⟩) pl p1)
    have b0 := Nat.lt_of_lt_of_le hb KX.size
    have y0 := KW.cell b0 (KX.cell (p := ⟨b, _, none⟩) hb t0)
    have y1 := KW.cell b0 (KX.cell (p := ⟨b, _, none⟩) hb t1)
    have y2 := KW.cell b0 (KX.cell (p := ⟨b, _, none⟩) hb t2)
    have y3 := KW.cell b0 (KX.cell (p := ⟨b, _, none⟩) hb t3)
    go_wp2_with fail
    refine wp_region_kept_tail 12 (by kernel_rfl) (by kernel_rfl) ?_
    simp only [List.take_succ_cons, List.take_zero, List.drop_succ_cons, List.drop_zero]
    repeat (go_big_quiet_step (fail))
    refine wpQuiet_nil ?_
    rintro w5 ⟨⟨wy, hy⟩, hh⟩
    obtain rfl : w5 = wy := hh
    have C3 := B1.kept hy
    have c3c := C3.cell
    have c3l := C3.lt
    have c3f := C3.frozen
    have KY := KX.trans hy
    go_wp2_with fail
    have BW : Blk ((((w5.setCell ⟨w.heap.size, 0, none⟩ (.int .i64 T.k)).setCell ⟨w.heap.size, 1, none⟩ (.string (bs T.t))).setCell ⟨w.heap.size, 2, none⟩ (.int .i64 T.n)).setCell ⟨w.heap.size, 3, none⟩ (.int .i64 T.o)) w.heap.size 73 #[.int .i64 T.k, .string (bs T.t), .int .i64 T.n, .int .i64 T.o] := (((C3.set_ 0 (.int .i64 T.k)).set_ 1 (.string (bs T.t))).set_ 2 (.int .i64 T.n)).set_ 3 (.int .i64 T.o)
    have KF : Kept w ((((w5.setCell ⟨w.heap.size, 0, none⟩ (.int .i64 T.k)).setCell ⟨w.heap.size, 1, none⟩ (.string (bs T.t))).setCell ⟨w.heap.size, 2, none⟩ (.int .i64 T.n)).setCell ⟨w.heap.size, 3, none⟩ (.int .i64 T.o)) := by
      repeat refine Kept.setCell ?_ (by simp only; omega) _
      exact KY
    generalize ((((w5.setCell ⟨w.heap.size, 0, none⟩ (.int .i64 T.k)).setCell ⟨w.heap.size, 1, none⟩ (.string (bs T.t))).setCell ⟨w.heap.size, 2, none⟩ (.int .i64 T.n)).setCell ⟨w.heap.size, 3, none⟩ (.int .i64 T.o)) = WW at *
    have bw := BW.cell
    refine bodyPost_ret (v := .agg #[.int .i64 T.k, .string (bs T.t), .int .i64 T.n, .int .i64 T.o]) (by simp [results, Tryz.results49, go_sem, bw]) rfl ⟨rfl, KF⟩
  · have hR : hdT (toks.drop i) k = tok0 := by
      unfold hdT
      rw [List.getElem?_drop, List.getElem?_eq_none (by have := HN.out; omega)]; rfl
    rw [hR]
    have hlti : ¬ ((i : Int) + k < n) := by omega
    rw [show tokA tok0 = .agg #[.int .i64 0, .string ⟨#[]⟩, .int .i64 0, .int .i64 0] from rfl]
    clear hA hR
    obtain ⟨W0, hW0⟩ : ∃ W0, W0 = w.alloc (.cells #[.int .i64 0, .string ⟨#[]⟩, .int .i64 0, .int .i64 0] 73) := ⟨_, rfl⟩
    have KW0 : Kept w W0 := by rw [hW0]; exact (Kept.refl w).alloc _
    have B0 : Blk W0 w.heap.size 73 #[.int .i64 0, .string ⟨#[]⟩, .int .i64 0, .int .i64 0] := by rw [hW0]; exact Blk.new w _ _
    go_enter Tryz.func49, Tryz.ntmps49
    go_wp2_with fail
    rw [← hW0]
    clear hW0
    have g0 := Nat.lt_of_lt_of_le pl KW0.size
    have k0 := KW.cell g0 (KW0.cell (p := ⟨g, _, none⟩) pl p0)
    have k1 := KW.cell g0 (KW0.cell (p := ⟨g, _, none⟩) pl p1)
    refine wp_region_kept (by kernel_rfl) (by kernel_rfl) ?_
    repeat (go_big_quiet_step (fail))
    refine wpQuiet_nil ?_
    rintro wv ⟨⟨wx, hx⟩, hh⟩
    obtain rfl : wv = wx := hh
    clear k0 k1
    have B1 := B0.kept hx
    have KX := KW0.trans hx
    have g1 := Nat.lt_of_lt_of_le pl KX.size
    have c3c := B1.cell
    have c3l := B1.lt
    have c3f := B1.frozen
    go_wp2_with fail
    have BW : Blk ((((wv.setCell ⟨w.heap.size, 0, none⟩ (.int .i64 0)).setCell ⟨w.heap.size, 1, none⟩ (.string ⟨#[]⟩)).setCell ⟨w.heap.size, 2, none⟩ (.int .i64 0)).setCell ⟨w.heap.size, 3, none⟩ (.int .i64 0)) w.heap.size 73 #[.int .i64 0, .string ⟨#[]⟩, .int .i64 0, .int .i64 0] := (((B1.set_ 0 (.int .i64 0)).set_ 1 (.string ⟨#[]⟩)).set_ 2 (.int .i64 0)).set_ 3 (.int .i64 0)
    have KF : Kept w ((((wv.setCell ⟨w.heap.size, 0, none⟩ (.int .i64 0)).setCell ⟨w.heap.size, 1, none⟩ (.string ⟨#[]⟩)).setCell ⟨w.heap.size, 2, none⟩ (.int .i64 0)).setCell ⟨w.heap.size, 3, none⟩ (.int .i64 0)) := by
      repeat refine Kept.setCell ?_ (by simp only; omega) _
      exact KX
    generalize ((((wv.setCell ⟨w.heap.size, 0, none⟩ (.int .i64 0)).setCell ⟨w.heap.size, 1, none⟩ (.string ⟨#[]⟩)).setCell ⟨w.heap.size, 2, none⟩ (.int .i64 0)).setCell ⟨w.heap.size, 3, none⟩ (.int .i64 0)) = WW at *
    have bw := BW.cell
    refine bodyPost_ret (v := .agg #[.int .i64 0, .string ⟨#[]⟩, .int .i64 0, .int .i64 0]) (by simp [results, Tryz.results49, go_sem, bw]) rfl ⟨rfl, KF⟩
end Go.Proofs.YtdnjfpmngnkcfaaGreatDoor
/- What at of the parser of package exprtext computes. -/
namespace Go.Proofs.YtdnjfpmngnkcfaaGreatDoor
open Go.RowKit

set_option maxRecDepth 100000 in
set_option maxHeartbeats 4000000 in
theorem at_any (g : Nat) (tv : Value) (i : Nat) (E : Int) (n0 n1 n2 n3 n4 nv : Value) (off code : Int) (toks : List Tok) (w : World) (hP : PCell w g tv i E n0 n1 n2 n3 n4 nv off code) (hT : Toks w tv toks)
    (hi : i ≤ toks.length) (hl : toks.length ≤ 1000000) (kd : Int) (t : ByteArray) : Calls Tryz.prog 34 #[.pointer (some ⟨g, 0, none⟩), .int .i64 kd, .string t] w fun e w' => e = .returned (.bool (decide ((hdT (toks.drop i) 0).k = kd) && decide ((hdT (toks.drop i) 0).t = L t))) ∧ Kept w w' := by
  have HPK := Lib.hid (peek_any g tv i 0 E n0 n1 n2 n3 n4 nv off code toks w hP hT hi (by decide) hl)
  unfold tokA at HPK
  clear hP hT hi
  generalize hdT (toks.drop i) 0 = T at *
  obtain ⟨tk, tt, tn, tf⟩ := T
  dsimp only at HPK ⊢
  have hb : decide (tt = L t) = decide (bs tt = t) := by
    congr 1
    rw [← L_inj, L_bs]
  have hn : (.int .i64 ((0 : Nat) : Int) : Value) = .int .i64 0 := rfl
  rw [hn] at HPK
  rw [hb]
  clear hn hb
  generalize bs tt = X at *
  have heq := neqE X t
  by_cases hk : tk = kd
  · subst hk
    rw [decide_eq_true (show tk = tk from rfl), Bool.true_and]
    go_enter Tryz.func34, Tryz.ntmps34
    go_wp2_with (go_at_call 49; refine HPK.out.mono ?_; rintro e w1 ⟨rfl, hk1⟩)
    go_ret
    refine ⟨?_, hk1.alloc _⟩
    rw [← heq]
    rfl
  · have hkb := beq_noB hk
    rw [decide_eq_false hk, Bool.false_and]
    go_enter Tryz.func34, Tryz.ntmps34
    go_wp2_with (go_at_call 49; refine HPK.out.mono ?_; rintro e w1 ⟨rfl, hk1⟩)
    go_ret
    exact ⟨rfl, hk1.alloc _⟩
end Go.Proofs.YtdnjfpmngnkcfaaGreatDoor
/- What fail of the parser of package exprtext computes. -/
namespace Go.Proofs.YtdnjfpmngnkcfaaGreatDoor
open Go.RowKit

set_option maxRecDepth 100000 in
set_option maxHeartbeats 4000000 in
theorem fail_any (g : Nat) (tv : Value) (i : Nat) (E : Int) (n0 n1 n2 n3 n4 nv : Value) (off code c : Int) (toks : List Tok) (w0 w : World) (hK : Kept w0 w) (hgw : w0.heap.size ≤ g) (hP : PCell w g tv i E n0 n1 n2 n3 n4 nv off code) (hT : Toks w0 tv toks)
    (hi : i ≤ toks.length) (hl : toks.length ≤ 1000000) (B : Nat) (hgB : g < B) (ns : List Nd) (hG : GathR w B 41 ndF 2 nv ns) :
    Calls Tryz.prog 20 #[.pointer (some ⟨g, 0, none⟩), .int .i64 c] w fun e w' => e = .returned (.bool false) ∧ PCell w' g tv i E n0 n1 n2 n3 n4 nv (offE E (toks.drop i)) c ∧ Kept w0 w' ∧ GathR w' B 41 ndF 2 nv ns ∧ w.heap.size ≤ w'.heap.size := by
  unfold PCell at hP ⊢
  obtain ⟨A, cap, rfl, hA⟩ := toksX_at hT
  obtain ⟨n, hn⟩ : ∃ n, n = toks.length := ⟨_, rfl⟩
  rw [← hn] at hP hA hi hl ⊢
  have HN := Lib.hid hn
  clear hT hn
  have B1 := (hP.set_ 10 (.int .i64 c)).set_ 9 (.int .i64 E)
  have K1 : Kept w0 ((w.setCell ⟨g, 10, none⟩ (.int .i64 c)).setCell ⟨g, 9, none⟩ (.int .i64 E)) := (hK.setCell hgw _).setCell hgw _
  have G1 := (hG.far (p := ⟨g, 10, none⟩) hgB (.int .i64 c)).far (p := ⟨g, 9, none⟩) hgB (.int .i64 E)
  have hs1 : w.heap.size ≤ ((w.setCell ⟨g, 10, none⟩ (.int .i64 c)).setCell ⟨g, 9, none⟩ (.int .i64 E)).heap.size := by simp
  have pc := hP.cell
  have pl := hP.lt
  have pf := hP.frozen
  by_cases hlt : i < n
  · obtain ⟨b, o, rfl, hb, hc⟩ := hA (by omega)
    have hg : toks[i]? = some (toks[i]'(by have := HN.out; omega)) := List.getElem?_eq_getElem _
    have hR : offE E (toks.drop i) = (toks[i]'(by have := HN.out; omega)).o := by
      rw [List.drop_eq_getElem_cons (by have := HN.out; omega)]; rfl
    rw [hR]
    generalize toks[i]'(by have := HN.out; omega) = T at *
    obtain ⟨t0, t1, t2, t3⟩ := hc i T hg
    have hlti : (i : Int) < n := by omega
    have hi0 : (0 : Int) ≤ i := by omega
    clear hc hA hg hR
    go_enter Tryz.func20, Tryz.ntmps20
    go_wp2_with fail
    clear pc pf
    generalize (w.setCell ⟨g, 10, none⟩ (.int .i64 c)).setCell ⟨g, 9, none⟩ (.int .i64 E) = W1 at *
    have p0 := B1.cell 0
    have p1 := B1.cell 1
    have pl := B1.lt
    simp at p0 p1
    have k0 := KW.cell pl p0
    have k1 := KW.cell pl p1
    refine wp_region_kept (by kernel_rfl) (by kernel_rfl) ?_
    repeat (go_big_quiet_step (fail))
    refine wpQuiet_nil ?_
    rintro wv ⟨⟨wx, hx⟩, hh⟩
    obtain rfl : wv = wx := hh
    clear k0 k1
    have B2 := B1.kept hx
    have K2 := K1.trans hx
    have G2 := G1.keptOwn hx
    have hs2 := Nat.le_trans hs1 hx.size
    clear hx K1 G1 hs1 hK hG hP B1 p0 p1 pl
    have p0 := B2.cell 0
    have p1 := B2.cell 1
    have pl := B2.lt
    simp at p0 p1
    have k0 := KW.cell pl p0
    have k1 := KW.cell pl p1
    have k2 := KW.cell (Nat.lt_of_lt_of_le hb K2.size) (K2.cell (p := ⟨b, _, none⟩) hb t3)
    go_wp2_with fail
    refine wp_region_kept_tail 14 (by kernel_rfl) (by kernel_rfl) ?_
    simp only [List.take_succ_cons, List.take_zero, List.drop_succ_cons, List.drop_zero]
    repeat (go_big_quiet_step (fail))
    refine wpQuiet_nil ?_
    rintro w5 ⟨⟨wy, hy⟩, hh⟩
    obtain rfl : w5 = wy := hh
    have B3 := B2.kept hy
    have c3f := B3.frozen
    have c3c := B3.cell
    have c3l := B3.lt
    go_wp2_with fail
    go_ret
    exact ⟨rfl, B3.set_ 9 (.int .i64 T.o), (K2.trans hy).setCell hgw _, (G2.keptOwn hy).far hgB _, by have := hy.size; simp; omega⟩
  · have hR : offE E (toks.drop i) = E := by
      rw [List.drop_eq_nil_iff.2 (by have := HN.out; omega)]; rfl
    rw [hR]
    have hlti : ¬ ((i : Int) < n) := by omega
    clear hA hR
    go_enter Tryz.func20, Tryz.ntmps20
    go_wp2_with fail
    clear pc pf
    generalize (w.setCell ⟨g, 10, none⟩ (.int .i64 c)).setCell ⟨g, 9, none⟩ (.int .i64 E) = W1 at *
    have p0 := B1.cell 0
    have p1 := B1.cell 1
    have pl := B1.lt
    simp at p0 p1
    have k0 := KW.cell pl p0
    have k1 := KW.cell pl p1
    refine wp_region_kept (by kernel_rfl) (by kernel_rfl) ?_
    repeat (go_big_quiet_step (fail))
    refine wpQuiet_nil ?_
    rintro wv ⟨⟨wx, hx⟩, hh⟩
    obtain rfl : wv = wx := hh
    go_wp2_with fail
    go_ret
    exact ⟨rfl, B1.kept hx, K1.trans hx, G1.keptOwn hx, Nat.le_trans hs1 hx.size⟩
end Go.Proofs.YtdnjfpmngnkcfaaGreatDoor
/- What emit of the parser of package exprtext computes. -/
namespace Go.Proofs.YtdnjfpmngnkcfaaGreatDoor
open Go.RowKit

theorem Tryz.infoNd : (Tryz.prog.info? 41).map (fun i => (i.zero, i.size, i.bytes)) = some (some (.agg #[.int .i64 0, .int .i64 0]), 2, 16) := by kernel_rfl
theorem ndF_oneX (x : Nd) : ∀ u ∈ ndF x, u.oneCell' = true := by
  intro u hu
  simp only [ndF, List.mem_cons, List.not_mem_nil, or_false] at hu
  rcases hu with rfl | rfl <;> rfl
theorem nd_newX {W : World} {o n : Int} {t : TypeId} : ∀ j u, (ndF ⟨o, n⟩)[j]? = some u → (W.alloc (.cells #[.int .i64 o, .int .i64 n] t)).cell? ((⟨W.heap.size, 0, none⟩ : Addr).add j) = some u :=
  blk_cells (l := ndF ⟨o, n⟩)
set_option maxRecDepth 100000 in
set_option maxHeartbeats 4000000 in
theorem emit_any (g : Nat) (tv : Value) (i : Nat) (E : Int) (n0 n1 n2 n3 n4 nv : Value) (off code o n : Int) (w0 w : World) (hK : Kept w0 w) (hgw : w0.heap.size ≤ g) (hP : PCell w g tv i E n0 n1 n2 n3 n4 nv off code)
    (B : Nat) (hgB : g < B) (hB : B ≤ w.heap.size) (ns : List Nd) (hG : GathR w B 41 ndF 2 nv ns) (hl : ns.length ≤ 8000000) :
    Calls Tryz.prog 37 #[.pointer (some ⟨g, 0, none⟩), .int .i64 o, .int .i64 n] w fun e w' => e = .returned (.bool true) ∧ ∃ nv', PCell w' g tv i E n0 n1 n2 n3 n4 nv' off code ∧ Kept w0 w' ∧ B ≤ w'.heap.size ∧ GathR w' B 41 ndF 2 nv' (ns ++ [⟨o, n⟩]) := by
  unfold PCell at hP ⊢
  obtain ⟨i0, hi, hz0, hz1, hz2⟩ := info_parts Tryz.infoNd
  have HK := Lib.hid hK
  have HG := Lib.hid hG
  have HP := Lib.hid hP
  have HO4 := hG.alloc (.cells #[.int .i64 o, .int .i64 n] 41)
  have pc := hP.cell 8
  have pl := hP.lt
  simp at pc
  have hacl : ns.length + 1 ≤ maxLen := by unfold maxLen; omega
  have hacl2 : (ns.length + 1) * 16 ≤ 140737488355328 := by omega
  have h0B : w0.heap.size ≤ B := by omega
  obtain ⟨A2, c2, hv2, _, _⟩ := hG.form
  subst hv2
  clear hG hP hK
  go_enter Tryz.func37, Tryz.ntmps37
  go_wp2_with (at_builtin; refine wpList_append_lies _ rfl (.tmp 11) (.tmp 15) 22 rfl B 41 i0 (.agg #[.int .i64 0, .int .i64 0]) 2 16 Tryz.underlying22 hi hz0 hz1 hz2 rfl (by decide) _ ns.length (ns.flatMap ndF) rfl HO4 ⟨w.heap.size, 0, none⟩ 1 1 (ndF ⟨o, n⟩) rfl rfl nd_newX (ndF_oneX _) (by decide) hacl hacl2 (by simp; omega) _ rfl ?_; intro g1 c1 w5 hown' hgrow _ _; have B5 := (ownGrown_block HG.out hgrow pl hgB).trans HP.out; have f5 := Blk.frozen B5; have c5 := Blk.cell B5; have l5 := Blk.lt B5)
  go_ret
  have hs5 := ownGrown_size (wr := w) hgrow
  exact ⟨rfl, _, Blk.set_ B5 8 _, (ownGrown_kept HK.out HG.out h0B hgrow).setCell hgw _, by simp; omega, GathR.far (GathR.snoc hown') hgB _⟩
end Go.Proofs.YtdnjfpmngnkcfaaGreatDoor
/- The state of the parser of package exprtext; its first methods, said of it. -/
namespace Go.Proofs.YtdnjfpmngnkcfaaGreatDoor
open Go.RowKit

/-- the state of the parser: its block, its nodes, the tokens that are left -/
structure PSt (w0 w : World) (g B : Nat) (tv : Value) (E : Int) (n0 n1 n2 n3 n4 : Value) (toks : List Tok) (s : PS) : Prop where
  old : Kept w0 w
  low : w0.heap.size ≤ g
  sep : g < B
  top : B ≤ w.heap.size
  at_ : ∃ (i : Nat) (nv : Value), PCell w g tv i E n0 n1 n2 n3 n4 nv s.off s.code ∧ i ≤ toks.length ∧ s.ts = toks.drop i ∧ GathR w B 41 ndF 2 nv s.ns
/-- what a method of the parser that may fail leaves -/
def PPost (w0 : World) (g B : Nat) (tv : Value) (E : Int) (n0 n1 n2 n3 n4 : Value) (toks : List Tok) (b : Bool) (s : PS) (e : Ending) (w' : World) : Prop :=
  e = .returned (.bool b) ∧ PSt w0 w' g B tv E n0 n1 n2 n3 n4 toks s
theorem PSt.kept {w0 w w' : World} {g B : Nat} {tv : Value} {E : Int} {n0 n1 n2 n3 n4 : Value} {toks : List Tok} {s : PS} (h : PSt w0 w g B tv E n0 n1 n2 n3 n4 toks s) (hk : Kept w w') : PSt w0 w' g B tv E n0 n1 n2 n3 n4 toks s := by
  obtain ⟨h1, h2, h3, h4, i, nv, h5, h6, h7, h8⟩ := h
  exact ⟨h1.trans hk, h2, h3, Nat.le_trans h4 hk.size, i, nv, Blk.kept h5 hk, h6, h7, h8.keptOwn hk⟩
theorem pfail_any {w0 w : World} {g B : Nat} {tv : Value} {E : Int} {n0 n1 n2 n3 n4 : Value} {toks : List Tok} {s : PS} (h : PSt w0 w g B tv E n0 n1 n2 n3 n4 toks s) (hT : Toks w0 tv toks) (hl : toks.length ≤ 1000000) (c : Int) :
    Calls Tryz.prog 20 #[.pointer (some ⟨g, 0, none⟩), .int .i64 c] w (PPost w0 g B tv E n0 n1 n2 n3 n4 toks false (s.bad E c)) := by
  obtain ⟨h1, h2, h3, h4, i, nv, h5, h6, h7, h8⟩ := h
  refine (fail_any g tv i E n0 n1 n2 n3 n4 nv s.off s.code c toks w0 w h1 h2 h5 hT h6 hl B h3 s.ns h8).mono ?_
  rintro e w' ⟨rfl, k1, k2, k3, k4⟩
  refine ⟨rfl, k2, h2, h3, Nat.le_trans h4 k4, i, nv, ?_, h6, h7, k3⟩
  rw [show (s.bad E c).off = offE E (toks.drop i) by rw [← h7]; rfl]
  exact k1
theorem pemit_any {w0 w : World} {g B : Nat} {tv : Value} {E : Int} {n0 n1 n2 n3 n4 : Value} {toks : List Tok} {s : PS} (h : PSt w0 w g B tv E n0 n1 n2 n3 n4 toks s) (hl : s.ns.length ≤ 8000000) (o n : Int) :
    Calls Tryz.prog 37 #[.pointer (some ⟨g, 0, none⟩), .int .i64 o, .int .i64 n] w (PPost w0 g B tv E n0 n1 n2 n3 n4 toks true (s.em o n)) := by
  obtain ⟨h1, h2, h3, h4, i, nv, h5, h6, h7, h8⟩ := h
  refine (emit_any g tv i E n0 n1 n2 n3 n4 nv s.off s.code o n w0 w h1 h2 h5 B h3 h4 s.ns h8 hl).mono ?_
  rintro e w' ⟨rfl, nv', k1, k2, k3, k4⟩
  exact ⟨rfl, k2, h2, h3, k3, i, nv', k1, h6, h7, k4⟩
theorem pat_any {w0 w : World} {g B : Nat} {tv : Value} {E : Int} {n0 n1 n2 n3 n4 : Value} {toks : List Tok} {s : PS} (h : PSt w0 w g B tv E n0 n1 n2 n3 n4 toks s) (hT : Toks w0 tv toks) (hl : toks.length ≤ 1000000) (kd : Int) (t : List UInt8) :
    Calls Tryz.prog 34 #[.pointer (some ⟨g, 0, none⟩), .int .i64 kd, .string (bs t)] w (PPost w0 g B tv E n0 n1 n2 n3 n4 toks (atB s kd t) s) := by
  obtain ⟨i, nv, h5, h6, h7, h8⟩ := h.at_
  refine (at_any g tv i E n0 n1 n2 n3 n4 nv s.off s.code toks w h5 (hT.kept h.old) h6 hl kd (bs t)).mono ?_
  rintro e w' ⟨rfl, hk⟩
  refine ⟨?_, h.kept hk⟩
  rw [L_bs, ← h7]; rfl
theorem ppeek_any {w0 w : World} {g B : Nat} {tv : Value} {E : Int} {n0 n1 n2 n3 n4 : Value} {toks : List Tok} {s : PS} (h : PSt w0 w g B tv E n0 n1 n2 n3 n4 toks s) (hT : Toks w0 tv toks) (hl : toks.length ≤ 1000000) (k : Nat) (hk : k ≤ 1) :
    Calls Tryz.prog 49 #[.pointer (some ⟨g, 0, none⟩), .int .i64 k] w fun e w' => e = .returned (tokA (hdT s.ts k)) ∧ PSt w0 w' g B tv E n0 n1 n2 n3 n4 toks s := by
  obtain ⟨i, nv, h5, h6, h7, h8⟩ := h.at_
  refine (peek_any g tv i k E n0 n1 n2 n3 n4 nv s.off s.code toks w h5 (hT.kept h.old) h6 hk hl).mono ?_
  rintro e w' ⟨rfl, hk⟩
  rw [h7]
  exact ⟨rfl, h.kept hk⟩
end Go.Proofs.YtdnjfpmngnkcfaaGreatDoor
/- What expect and symbol of the parser of package exprtext compute. -/
namespace Go.Proofs.YtdnjfpmngnkcfaaGreatDoor
open Go.RowKit

theorem atB_pos {s : PS} {kd : Int} {t : List UInt8} (h : atB s kd t = true) (hk : kd ≠ 0) : 0 < s.ts.length := by
  unfold atB hdT at h
  rcases hs : s.ts with _ | ⟨x, r⟩
  · rw [hs] at h
    exact absurd (of_decide_eq_true (Bool.and_eq_true_iff.1 h).1).symm hk
  · simp
set_option maxRecDepth 100000 in
set_option maxHeartbeats 4000000 in
theorem expect_any {w0 w : World} {g B : Nat} {tv : Value} {E : Int} {n0 n1 n2 n3 n4 : Value} {toks : List Tok} {s : PS} (h : PSt w0 w g B tv E n0 n1 n2 n3 n4 toks s) (hT : Toks w0 tv toks) (hl : toks.length ≤ 1000000) (kd : Int) (hkd : kd ≠ 0) (t : List UInt8) :
    Calls Tryz.prog 36 #[.pointer (some ⟨g, 0, none⟩), .int .i64 kd, .string (bs t)] w fun e w' => ∃ b s', expP E kd t s = some (b, s') ∧ PPost w0 g B tv E n0 n1 n2 n3 n4 toks b s' e w' := by
  have HAT := Lib.hid (pat_any h hT hl kd t)
  unfold PPost at HAT ⊢
  cases hb : atB s kd t
  · have HR := Lib.hid (show expP E kd t s = some (false, s.bad E 2) by rw [expP, hb]; rfl)
    rw [hb] at HAT
    have HFL := Lib.hid (fun (w1 : World) (h1 : PSt w0 w1 g B tv E n0 n1 n2 n3 n4 toks s) => pfail_any h1 hT hl 2)
    unfold PPost at HFL
    clear h hT hl hb
    generalize bs t = X at *
    go_enter Tryz.func36, Tryz.ntmps36
    go_wp2_with (first
      | (go_at_call 34; refine HAT.out.mono ?_; rintro e w1 ⟨rfl, hs1⟩)
      | (go_at_call 20; refine (HFL.out _ hs1).mono ?_; rintro e w2 ⟨rfl, hs2⟩))
    go_ret
    exact ⟨_, _, HR.out, rfl, hs2⟩
  · have HR := Lib.hid (show expP E kd t s = some (true, s.adv 1) by rw [expP, hb]; rfl)
    rw [hb] at HAT
    have HPO := Lib.hid (atB_pos hb hkd)
    clear h hT hb
    generalize bs t = X at *
    go_enter Tryz.func36, Tryz.ntmps36
    go_wp2_with (go_at_call 34; refine HAT.out.mono ?_; rintro e w1 ⟨rfl, hs1⟩; obtain ⟨q1, q2, q3, q4, i, nv, q5, q6, q7, q8⟩ := hs1; have hlen : i + 1 ≤ toks.length := (by have := HPO.out; rw [q7, List.length_drop] at this; omega); have hwi : IntKind.i64.wrap ((i : Int) + 1) = (i : Int) + 1 := (by rw [IntKind.wrap_i64]; omega); have HQ := Lib.hid q5; unfold PCell at q5; have p1 := q5.cell 1; have pl := q5.lt; have pf := q5.frozen; simp at p1)
    go_ret
    refine ⟨_, _, HR.out, rfl, q1.setCell q2 _, q2, q3, by simp; omega, i + 1, nv, ?_, hlen, ?_, q8.far q3 _⟩
    · exact Blk.set_ HQ.out 1 _
    · show (s.adv 1).ts = _
      unfold PS.adv
      dsimp only
      rw [q7, List.drop_drop]
set_option maxRecDepth 100000 in
theorem symbol_any {w0 w : World} {g B : Nat} {tv : Value} {E : Int} {n0 n1 n2 n3 n4 : Value} {toks : List Tok} {s : PS} (h : PSt w0 w g B tv E n0 n1 n2 n3 n4 toks s) (hT : Toks w0 tv toks) (hl : toks.length ≤ 1000000) (t : List UInt8) :
    Calls Tryz.prog 83 #[.pointer (some ⟨g, 0, none⟩), .string (bs t)] w fun e w' => ∃ b s', symP E t s = some (b, s') ∧ PPost w0 g B tv E n0 n1 n2 n3 n4 toks b s' e w' := by
  have HAT := Lib.hid (expect_any h hT hl 7 (by decide) t)
  unfold PPost at HAT ⊢
  unfold symP
  generalize expP E 7 t s = R at *
  clear h hT hl
  generalize bs t = X at *
  go_enter Tryz.func83, Tryz.ntmps83
  go_wp2_with (go_at_call 36; refine HAT.out.mono ?_; rintro e w1 ⟨b, s', he, rfl, hs1⟩)
  go_ret
  exact ⟨b, s', he, rfl, hs1⟩
end Go.Proofs.YtdnjfpmngnkcfaaGreatDoor
/- What mode of the parser of package exprtext computes. -/
namespace Go.Proofs.YtdnjfpmngnkcfaaGreatDoor
open Go.RowKit

theorem hd_pos {s : PS} (h : (hdT s.ts 0).k ≠ 0) : 0 < s.ts.length := by
  unfold hdT at h
  rcases hs : s.ts with _ | ⟨x, r⟩
  · rw [hs] at h
    exact absurd rfl h
  · simp
/-- the pair that find and mode return -/
def opV : Option Int → Value
  | none => .tuple #[.int .i64 0, .bool false]
  | some m => .tuple #[.int .i64 m, .bool true]
set_option maxRecDepth 100000 in
set_option maxHeartbeats 4000000 in
theorem mode_any {w0 w : World} {g B : Nat} {tv : Value} {E : Int} {n0 n1 n2 n3 n4 : Value} {toks : List Tok} {s : PS} (h : PSt w0 w g B tv E n0 n1 n2 n3 n4 toks s) (hT : Toks w0 tv toks) (hl : toks.length ≤ 1000000) :
    Calls Tryz.prog 102 #[.pointer (some ⟨g, 0, none⟩)] w fun e w' => e = .returned (opV (modeR E s).1) ∧ PSt w0 w' g B tv E n0 n1 n2 n3 n4 toks (modeR E s).2 := by
  have HPK := Lib.hid (ppeek_any h hT hl 0 (by decide))
  rw [show (.int .i64 ((0 : Nat) : Int) : Value) = .int .i64 0 from rfl] at HPK
  have HFL := Lib.hid (fun (w1 : World) (h1 : PSt w0 w1 g B tv E n0 n1 n2 n3 n4 toks s) => pfail_any h1 hT hl 2)
  unfold PPost at HFL
  have HPO := Lib.hid (hd_pos (s := s))
  have hRR : modeR E s = if (hdT s.ts 0).k ≠ 1 ∨ modeO (hdT s.ts 0).t < 0 then (none, s.bad E 2) else (some (modeO (hdT s.ts 0).t), s.adv 1) := rfl
  unfold tokA at HPK
  generalize hdT s.ts 0 = T at *
  obtain ⟨tk, tt, tn, tf⟩ := T
  dsimp only at HPK HPO hRR
  have HMO := Lib.hid (fun w => modeOf_any (bs tt) w)
  rw [L_bs] at HMO
  clear h hT
  generalize modeO tt = m at *
  generalize bs tt = X at *
  by_cases hk : tk = 1
  · subst hk
    by_cases hm : m < 0
    · rw [if_pos (.inr hm)] at hRR
      have HR := Lib.hid hRR
      clear hRR HPO
      go_enter Tryz.func102, Tryz.ntmps102
      go_wp2_with (first
        | (go_at_call 49; refine HPK.out.mono ?_; rintro e w1 ⟨rfl, hs1⟩)
        | (go_at_call 116; refine (HMO.out _).mono ?_; rintro e w' ⟨rfl, rfl⟩)
        | (go_at_call 20; refine (HFL.out _ (hs1.kept ((Kept.refl _).alloc _))).mono ?_; rintro e w2 ⟨rfl, hs2⟩))
      go_ret2
      rw [HR.out]
      exact ⟨rfl, hs2⟩
    · rw [if_neg (by simp; omega)] at hRR
      have HR := Lib.hid hRR
      clear hRR HFL
      go_enter Tryz.func102, Tryz.ntmps102
      go_wp2_with (first
        | (go_at_call 49; refine HPK.out.mono ?_; rintro e w1 ⟨rfl, hs1⟩; obtain ⟨q1, q2, q3, q4, i, nv, q5, q6, q7, q8⟩ := hs1.kept ((Kept.refl _).alloc (.cells #[.int .i64 1, .string X, .int .i64 tn, .int .i64 tf] 73)); have hlen : i + 1 ≤ toks.length := (by have := HPO.out (by decide); rw [q7, List.length_drop] at this; omega); have hwi : IntKind.i64.wrap ((i : Int) + 1) = (i : Int) + 1 := (by rw [IntKind.wrap_i64]; omega); have HQ := Lib.hid q5; unfold PCell at q5; have p1 := q5.cell 1; have pl := q5.lt; have pf := q5.frozen; simp at p1)
        | (go_at_call 116; refine (HMO.out _).mono ?_; rintro e w' ⟨rfl, rfl⟩))
      go_ret2
      rw [HR.out]
      refine ⟨rfl, q1.setCell q2 _, q2, q3, by simp at q4 ⊢; omega, i + 1, nv, ?_, hlen, ?_, q8.far q3 _⟩
      · exact Blk.set_ HQ.out 1 _
      · show (s.adv 1).ts = _
        unfold PS.adv
        dsimp only
        rw [q7, List.drop_drop]
  · rw [if_pos (.inl hk)] at hRR
    have HR := Lib.hid hRR
    have hkb := bne_noB hk
    clear hRR HPO
    go_enter Tryz.func102, Tryz.ntmps102
    go_wp2_with (first
      | (go_at_call 49; refine HPK.out.mono ?_; rintro e w1 ⟨rfl, hs1⟩)
      | (go_at_call 116; refine (HMO.out _).mono ?_; rintro e w' ⟨rfl, rfl⟩)
      | (go_at_call 20; refine (HFL.out _ (hs1.kept ((Kept.refl _).alloc _))).mono ?_; rintro e w2 ⟨rfl, hs2⟩))
    go_ret2
    rw [HR.out]
    exact ⟨rfl, hs2⟩
end Go.Proofs.YtdnjfpmngnkcfaaGreatDoor
/- Where a name stands in a list. (Lines of XCdSplit.) -/
namespace Go.Proofs.YtdnjfpmngnkcfaaGreatDoor
open Go.RowKit

theorem Strs.at3 {w : World} {v : Value} {xs : List ByteArray} (h : Strs w v xs) : ∃ A cap, v = .slice A xs.length cap ∧ (0 < xs.length → ∃ b off, A = some ⟨b, off, none⟩ ∧ b < w.heap.size ∧ ∀ (j : Nat) x, xs[j]? = some x → w.cell? ⟨b, off + j, none⟩ = some (.string x)) := by
  obtain ⟨A, cap, hv, hx⟩ := h
  refine ⟨A, cap, hv, fun hp => ?_⟩
  obtain ⟨b, off, hA, hb, hc⟩ := hx hp
  refine ⟨b, off, hA, hb, fun j x hj => ?_⟩
  have := hc j (List.getElem?_eq_some_iff.1 hj).1
  rwa [hj, Option.getD_some] at this
def idxS (s : ByteArray) (xs : List ByteArray) : Int := match findS s xs 0 with | some i => (i : Int) | none => -1
theorem findS_from {s : ByteArray} : ∀ (xs : List ByteArray) (i p : Nat), xs[p]? = some s → (∀ m, m < p → xs[m]? ≠ some s) → findS s xs i = some (i + p)
  | [], i, p, h, _ => by simp at h
  | x :: r, i, p, h, hn => by
    rw [findS]
    cases p with
    | zero => rw [if_pos (Option.some.inj h)]; rfl
    | succ p =>
      rw [if_neg (fun e => hn 0 (by omega) (by rw [e]; rfl)), findS_from r (i + 1) p (by simpa using h) (fun m hm => by have := hn (m + 1) (by omega); simpa using this)]
      congr 1; omega
theorem findS_no {s : ByteArray} : ∀ (xs : List ByteArray) (i : Nat), (∀ m, m < xs.length → xs[m]? ≠ some s) → findS s xs i = none
  | [], i, _ => rfl
  | x :: r, i, hn => by
    rw [findS, if_neg (fun e => hn 0 (by simp) (by rw [e]; rfl)), findS_no r (i + 1) (fun m hm => by have := hn (m + 1) (by rw [List.length_cons]; omega); simpa using this)]
theorem idxS_at {s : ByteArray} {xs : List ByteArray} {p : Nat} (h : xs[p]? = some s) (hn : ∀ m, m < p → xs[m]? ≠ some s) : idxS s xs = p := by
  rw [idxS, findS_from xs 0 p h hn, Nat.zero_add]
theorem idxS_end {s : ByteArray} {xs : List ByteArray} (hn : ∀ m, m < xs.length → xs[m]? ≠ some s) : idxS s xs = -1 := by
  rw [idxS, findS_no xs 0 hn]
theorem idxS_in {s : ByteArray} {xs : List ByteArray} (h : s ∈ xs) : 0 ≤ idxS s xs := by
  unfold idxS
  cases hf : findS s xs 0 with
  | none =>
    obtain ⟨j, hj⟩ := List.getElem?_of_mem h
    exact absurd hj (findS_none hf j)
  | some p => show (0 : Int) ≤ (p : Nat); omega
theorem idxS_out {s : ByteArray} {xs : List ByteArray} (h : s ∉ xs) : idxS s xs = -1 :=
  idxS_end fun _ _ e => h (List.mem_of_getElem? e)
set_option maxRecDepth 100000 in
set_option maxHeartbeats 1000000 in
theorem index_any (v : Value) (xs : List ByteArray) (s : ByteArray) (w : World) (hS : Strs w v xs) (hl : xs.length ≤ 9223372036854775807) : Calls Tryz.prog 106 #[v, .string s] w fun e w' => e = .returned (.int .i64 (idxS s xs)) ∧ w = w' := by
  obtain ⟨A, cap, rfl, hA⟩ := hS.at3
  obtain ⟨n, hn⟩ : ∃ n, n = xs.length := ⟨_, rfl⟩
  rw [← hn] at hA hl ⊢
  have HN := Lib.hid hn
  clear hn hS
  go_enter Tryz.func106, Tryz.ntmps106
  go_wp2_with fail
  go_loopw [8] (fun z wr => ∃ p : Nat, z = .int .i64 p ∧ p ≤ n ∧ w = wr ∧ (∀ m, m < p → xs[m]? ≠ some s)) (fun z _ => n - (intOf z).toNat)
  case atStart => exact ⟨0, rfl, Nat.zero_le _, rfl, fun _ h => by omega⟩
  case round =>
    obtain ⟨p, rfl, hpn, rfl, hno⟩ := hrel
    by_cases hp : p < n
    · obtain ⟨b1, o1, rfl, hb1, hc1⟩ := hA (by omega)
      have hg : xs[p]? = some (xs[p]'(by have := HN.out; omega)) := List.getElem?_eq_getElem _
      have X0 := hc1 p _ hg
      generalize xs[p]'(by have := HN.out; omega) = X at *
      have hpi : (p : Int) < n := by omega
      have heq := neqE s X
      clear hc1
      by_cases hx : s = X
      · subst hx
        rw [decide_eq_true rfl] at heq
        have HR := Lib.hid (idxS_at hg hno)
        clear hg hno
        go_wp2_with fail
        go_ret
        rw [HR.out]
        exact ⟨rfl, rfl⟩
      · rw [decide_eq_false hx] at heq
        have HNO := Lib.hid (show ∀ m, m < p + 1 → xs[m]? ≠ some s from fun m hm => by
          by_cases h : m = p
          · subst h; rw [hg]; exact fun e => hx (Option.some.inj e).symm
          · exact hno m (by omega))
        clear hg hno hx
        go_wp2_with fail
        go_roundw
        case rel => exact ⟨p + 1, rfl, hp, trivial, HNO.out⟩
        case measure => simp [intOf]; omega
    · obtain rfl : n = p := by omega
      have hpi : ¬ ((n : Int) < n) := by omega
      have HR := Lib.hid (idxS_end (s := s) (xs := xs) (by rw [← HN.out]; exact hno))
      clear hno hA
      go_wp2_with fail
      go_ret
      rw [HR.out]
      exact ⟨rfl, rfl⟩
end Go.Proofs.YtdnjfpmngnkcfaaGreatDoor
/- What find of the parser of package exprtext computes. -/
namespace Go.Proofs.YtdnjfpmngnkcfaaGreatDoor
open Go.RowKit

set_option maxRecDepth 100000 in
set_option maxHeartbeats 4000000 in
theorem find_any {w0 w : World} {g B : Nat} {tv : Value} {E : Int} {n0 n1 n2 n3 n4 : Value} {toks : List Tok} {s : PS} (h : PSt w0 w g B tv E n0 n1 n2 n3 n4 toks s) (hT : Toks w0 tv toks) (hl : toks.length ≤ 1000000)
    (hsz : (hdT s.ts 0).t.length ≤ 1000000) (lv : Value) (l : List ByteArray) (hL : Strs w0 lv l) (hll : l.length ≤ 9223372036854775807) :
    Calls Tryz.prog 101 #[.pointer (some ⟨g, 0, none⟩), lv] w fun e w' => e = .returned (opV ((findR E l s).1.map fun i => (i : Int))) ∧ PSt w0 w' g B tv E n0 n1 n2 n3 n4 toks (findR E l s).2 := by
  have HPK := Lib.hid (ppeek_any h hT hl 0 (by decide))
  rw [show (.int .i64 ((0 : Nat) : Int) : Value) = .int .i64 0 from rfl] at HPK
  have HF2 := Lib.hid (fun (w1 : World) (h1 : PSt w0 w1 g B tv E n0 n1 n2 n3 n4 toks s) => pfail_any h1 hT hl 2)
  have HF6 := Lib.hid (fun (w1 : World) (h1 : PSt w0 w1 g B tv E n0 n1 n2 n3 n4 toks s) => pfail_any h1 hT hl 6)
  unfold PPost at HF2 HF6
  have HPO := Lib.hid (hd_pos (s := s))
  have hRR : findR E l s = if (hdT s.ts 0).k ≠ 1 ∨ idB (hdT s.ts 0).t = false then (none, s.bad E 2) else match findS (bs (hdT s.ts 0).t) l 0 with | none => (none, s.bad E 6) | some i => (some i, s.adv 1) := rfl
  unfold tokA at HPK
  generalize hdT s.ts 0 = T at *
  obtain ⟨tk, tt, tn, tf⟩ := T
  dsimp only at HPK HPO hRR hsz
  have HID := Lib.hid (fun w => isId_any (bs tt) (by rw [bs_size]; exact hsz) w)
  rw [L_bs] at HID
  have HIX := Lib.hid (fun w1 (hk : Kept w0 w1) => index_any lv l (bs tt) w1 (hL.kept hk) hll)
  unfold idxS at HIX
  clear h hT
  generalize idB tt = d at *
  generalize findS (bs tt) l 0 = fo at *
  generalize bs tt = X at *
  by_cases hk : tk = 1
  · subst hk
    cases d
    · rw [if_pos (.inr rfl)] at hRR
      have HR := Lib.hid hRR
      clear hRR HPO
      go_enter Tryz.func101, Tryz.ntmps101
      go_wp2_with (first
        | (go_at_call 49; refine HPK.out.mono ?_; rintro e w1 ⟨rfl, hs1⟩)
        | (go_at_call 103; refine (HID.out _).mono ?_; rintro e w' ⟨rfl, rfl⟩)
        | (go_at_call 106; refine (HIX.out _ (hs1.kept ((Kept.refl _).alloc _)).old).mono ?_; rintro e w3 ⟨rfl, rfl⟩)
        | (go_at_call 20; refine (HF2.out _ (hs1.kept ((Kept.refl _).alloc _))).mono ?_; rintro e w2 ⟨rfl, hs2⟩))
      go_ret2
      rw [HR.out]
      exact ⟨rfl, hs2⟩
    · rw [if_neg (by simp)] at hRR
      cases fo with
      | none =>
        have HR := Lib.hid hRR
        clear hRR HPO
        dsimp only at HIX
        go_enter Tryz.func101, Tryz.ntmps101
        go_wp2_with (first
          | (go_at_call 49; refine HPK.out.mono ?_; rintro e w1 ⟨rfl, hs1⟩)
          | (go_at_call 103; refine (HID.out _).mono ?_; rintro e w' ⟨rfl, rfl⟩)
          | (go_at_call 106; refine (HIX.out _ (hs1.kept ((Kept.refl _).alloc _)).old).mono ?_; rintro e w3 ⟨rfl, rfl⟩)
          | (go_at_call 20; refine (HF6.out _ (hs1.kept ((Kept.refl _).alloc _))).mono ?_; rintro e w2 ⟨rfl, hs2⟩))
        go_ret2
        rw [HR.out]
        exact ⟨rfl, hs2⟩
      | some p =>
        have HR := Lib.hid hRR
        clear hRR HF2 HF6
        dsimp only at HIX
        have hp0 : ¬ ((p : Int) < 0) := by omega
        go_enter Tryz.func101, Tryz.ntmps101
        go_wp2_with (first
          | (go_at_call 49; refine HPK.out.mono ?_; rintro e w1 ⟨rfl, hs1⟩; obtain ⟨q1, q2, q3, q4, i, nv, q5, q6, q7, q8⟩ := hs1.kept ((Kept.refl _).alloc (.cells #[.int .i64 1, .string X, .int .i64 tn, .int .i64 tf] 73)); have hlen : i + 1 ≤ toks.length := (by have := HPO.out (by decide); rw [q7, List.length_drop] at this; omega); have hwi : IntKind.i64.wrap ((i : Int) + 1) = (i : Int) + 1 := (by rw [IntKind.wrap_i64]; omega); have HQ := Lib.hid q5; unfold PCell at q5; have p1 := q5.cell 1; have pl := q5.lt; have pf := q5.frozen; simp at p1)
          | (go_at_call 103; refine (HID.out _).mono ?_; rintro e w' ⟨rfl, rfl⟩)
          | (go_at_call 106; refine (HIX.out _ q1).mono ?_; rintro e w3 ⟨rfl, rfl⟩))
        go_ret2
        rw [HR.out]
        refine ⟨rfl, q1.setCell q2 _, q2, q3, by simp at q4 ⊢; omega, i + 1, nv, ?_, hlen, ?_, q8.far q3 _⟩
        · exact Blk.set_ HQ.out 1 _
        · show (s.adv 1).ts = _
          unfold PS.adv
          dsimp only
          rw [q7, List.drop_drop]
  · rw [if_pos (.inl hk)] at hRR
    have HR := Lib.hid hRR
    have hkb := bne_noB hk
    clear hRR HPO
    go_enter Tryz.func101, Tryz.ntmps101
    go_wp2_with (first
      | (go_at_call 49; refine HPK.out.mono ?_; rintro e w1 ⟨rfl, hs1⟩)
      | (go_at_call 103; refine (HID.out _).mono ?_; rintro e w' ⟨rfl, rfl⟩)
      | (go_at_call 106; refine (HIX.out _ (hs1.kept ((Kept.refl _).alloc _)).old).mono ?_; rintro e w3 ⟨rfl, rfl⟩)
      | (go_at_call 20; refine (HF2.out _ (hs1.kept ((Kept.refl _).alloc _))).mono ?_; rintro e w2 ⟨rfl, hs2⟩))
    go_ret2
    rw [HR.out]
    exact ⟨rfl, hs2⟩
end Go.Proofs.YtdnjfpmngnkcfaaGreatDoor
/- The parser of expressions in plain Lean: no more nodes are made than tokens are read. -/
namespace Go.Proofs.YtdnjfpmngnkcfaaGreatDoor

/-- nodes and tokens that are left -/
def mN (s : PS) : Nat := s.ns.length + s.ts.length
def leN (m : Nat) (r : PR) : Prop := ∀ b s, r = some (b, s) → mN s ≤ m
theorem leN.mono {m k : Nat} {r : PR} (h : leN m r) (hm : m ≤ k) : leN k r := fun b s e => Nat.le_trans (h b s e) hm
theorem leN_then {m k : Nat} {r : PR} {f : PS → PR} (h : leN m r) (hm : m ≤ k) (hf : ∀ s, mN s ≤ m → leN k (f s)) : leN k (thenP r f) := by
  intro b s e
  match r, h, e with
  | none, _, e => cases e
  | some (true, s1), h, e => exact hf s1 (h _ _ rfl) b s e
  | some (false, s1), h, e =>
    obtain ⟨rfl, rfl⟩ : false = b ∧ s1 = s := by
      have := Option.some.inj e
      exact ⟨congrArg Prod.fst this, congrArg Prod.snd this⟩
    exact Nat.le_trans (h _ _ rfl) hm
theorem leN_some {b : Bool} {s : PS} {k : Nat} (h : mN s ≤ k) : leN k (some (b, s)) := by
  intro b' s' e
  have := Option.some.inj e
  rw [← show s = s' from congrArg Prod.snd this]
  exact h
theorem mN_em (s : PS) (o n : Int) : mN (s.em o n) = mN s + 1 := by
  show (s.ns ++ [_]).length + s.ts.length = s.ns.length + s.ts.length + 1
  rw [List.length_append, List.length_singleton]; omega
theorem mN_bad (E c : Int) (s : PS) : mN (s.bad E c) = mN s := rfl
theorem mN_adv (s : PS) (k : Nat) : mN (s.adv k) ≤ mN s := by
  show s.ns.length + (s.ts.drop k).length ≤ s.ns.length + s.ts.length
  rw [List.length_drop]; omega
theorem mN_adv1 {s : PS} {j : Nat} (h : 0 < s.ts.length) (hj : 0 < j) : mN (s.adv j) + 1 ≤ mN s := by
  show s.ns.length + (s.ts.drop j).length + 1 ≤ s.ns.length + s.ts.length
  rw [List.length_drop]; omega
theorem leN_em {s : PS} {o n : Int} {k : Nat} (h : mN s + 1 ≤ k) : leN k (emP o n s) := leN_some (by rw [mN_em]; exact h)
theorem leN_bad {s : PS} {E c : Int} {k : Nat} (h : mN s ≤ k) : leN k (badP E c s) := leN_some (by rw [mN_bad]; exact h)
theorem leN_exp (E k : Int) (t : List UInt8) (s : PS) : leN (mN s) (expP E k t s) := by
  unfold expP
  split
  · exact leN_some (mN_adv s 1)
  · exact leN_some (Nat.le_refl _)
theorem leN_ite {c : Prop} [Decidable c] {k : Nat} {a b : PR} (h1 : c → leN k a) (h2 : ¬ c → leN k b) : leN k (if c then a else b) := by
  by_cases h : c
  · rw [if_pos h]; exact h1 h
  · rw [if_neg h]; exact h2 h
theorem leN_find {E : Int} {l : List ByteArray} {s : PS} {f : Nat → PS → PR} {k : Nat} (hk : mN s ≤ k) (hf : ∀ i s', mN s' + 1 ≤ mN s → leN k (f i s')) : leN k (withR (findR E l s) f) := by
  unfold findR
  split
  · exact leN_some hk
  · rename_i hk1
    have hlt : 0 < s.ts.length := hdT_lt (i := 1) (by
      by_cases h1 : (hdT s.ts 0).k = 1
      · exact h1
      · exact absurd (.inl h1) hk1) (by decide)
    split
    · exact leN_some hk
    · exact hf _ _ (mN_adv1 hlt (by decide))
theorem leN_mode {E : Int} {s : PS} {f : Int → PS → PR} {k : Nat} (hk : mN s ≤ k) (hf : ∀ i s', mN s' ≤ mN s → leN k (f i s')) : leN k (withR (modeR E s) f) := by
  unfold modeR
  split
  · exact leN_some hk
  · exact hf _ _ (mN_adv s 1)
def boN : NT → Nat
  | .call _ => 1 | _ => 0
theorem parR_ns (E : Int) (nm : Nm) : ∀ (f : Nat) (nt : NT) (s : PS), leN (mN s + boN nt) (parR E nm f nt s)
  | 0, nt, s => fun b s' e => by rw [parR] at e; cases e
  | f + 1, .expr, s => by
    rw [parR]
    refine leN_ite (fun ha => ?_) (fun _ => parR_ns E nm f (.bin 1) s)
    have h0 := mN_adv1 (j := 1) (atB_lt ha (by decide)) (by decide)
    refine leN_then (parR_ns E nm f .expr _) (by show _ + 0 ≤ _ + 0; omega) fun s1 h1 => ?_
    refine leN_then (leN_exp E 1 _ s1) (by show _ ≤ _ + 0; change mN s1 ≤ _ + 0 at h1; omega) fun s2 h2 => ?_
    refine leN_then (parR_ns E nm f .expr s2) (by show _ + 0 ≤ _ + 0; change mN s1 ≤ _ + 0 at h1; omega) fun s3 h3 => ?_
    refine leN_then (leN_exp E 1 _ s3) (by show _ ≤ _ + 0; change mN s1 ≤ _ + 0 at h1; change mN s3 ≤ _ + 0 at h3; omega) fun s4 h4 => ?_
    refine leN_then (parR_ns E nm f .expr s4) (by show _ + 0 ≤ _ + 0; change mN s1 ≤ _ + 0 at h1; change mN s3 ≤ _ + 0 at h3; omega) fun s5 h5 => ?_
    exact leN_em (by show _ ≤ _ + 0; change mN s1 ≤ _ + 0 at h1; change mN s3 ≤ _ + 0 at h3; change mN s5 ≤ _ + 0 at h5; omega)
  | f + 1, .bin c, s => by
    rw [parR]
    exact leN_then (parR_ns E nm f .un s) (Nat.le_refl _) fun s1 h1 => (parR_ns E nm f (.loop c 5) s1).mono h1
  | f + 1, .loop c g, s => by
    rw [parR]
    refine leN_ite (fun _ => leN_some (Nat.le_refl _)) (fun ho => ?_)
    have h0 := mN_adv1 (j := 1) (opOf_lt (s := s) (fun h => ho (.inl h))) (by decide)
    refine leN_then (parR_ns E nm f (.bin _) _) (by show _ + 0 ≤ _ + 0; omega) fun s1 h1 => ?_
    exact (parR_ns E nm f (.loop c _) _).mono (by rw [mN_em]; show _ + 0 ≤ _ + 0; change mN s1 ≤ _ + 0 at h1; omega)
  | f + 1, .un, s => by
    rw [parR]
    refine leN_ite (fun ha => ?_) (fun _ => leN_ite (fun ha => ?_) (fun _ => parR_ns E nm f .atom s))
    · have h0 := fun j => mN_adv1 (j := j) (atB_lt ha (by decide))
      refine leN_ite (fun _ => leN_em (h0 2 (by decide))) (fun _ => ?_)
      have h1 := h0 1 (by decide)
      exact leN_then (parR_ns E nm f .un _) (by show _ + 0 ≤ _ + 0; omega) fun s1 h2 => leN_em (by show _ ≤ _ + 0; change mN s1 ≤ _ + 0 at h2; omega)
    · have h1 := mN_adv1 (j := 1) (atB_lt ha (by decide)) (by decide)
      exact leN_then (parR_ns E nm f .un _) (by show _ + 0 ≤ _ + 0; omega) fun s1 h2 => leN_em (by show _ ≤ _ + 0; change mN s1 ≤ _ + 0 at h2; omega)
  | f + 1, .atom, s => by
    rw [parR]
    refine leN_ite (fun hl => leN_em (mN_adv1 (litO_lt hl) (by decide))) (fun _ => leN_ite (fun hk => leN_em (mN_adv1 (hdT_lt hk (by decide)) (by decide))) (fun _ => leN_ite (fun ha => ?_) (fun _ => leN_ite (fun _ => leN_bad (Nat.le_refl _)) (fun hk1 => ?_))))
    · exact leN_then (parR_ns E nm f .expr _) (by show _ + 0 ≤ _ + 0; exact mN_adv s 1) fun s1 h1 => (leN_exp E 7 _ s1).mono (by change mN s1 ≤ _ + 0 at h1; exact Nat.le_trans h1 (mN_adv s 1))
    · have hl := hdT_lt (Decidable.not_not.1 hk1) (by decide)
      have h0 := mN_adv1 (j := 1) hl (by decide)
      refine leN_ite (fun _ => leN_em h0) (fun _ => leN_ite (fun _ => leN_em h0) (fun _ => leN_ite (fun _ => leN_em h0) (fun _ => leN_ite (fun _ => ?_) (fun _ => ?_))))
      · refine leN_then (leN_exp E 7 _ _) (mN_adv s 1) fun s1 h1 => ?_
        refine leN_then (parR_ns E nm f (.call _) s1) (by show _ + 1 ≤ _ + 0; omega) fun s2 h2 => (leN_exp E 7 _ s2).mono (by change mN s2 ≤ _ + 1 at h2; show _ ≤ _ + 0; omega)
      · unfold nameR
        refine leN_ite (fun _ => leN_bad (Nat.le_refl _)) (fun _ => leN_ite (fun hc => ?_) (fun _ => ?_))
        · split
          · exact leN_bad (Nat.le_refl _)
          · exact leN_find (mN_adv s 2) fun i s' hs' => leN_em (by have := mN_adv s 2; show _ ≤ _ + 0; omega)
        · split
          · exact leN_em h0
          · exact leN_find (Nat.le_refl _) fun i s' hs' => leN_em hs'
  | f + 1, .call op, s => by
    rw [parR]
    refine leN_ite (fun _ => leN_em (Nat.le_refl _)) (fun _ => leN_ite (fun _ => ?_) (fun _ => leN_ite (fun _ => ?_) (fun _ => ?_)))
    · exact leN_find (by show _ ≤ _ + 1; omega) fun i s' hs' => leN_em (by show _ ≤ _ + 1; omega)
    · refine leN_find (by show _ ≤ _ + 1; omega) fun i s1 h1 => ?_
      refine leN_then (leN_exp E 7 _ s1) (by show _ ≤ _ + 1; omega) fun s2 h2 => ?_
      refine leN_then (parR_ns E nm f .expr s2) (by show _ + 0 ≤ _ + 1; omega) fun s3 h3 => ?_
      change mN s3 ≤ _ + 0 at h3
      refine leN_ite (fun _ => leN_em (by show _ ≤ _ + 1; omega)) (fun _ => ?_)
      refine leN_then (leN_exp E 7 _ s3) (by show _ ≤ _ + 1; omega) fun s4 h4 => ?_
      exact leN_mode (by show _ ≤ _ + 1; omega) fun j s' hs' => leN_em (by show _ ≤ _ + 1; omega)
    · refine leN_then (parR_ns E nm f .expr s) (by show _ + 0 ≤ _ + 1; omega) fun s1 h1 => ?_
      change mN s1 ≤ _ + 0 at h1
      refine leN_ite (fun _ => leN_em (by show _ ≤ _ + 1; omega)) (fun _ => ?_)
      refine leN_then (leN_exp E 7 _ s1) (by show _ ≤ _ + 1; omega) fun s2 h2 => ?_
      refine leN_then (parR_ns E nm f .expr s2) (by show _ + 0 ≤ _ + 1; omega) fun s3 h3 => ?_
      change mN s3 ≤ _ + 0 at h3
      refine leN_ite (fun _ => ?_) (fun _ => leN_em (by show _ ≤ _ + 1; omega))
      refine leN_then (leN_exp E 7 _ s3) (by show _ ≤ _ + 1; omega) fun s4 h4 => ?_
      exact leN_mode (by show _ ≤ _ + 1; omega) fun j s' hs' => leN_em (by show _ ≤ _ + 1; omega)
end Go.Proofs.YtdnjfpmngnkcfaaGreatDoor
/- The parser of package exprtext: what its methods are called with, what they leave. -/
namespace Go.Proofs.YtdnjfpmngnkcfaaGreatDoor
open Go.RowKit

/-- the tokens and the names of a parser -/
structure PCx (w0 : World) (tv n0 n1 n2 n3 n4 : Value) (toks : List Tok) (nm : Nm) : Prop where
  hT : Toks w0 tv toks
  hl : toks.length ≤ 1000000
  sz : ∀ t ∈ toks, t.t.length ≤ 1000000
  nb : ∀ t ∈ toks, -1000000000000000000 ≤ t.n ∧ t.n ≤ 1000000000000000000
  en : EnumsN w0 n0 nm.en nm.ms
  tb : Strs w0 n1 nm.tb
  ins : Strs w0 n2 nm.ins
  ds : Strs w0 n3 nm.ds
  md : Strs w0 n4 nm.md
  el : nm.ms.length ≤ 1000000
  ml : ∀ l ∈ nm.ms, l.length ≤ 1000000
  tl : nm.tb.length ≤ 1000000
  il : nm.ins.length ≤ 1000000
  dl : nm.ds.length ≤ 1000000
  mdl : nm.md.length ≤ 1000000
section
variable {w0 : World} {g B : Nat} {tv : Value} {E : Int} {n0 n1 n2 n3 n4 : Value} {toks : List Tok} {nm : Nm} {w : World} {s : PS}
/-- the place of the parser, ahead of a step of it -/
theorem PSt.pos (h : PSt w0 w g B tv E n0 n1 n2 n3 n4 toks s) (hl : toks.length ≤ 1000000) : ∃ i : Nat, w.cell? ⟨g, 1, none⟩ = some (.int .i64 (i : Int)) ∧ g < w.heap.size ∧ (∀ j, w.frozen? ⟨g, j, none⟩ = false) ∧
    (1 ≤ s.ts.length → IntKind.i64.wrap ((i : Int) + 1) = (i : Int) + 1 ∧ PSt w0 (w.setCell ⟨g, 1, none⟩ (.int .i64 ((i : Int) + 1))) g B tv E n0 n1 n2 n3 n4 toks (s.adv 1)) ∧
    (2 ≤ s.ts.length → IntKind.i64.wrap ((i : Int) + 2) = (i : Int) + 2 ∧ PSt w0 (w.setCell ⟨g, 1, none⟩ (.int .i64 ((i : Int) + 2))) g B tv E n0 n1 n2 n3 n4 toks (s.adv 2)) := by
  obtain ⟨q1, q2, q3, q4, i, nv, q5, q6, q7, q8⟩ := h
  have hlen : i + s.ts.length = toks.length := by rw [q7, List.length_drop]; omega
  have hst : ∀ (k : Nat) (u : Int), u = (i : Int) + k → k ≤ s.ts.length → PSt w0 (w.setCell ⟨g, 1, none⟩ (.int .i64 u)) g B tv E n0 n1 n2 n3 n4 toks (s.adv k) := by
    intro k u hu hk
    subst hu
    refine ⟨q1.setCell q2 _, q2, q3, by simp; omega, i + k, nv, ?_, by omega, ?_, q8.far q3 _⟩
    · have := Blk.set_ q5 1 (.int .i64 ((i : Int) + k))
      exact this
    · show s.ts.drop k = _
      rw [q7, List.drop_drop]
  have hP := q5
  unfold PCell at hP
  have p1 := hP.cell 1
  simp only [List.getElem?_toArray, List.getElem?_cons_zero, List.getElem?_cons_succ] at p1
  refine ⟨i, p1, hP.lt, fun j => hP.frozen j, fun h1 => ⟨by rw [IntKind.wrap_i64]; omega, hst 1 _ rfl h1⟩, fun h1 => ⟨by rw [IntKind.wrap_i64]; omega, hst 2 _ rfl h1⟩⟩
/-- the names of the parser -/
theorem PSt.nms (h : PSt w0 w g B tv E n0 n1 n2 n3 n4 toks s) : w.cell? ⟨g, 3, none⟩ = some n0 ∧ w.cell? ⟨g, 4, none⟩ = some n1 ∧ w.cell? ⟨g, 5, none⟩ = some n2 ∧ w.cell? ⟨g, 6, none⟩ = some n3 ∧ w.cell? ⟨g, 7, none⟩ = some n4 := by
  obtain ⟨i, nv, q5, _⟩ := h.at_
  unfold PCell at q5
  exact ⟨q5.cell 3, q5.cell 4, q5.cell 5, q5.cell 6, q5.cell 7⟩
theorem PSt.sub (h : PSt w0 w g B tv E n0 n1 n2 n3 n4 toks s) (k : Nat) : hdT s.ts k = tok0 ∨ hdT s.ts k ∈ toks := by
  obtain ⟨i, nv, q5, q6, q7, q8⟩ := h.at_
  unfold hdT
  cases hx : s.ts[k]? with
  | none => exact .inl rfl
  | some x =>
    right
    have := List.mem_of_getElem? hx
    rw [q7] at this
    exact List.mem_of_mem_drop this
theorem PSt.tsz (h : PSt w0 w g B tv E n0 n1 n2 n3 n4 toks s) (C : PCx w0 tv n0 n1 n2 n3 n4 toks nm) (k : Nat) : (hdT s.ts k).t.length ≤ 1000000 ∧ -1000000000000000000 ≤ (hdT s.ts k).n ∧ (hdT s.ts k).n ≤ 1000000000000000000 := by
  rcases h.sub k with e | e
  · rw [e]; decide
  · exact ⟨C.sz _ e, C.nb _ e⟩
/-- a test of the next token leaves all memory as it was -/
theorem patK_any (h : PSt w0 w g B tv E n0 n1 n2 n3 n4 toks s) (C : PCx w0 tv n0 n1 n2 n3 n4 toks nm) (kd : Int) (t : List UInt8) :
    Calls Tryz.prog  34 #[.pointer (some ⟨g, 0, none⟩), .int .i64 kd, .string (bs t)] w fun e w' => e = .returned (.bool (atB s kd t)) ∧ Kept w w' := by
  obtain ⟨i, nv, h5, h6, h7, h8⟩ := h.at_
  refine (at_any g tv i E n0 n1 n2 n3 n4 nv s.off s.code toks w h5 (C.hT.kept h.old) h6 C.hl kd (bs t)).mono ?_
  rintro e w' ⟨rfl, hk⟩
  refine ⟨?_, hk⟩
  rw [L_bs, ← h7]; rfl
theorem ppeekK_any (h : PSt w0 w g B tv E n0 n1 n2 n3 n4 toks s) (C : PCx w0 tv n0 n1 n2 n3 n4 toks nm) (k : Nat) (hk : k ≤ 1) : Calls Tryz.prog  49 #[.pointer (some ⟨g, 0, none⟩), .int .i64 k] w fun e w' => e = .returned (tokA (hdT s.ts k)) ∧ Kept w w' := by
  obtain ⟨i, nv, h5, h6, h7, h8⟩ := h.at_
  refine (peek_any g tv i k E n0 n1 n2 n3 n4 nv s.off s.code toks w h5 (C.hT.kept h.old) h6 hk C.hl).mono ?_
  rintro e w' ⟨rfl, hk⟩
  rw [h7]
  exact ⟨rfl, hk⟩
end
/-- what reading leaves -/
def PRes (w0 : World) (g B : Nat) (tv : Value) (E : Int) (n0 n1 n2 n3 n4 : Value) (toks : List Tok) (nm : Nm) (F : Nat) (nt : NT) (s : PS) (e : Ending) (w' : World) : Prop :=
  ∃ b s', parR E nm F nt s = some (b, s') ∧ PPost w0 g B tv E n0 n1 n2 n3 n4 toks (b) (s') e w'
def ntF : NT → FuncId
  | .expr => 19 | .bin _ => 35 | .loop _ _ => 0 | .un => 50 | .atom => 67 | .call _ => 85
def ntA (g : Nat) : NT → Array Value
  | .bin c => #[.pointer (some ⟨g, 0, none⟩), .int .i64 c] | .call op => #[.pointer (some ⟨g, 0, none⟩), .int .i64 op] | _ => #[.pointer (some ⟨g, 0, none⟩)]
def okNT : NT → Prop
  | .bin c => 1 ≤ c ∧ c ≤ 6 | .call op => ∃ t, callO t = op ∧ op ≠ 0 | .loop _ _ => False | _ => True
/-- each reading with that much fuel -/
def ParOK (w0 : World) (g B : Nat) (tv : Value) (E : Int) (n0 n1 n2 n3 n4 : Value) (toks : List Tok) (nm : Nm) (F : Nat) : Prop :=
  ∀ nt s w, okNT nt → 8 * s.ts.length + rankN nt < F → mN s + boN nt ≤ 4000000 → PSt w0 w g B tv E n0 n1 n2 n3 n4 toks s → Calls Tryz.prog (ntF nt) (ntA g nt) w (PRes w0 g B tv E n0 n1 n2 n3 n4 toks nm (F) (nt) (s))
section
variable {w0 : World} {g B : Nat} {tv : Value} {E : Int} {n0 n1 n2 n3 n4 : Value} {toks : List Tok} {nm : Nm} {F : Nat}
theorem ParOK.expr (h : ParOK w0 g B tv E n0 n1 n2 n3 n4 toks nm F) (s : PS) (w : World) (h1 : 8 * s.ts.length + 6 < F) (h2 : mN s ≤ 4000000) (h3 : PSt w0 w g B tv E n0 n1 n2 n3 n4 toks s) : Calls Tryz.prog  19 #[.pointer (some ⟨g, 0, none⟩)] w (PRes w0 g B tv E n0 n1 n2 n3 n4 toks nm (F) (.expr) (s)) := h .expr s w trivial h1 h2 h3
theorem ParOK.bin (h : ParOK w0 g B tv E n0 n1 n2 n3 n4 toks nm F) (c : Int) (hc : 1 ≤ c ∧ c ≤ 6) (s : PS) (w : World) (h1 : 8 * s.ts.length + 5 < F) (h2 : mN s ≤ 4000000) (h3 : PSt w0 w g B tv E n0 n1 n2 n3 n4 toks s) : Calls Tryz.prog  35 #[.pointer (some ⟨g, 0, none⟩), .int .i64 c] w (PRes w0 g B tv E n0 n1 n2 n3 n4 toks nm (F) (.bin c) (s)) := h (.bin c) s w hc h1 h2 h3
theorem ParOK.un (h : ParOK w0 g B tv E n0 n1 n2 n3 n4 toks nm F) (s : PS) (w : World) (h1 : 8 * s.ts.length + 4 < F) (h2 : mN s ≤ 4000000) (h3 : PSt w0 w g B tv E n0 n1 n2 n3 n4 toks s) : Calls Tryz.prog  50 #[.pointer (some ⟨g, 0, none⟩)] w (PRes w0 g B tv E n0 n1 n2 n3 n4 toks nm (F) (.un) (s)) := h .un s w trivial h1 h2 h3
theorem ParOK.atom (h : ParOK w0 g B tv E n0 n1 n2 n3 n4 toks nm F) (s : PS) (w : World) (h1 : 8 * s.ts.length + 3 < F) (h2 : mN s ≤ 4000000) (h3 : PSt w0 w g B tv E n0 n1 n2 n3 n4 toks s) : Calls Tryz.prog  67 #[.pointer (some ⟨g, 0, none⟩)] w (PRes w0 g B tv E n0 n1 n2 n3 n4 toks nm (F) (.atom) (s)) := h .atom s w trivial h1 h2 h3
theorem ParOK.call (h : ParOK w0 g B tv E n0 n1 n2 n3 n4 toks nm F) (op : Int) (hc : ∃ t, callO t = op ∧ op ≠ 0) (s : PS) (w : World) (h1 : 8 * s.ts.length + 7 < F) (h2 : mN s + 1 ≤ 4000000) (h3 : PSt w0 w g B tv E n0 n1 n2 n3 n4 toks s) : Calls Tryz.prog  85 #[.pointer (some ⟨g, 0, none⟩), .int .i64 op] w (PRes w0 g B tv E n0 n1 n2 n3 n4 toks nm (F) (.call op) (s)) := h (.call op) s w hc h1 h2 h3
end
end Go.Proofs.YtdnjfpmngnkcfaaGreatDoor
/- What unary of the parser of package exprtext computes. -/
namespace Go.Proofs.YtdnjfpmngnkcfaaGreatDoor
open Go.RowKit

section
variable {w0 : World} {g B : Nat} {tv : Value} {E : Int} {n0 n1 n2 n3 n4 : Value} {toks : List Tok} {nm : Nm} {F : Nat}
theorem PRes.mk {nt : NT} {s s' : PS} {b : Bool} {w' : World} (h : parR E nm F nt s = some (b, s')) (hs : PSt w0 w' g B tv E n0 n1 n2 n3 n4 toks s') : PRes w0 g B tv E n0 n1 n2 n3 n4 toks nm (F) (nt) (s) (.returned (.bool b)) w' := ⟨b, s', h, rfl, hs⟩
theorem parR_mN {nt : NT} {s s' : PS} {b : Bool} {m : Nat} (h : parR E nm F nt s = some (b, s')) (hm : mN s + boN nt ≤ m) : mN s' ≤ m := Nat.le_trans (parR_ns E nm F nt s b s' h) hm
theorem mN_ns {s : PS} (h : mN s ≤ 4000001) : s.ns.length ≤ 8000000 := by unfold mN at h; omega
set_option maxRecDepth 100000 in
set_option maxHeartbeats 4000000 in
theorem un_step (C : PCx w0 tv n0 n1 n2 n3 n4 toks nm) (IH : ParOK w0 g B tv E n0 n1 n2 n3 n4 toks nm F) (s : PS) (w : World) (hf : 8 * s.ts.length + 4 < F + 1) (hm : mN s ≤ 4000000) (h : PSt w0 w g B tv E n0 n1 n2 n3 n4 toks s) : Calls Tryz.prog  50 #[.pointer (some ⟨g, 0, none⟩)] w (PRes w0 g B tv E n0 n1 n2 n3 n4 toks nm (F+1) (.un) (s)) := by
  have HA1 := patK_any h C 7 [45]
  have HA2 := fun w1 (hk : Kept w w1) => patK_any (h.kept hk) C 1 [110, 111, 116]
  rw [show bs [45] = ⟨#[45]⟩ from rfl] at HA1
  rw [show bs [110, 111, 116] = ⟨#[110, 111, 116]⟩ from rfl] at HA2
  cases hb1 : atB s 7 [45]
  · rw [hb1] at HA1
    replace HA1 := Lib.hid HA1
    cases hb2 : atB s 1 [110, 111, 116]
    · rw [hb2] at HA2
      replace HA2 := Lib.hid HA2
      have HT := Lib.hid (fun w1 (h1 : PSt w0 w1 g B tv E n0 n1 n2 n3 n4 toks s) => IH.atom s w1 (by omega) hm h1)
      have HR := Lib.hid (show parR E nm (F + 1) .un s = parR E nm F .atom s by rw [parR, if_neg (by rw [hb1]; decide), if_neg (by rw [hb2]; decide)])
      clear IH hf hb1 hb2
      go_enter Tryz.func50, Tryz.ntmps50
      go_wp2_with (first
        | (go_at_call_of 34 (Value.int IntKind.i64 7); refine HA1.out.mono ?_; rintro e w1 ⟨rfl, hk1⟩)
        | (go_at_call_of 34 (Value.int IntKind.i64 1); refine (HA2.out _ hk1).mono ?_; rintro e w2 ⟨rfl, hk2⟩)
        | (go_at_call 67; refine (HT.out _ (h.kept (hk1.trans hk2))).mono ?_; rintro e w3 ⟨b, s', hp, rfl, hs⟩))
      go_ret
      exact PRes.mk (HR.out.trans hp) hs
    · rw [hb2] at HA2
      replace HA2 := Lib.hid HA2
      have hl := atB_pos hb2 (by decide)
      have hl1 := adv_len s 1
      have HT := Lib.hid (fun w1 (h1 : PSt w0 w1 g B tv E n0 n1 n2 n3 n4 toks (s.adv 1)) => IH.un (s.adv 1) w1 (by omega) (by have := mN_adv s 1; omega) h1)
      have HR := Lib.hid (show parR E nm (F + 1) .un s = thenP (parR E nm F .un (s.adv 1)) (emP 25 0) by rw [parR, if_neg (by rw [hb1]; decide), if_pos hb2])
      have HM := Lib.hid (fun (b : Bool) (s' : PS) (hp : parR E nm F .un (s.adv 1) = some (b, s')) => mN_ns (Nat.le_trans (parR_mN hp (m := 4000000) (by show _ + 0 ≤ _; have := mN_adv s 1; omega)) (by decide)))
      clear IH hf hb1 hb2
      go_enter Tryz.func50, Tryz.ntmps50
      go_wp2_with (first
        | (go_at_call_of 34 (Value.int IntKind.i64 7); refine HA1.out.mono ?_; rintro e w1 ⟨rfl, hk1⟩)
        | (go_at_call_of 34 (Value.int IntKind.i64 1); refine (HA2.out _ hk1).mono ?_; rintro e w2 ⟨rfl, hk2⟩; obtain ⟨i, p1, pl, pf, hA1, -⟩ := (h.kept (hk1.trans hk2)).pos C.hl; obtain ⟨hw1, hS1⟩ := hA1 hl; clear hA1)
        | (go_at_call 50; refine (HT.out _ hS1).mono ?_; rintro e w3 ⟨b, s', hp, rfl, hs⟩; cases b)
        | (go_at_call 37; refine (pemit_any hs (HM.out _ _ hp) 25 0).mono ?_; rintro e w4 ⟨rfl, hs4⟩))
      · go_ret
        exact PRes.mk (by rw [HR.out, hp]; rfl) hs
      · go_ret
        exact PRes.mk (by rw [HR.out, hp]; rfl) hs4
  · rw [hb1] at HA1
    replace HA1 := Lib.hid HA1
    clear HA2
    have hl := atB_pos hb1 (by decide)
    have HPK := Lib.hid (fun w1 (hk : Kept w w1) => ppeekK_any (h.kept hk) C 1 (by decide))
    rw [show (.int .i64 ((1 : Nat) : Int) : Value) = .int .i64 1 from rfl] at HPK
    have hTB := (h.tsz C 1).2
    have hl2 := litO_lt (s := s) (k := 1)
    have HLI := Lib.hid (fun w => literalOp_any (hdT s.ts 1) w)
    unfold tokA at HPK HLI
    by_cases hli : litO (hdT s.ts 1) = 0
    · rw [hli] at HLI
      have hl1 := adv_len s 1
      have HT := Lib.hid (fun w1 (h1 : PSt w0 w1 g B tv E n0 n1 n2 n3 n4 toks (s.adv 1)) => IH.un (s.adv 1) w1 (by omega) (by have := mN_adv s 1; omega) h1)
      have HR := Lib.hid (show parR E nm (F + 1) .un s = thenP (parR E nm F .un (s.adv 1)) (emP 10 0) by rw [parR, if_pos hb1, if_neg (fun e => e hli)])
      have HM := Lib.hid (fun (b : Bool) (s' : PS) (hp : parR E nm F .un (s.adv 1) = some (b, s')) => mN_ns (Nat.le_trans (parR_mN hp (m := 4000000) (by show _ + 0 ≤ _; have := mN_adv s 1; omega)) (by decide)))
      clear IH hf hb1 hl2 hli
      generalize hdT s.ts 1 = T at *
      obtain ⟨tk, tt, tn, tf⟩ := T
      dsimp only at HPK HLI hTB
      generalize bs tt = X at *
      go_enter Tryz.func50, Tryz.ntmps50
      go_wp2_with (first
        | (go_at_call 34; refine HA1.out.mono ?_; rintro e w1 ⟨rfl, hk1⟩)
        | (go_at_call 49; refine (HPK.out _ hk1).mono ?_; rintro e w2 ⟨rfl, hk2⟩)
        | (go_at_call 66; refine (HLI.out _).mono ?_; rintro e w3 ⟨rfl, hk3⟩; obtain ⟨i, p1, pl, pf, hA1, -⟩ := (((h.kept (hk1.trans hk2)).kept ((Kept.refl _).alloc (.cells #[.int .i64 tk, .string X, .int .i64 tn, .int .i64 tf] 73))).kept hk3).pos C.hl; obtain ⟨hw1, hS1⟩ := hA1 hl; clear hA1)
        | (go_at_call 50; refine (HT.out _ hS1).mono ?_; rintro e w4 ⟨b, s', hp, rfl, hs⟩; cases b)
        | (go_at_call 37; refine (pemit_any hs (HM.out _ _ hp) 10 0).mono ?_; rintro e w5 ⟨rfl, hs5⟩))
      · go_ret
        exact PRes.mk (by rw [HR.out, hp]; rfl) hs
      · go_ret
        exact PRes.mk (by rw [HR.out, hp]; rfl) hs5
    · have HR := Lib.hid (show parR E nm (F + 1) .un s = some (true, (s.adv 2).em (litO (hdT s.ts 1)) (-(hdT s.ts 1).n)) by rw [parR, if_pos hb1, if_pos hli]; rfl)
      have hl2' := hl2 hli
      have HM := Lib.hid (show (s.adv 2).ns.length ≤ 8000000 from mN_ns (Nat.le_trans (mN_adv s 2) (by omega)))
      have hnb := bne_noL hli
      clear IH hf hb1 hl2
      have hwn : IntKind.i64.wrap (-(hdT s.ts 1).n) = -(hdT s.ts 1).n := by rw [IntKind.wrap_i64]; omega
      generalize litO (hdT s.ts 1) = lo at *
      generalize hdT s.ts 1 = T at *
      obtain ⟨tk, tt, tn, tf⟩ := T
      dsimp only at HPK HLI hTB HR hwn
      generalize bs tt = X at *
      go_enter Tryz.func50, Tryz.ntmps50
      go_wp2_with (first
        | (go_at_call 34; refine HA1.out.mono ?_; rintro e w1 ⟨rfl, hk1⟩)
        | (go_at_call 49; refine (HPK.out _ hk1).mono ?_; rintro e w2 ⟨rfl, hk2⟩)
        | (go_at_call 66; refine (HLI.out _).mono ?_; rintro e w3 ⟨rfl, hk3⟩; obtain ⟨i, p1, pl, pf, -, hA1⟩ := (((h.kept (hk1.trans hk2)).kept ((Kept.refl _).alloc (.cells #[.int .i64 tk, .string X, .int .i64 tn, .int .i64 tf] 73))).kept hk3).pos C.hl; obtain ⟨hw1, hS1⟩ := hA1 hl2'; clear hA1))
      have BB : Blk (w2.alloc (.cells #[.int .i64 tk, .string X, .int .i64 tn, .int .i64 tf] 73)) w2.heap.size 73 #[.int .i64 tk, .string X, .int .i64 tn, .int .i64 tf] := Blk.new _ _ _
      have hgq : g < w2.heap.size := Nat.lt_of_lt_of_le ((h.kept (hk1.trans hk2)).sep) ((h.kept (hk1.trans hk2)).top)
      have BF := (BB.kept hk3).far (p := ⟨g, 1, none⟩) (show w2.heap.size ≠ g by omega) (.int .i64 ((i : Int) + 2))
      generalize w3.setCell ⟨g, 1, none⟩ (.int .i64 ((i : Int) + 2)) = W at *
      have c0 := KW.cell BF.lt (BF.cell 0)
      have c1 := KW.cell BF.lt (BF.cell 1)
      have c2 := KW.cell BF.lt (BF.cell 2)
      have c3 := KW.cell BF.lt (BF.cell 3)
      try simp only [List.getElem?_toArray, List.getElem?_cons_zero, List.getElem?_cons_succ] at c0 c1 c2 c3
      refine wp_region_kept_tail 6 (by kernel_rfl) (by kernel_rfl) ?_
      simp only [List.take_succ_cons, List.take_zero, List.drop_succ_cons, List.drop_zero]
      repeat (go_big_quiet_step ((go_at_call 66; with_reducible exact KW.call (HLI.out _))))
      refine wpQuiet_nil ?_
      rintro w5 ⟨⟨wy, hy⟩, hh⟩
      obtain rfl : w5 = wy := hh
      clear c0 c1 c2 c3
      go_wp2_with (go_at_call 37; refine (pemit_any (hS1.kept hy) HM.out lo (-tn)).mono ?_; rintro e w6 ⟨rfl, hs6⟩)
      go_ret
      exact PRes.mk HR.out hs6
end
end Go.Proofs.YtdnjfpmngnkcfaaGreatDoor
/- What expression of the parser of package exprtext computes; states small enough. -/
namespace Go.Proofs.YtdnjfpmngnkcfaaGreatDoor
open Go.RowKit

/-- a state that is small enough for what is read next -/
def Sm (F : Nat) (s : PS) : Prop := 8 * s.ts.length + 6 < F ∧ mN s ≤ 4000000
theorem parR_ts {E : Int} {nm : Nm} {F : Nat} {nt : NT} {s s' : PS} {b : Bool} (hf : 8 * s.ts.length + rankN nt < F) (h : parR E nm F nt s = some (b, s')) : s'.ts.length ≤ s.ts.length := by
  obtain ⟨b1, s1, h1, h2, _⟩ := parR_tot E nm F nt s hf
  rw [h] at h1
  have := Option.some.inj h1
  rw [show s' = s1 from congrArg Prod.snd this]
  exact h2
theorem Sm.expr {E : Int} {nm : Nm} {F : Nat} {s s' : PS} {b : Bool} (h : Sm F s) (hp : parR E nm F .expr s = some (b, s')) : Sm F s' :=
  ⟨by have := parR_ts (nt := .expr) h.1 hp; have := h.1; omega, parR_mN hp h.2⟩
theorem Sm.exp {E k : Int} {t : List UInt8} {F : Nat} {s s' : PS} {b : Bool} (h : Sm F s) (hp : expP E k t s = some (b, s')) : Sm F s' := by
  unfold expP at hp
  split at hp
  · have := Option.some.inj hp
    rw [← show s.adv 1 = s' from congrArg Prod.snd this]
    exact ⟨by have := adv_len s 1; have := h.1; omega, Nat.le_trans (mN_adv s 1) h.2⟩
  · have := Option.some.inj hp
    rw [← show s.bad E 2 = s' from congrArg Prod.snd this]
    exact h
theorem Sm.adv {F : Nat} {s : PS} (h1 : 8 * s.ts.length + 6 < F + 8) (hl : 0 < s.ts.length) (hm : mN s ≤ 4000000) (j : Nat) (hj : 0 < j) : Sm F (s.adv j) :=
  ⟨by have := adv_len s j; omega, Nat.le_trans (mN_adv s j) hm⟩
theorem Sm.ns {F : Nat} {s : PS} (h : Sm F s) : s.ns.length ≤ 8000000 := mN_ns (Nat.le_trans h.2 (by decide))
section
variable {w0 : World} {g B : Nat} {tv : Value} {E : Int} {n0 n1 n2 n3 n4 : Value} {toks : List Tok} {nm : Nm} {F : Nat}
theorem ParOK.expS (h : ParOK w0 g B tv E n0 n1 n2 n3 n4 toks nm F) (s : PS) (w : World) (h3 : PSt w0 w g B tv E n0 n1 n2 n3 n4 toks s) (h1 : Sm F s) : Calls Tryz.prog  19 #[.pointer (some ⟨g, 0, none⟩)] w (PRes w0 g B tv E n0 n1 n2 n3 n4 toks nm (F) (.expr) (s)) := h.expr s w h1.1 h1.2 h3
set_option maxRecDepth 100000 in
set_option maxHeartbeats 4000000 in
theorem expr_step (C : PCx w0 tv n0 n1 n2 n3 n4 toks nm) (IH : ParOK w0 g B tv E n0 n1 n2 n3 n4 toks nm F) (s : PS) (w : World) (hf : 8 * s.ts.length + 6 < F + 1) (hm : mN s ≤ 4000000) (h : PSt w0 w g B tv E n0 n1 n2 n3 n4 toks s) : Calls Tryz.prog  19 #[.pointer (some ⟨g, 0, none⟩)] w (PRes w0 g B tv E n0 n1 n2 n3 n4 toks nm (F+1) (.expr) (s)) := by
  have HA1 := patK_any h C 1 [105, 102]
  rw [show bs [105, 102] = ⟨#[105, 102]⟩ from rfl] at HA1
  cases hb1 : atB s 1 [105, 102]
  · rw [hb1] at HA1
    replace HA1 := Lib.hid HA1
    have HT := Lib.hid (fun w1 (h1 : PSt w0 w1 g B tv E n0 n1 n2 n3 n4 toks s) => IH.bin 1 (by decide) s w1 (by omega) hm h1)
    have HR := Lib.hid (show parR E nm (F + 1) .expr s = parR E nm F (.bin 1) s by rw [parR, if_neg (by rw [hb1]; decide)])
    clear IH hf hb1
    go_enter Tryz.func19, Tryz.ntmps19
    go_wp2_with (first
      | (go_at_call 34; refine HA1.out.mono ?_; rintro e w1 ⟨rfl, hk1⟩)
      | (go_at_call 35; refine (HT.out _ (h.kept hk1)).mono ?_; rintro e w3 ⟨b, s', hp, rfl, hs⟩))
    go_ret
    exact PRes.mk (HR.out.trans hp) hs
  · rw [hb1] at HA1
    replace HA1 := Lib.hid HA1
    have hl := atB_pos hb1 (by decide)
    have hS := Sm.adv (F := F) (by omega) hl hm 1 (by decide)
    have HE := Lib.hid IH.expS
    have HTH := Lib.hid (fun (s : PS) (w1 : World) (h1 : PSt w0 w1 g B tv E n0 n1 n2 n3 n4 toks s) => expect_any h1 C.hT C.hl 1 (by decide) [116, 104, 101, 110])
    have HEL := Lib.hid (fun (s : PS) (w1 : World) (h1 : PSt w0 w1 g B tv E n0 n1 n2 n3 n4 toks s) => expect_any h1 C.hT C.hl 1 (by decide) [101, 108, 115, 101])
    rw [show bs [116, 104, 101, 110] = ⟨#[116, 104, 101, 110]⟩ from rfl] at HTH
    rw [show bs [101, 108, 115, 101] = ⟨#[101, 108, 115, 101]⟩ from rfl] at HEL
    have HR := Lib.hid (show parR E nm (F + 1) .expr s = thenP (parR E nm F .expr (s.adv 1)) fun s => thenP (expP E 1 [116, 104, 101, 110] s) fun s => thenP (parR E nm F .expr s) fun s => thenP (expP E 1 [101, 108, 115, 101] s) fun s => thenP (parR E nm F .expr s) (emP 26 0) by rw [parR, if_pos hb1])
    clear IH hf hb1
    go_enter Tryz.func19, Tryz.ntmps19
    go_wp2_with (first
      | (go_at_call 34; refine HA1.out.mono ?_; rintro e w1 ⟨rfl, hk1⟩; obtain ⟨i, p1, pl, pf, hA1, -⟩ := (h.kept hk1).pos C.hl; obtain ⟨hw1, hS1⟩ := hA1 hl; clear hA1)
      | (go_at_call 19; refine (HE.out _ _ (by assumption) (by assumption)).mono ?_; rintro e w3 ⟨b, s3, hp, rfl, hs⟩; have hSS := Sm.expr (by assumption) hp; cases b)
      | (go_at_call_of 36 (Value.string ⟨#[116, 104, 101, 110]⟩); refine (HTH.out _ _ (by assumption)).mono ?_; rintro e w3 ⟨b, s3, hp, rfl, hs⟩; have hSS := Sm.exp (by assumption) hp; cases b)
      | (go_at_call_of 36 (Value.string ⟨#[101, 108, 115, 101]⟩); refine (HEL.out _ _ (by assumption)).mono ?_; rintro e w3 ⟨b, s3, hp, rfl, hs⟩; have hSS := Sm.exp (by assumption) hp; cases b)
      | (go_at_call 37; refine (pemit_any (by assumption) hSS.ns 26 0).mono ?_; rintro e w3 ⟨rfl, hs⟩))
    all_goals go_ret
    all_goals refine PRes.mk ?_ (by assumption)
    all_goals rw [HR.out]
    all_goals (simp only [thenP, *]; try rfl)
end
end Go.Proofs.YtdnjfpmngnkcfaaGreatDoor
/- find, mode and symbol of the parser of package exprtext, said in the two ways that they end. -/
namespace Go.Proofs.YtdnjfpmngnkcfaaGreatDoor
open Go.RowKit

section
variable {w0 : World} {g B : Nat} {tv : Value} {E : Int} {n0 n1 n2 n3 n4 : Value} {toks : List Tok} {nm : Nm} {w : World} {s : PS}
theorem findS_lt {x : ByteArray} : ∀ (l : List ByteArray) (k i : Nat), findS x l k = some i → i < k + l.length
  | [], k, i, h => by rw [findS] at h; cases h
  | y :: r, k, i, h => by
    rw [findS] at h
    split at h
    · have := Option.some.inj h
      rw [List.length_cons]; omega
    · have := findS_lt r (k + 1) i h
      rw [List.length_cons]; omega
theorem findD_any (h : PSt w0 w g B tv E n0 n1 n2 n3 n4 toks s) (C : PCx w0 tv n0 n1 n2 n3 n4 toks nm) (lv : Value) (l : List ByteArray) (hL : Strs w0 lv l) (hll : l.length ≤ 1000000) :
    Calls Tryz.prog  101 #[.pointer (some ⟨g, 0, none⟩), lv] w fun e w' => (∃ s', findR E l s = (none, s') ∧ e = .returned (.tuple #[.int .i64 0, .bool false]) ∧ PSt w0 w' g B tv E n0 n1 n2 n3 n4 toks s') ∨
      (∃ (i : Nat) (s' : PS), findR E l s = (some i, s') ∧ i < 1000000 ∧ mN s' + 1 ≤ mN s ∧ s'.ts.length + 1 ≤ s.ts.length ∧ e = .returned (.tuple #[.int .i64 (i : Int), .bool true]) ∧ PSt w0 w' g B tv E n0 n1 n2 n3 n4 toks s') := by
  refine (find_any h C.hT C.hl (h.tsz C 0).1 lv l hL (by omega)).mono ?_
  rintro e w' ⟨rfl, hs⟩
  have hlt : ∀ (i : Nat) s', findR E l s = (some i, s') → i < 1000000 ∧ mN s' + 1 ≤ mN s ∧ s'.ts.length + 1 ≤ s.ts.length := by
    intro i s' hi
    unfold findR at hi
    split at hi
    · cases hi
    · rename_i hk1
      have hlt : 0 < s.ts.length := hdT_lt (i := 1) (by
        by_cases h1 : (hdT s.ts 0).k = 1
        · exact h1
        · exact absurd (.inl h1) hk1) (by decide)
      split at hi
      · cases hi
      · rename_i j hj
        have h1 : some j = some i := congrArg Prod.fst hi
        have h2 : s.adv 1 = s' := congrArg Prod.snd hi
        have := findS_lt l 0 j hj
        have h3 := Option.some.inj h1
        rw [← h2]
        exact ⟨by omega, mN_adv1 hlt (by decide), by have := adv_len s 1; omega⟩
  generalize findR E l s = R at *
  obtain ⟨o, s'⟩ := R
  cases o with
  | none => exact .inl ⟨s', rfl, rfl, hs⟩
  | some i => exact .inr ⟨i, s', rfl, (hlt i s' rfl).1, (hlt i s' rfl).2.1, (hlt i s' rfl).2.2, rfl, hs⟩
theorem modeD_any (h : PSt w0 w g B tv E n0 n1 n2 n3 n4 toks s) (C : PCx w0 tv n0 n1 n2 n3 n4 toks nm) :
    Calls Tryz.prog  102 #[.pointer (some ⟨g, 0, none⟩)] w fun e w' => (∃ s', modeR E s = (none, s') ∧ e = .returned (.tuple #[.int .i64 0, .bool false]) ∧ PSt w0 w' g B tv E n0 n1 n2 n3 n4 toks s') ∨
      (∃ (i : Int) (s' : PS), modeR E s = (some i, s') ∧ 0 ≤ i ∧ i ≤ 5 ∧ mN s' ≤ mN s ∧ e = .returned (.tuple #[.int .i64 i, .bool true]) ∧ PSt w0 w' g B tv E n0 n1 n2 n3 n4 toks s') := by
  refine (mode_any h C.hT C.hl).mono ?_
  rintro e w' ⟨rfl, hs⟩
  have hlt : ∀ (i : Int) s', modeR E s = (some i, s') → 0 ≤ i ∧ i ≤ 5 ∧ mN s' ≤ mN s := by
    intro i s' hi
    unfold modeR at hi
    split at hi
    · cases hi
    · rename_i hk1
      have h1 := Option.some.inj (congrArg Prod.fst hi : some (modeO (hdT s.ts 0).t) = some i)
      have h2 : s.adv 1 = s' := congrArg Prod.snd hi
      have h0 : 0 ≤ modeO (hdT s.ts 0).t := by
        rcases Int.lt_or_le (modeO (hdT s.ts 0).t) 0 with h | h
        · exact absurd (.inr h) hk1
        · exact h
      have := (modeO_word h0).2
      rw [← h2]
      exact ⟨by omega, by omega, mN_adv s 1⟩
  generalize modeR E s = R at *
  obtain ⟨o, s'⟩ := R
  cases o with
  | none => exact .inl ⟨s', rfl, rfl, hs⟩
  | some i => exact .inr ⟨i, s', rfl, (hlt i s' rfl).1, (hlt i s' rfl).2.1, (hlt i s' rfl).2.2, rfl, hs⟩
end
theorem Sm.find {F : Nat} {s s' : PS} (h : Sm F s) (h1 : mN s' + 1 ≤ mN s) (h2 : s'.ts.length + 1 ≤ s.ts.length) : Sm F s' := ⟨by have := h.1; omega, by have := h.2; omega⟩
end Go.Proofs.YtdnjfpmngnkcfaaGreatDoor
/- Where an enumeration's name stands; what name of the parser of package exprtext computes. -/
namespace Go.Proofs.YtdnjfpmngnkcfaaGreatDoor
open Go.RowKit

set_option maxRecDepth 100000 in
theorem nameEq_any (x : ByteArray) (mv : Value) (X : ByteArray) (q : Nat) (w : World) (hq : q < w.heap.size) (hX : w.cell? ⟨q, 1, none⟩ = some (.string X)) :
    Calls Tryz.prog  105 #[.agg #[.string x, mv], .pointer (some ⟨q, 0, none⟩)] w fun e w' => e = .returned (.bool (decide (x = X))) ∧ Kept w w' := by
  have heq := neqE x X
  have hX' := ((Kept.refl w).alloc (.cells #[.string x, mv] 38)).cell (p := ⟨q, 1, none⟩) hq hX
  go_enter Tryz.func105, Tryz.ntmps105
  go_wp2_with fail
  go_ret
  refine ⟨?_, (Kept.refl w).alloc _⟩
  rw [← heq]
  rfl
set_option maxRecDepth 100000 in
set_option maxHeartbeats 1000000 in
theorem indexF_any (v : Value) (en : List ByteArray) (ms : List (List ByteArray)) (X : ByteArray) (q : Nat) (w : World) (hE : EnumsN w v en ms) (hq : q < w.heap.size) (hX : w.cell? ⟨q, 1, none⟩ = some (.string X)) :
    Calls Tryz.prog 104 #[v, .func (.func 105) #[] #[.pointer (some ⟨q, 0, none⟩)]] w fun e w' => e = .returned (.int .i64 (idxS X en)) ∧ Kept w w' := by
  obtain ⟨hel, A, cap, rfl, hml, hA⟩ := hE
  obtain ⟨n, hn⟩ : ∃ n, n = ms.length := ⟨_, rfl⟩
  rw [← hn] at hA hml hel ⊢
  have HN := Lib.hid hn
  have HL := Lib.hid hel
  clear hn hel
  go_enter Tryz.func104, Tryz.ntmps104
  go_wp2_with fail
  go_loopw [8] (fun z wr => ∃ p : Nat, z = .int .i64 p ∧ p ≤ n ∧ Kept w wr ∧ (∀ m, m < p → en[m]? ≠ some X)) (fun z _ => n - (intOf z).toNat)
  case atStart => exact ⟨0, rfl, Nat.zero_le _, Kept.refl w, fun _ h => by omega⟩
  case round =>
    obtain ⟨p, rfl, hpn, hk, hno⟩ := hrel
    by_cases hp : p < n
    · obtain ⟨b1, o1, rfl, hb1, hc1⟩ := hA (by omega)
      have hg : en[p]? = some (en[p]'(by have := HL.out; omega)) := List.getElem?_eq_getElem _
      have hgm : ms[p]? = some (ms[p]'(by have := HN.out; omega)) := List.getElem?_eq_getElem _
      obtain ⟨_, X0, mv, X1, _⟩ := hc1 p _ _ hg hgm
      generalize en[p]'(by have := HL.out; omega) = Y at *
      have X0' := hk.cell (p := ⟨b1, _, none⟩) hb1 X0
      have X1' := hk.cell (p := ⟨b1, _, none⟩) hb1 X1
      have hpi : (p : Int) < n := by omega
      have HC := Lib.hid (nameEq_any Y mv X q wr (Nat.lt_of_lt_of_le hq hk.size) (hk.cell (p := ⟨q, 1, none⟩) hq hX))
      clear hc1 X0 X1 hgm
      by_cases hx : Y = X
      · subst hx
        rw [decide_eq_true rfl] at HC
        have HR := Lib.hid (idxS_at hg hno)
        clear hg hno
        go_wp2_with (go_at_call 105; refine HC.out.mono ?_; rintro e w1 ⟨rfl, hk1⟩)
        go_ret
        rw [HR.out]
        exact ⟨rfl, hk.trans hk1⟩
      · rw [decide_eq_false hx] at HC
        have HNO := Lib.hid (show ∀ m, m < p + 1 → en[m]? ≠ some X from fun m hm => by
          by_cases h : m = p
          · subst h; rw [hg]; exact fun e => hx (Option.some.inj e)
          · exact hno m (by omega))
        clear hg hno hx
        go_wp2_with (go_at_call 105; refine HC.out.mono ?_; rintro e w1 ⟨rfl, hk1⟩)
        go_roundw
        case rel => exact ⟨p + 1, rfl, hp, hk.trans hk1, HNO.out⟩
        case measure => simp [intOf]; omega
    · obtain rfl : n = p := by omega
      have hpi : ¬ ((n : Int) < n) := by omega
      have HR := Lib.hid (idxS_end (s := X) (xs := en) (by rw [HL.out]; exact hno))
      clear hno hA
      go_wp2_with fail
      go_ret
      rw [HR.out]
      exact ⟨rfl, hk⟩
end Go.Proofs.YtdnjfpmngnkcfaaGreatDoor
/- What name of the parser of package exprtext computes. -/
namespace Go.Proofs.YtdnjfpmngnkcfaaGreatDoor
open Go.RowKit

section
variable {w0 : World} {g B : Nat} {tv : Value} {E : Int} {n0 n1 n2 n3 n4 : Value} {toks : List Tok} {nm : Nm} {w : World} {s : PS}
theorem hd_len {k : Nat} {i : Int} (h : (hdT s.ts k).k = i) (hi : i ≠ 0) : k + 1 ≤ s.ts.length := hdT_lt h hi
/-- what name leaves -/
def NmPost (w0 : World) (g B : Nat) (tv : Value) (E : Int) (n0 n1 n2 n3 n4 : Value) (toks : List Tok) (R : PR) (e : Ending) (w' : World) : Prop := ∃ b s', R = some (b, s') ∧ PPost w0 g B tv E n0 n1 n2 n3 n4 toks (b) (s') e w'
theorem NmPost.mk {R : PR} {b : Bool} {s' : PS} {w' : World} (h : R = some (b, s')) (hs : PSt w0 w' g B tv E n0 n1 n2 n3 n4 toks s') : NmPost w0 g B tv E n0 n1 n2 n3 n4 toks R (.returned (.bool b)) w' := ⟨b, s', h, rfl, hs⟩
set_option maxRecDepth 100000 in
set_option maxHeartbeats 16000000 in
theorem name_any (h : PSt w0 w g B tv E n0 n1 n2 n3 n4 toks s) (C : PCx w0 tv n0 n1 n2 n3 n4 toks nm) (hm : mN s ≤ 4000000) (hk1 : (hdT s.ts 0).k = 1) : Calls Tryz.prog  86 #[.pointer (some ⟨g, 0, none⟩)] w (NmPost w0 g B tv E n0 n1 n2 n3 n4 toks (nameR E nm s)) := by
  have HP0 := Lib.hid (ppeekK_any h C 0 (by decide))
  have HP1 := Lib.hid (fun w1 (hk : Kept w w1) => ppeekK_any (h.kept hk) C 1 (by decide))
  rw [show (.int .i64 ((0 : Nat) : Int) : Value) = .int .i64 0 from rfl] at HP0
  rw [show (.int .i64 ((1 : Nat) : Int) : Value) = .int .i64 1 from rfl] at HP1
  have hgw : g < w.heap.size := Nat.lt_of_lt_of_le h.sep h.top
  have hl := hd_len hk1 (by decide)
  have hl2 := fun hk => hd_len (s := s) (k := 1) (i := 7) hk (by decide)
  have hz := (h.tsz C 0).1
  have hnr : nameR E nm s = if idB (hdT s.ts 0).t = false then badP E 2 s
    else if (hdT s.ts 1).k = 7 ∧ (hdT s.ts 1).t = [58] then
      match findS (bs (hdT s.ts 0).t) nm.en 0 with
        | none => badP E 6 s
        | some i => withR (findR E (nm.ms[i]?.getD []) (s.adv 2)) fun m => emP 6 (16 * i + m)
    else match findS (bs (hdT s.ts 0).t) nm.ins 0 with
      | some i => emP 7 i (s.adv 1)
      | none => withR (findR E nm.ds s) fun d => emP 8 d := rfl
  generalize nameR E nm s = R at *
  have HFL := Lib.hid (fun c (w1 : World) (h1 : PSt w0 w1 g B tv E n0 n1 n2 n3 n4 toks s) => pfail_any h1 C.hT C.hl c)
  unfold PPost at HFL
  unfold tokA at HP0 HP1
  generalize hdT s.ts 0 = T at *
  generalize hdT s.ts 1 = U at *
  obtain ⟨tk, tt, tn, tf⟩ := T
  obtain ⟨uk, ut, un, uf⟩ := U
  dsimp only at HP0 HP1 hk1 hnr hz hl2
  subst hk1
  have HID := Lib.hid (fun w => isId_any (bs tt) (by rw [bs_size]; exact hz) w)
  rw [L_bs] at HID
  have hut : decide (bs ut = ⟨#[58]⟩) = decide (ut = [58]) := by
    congr 1
    rw [← L_inj, L_bs]
    rfl
  have heq := neqE (bs ut) ⟨#[58]⟩
  rw [hut, show (⟨#[58]⟩ : ByteArray).toList = [58] from toList_L _] at heq
  clear hut
  generalize bs ut = Y at *
  cases hid : idB tt
  · rw [hid] at HID
    rw [hid, if_pos rfl] at hnr
    have HR := Lib.hid hnr
    clear hnr hid hm hl2 heq
    generalize bs tt = X at *
    go_enter Tryz.func86, Tryz.ntmps86
    go_wp2_with (first
      | (go_at_call_of 49 (Value.int IntKind.i64 0); refine HP0.out.mono ?_; rintro e w1 ⟨rfl, hk1⟩)
      | (go_at_call_of 49 (Value.int IntKind.i64 1); refine (HP1.out _ hk1).mono ?_; rintro e w2 ⟨rfl, hk2⟩; have hs3 := h.kept (((hk1.trans hk2).alloc (.cells #[.int .i64 1, .string X, .int .i64 tn, .int .i64 tf] 73)).alloc (.cells #[.int .i64 uk, .string Y, .int .i64 un, .int .i64 uf] 73)))
      | (go_at_call 103; refine (HID.out _).mono ?_; rintro e w' ⟨rfl, rfl⟩)
      | (go_at_call 20; refine (HFL.out 2 _ hs3).mono ?_; rintro e w6 ⟨rfl, hs6⟩))
    go_ret
    exact NmPost.mk HR.out hs6
  rw [hid] at HID
  rw [hid, if_neg (by decide)] at hnr
  clear hid
  by_cases hcol : uk = 7 ∧ ut = [58]
  · -- a member of an enumeration
    rw [if_pos hcol] at hnr
    obtain ⟨rfl, rfl⟩ := hcol
    have hl3 := hl2 rfl
    rw [decide_eq_true rfl] at heq
    have HIF := fun w1 (hk : Kept w0 w1) q hq hX => indexF_any n0 nm.en nm.ms (bs tt) q w1 (C.en.kept hk) hq hX
    have hfl := fun p hp => findS_lt (x := bs tt) nm.en 0 p hp
    unfold idxS at HIF
    generalize bs tt = X at *
    generalize findS X nm.en 0 = fo at *
    cases fo with
    | none =>
      have HR := Lib.hid hnr
      dsimp only at HIF
      replace HIF := Lib.hid HIF
      clear hnr hm hl2 hfl
      go_enter Tryz.func86, Tryz.ntmps86
      go_wp2_with (first
        | (go_at_call_of 49 (Value.int IntKind.i64 0); refine HP0.out.mono ?_; rintro e w1 ⟨rfl, hk1⟩)
        | (go_at_call_of 49 (Value.int IntKind.i64 1); refine (HP1.out _ hk1).mono ?_; rintro e w2 ⟨rfl, hk2⟩; have hs3 := h.kept (((hk1.trans hk2).alloc (.cells #[.int .i64 1, .string X, .int .i64 tn, .int .i64 tf] 73)).alloc (.cells #[.int .i64 7, .string Y, .int .i64 un, .int .i64 uf] 73)); have BB := (Blk.new w2 73 #[.int .i64 1, .string X, .int .i64 tn, .int .i64 tf]).alloc (.cells #[.int .i64 7, .string Y, .int .i64 un, .int .i64 uf] 73); obtain ⟨m0, -, -, -, -⟩ := hs3.nms; have gl := hs3.pos C.hl; obtain ⟨i0, -, gl, -, -⟩ := gl)
        | (go_at_call 103; refine (HID.out _).mono ?_; rintro e w' ⟨rfl, rfl⟩)
        | (go_at_call 104; refine (HIF.out _ hs3.old w2.heap.size BB.lt (BB.cell 1)).mono ?_; rintro e w4 ⟨rfl, hk4⟩)
        | (go_at_call 20; refine (HFL.out 6 _ (hs3.kept hk4)).mono ?_; rintro e w6 ⟨rfl, hs6⟩))
      go_ret
      exact NmPost.mk HR.out hs6
    | some p =>
      have hp := hfl p rfl
      rw [Nat.zero_add] at hp
      obtain ⟨hel, AE, ce, rfl, hml, hxe⟩ := C.en
      have hpm : p < nm.ms.length := by omega
      have hpm2 : (p : Int) < nm.ms.length := by omega
      obtain ⟨b, off, rfl, hb, hc⟩ := hxe (by omega)
      have he := List.getElem?_eq_getElem hp
      have hl0 := List.getElem?_eq_getElem hpm
      obtain ⟨hll, -, mv, c1, hSt⟩ := hc p _ _ he hl0
      have hlm := C.ml _ (List.mem_of_getElem? hl0)
      dsimp only at hnr
      rw [hl0] at hnr
      generalize nm.ms[p] = l at *
      generalize nm.en[p] = x at *
      rw [Option.getD_some] at hnr
      have HR := Lib.hid hnr
      dsimp only at HIF
      replace HIF := Lib.hid HIF
      have HFI := Lib.hid (fun (w1 : World) (h1 : PSt w0 w1 g B tv E _ n1 n2 n3 n4 toks (s.adv 2)) => findD_any h1 C mv l hSt hlm)
      have hp0 : ¬ ((p : Int) < 0) := by omega
      have hp00 : (0 : Int) ≤ p := by omega
      have hw16 : IntKind.i64.wrap (16 * (p : Int)) = 16 * p := by have := C.el; rw [IntKind.wrap_i64]; omega
      have hpb : p < 1000000 := by have := C.el; omega
      have hmn := mN_adv s 2
      clear hnr hl2 hfl hxe hc he hl0 hel
      go_enter Tryz.func86, Tryz.ntmps86
      go_wp2_with (first
        | (go_at_call_of 49 (Value.int IntKind.i64 0); refine HP0.out.mono ?_; rintro e w1 ⟨rfl, hk1⟩)
        | (go_at_call_of 49 (Value.int IntKind.i64 1); refine (HP1.out _ hk1).mono ?_; rintro e w2 ⟨rfl, hk2⟩; have hs3 := h.kept (((hk1.trans hk2).alloc (.cells #[.int .i64 1, .string X, .int .i64 tn, .int .i64 tf] 73)).alloc (.cells #[.int .i64 7, .string Y, .int .i64 un, .int .i64 uf] 73)); have BB := (Blk.new w2 73 #[.int .i64 1, .string X, .int .i64 tn, .int .i64 tf]).alloc (.cells #[.int .i64 7, .string Y, .int .i64 un, .int .i64 uf] 73); obtain ⟨m0, -, -, -, -⟩ := hs3.nms; have gl := hs3.pos C.hl; obtain ⟨i0, -, gl, -, -⟩ := gl)
        | (go_at_call 103; refine (HID.out _).mono ?_; rintro e w' ⟨rfl, rfl⟩)
        | (go_at_call 104; refine (HIF.out _ hs3.old w2.heap.size BB.lt (BB.cell 1)).mono ?_; rintro e w4 ⟨rfl, hk4⟩; obtain ⟨i, p1, pl, pf, -, hA1⟩ := (hs3.kept hk4).pos C.hl; obtain ⟨hw1, hS5⟩ := hA1 hl3; clear hA1; obtain ⟨n5, -, -, -, -⟩ := hS5.nms; have e5 := hS5.old.cell (p := ⟨b, _, none⟩) hb c1)
        | (go_at_call 101; refine (HFI.out _ hS5).mono ?_; rintro e w6 (⟨s6, hq6, rfl, hs6⟩ | ⟨m, s6, hq6, hm6, hmm, htt, rfl, hs6⟩); rotate_left; have hwm : IntKind.i64.wrap (16 * (p : Int) + m) = 16 * p + m := (by rw [IntKind.wrap_i64]; omega))
        | (go_at_call 37; refine (pemit_any hs6 (mN_ns (by omega)) _ _).mono ?_; rintro e w7 ⟨rfl, hs7⟩))
      all_goals go_ret
      all_goals refine NmPost.mk ?_ (by assumption)
      all_goals (rw [HR.out, hq6]; rfl)
  · rw [if_neg hcol] at hnr
    have HIX := fun w1 (hk : Kept w0 w1) => index_any n2 nm.ins (bs tt) w1 (C.ins.kept hk) (by have := C.il; omega)
    unfold idxS at HIX
    generalize bs tt = X at *
    have hcol2 : ((uk == 7) = false) ∨ (uk = 7 ∧ (Y.toList == [58]) = false) := by
      by_cases h7 : uk = 7
      · right
        refine ⟨h7, ?_⟩
        rw [heq, decide_eq_false (fun e => hcol ⟨h7, e⟩)]
      · left; simpa using h7
    clear hcol heq hl2
    have hfl := fun p hp => findS_lt (x := X) nm.ins 0 p hp
    generalize findS X nm.ins 0 = fo at *
    cases fo with
    | none =>
      have HR := Lib.hid hnr
      dsimp only at HIX
      replace HIX := Lib.hid HIX
      have HFI := Lib.hid (fun (w1 : World) (h1 : PSt w0 w1 g B tv E n0 n1 n2 n3 n4 toks s) => findD_any h1 C n3 nm.ds C.ds C.dl)
      clear hnr hfl
      rcases hcol2 with h7 | ⟨rfl, h7⟩
      · go_enter Tryz.func86, Tryz.ntmps86
        go_wp2_with (first
          | (go_at_call_of 49 (Value.int IntKind.i64 0); refine HP0.out.mono ?_; rintro e w1 ⟨rfl, hk1⟩)
          | (go_at_call_of 49 (Value.int IntKind.i64 1); refine (HP1.out _ hk1).mono ?_; rintro e w2 ⟨rfl, hk2⟩)
          | (go_at_call 103; refine (HID.out _).mono ?_; rintro e w' ⟨rfl, rfl⟩))
        have BB := (Blk.new w2 73 #[.int .i64 1, .string X, .int .i64 tn, .int .i64 tf]).alloc (.cells #[.int .i64 uk, .string Y, .int .i64 un, .int .i64 uf] 73)
        have hs3 := h.kept (((hk1.trans hk2).alloc (.cells #[.int .i64 1, .string X, .int .i64 tn, .int .i64 tf] 73)).alloc (.cells #[.int .i64 uk, .string Y, .int .i64 un, .int .i64 uf] 73))
        generalize (w2.alloc (.cells #[.int .i64 1, .string X, .int .i64 tn, .int .i64 tf] 73)).alloc (.cells #[.int .i64 uk, .string Y, .int .i64 un, .int .i64 uf] 73) = W at *
        obtain ⟨-, -, m2, -, -⟩ := hs3.nms
        obtain ⟨i0, -, pl, -, -⟩ := hs3.pos C.hl
        have k1 := KW.cell pl m2
        have k2 := KW.cell BB.lt (BB.cell 1)
        have HIY := Lib.hid (fun (x : KW W) => HIX.out x.W (hs3.old.trans x.h))
        refine wp_region_kept (by kernel_rfl) (by kernel_rfl) ?_
        repeat (go_big_quiet_step ((go_at_call 106; with_reducible exact KW.pure (HIY.out _))))
        refine wpQuiet_nil ?_
        rintro wv ⟨⟨wx, hx⟩, hh⟩
        obtain rfl : wv = wx := hh
        have hs4 := hs3.kept hx
        clear k1 k2 hs3 BB hx HIY
        obtain ⟨-, -, -, n3c, -⟩ := hs4.nms
        obtain ⟨i1, -, pl, -, -⟩ := hs4.pos C.hl
        go_wp2_with (first
          | (go_at_call 101; refine (HFI.out _ hs4).mono ?_; rintro e w6 (⟨s6, hq6, rfl, hs6⟩ | ⟨m, s6, hq6, hm6, hmm, htt, rfl, hs6⟩))
          | (go_at_call 37; refine (pemit_any hs6 (mN_ns (by omega)) _ _).mono ?_; rintro e w7 ⟨rfl, hs7⟩))
        all_goals go_ret
        all_goals refine NmPost.mk ?_ (by assumption)
        all_goals (rw [HR.out, hq6]; rfl)
      · go_enter Tryz.func86, Tryz.ntmps86
        go_wp2_with (first
          | (go_at_call_of 49 (Value.int IntKind.i64 0); refine HP0.out.mono ?_; rintro e w1 ⟨rfl, hk1⟩)
          | (go_at_call_of 49 (Value.int IntKind.i64 1); refine (HP1.out _ hk1).mono ?_; rintro e w2 ⟨rfl, hk2⟩)
          | (go_at_call 103; refine (HID.out _).mono ?_; rintro e w' ⟨rfl, rfl⟩))
        have BB := (Blk.new w2 73 #[.int .i64 1, .string X, .int .i64 tn, .int .i64 tf]).alloc (.cells #[.int .i64 7, .string Y, .int .i64 un, .int .i64 uf] 73)
        have hs3 := h.kept (((hk1.trans hk2).alloc (.cells #[.int .i64 1, .string X, .int .i64 tn, .int .i64 tf] 73)).alloc (.cells #[.int .i64 7, .string Y, .int .i64 un, .int .i64 uf] 73))
        generalize (w2.alloc (.cells #[.int .i64 1, .string X, .int .i64 tn, .int .i64 tf] 73)).alloc (.cells #[.int .i64 7, .string Y, .int .i64 un, .int .i64 uf] 73) = W at *
        obtain ⟨-, -, m2, -, -⟩ := hs3.nms
        obtain ⟨i0, -, pl, -, -⟩ := hs3.pos C.hl
        have k1 := KW.cell pl m2
        have k2 := KW.cell BB.lt (BB.cell 1)
        have HIY := Lib.hid (fun (x : KW W) => HIX.out x.W (hs3.old.trans x.h))
        refine wp_region_kept (by kernel_rfl) (by kernel_rfl) ?_
        repeat (go_big_quiet_step ((go_at_call 106; with_reducible exact KW.pure (HIY.out _))))
        refine wpQuiet_nil ?_
        rintro wv ⟨⟨wx, hx⟩, hh⟩
        obtain rfl : wv = wx := hh
        have hs4 := hs3.kept hx
        clear k1 k2 hs3 BB hx HIY
        obtain ⟨-, -, -, n3c, -⟩ := hs4.nms
        obtain ⟨i1, -, pl, -, -⟩ := hs4.pos C.hl
        go_wp2_with (first
          | (go_at_call 101; refine (HFI.out _ hs4).mono ?_; rintro e w6 (⟨s6, hq6, rfl, hs6⟩ | ⟨m, s6, hq6, hm6, hmm, htt, rfl, hs6⟩))
          | (go_at_call 37; refine (pemit_any hs6 (mN_ns (by omega)) _ _).mono ?_; rintro e w7 ⟨rfl, hs7⟩))
        all_goals go_ret
        all_goals refine NmPost.mk ?_ (by assumption)
        all_goals (rw [HR.out, hq6]; rfl)
    | some p =>
      have HR := Lib.hid hnr
      dsimp only at HIX
      replace HIX := Lib.hid HIX
      have HM := Lib.hid (show (s.adv 1).ns.length ≤ 8000000 from mN_ns (Nat.le_trans (mN_adv s 1) (by omega)))
      have hp0 : ¬ ((p : Int) < 0) := by omega
      have hp00 : (0 : Int) ≤ p := by omega
      clear hnr hfl
      rcases hcol2 with h7 | ⟨rfl, h7⟩
      · go_enter Tryz.func86, Tryz.ntmps86
        go_wp2_with (first
          | (go_at_call_of 49 (Value.int IntKind.i64 0); refine HP0.out.mono ?_; rintro e w1 ⟨rfl, hk1⟩)
          | (go_at_call_of 49 (Value.int IntKind.i64 1); refine (HP1.out _ hk1).mono ?_; rintro e w2 ⟨rfl, hk2⟩)
          | (go_at_call 103; refine (HID.out _).mono ?_; rintro e w' ⟨rfl, rfl⟩))
        have BB := (Blk.new w2 73 #[.int .i64 1, .string X, .int .i64 tn, .int .i64 tf]).alloc (.cells #[.int .i64 uk, .string Y, .int .i64 un, .int .i64 uf] 73)
        have hs3 := h.kept (((hk1.trans hk2).alloc (.cells #[.int .i64 1, .string X, .int .i64 tn, .int .i64 tf] 73)).alloc (.cells #[.int .i64 uk, .string Y, .int .i64 un, .int .i64 uf] 73))
        generalize (w2.alloc (.cells #[.int .i64 1, .string X, .int .i64 tn, .int .i64 tf] 73)).alloc (.cells #[.int .i64 uk, .string Y, .int .i64 un, .int .i64 uf] 73) = W at *
        obtain ⟨-, -, m2, -, -⟩ := hs3.nms
        obtain ⟨i0, -, pl, -, -⟩ := hs3.pos C.hl
        have k1 := KW.cell pl m2
        have k2 := KW.cell BB.lt (BB.cell 1)
        have HIY := Lib.hid (fun (x : KW W) => HIX.out x.W (hs3.old.trans x.h))
        refine wp_region_kept (by kernel_rfl) (by kernel_rfl) ?_
        repeat (go_big_quiet_step ((go_at_call 106; with_reducible exact KW.pure (HIY.out _))))
        refine wpQuiet_nil ?_
        rintro wv ⟨⟨wx, hx⟩, hh⟩
        obtain rfl : wv = wx := hh
        have hs4 := hs3.kept hx
        clear k1 k2 hs3 BB hx HIY
        obtain ⟨i, p1, pl, pf, hA1, -⟩ := hs4.pos C.hl
        obtain ⟨hw1, hS5⟩ := hA1 hl
        clear hA1
        go_wp2_with (go_at_call 37; refine (pemit_any hS5 HM.out _ _).mono ?_; rintro e w7 ⟨rfl, hs7⟩)
        go_ret
        exact NmPost.mk HR.out hs7
      · go_enter Tryz.func86, Tryz.ntmps86
        go_wp2_with (first
          | (go_at_call_of 49 (Value.int IntKind.i64 0); refine HP0.out.mono ?_; rintro e w1 ⟨rfl, hk1⟩)
          | (go_at_call_of 49 (Value.int IntKind.i64 1); refine (HP1.out _ hk1).mono ?_; rintro e w2 ⟨rfl, hk2⟩)
          | (go_at_call 103; refine (HID.out _).mono ?_; rintro e w' ⟨rfl, rfl⟩))
        have BB := (Blk.new w2 73 #[.int .i64 1, .string X, .int .i64 tn, .int .i64 tf]).alloc (.cells #[.int .i64 7, .string Y, .int .i64 un, .int .i64 uf] 73)
        have hs3 := h.kept (((hk1.trans hk2).alloc (.cells #[.int .i64 1, .string X, .int .i64 tn, .int .i64 tf] 73)).alloc (.cells #[.int .i64 7, .string Y, .int .i64 un, .int .i64 uf] 73))
        generalize (w2.alloc (.cells #[.int .i64 1, .string X, .int .i64 tn, .int .i64 tf] 73)).alloc (.cells #[.int .i64 7, .string Y, .int .i64 un, .int .i64 uf] 73) = W at *
        obtain ⟨-, -, m2, -, -⟩ := hs3.nms
        obtain ⟨i0, -, pl, -, -⟩ := hs3.pos C.hl
        have k1 := KW.cell pl m2
        have k2 := KW.cell BB.lt (BB.cell 1)
        have HIY := Lib.hid (fun (x : KW W) => HIX.out x.W (hs3.old.trans x.h))
        refine wp_region_kept (by kernel_rfl) (by kernel_rfl) ?_
        repeat (go_big_quiet_step ((go_at_call 106; with_reducible exact KW.pure (HIY.out _))))
        refine wpQuiet_nil ?_
        rintro wv ⟨⟨wx, hx⟩, hh⟩
        obtain rfl : wv = wx := hh
        have hs4 := hs3.kept hx
        clear k1 k2 hs3 BB hx HIY
        obtain ⟨i, p1, pl, pf, hA1, -⟩ := hs4.pos C.hl
        obtain ⟨hw1, hS5⟩ := hA1 hl
        clear hA1
        go_wp2_with (go_at_call 37; refine (pemit_any hS5 HM.out _ _).mono ?_; rintro e w7 ⟨rfl, hs7⟩)
        go_ret
        exact NmPost.mk HR.out hs7
end
end Go.Proofs.YtdnjfpmngnkcfaaGreatDoor
/- What atom of the parser of package exprtext computes. -/
namespace Go.Proofs.YtdnjfpmngnkcfaaGreatDoor
open Go.RowKit

section
variable {w0 : World} {g B : Nat} {tv : Value} {E : Int} {n0 n1 n2 n3 n4 : Value} {toks : List Tok} {nm : Nm} {F : Nat} {w : World} {s : PS}
/-- a symbol that stands there is passed; all blocks but the parser's stay as they are -/
theorem symB_any (h : PSt w0 w g B tv E n0 n1 n2 n3 n4 toks s) (C : PCx w0 tv n0 n1 n2 n3 n4 toks nm) (t : List UInt8) (hb : atB s 7 t = true) :
    Calls Tryz.prog  83 #[.pointer (some ⟨g, 0, none⟩), .string (bs t)] w fun e w' => e = .returned (.bool true) ∧ PSt w0 w' g B tv E n0 n1 n2 n3 n4 toks (s.adv 1) ∧ ∀ b ty cs, b ≠ g → Blk w b ty cs → Blk w' b ty cs := by
  have HAT := patK_any h C 7 t
  rw [hb] at HAT
  replace HAT := Lib.hid HAT
  have hl := atB_pos hb (by decide)
  have HEX : Calls Tryz.prog  36 #[.pointer (some ⟨g, 0, none⟩), .int .i64 7, .string (bs t)] w fun e w' => e = .returned (.bool true) ∧ PSt w0 w' g B tv E n0 n1 n2 n3 n4 toks (s.adv 1) ∧ ∀ b ty cs, b ≠ g → Blk w b ty cs → Blk w' b ty cs := by
    clear hb
    generalize bs t = X at *
    go_enter Tryz.func36, Tryz.ntmps36
    go_wp2_with (go_at_call 34; refine HAT.out.mono ?_; rintro e w1 ⟨rfl, hk1⟩; obtain ⟨i, p1, pl, pf, hA1, -⟩ := (h.kept hk1).pos C.hl; obtain ⟨hw1, hS1⟩ := hA1 hl; clear hA1)
    go_ret
    exact ⟨rfl, hS1, fun b ty cs hb hB => (hB.kept hk1).far (p := ⟨g, 1, none⟩) hb _⟩
  replace HEX := Lib.hid HEX
  clear HAT hb
  generalize bs t = X at *
  go_enter Tryz.func83, Tryz.ntmps83
  go_wp2_with (go_at_call 36; refine HEX.out.mono ?_; rintro e w1 ⟨rfl, h1, h2⟩)
  go_ret
  exact ⟨rfl, h1, h2⟩
theorem atB_word {t : List UInt8} (h : (hdT s.ts 0).k = 1) : atB s 7 t = false := by
  unfold atB
  rw [h]; rfl
end
section
variable {w0 : World} {g B : Nat} {tv : Value} {E : Int} {n0 n1 n2 n3 n4 : Value} {toks : List Tok} {nm : Nm} {F : Nat}
set_option maxRecDepth 100000 in
set_option maxHeartbeats 16000000 in
theorem atom_step (C : PCx w0 tv n0 n1 n2 n3 n4 toks nm) (IH : ParOK w0 g B tv E n0 n1 n2 n3 n4 toks nm F) (s : PS) (w : World) (hf : 8 * s.ts.length + 3 < F + 1) (hm : mN s ≤ 4000000) (h : PSt w0 w g B tv E n0 n1 n2 n3 n4 toks s) : Calls Tryz.prog  67 #[.pointer (some ⟨g, 0, none⟩)] w (PRes w0 g B tv E n0 n1 n2 n3 n4 toks nm (F+1) (.atom) (s)) := by
  have HPK := Lib.hid (ppeekK_any h C 0 (by decide))
  rw [show (.int .i64 ((0 : Nat) : Int) : Value) = .int .i64 0 from rfl] at HPK
  have HLI := Lib.hid (fun w => literalOp_any (hdT s.ts 0) w)
  have HA1 := Lib.hid (fun w1 (hk : Kept w w1) => patK_any (h.kept hk) C 7 [40])
  rw [show bs [40] = ⟨#[40]⟩ from rfl] at HA1
  have hll := litO_lt (s := s) (k := 0)
  have hkl := fun (i : Int) => hdT_lt (ts := s.ts) (k := 0) (i := i)
  have HM := Lib.hid (show (s.adv 1).ns.length ≤ 8000000 from mN_ns (Nat.le_trans (mN_adv s 1) (by omega)))
  have hgw : g < w.heap.size := Nat.lt_of_lt_of_le h.sep h.top
  unfold tokA at HPK HLI
  by_cases hli : litO (hdT s.ts 0) = 0
  · rw [hli] at HLI
    by_cases hk5 : (hdT s.ts 0).k = 5
    · -- a date
      have HR := Lib.hid (show parR E nm (F + 1) .atom s = some (true, (s.adv 1).em 5 (hdT s.ts 0).n) by rw [parR, if_neg (fun e => e hli), if_pos hk5]; rfl)
      have hl := hkl 5 hk5 (by decide)
      clear IH hf hm HA1 hll hkl hli
      generalize hdT s.ts 0 = T at *
      obtain ⟨tk, tt, tn, tf⟩ := T
      dsimp only at HPK HLI HR hk5
      subst hk5
      generalize bs tt = X at *
      go_enter Tryz.func67, Tryz.ntmps67
      go_wp2_with (first
        | (go_at_call 49; refine HPK.out.mono ?_; rintro e w2 ⟨rfl, hk2⟩; have BB : Blk (w2.alloc (.cells #[.int .i64 5, .string X, .int .i64 tn, .int .i64 tf] 73)) w2.heap.size 73 #[.int .i64 5, .string X, .int .i64 tn, .int .i64 tf] := Blk.new _ _ _)
        | (go_at_call 66; refine (HLI.out _).mono ?_; rintro e w3 ⟨rfl, hk3⟩; have BB := BB.kept hk3; have bc := BB.cell; have bl := BB.lt; obtain ⟨i, p1, pl, pf, hA1, -⟩ := (((h.kept hk2).kept ((Kept.refl _).alloc (.cells #[.int .i64 5, .string X, .int .i64 tn, .int .i64 tf] 73))).kept hk3).pos C.hl; obtain ⟨hw1, hS1⟩ := hA1 hl; clear hA1; have BF := BB.far (p := ⟨g, 1, none⟩) (show w2.heap.size ≠ g by have := hk2.size; omega) (.int .i64 ((i : Int) + 1)); have fc := BF.cell; have fl := BF.lt)
        | (go_at_call 37; refine (pemit_any hS1 HM.out 5 tn).mono ?_; rintro e w6 ⟨rfl, hs6⟩))
      go_ret
      exact PRes.mk HR.out hs6
    · cases hb1 : atB s 7 [40]
      · rw [hb1] at HA1
        by_cases hk1 : (hdT s.ts 0).k = 1
        · -- a word
          have hl := hkl 1 hk1 (by decide)
          have HR := Lib.hid (show parR E nm (F + 1) .atom s = _ by rw [parR, if_neg (fun e => e hli), if_neg hk5, if_neg (by rw [hb1]; decide), if_neg (fun e => e hk1)])
          have HCO := Lib.hid (fun w => callOp_any (bs (hdT s.ts 0).t) w)
          rw [L_bs] at HCO
          have HNA := Lib.hid (fun w1 (h1 : PSt w0 w1 g B tv E n0 n1 n2 n3 n4 toks s) => name_any h1 C hm hk1)
          have HSY := Lib.hid (fun w1 (h1 : PSt w0 w1 g B tv E n0 n1 n2 n3 n4 toks (s.adv 1)) => symbol_any h1 C.hT C.hl [40])
          have HSB := Lib.hid (fun w1 (h1 : PSt w0 w1 g B tv E n0 n1 n2 n3 n4 toks (s.adv 1)) => symB_any h1 C [40])
          have HCL := Lib.hid (fun s w1 (h1 : PSt w0 w1 g B tv E n0 n1 n2 n3 n4 toks s) => symbol_any h1 C.hT C.hl [41])
          rw [show bs [40] = ⟨#[40]⟩ from rfl] at HSY HSB
          rw [show bs [41] = ⟨#[41]⟩ from rfl] at HCL
          have hadv := adv_len s 1
          have hadv2 := adv_len (s.adv 1) 1
          have hmv := mN_adv1 (s := s) (j := 1) hl (by decide)
          have hmv2 := mN_adv (s.adv 1) 1
          have HCA := Lib.hid (fun (h0 : callO (hdT s.ts 0).t ≠ 0) w1 (h1 : PSt w0 w1 g B tv E n0 n1 n2 n3 n4 toks ((s.adv 1).adv 1)) => IH.call (callO (hdT s.ts 0).t) ⟨_, rfl, h0⟩ ((s.adv 1).adv 1) w1 (by omega) (by omega) h1)
          clear IH hf hm hll hkl hli hb1 hadv hadv2 hmv hmv2
          generalize hdT s.ts 0 = T at *
          obtain ⟨tk, tt, tn, tf⟩ := T
          dsimp only at HPK HLI HR hk5 hk1 HCO HCA
          subst hk1
          have h1 := neqE (bs tt) ⟨#[116, 114, 117, 101]⟩
          have h2 := neqE (bs tt) ⟨#[102, 97, 108, 115, 101]⟩
          have h3 := neqE (bs tt) ⟨#[116, 111, 100, 97, 121]⟩
          have hbs : ∀ u : List UInt8, decide (bs tt = ⟨u.toArray⟩) = decide (tt = u) := fun u => by
            congr 1
            rw [← L_inj, L_bs]
            rfl
          rw [hbs [116, 114, 117, 101], toList_L ⟨#[116, 114, 117, 101]⟩] at h1
          rw [hbs [102, 97, 108, 115, 101], toList_L ⟨#[102, 97, 108, 115, 101]⟩] at h2
          rw [hbs [116, 111, 100, 97, 121], toList_L ⟨#[116, 111, 100, 97, 121]⟩] at h3
          replace h1 : ((bs tt).toList == [116, 114, 117, 101]) = decide (tt = [116, 114, 117, 101]) := h1
          replace h2 : ((bs tt).toList == [102, 97, 108, 115, 101]) = decide (tt = [102, 97, 108, 115, 101]) := h2
          replace h3 : ((bs tt).toList == [116, 111, 100, 97, 121]) = decide (tt = [116, 111, 100, 97, 121]) := h3
          clear hbs
          generalize bs tt = X at *
          by_cases e1 : tt = [116, 114, 117, 101]
          · rw [decide_eq_true e1] at h1
            replace HR := Lib.hid (HR.out.trans (by rw [if_pos e1]; rfl) : parR E nm (F + 1) .atom s = some (true, (s.adv 1).em 1 1))
            clear HCO HNA HSY HSB HCL HCA h2 h3 e1
            go_enter Tryz.func67, Tryz.ntmps67
            go_wp2_with (first
            | (go_at_call 49; refine HPK.out.mono ?_; rintro e w2 ⟨rfl, hk2⟩; have BB := Blk.new w2 73 #[.int .i64 1, .string X, .int .i64 tn, .int .i64 tf]; have hne : w2.heap.size ≠ g := (by have := hk2.size; omega); have hK := hk2.alloc (.cells #[.int .i64 1, .string X, .int .i64 tn, .int .i64 tf] 73))
            | (go_at_call 66; refine (HLI.out _).mono ?_; rintro e w3 ⟨rfl, hk3⟩; have BB := BB.kept hk3; have bc := BB.cell; have bl := BB.lt; have hK := hK.trans hk3)
            | (go_at_call 34; refine (HA1.out _ hK).mono ?_; rintro e w4 ⟨rfl, hk4⟩; have BB := BB.kept hk4; have bc := BB.cell; have bl := BB.lt; have hK := hK.trans hk4; have hs := h.kept hK; obtain ⟨i, p1, pl, pf, hA1, -⟩ := hs.pos C.hl; obtain ⟨hw1, hS1⟩ := hA1 hl; clear hA1; have BF := BB.far (p := ⟨g, 1, none⟩) hne (.int .i64 ((i : Int) + 1)))
            | (go_at_call 37; refine (pemit_any hS1 HM.out _ _).mono ?_; rintro e w6 ⟨rfl, hs6⟩))
            go_ret
            exact PRes.mk HR.out hs6
          rw [decide_eq_false e1] at h1
          by_cases e2 : tt = [102, 97, 108, 115, 101]
          · rw [decide_eq_true e2] at h2
            replace HR := Lib.hid (HR.out.trans (by rw [if_neg e1, if_pos e2]; rfl) : parR E nm (F + 1) .atom s = some (true, (s.adv 1).em 1 0))
            clear HCO HNA HSY HSB HCL HCA h3 e1 e2
            go_enter Tryz.func67, Tryz.ntmps67
            go_wp2_with (first
            | (go_at_call 49; refine HPK.out.mono ?_; rintro e w2 ⟨rfl, hk2⟩; have BB := Blk.new w2 73 #[.int .i64 1, .string X, .int .i64 tn, .int .i64 tf]; have hne : w2.heap.size ≠ g := (by have := hk2.size; omega); have hK := hk2.alloc (.cells #[.int .i64 1, .string X, .int .i64 tn, .int .i64 tf] 73))
            | (go_at_call 66; refine (HLI.out _).mono ?_; rintro e w3 ⟨rfl, hk3⟩; have BB := BB.kept hk3; have bc := BB.cell; have bl := BB.lt; have hK := hK.trans hk3)
            | (go_at_call 34; refine (HA1.out _ hK).mono ?_; rintro e w4 ⟨rfl, hk4⟩; have BB := BB.kept hk4; have bc := BB.cell; have bl := BB.lt; have hK := hK.trans hk4; have hs := h.kept hK; obtain ⟨i, p1, pl, pf, hA1, -⟩ := hs.pos C.hl; obtain ⟨hw1, hS1⟩ := hA1 hl; clear hA1; have BF := BB.far (p := ⟨g, 1, none⟩) hne (.int .i64 ((i : Int) + 1)))
            | (go_at_call 37; refine (pemit_any hS1 HM.out _ _).mono ?_; rintro e w6 ⟨rfl, hs6⟩))
            go_ret
            exact PRes.mk HR.out hs6
          rw [decide_eq_false e2] at h2
          by_cases e3 : tt = [116, 111, 100, 97, 121]
          · rw [decide_eq_true e3] at h3
            replace HR := Lib.hid (HR.out.trans (by rw [if_neg e1, if_neg e2, if_pos e3]; rfl) : parR E nm (F + 1) .atom s = some (true, (s.adv 1).em 9 0))
            clear HCO HNA HSY HSB HCL HCA e1 e2 e3
            go_enter Tryz.func67, Tryz.ntmps67
            go_wp2_with (first
            | (go_at_call 49; refine HPK.out.mono ?_; rintro e w2 ⟨rfl, hk2⟩; have BB := Blk.new w2 73 #[.int .i64 1, .string X, .int .i64 tn, .int .i64 tf]; have hne : w2.heap.size ≠ g := (by have := hk2.size; omega); have hK := hk2.alloc (.cells #[.int .i64 1, .string X, .int .i64 tn, .int .i64 tf] 73))
            | (go_at_call 66; refine (HLI.out _).mono ?_; rintro e w3 ⟨rfl, hk3⟩; have BB := BB.kept hk3; have bc := BB.cell; have bl := BB.lt; have hK := hK.trans hk3)
            | (go_at_call 34; refine (HA1.out _ hK).mono ?_; rintro e w4 ⟨rfl, hk4⟩; have BB := BB.kept hk4; have bc := BB.cell; have bl := BB.lt; have hK := hK.trans hk4; have hs := h.kept hK; obtain ⟨i, p1, pl, pf, hA1, -⟩ := hs.pos C.hl; obtain ⟨hw1, hS1⟩ := hA1 hl; clear hA1; have BF := BB.far (p := ⟨g, 1, none⟩) hne (.int .i64 ((i : Int) + 1)))
            | (go_at_call 37; refine (pemit_any hS1 HM.out _ _).mono ?_; rintro e w6 ⟨rfl, hs6⟩))
            go_ret
            exact PRes.mk HR.out hs6
          rw [decide_eq_false e3] at h3
          by_cases e4 : callO tt = 0
          · rw [e4] at HCO
            replace HR := Lib.hid (HR.out.trans (by rw [if_neg e1, if_neg e2, if_neg e3, if_neg (fun h => h e4)]) : parR E nm (F + 1) .atom s = nameR E nm s)
            clear HSY HSB HCL HCA e1 e2 e3 e4
            go_enter Tryz.func67, Tryz.ntmps67
            go_wp2_with (first
            | (go_at_call 49; refine HPK.out.mono ?_; rintro e w2 ⟨rfl, hk2⟩; have BB := Blk.new w2 73 #[.int .i64 1, .string X, .int .i64 tn, .int .i64 tf]; have hne : w2.heap.size ≠ g := (by have := hk2.size; omega); have hK := hk2.alloc (.cells #[.int .i64 1, .string X, .int .i64 tn, .int .i64 tf] 73))
            | (go_at_call 66; refine (HLI.out _).mono ?_; rintro e w3 ⟨rfl, hk3⟩; have BB := BB.kept hk3; have bc := BB.cell; have bl := BB.lt; have hK := hK.trans hk3)
            | (go_at_call 34; refine (HA1.out _ hK).mono ?_; rintro e w4 ⟨rfl, hk4⟩; have BB := BB.kept hk4; have bc := BB.cell; have bl := BB.lt; have hK := hK.trans hk4; have hs := h.kept hK; obtain ⟨i, p1, pl, pf, hA1, -⟩ := hs.pos C.hl; obtain ⟨hw1, hS1⟩ := hA1 hl; clear hA1; have BF := BB.far (p := ⟨g, 1, none⟩) hne (.int .i64 ((i : Int) + 1)))
            | (go_at_call 84; refine (HCO.out _).mono ?_; rintro e w5 ⟨rfl, rfl⟩)
            | (go_at_call 86; refine (HNA.out _ hs).mono ?_; rintro e w6 ⟨b, s6, hp6, rfl, hs6⟩))
            go_ret
            exact PRes.mk (HR.out.trans hp6) hs6
          · have hcb := bne_noL e4
            have hnot : ¬ callO tt = 0 := e4
            replace HCA := Lib.hid (HCA.out e4)
            replace HR := Lib.hid (HR.out.trans (by rw [if_neg e1, if_neg e2, if_neg e3, if_pos e4]) : parR E nm (F + 1) .atom s = thenP (symP E [40] (s.adv 1)) fun s' => thenP (parR E nm F (.call (callO tt)) s') (symP E [41]))
            clear HNA e1 e2 e3 e4
            generalize callO tt = co at *
            cases hb2 : atB (s.adv 1) 7 [40]
            · have hsy : symP E [40] (s.adv 1) = some (false, (s.adv 1).bad E 2) := by rw [symP, expP, hb2]; rfl
              rw [hsy] at HSY HR
              replace HR := Lib.hid (HR.out : parR E nm (F + 1) .atom s = some (false, (s.adv 1).bad E 2))
              clear HSB HCL HCA hsy hb2
              go_enter Tryz.func67, Tryz.ntmps67
              go_wp2_with (first
              | (go_at_call 49; refine HPK.out.mono ?_; rintro e w2 ⟨rfl, hk2⟩; have BB := Blk.new w2 73 #[.int .i64 1, .string X, .int .i64 tn, .int .i64 tf]; have hne : w2.heap.size ≠ g := (by have := hk2.size; omega); have hK := hk2.alloc (.cells #[.int .i64 1, .string X, .int .i64 tn, .int .i64 tf] 73))
              | (go_at_call 66; refine (HLI.out _).mono ?_; rintro e w3 ⟨rfl, hk3⟩; have BB := BB.kept hk3; have bc := BB.cell; have bl := BB.lt; have hK := hK.trans hk3)
              | (go_at_call 34; refine (HA1.out _ hK).mono ?_; rintro e w4 ⟨rfl, hk4⟩; have BB := BB.kept hk4; have bc := BB.cell; have bl := BB.lt; have hK := hK.trans hk4; have hs := h.kept hK; obtain ⟨i, p1, pl, pf, hA1, -⟩ := hs.pos C.hl; obtain ⟨hw1, hS1⟩ := hA1 hl; clear hA1; have BF := BB.far (p := ⟨g, 1, none⟩) hne (.int .i64 ((i : Int) + 1)))
              | (go_at_call 84; refine (HCO.out _).mono ?_; rintro e w5 ⟨rfl, rfl⟩)
              | (go_at_call_of 83 (Value.string ⟨#[40]⟩); refine (HSY.out _ hS1).mono ?_; rintro e w6 ⟨b, s6, hp6, rfl, hs6⟩; obtain ⟨rfl, rfl⟩ : false = b ∧ (s.adv 1).bad E 2 = s6 := (by have := Option.some.inj hp6; exact ⟨congrArg Prod.fst this, congrArg Prod.snd this⟩)))
              go_ret
              exact PRes.mk HR.out hs6
            · have hsy : symP E [40] (s.adv 1) = some (true, (s.adv 1).adv 1) := by rw [symP, expP, hb2]; rfl
              rw [hsy] at HR
              replace HSB := Lib.hid (fun w1 h1 => HSB.out w1 h1 hb2)
              replace HR := Lib.hid (HR.out : parR E nm (F + 1) .atom s = thenP (parR E nm F (.call co) ((s.adv 1).adv 1)) (symP E [41]))
              clear HSY hsy hb2
              go_enter Tryz.func67, Tryz.ntmps67
              go_wp2_with (first
              | (go_at_call 49; refine HPK.out.mono ?_; rintro e w2 ⟨rfl, hk2⟩; have BB := Blk.new w2 73 #[.int .i64 1, .string X, .int .i64 tn, .int .i64 tf]; have hne : w2.heap.size ≠ g := (by have := hk2.size; omega); have hK := hk2.alloc (.cells #[.int .i64 1, .string X, .int .i64 tn, .int .i64 tf] 73))
              | (go_at_call 66; refine (HLI.out _).mono ?_; rintro e w3 ⟨rfl, hk3⟩; have BB := BB.kept hk3; have bc := BB.cell; have bl := BB.lt; have hK := hK.trans hk3)
              | (go_at_call 34; refine (HA1.out _ hK).mono ?_; rintro e w4 ⟨rfl, hk4⟩; have BB := BB.kept hk4; have bc := BB.cell; have bl := BB.lt; have hK := hK.trans hk4; have hs := h.kept hK; obtain ⟨i, p1, pl, pf, hA1, -⟩ := hs.pos C.hl; obtain ⟨hw1, hS1⟩ := hA1 hl; clear hA1; have BF := BB.far (p := ⟨g, 1, none⟩) hne (.int .i64 ((i : Int) + 1)))
              | (go_at_call 84; refine (HCO.out _).mono ?_; rintro e w5 ⟨rfl, rfl⟩)
              | (go_at_call_of 83 (Value.string ⟨#[40]⟩); refine (HSB.out _ hS1).mono ?_; rintro e w6 ⟨rfl, hs6, hbk⟩; have BB := hbk _ _ _ hne BF; have bc := BB.cell; have bl := BB.lt)
              | (go_at_call 85; refine (HCA.out _ hs6).mono ?_; rintro e w7 ⟨b, s7, hp7, rfl, hs7⟩; cases b)
              | (go_at_call_of 83 (Value.string ⟨#[41]⟩); refine (HCL.out _ _ hs7).mono ?_; rintro e w8 ⟨b, s8, hp8, rfl, hs8⟩))
              · go_ret
                exact PRes.mk (HR.out.trans (by show thenP (parR E nm F (.call co) _) _ = _; rw [hp7]; rfl)) hs7
              · go_ret
                exact PRes.mk (HR.out.trans (by show thenP (parR E nm F (.call co) _) _ = _; rw [hp7]; exact hp8)) hs8
        · have HR := Lib.hid (show parR E nm (F + 1) .atom s = some (false, s.bad E 2) by rw [parR, if_neg (fun e => e hli), if_neg hk5, if_neg (by rw [hb1]; decide), if_pos hk1]; rfl)
          have HFL := Lib.hid (fun (w1 : World) (h1 : PSt w0 w1 g B tv E n0 n1 n2 n3 n4 toks s) => pfail_any h1 C.hT C.hl 2)
          unfold PPost at HFL
          clear IH hf hm hll hkl hli hb1 HM
          generalize hdT s.ts 0 = T at *
          obtain ⟨tk, tt, tn, tf⟩ := T
          dsimp only at HPK HLI HR hk5 hk1
          have hk5b := beq_noL hk5
          have hk1b := bne_noL hk1
          generalize bs tt = X at *
          go_enter Tryz.func67, Tryz.ntmps67
          go_wp2_with (first
            | (go_at_call 49; refine HPK.out.mono ?_; rintro e w2 ⟨rfl, hk2⟩; have BB : Blk (w2.alloc (.cells #[.int .i64 tk, .string X, .int .i64 tn, .int .i64 tf] 73)) w2.heap.size 73 #[.int .i64 tk, .string X, .int .i64 tn, .int .i64 tf] := Blk.new _ _ _; have hK := hk2.alloc (.cells #[.int .i64 tk, .string X, .int .i64 tn, .int .i64 tf] 73))
            | (go_at_call 66; refine (HLI.out _).mono ?_; rintro e w3 ⟨rfl, hk3⟩; have BB := BB.kept hk3; have bc := BB.cell; have bl := BB.lt; have hK := hK.trans hk3)
            | (go_at_call 34; refine (HA1.out _ hK).mono ?_; rintro e w4 ⟨rfl, hk4⟩; have BB := BB.kept hk4; have bc := BB.cell; have bl := BB.lt; have hK := hK.trans hk4)
            | (go_at_call 20; refine (HFL.out _ (h.kept hK)).mono ?_; rintro e w6 ⟨rfl, hs6⟩))
          go_ret
          exact PRes.mk HR.out hs6
      · -- parentheses
        rw [hb1] at HA1
        have hl := atB_pos hb1 (by decide)
        have HR := Lib.hid (show parR E nm (F + 1) .atom s = thenP (parR E nm F .expr (s.adv 1)) (symP E [41]) by rw [parR, if_neg (fun e => e hli), if_neg hk5, if_pos hb1])
        have hadv := adv_len s 1
        have HE := Lib.hid (fun w1 (h1 : PSt w0 w1 g B tv E n0 n1 n2 n3 n4 toks (s.adv 1)) => IH.expr (s.adv 1) w1 (by omega) (Nat.le_trans (mN_adv s 1) hm) h1)
        have HSY := Lib.hid (fun s w1 (h1 : PSt w0 w1 g B tv E n0 n1 n2 n3 n4 toks s) => symbol_any h1 C.hT C.hl [41])
        rw [show bs [41] = ⟨#[41]⟩ from rfl] at HSY
        clear IH hf hm hll hkl hli hb1 HM hadv
        generalize hdT s.ts 0 = T at *
        obtain ⟨tk, tt, tn, tf⟩ := T
        dsimp only at HPK HLI HR hk5
        have hk5b := beq_noL hk5
        generalize bs tt = X at *
        go_enter Tryz.func67, Tryz.ntmps67
        go_wp2_with (first
          | (go_at_call 49; refine HPK.out.mono ?_; rintro e w2 ⟨rfl, hk2⟩; have BB : Blk (w2.alloc (.cells #[.int .i64 tk, .string X, .int .i64 tn, .int .i64 tf] 73)) w2.heap.size 73 #[.int .i64 tk, .string X, .int .i64 tn, .int .i64 tf] := Blk.new _ _ _; have hK := hk2.alloc (.cells #[.int .i64 tk, .string X, .int .i64 tn, .int .i64 tf] 73))
          | (go_at_call 66; refine (HLI.out _).mono ?_; rintro e w3 ⟨rfl, hk3⟩; have BB := BB.kept hk3; have bc := BB.cell; have bl := BB.lt; have hK := hK.trans hk3)
          | (go_at_call 34; refine (HA1.out _ hK).mono ?_; rintro e w4 ⟨rfl, hk4⟩; have hK := hK.trans hk4; obtain ⟨i, p1, pl, pf, hA1, -⟩ := (h.kept hK).pos C.hl; obtain ⟨hw1, hS1⟩ := hA1 hl; clear hA1)
          | (go_at_call 19; refine (HE.out _ hS1).mono ?_; rintro e w5 ⟨b, s5, hp, rfl, hs5⟩; cases b)
          | (go_at_call 83; refine (HSY.out _ _ hs5).mono ?_; rintro e w6 ⟨b, s6, hp6, rfl, hs6⟩))
        · go_ret
          exact PRes.mk (by rw [HR.out, hp]; rfl) hs5
        · go_ret
          exact PRes.mk (by rw [HR.out, hp]; exact hp6) hs6
  · -- a number
    have HR := Lib.hid (show parR E nm (F + 1) .atom s = some (true, (s.adv 1).em (litO (hdT s.ts 0)) (hdT s.ts 0).n) by rw [parR, if_pos hli]; rfl)
    have hl := hll hli
    have hnb := bne_noL hli
    clear IH hf hm HA1 hll hkl
    generalize litO (hdT s.ts 0) = lo at *
    generalize hdT s.ts 0 = T at *
    obtain ⟨tk, tt, tn, tf⟩ := T
    dsimp only at HPK HLI HR
    generalize bs tt = X at *
    go_enter Tryz.func67, Tryz.ntmps67
    go_wp2_with (first
      | (go_at_call 49; refine HPK.out.mono ?_; rintro e w2 ⟨rfl, hk2⟩)
      | (go_at_call 66; refine (HLI.out _).mono ?_; rintro e w3 ⟨rfl, hk3⟩; obtain ⟨i, p1, pl, pf, hA1, -⟩ := (((h.kept hk2).kept ((Kept.refl _).alloc (.cells #[.int .i64 tk, .string X, .int .i64 tn, .int .i64 tf] 73))).kept hk3).pos C.hl; obtain ⟨hw1, hS1⟩ := hA1 hl; clear hA1))
    have BB : Blk (w2.alloc (.cells #[.int .i64 tk, .string X, .int .i64 tn, .int .i64 tf] 73)) w2.heap.size 73 #[.int .i64 tk, .string X, .int .i64 tn, .int .i64 tf] := Blk.new _ _ _
    have BF := (BB.kept hk3).far (p := ⟨g, 1, none⟩) (show w2.heap.size ≠ g by have := hk2.size; omega) (.int .i64 ((i : Int) + 1))
    generalize w3.setCell ⟨g, 1, none⟩ (.int .i64 ((i : Int) + 1)) = W at *
    have c0 := KW.cell BF.lt (BF.cell 0)
    have c1 := KW.cell BF.lt (BF.cell 1)
    have c2 := KW.cell BF.lt (BF.cell 2)
    have c3 := KW.cell BF.lt (BF.cell 3)
    try simp only [List.getElem?_toArray, List.getElem?_cons_zero, List.getElem?_cons_succ] at c0 c1 c2 c3
    refine wp_region_kept_tail 5 (by kernel_rfl) (by kernel_rfl) ?_
    simp only [List.take_succ_cons, List.take_zero, List.drop_succ_cons, List.drop_zero]
    repeat (go_big_quiet_step ((go_at_call 66; with_reducible exact KW.call (HLI.out _))))
    refine wpQuiet_nil ?_
    rintro w5 ⟨⟨wy, hy⟩, hh⟩
    obtain rfl : w5 = wy := hh
    clear c0 c1 c2 c3
    go_wp2_with (go_at_call 37; refine (pemit_any (hS1.kept hy) HM.out lo tn).mono ?_; rintro e w6 ⟨rfl, hs6⟩)
    go_ret
    exact PRes.mk HR.out hs6
end
end Go.Proofs.YtdnjfpmngnkcfaaGreatDoor
/- What call of the parser of package exprtext computes. -/
namespace Go.Proofs.YtdnjfpmngnkcfaaGreatDoor
open Go.RowKit

theorem callO_cases {t : List UInt8} {op : Int} (h : callO t = op) (h0 : op ≠ 0) : op = 35 ∨ (op = 36 ∨ op = 37 ∨ op = 38 ∨ op = 39) ∨ op = 33 ∨ op = 34 ∨ (op = 31 ∨ op = 32) ∨ (op = 14 ∨ op = 15 ∨ op = 16) ∨ (op = 17 ∨ op = 18 ∨ op = 27 ∨ op = 28 ∨ op = 29 ∨ op = 30) := by
  subst h
  unfold callO at h0 ⊢
  repeat' split
  all_goals first | omega | exact absurd rfl h0
section
variable {w0 : World} {g B : Nat} {tv : Value} {E : Int} {n0 n1 n2 n3 n4 : Value} {toks : List Tok} {nm : Nm} {F : Nat}
set_option maxRecDepth 100000 in
set_option maxHeartbeats 16000000 in
theorem call_step (C : PCx w0 tv n0 n1 n2 n3 n4 toks nm) (IH : ParOK w0 g B tv E n0 n1 n2 n3 n4 toks nm F) (op : Int) (hop : ∃ t, callO t = op ∧ op ≠ 0) (s : PS) (w : World) (hf : 8 * s.ts.length + 7 < F + 1) (hm : mN s + 1 ≤ 4000000) (h : PSt w0 w g B tv E n0 n1 n2 n3 n4 toks s) : Calls Tryz.prog  85 #[.pointer (some ⟨g, 0, none⟩), .int .i64 op] w (PRes w0 g B tv E n0 n1 n2 n3 n4 toks nm (F+1) (.call op) (s)) := by
  obtain ⟨t, ht, h0⟩ := hop
  have hSm : Sm F s := ⟨by omega, by omega⟩
  have HE := Lib.hid IH.expS
  have HCO := Lib.hid (fun (s : PS) (w1 : World) (h1 : PSt w0 w1 g B tv E n0 n1 n2 n3 n4 toks s) => symbol_any h1 C.hT C.hl [44])
  rw [show bs [44] = ⟨#[44]⟩ from rfl] at HCO
  have HMO := Lib.hid (fun (s : PS) (w1 : World) (h1 : PSt w0 w1 g B tv E n0 n1 n2 n3 n4 toks s) => modeD_any h1 C)
  have hn := h.nms
  obtain ⟨-, m1, -, -, m4⟩ := hn
  obtain ⟨i, p1, pl, pf, -, -⟩ := h.pos C.hl
  clear IH
  rcases callO_cases ht h0 with rfl | ho | rfl | rfl | ho | ho | ho
  · -- count
    have HR := Lib.hid (show parR E nm (F + 1) (.call 35) s = some (true, s.em 35 0) by rw [parR, if_pos rfl]; rfl)
    clear m1 m4 HE HCO HMO ht h0
    go_enter Tryz.func85, Tryz.ntmps85
    go_wp2_with (go_at_call 37; refine (pemit_any h hSm.ns 35 0).mono ?_; rintro e w3 ⟨rfl, hs⟩)
    go_ret
    exact PRes.mk HR.out hs
  · -- sum, all, any, most
    have HFI := Lib.hid (fun (s : PS) (w1 : World) (h1 : PSt w0 w1 g B tv E n0 n1 n2 n3 n4 toks s) => findD_any h1 C n4 nm.md C.md C.mdl)
    have HR := Lib.hid (show parR E nm (F + 1) (.call op) s = withR (findR E nm.md s) fun d => emP op d by rw [parR, if_neg (by omega), if_pos (by omega)])
    clear m1 HE HCO HMO ht h0
    rcases ho with rfl | rfl | rfl | rfl
    all_goals
      go_enter Tryz.func85, Tryz.ntmps85
      go_wp2_with (first
        | (go_at_call 101; refine (HFI.out _ _ h).mono ?_; rintro e w3 (⟨s3, hp, rfl, hs⟩ | ⟨j, s3, hp, hj, hmm, htt, rfl, hs⟩))
        | (go_at_call 37; refine (pemit_any hs (mN_ns (by omega)) _ _).mono ?_; rintro e w4 ⟨rfl, hs4⟩))
      all_goals go_ret
      all_goals refine PRes.mk ?_ (by assumption)
      all_goals (rw [HR.out, hp]; rfl)
  · -- tab
    have HFI := Lib.hid (fun (s : PS) (w1 : World) (h1 : PSt w0 w1 g B tv E n0 n1 n2 n3 n4 toks s) => findD_any h1 C n1 nm.tb C.tb C.tl)
    have HR := Lib.hid (show parR E nm (F + 1) (.call 33) s = withR (findR E nm.tb s) fun i s => thenP (symP E [44] s) fun s => thenP (parR E nm F .expr s) fun s => emP 33 i s by rw [parR, if_neg (by omega), if_neg (by omega), if_pos (by omega)]; rfl)
    clear m4 HMO ht h0
    go_enter Tryz.func85, Tryz.ntmps85
    go_wp2_with (first
      | (go_at_call 101; refine (HFI.out _ _ h).mono ?_; rintro e w3 (⟨s3, hp, rfl, hs⟩ | ⟨j, s3, hp, hj, hmm, htt, rfl, hs⟩); rotate_left; have hSS := hSm.find hmm htt)
      | (go_at_call 83; refine (HCO.out _ _ (by assumption)).mono ?_; rintro e w3 ⟨b, s3, hp, rfl, hs⟩; have hSS := Sm.exp (by assumption) hp; cases b)
      | (go_at_call 19; refine (HE.out _ _ (by assumption) (by assumption)).mono ?_; rintro e w3 ⟨b, s3, hp, rfl, hs⟩; have hSS := Sm.expr (by assumption) hp; cases b)
      | (go_at_call 37; refine (pemit_any (by assumption) hSS.ns _ _).mono ?_; rintro e w4 ⟨rfl, hs4⟩))
    all_goals go_ret
    all_goals refine PRes.mk ?_ (by assumption)
    all_goals rw [HR.out]
    all_goals (simp only [withR, thenP, *]; try rfl)
  · -- band
    have HFI := Lib.hid (fun (s : PS) (w1 : World) (h1 : PSt w0 w1 g B tv E n0 n1 n2 n3 n4 toks s) => findD_any h1 C n1 nm.tb C.tb C.tl)
    have HR := Lib.hid (show parR E nm (F + 1) (.call 34) s = withR (findR E nm.tb s) fun i s => thenP (symP E [44] s) fun s => thenP (parR E nm F .expr s) fun s => thenP (symP E [44] s) fun s => withR (modeR E s) fun m => emP 34 (8 * i + m) by rw [parR, if_neg (by omega), if_neg (by omega), if_pos (by omega)]; rfl)
    clear m4 ht h0
    go_enter Tryz.func85, Tryz.ntmps85
    go_wp2_with (first
      | (go_at_call 101; refine (HFI.out _ _ h).mono ?_; rintro e w3 (⟨s3, hp, rfl, hs⟩ | ⟨j, s3, hp, hj, hmm, htt, rfl, hs⟩); rotate_left; have hSS := hSm.find hmm htt; have hw8 : IntKind.i64.wrap (8 * (j : Int)) = 8 * j := (by rw [IntKind.wrap_i64]; omega))
      | (go_at_call 83; refine (HCO.out _ _ (by assumption)).mono ?_; rintro e w3 ⟨b, s3, hp, rfl, hs⟩; have hSS := Sm.exp (by assumption) hp; cases b)
      | (go_at_call 19; refine (HE.out _ _ (by assumption) (by assumption)).mono ?_; rintro e w3 ⟨b, s3, hp, rfl, hs⟩; have hSS := Sm.expr (by assumption) hp; cases b)
      | (go_at_call 102; refine (HMO.out _ _ (by assumption)).mono ?_; rintro e w3 (⟨s3, hp, rfl, hs⟩ | ⟨m, s3, hp, hm0, hm5, hmm2, rfl, hs⟩); rotate_left; have hwm : IntKind.i64.wrap (8 * (j : Int) + m) = 8 * j + m := (by rw [IntKind.wrap_i64]; omega))
      | (go_at_call 37; refine (pemit_any (by assumption) (mN_ns (Nat.le_trans hmm2 (Nat.le_trans hSS.2 (by decide)))) _ _).mono ?_; rintro e w4 ⟨rfl, hs4⟩))
    all_goals go_ret
    all_goals refine PRes.mk ?_ (by assumption)
    all_goals rw [HR.out]
    all_goals (simp only [withR, thenP, *]; try rfl)
  · -- year, month
    have HR := Lib.hid (show parR E nm (F + 1) (.call op) s = thenP (parR E nm F .expr s) fun s => emP op 0 s by rw [parR, if_neg (by omega), if_neg (by omega), if_neg (by omega)]; simp only [if_pos ho])
    clear m1 m4 HMO HCO ht h0
    rcases ho with rfl | rfl
    all_goals
      go_enter Tryz.func85, Tryz.ntmps85
      go_wp2_with (first
        | (go_at_call 19; refine (HE.out _ _ h hSm).mono ?_; rintro e w3 ⟨b, s3, hp, rfl, hs⟩; have hSS := Sm.expr hSm hp; cases b)
        | (go_at_call 37; refine (pemit_any hs hSS.ns _ _).mono ?_; rintro e w4 ⟨rfl, hs4⟩))
      all_goals go_ret
      all_goals refine PRes.mk ?_ (by assumption)
      all_goals (rw [HR.out, hp]; rfl)
  · -- share, div, round
    have HR := Lib.hid (show parR E nm (F + 1) (.call op) s = thenP (parR E nm F .expr s) fun s => thenP (symP E [44] s) fun s => thenP (parR E nm F .expr s) fun s => thenP (symP E [44] s) fun s => withR (modeR E s) fun m => emP op m by rw [parR, if_neg (by omega), if_neg (by omega), if_neg (by omega)]; simp only [if_neg (show ¬ (op = 31 ∨ op = 32) by omega), if_pos ho])
    clear m1 m4 ht h0
    rcases ho with rfl | rfl | rfl
    all_goals
      go_enter Tryz.func85, Tryz.ntmps85
      go_wp2_with (first
        | (go_at_call 19; refine (HE.out _ _ (by assumption) (by assumption)).mono ?_; rintro e w3 ⟨b, s3, hp, rfl, hs⟩; have hSS := Sm.expr (by assumption) hp; cases b)
        | (go_at_call 83; refine (HCO.out _ _ (by assumption)).mono ?_; rintro e w3 ⟨b, s3, hp, rfl, hs⟩; have hSS := Sm.exp (by assumption) hp; cases b)
        | (go_at_call 102; refine (HMO.out _ _ (by assumption)).mono ?_; rintro e w3 (⟨s3, hp, rfl, hs⟩ | ⟨m, s3, hp, hm0, hm5, hmm2, rfl, hs⟩))
        | (go_at_call 37; refine (pemit_any (by assumption) (mN_ns (Nat.le_trans hmm2 (Nat.le_trans hSS.2 (by decide)))) _ _).mono ?_; rintro e w4 ⟨rfl, hs4⟩))
      all_goals go_ret
      all_goals refine PRes.mk ?_ (by assumption)
      all_goals rw [HR.out]
      all_goals (simp only [withR, thenP, *]; try rfl)
  · -- min, max, plus, months, days, years
    have HR := Lib.hid (show parR E nm (F + 1) (.call op) s = thenP (parR E nm F .expr s) fun s => thenP (symP E [44] s) fun s => thenP (parR E nm F .expr s) fun s => emP op 0 s by rw [parR, if_neg (by omega), if_neg (by omega), if_neg (by omega)]; simp only [if_neg (show ¬ (op = 31 ∨ op = 32) by omega), if_neg (show ¬ (op = 14 ∨ op = 15 ∨ op = 16) by omega)])
    clear m1 m4 HMO ht h0
    have e35 : (op == 35) = false := by simp; omega
    have e36 : (op == 36) = false := by simp; omega
    have e37 : (op == 37) = false := by simp; omega
    have e38 : (op == 38) = false := by simp; omega
    have e39 : (op == 39) = false := by simp; omega
    have e33 : (op == 33) = false := by simp; omega
    have e34 : (op == 34) = false := by simp; omega
    have e31 : (op == 31) = false := by simp; omega
    have e32 : (op == 32) = false := by simp; omega
    have e14 : (op == 14) = false := by simp; omega
    have e15 : (op == 15) = false := by simp; omega
    have e16 : (op == 16) = false := by simp; omega
    clear ho
    go_enter Tryz.func85, Tryz.ntmps85
    go_wp2_with (first
      | (go_at_call 19; refine (HE.out _ _ (by assumption) (by assumption)).mono ?_; rintro e w3 ⟨b, s3, hp, rfl, hs⟩; have hSS := Sm.expr (by assumption) hp; cases b)
      | (go_at_call 83; refine (HCO.out _ _ (by assumption)).mono ?_; rintro e w3 ⟨b, s3, hp, rfl, hs⟩; have hSS := Sm.exp (by assumption) hp; cases b)
      | (go_at_call 37; refine (pemit_any (by assumption) hSS.ns _ _).mono ?_; rintro e w4 ⟨rfl, hs4⟩))
    all_goals go_ret
    all_goals refine PRes.mk ?_ (by assumption)
    all_goals rw [HR.out]
    all_goals (simp only [thenP, *]; try rfl)
end
end Go.Proofs.YtdnjfpmngnkcfaaGreatDoor
/- What binary of the parser of package exprtext computes. -/
namespace Go.Proofs.YtdnjfpmngnkcfaaGreatDoor
open Go.RowKit

theorem opOf_cases (t : Tok) : (opOf t).1 = 0 ∨ (11 ≤ (opOf t).1 ∧ (opOf t).1 ≤ 24 ∧ 1 ≤ (opOf t).2 ∧ (opOf t).2 ≤ 5) := by
  unfold opOf
  repeat' split
  all_goals first | exact .inl rfl | exact .inr (by decide)
/-- how many tokens are left, read off the memory -/
def leftW (g n : Nat) (w : World) : Nat := n - (intOf ((w.cell? ⟨g, 1, none⟩).getD (.int .i64 0))).toNat
section
variable {w0 : World} {g B : Nat} {tv : Value} {E : Int} {n0 n1 n2 n3 n4 : Value} {toks : List Tok} {nm : Nm} {F : Nat} {w : World} {s : PS}
theorem PSt.left (h : PSt w0 w g B tv E n0 n1 n2 n3 n4 toks s) : leftW g toks.length w = s.ts.length := by
  obtain ⟨i, nv, h5, h6, h7, h8⟩ := h.at_
  unfold PCell at h5
  have := h5.cell 1
  simp only [List.getElem?_toArray, List.getElem?_cons_zero, List.getElem?_cons_succ] at this
  unfold leftW
  rw [this, h7, List.length_drop]
  show toks.length - (intOf (.int .i64 (i : Int))).toNat = _
  rfl
theorem Sm1 {s : PS} {f : Nat} (h : 8 * s.ts.length + 1 < f) (hl : 0 < s.ts.length) : ∃ f', f = f' + 1 ∧ 8 * (s.adv 1).ts.length + 5 < f' := by
  have := adv_len s 1
  exact ⟨f - 1, by omega, by omega⟩
set_option maxRecDepth 100000 in
set_option maxHeartbeats 4000000 in
theorem bin_step (C : PCx w0 tv n0 n1 n2 n3 n4 toks nm) (IH : ∀ f, f ≤ F → ParOK w0 g B tv E n0 n1 n2 n3 n4 toks nm f) (c : Int) (hc : 1 ≤ c ∧ c ≤ 6) (s : PS) (w : World) (hf : 8 * s.ts.length + 5 < F + 1) (hm : mN s ≤ 4000000) (h : PSt w0 w g B tv E n0 n1 n2 n3 n4 toks s) : Calls Tryz.prog  35 #[.pointer (some ⟨g, 0, none⟩), .int .i64 c] w (PRes w0 g B tv E n0 n1 n2 n3 n4 toks nm (F+1) (.bin c) (s)) := by
  have HU := Lib.hid (fun w1 (h1 : PSt w0 w1 g B tv E n0 n1 n2 n3 n4 toks s) => (IH F (Nat.le_refl _)).un s w1 (by omega) hm h1)
  have HR := Lib.hid (show parR E nm (F + 1) (.bin c) s = thenP (parR E nm F .un s) (parR E nm F (.loop c 5)) by rw [parR])
  have HT := Lib.hid (fun (b : Bool) s' (hp : parR E nm F .un s = some (b, s')) => (show s'.ts.length + (if b then 1 else 0) ≤ s.ts.length ∧ mN s' ≤ 4000000 from by
    obtain ⟨b1, s1, h1, h2, h3⟩ := parR_tot E nm F .un s (by show 8 * _ + 4 < F; omega)
    rw [hp] at h1
    have e := Option.some.inj h1
    have e1 : b = b1 := congrArg Prod.fst e
    have e2 : s' = s1 := congrArg Prod.snd e
    subst e1; subst e2
    refine ⟨?_, parR_mN hp hm⟩
    cases b
    · exact h2
    · exact h3 rfl))
  have HF := Lib.hid hf
  clear hf
  go_enter Tryz.func35, Tryz.ntmps35
  go_wp2_with (go_at_call 50; refine (HU.out _ h).mono ?_; rintro e w1 ⟨b, s1, hp, rfl, hs⟩; cases b)
  · go_ret
    exact PRes.mk (by rw [HR.out, hp]; rfl) hs
  have HP := Lib.hid (show parR E nm (F + 1) (.bin c) s = parR E nm F (.loop c 5) s1 by rw [HR.out, hp]; rfl)
  have HS1 := Lib.hid (show 8 * s1.ts.length + 1 < F by have := (HT.out _ _ hp).1; rw [if_pos rfl] at this; have := HF.out; omega)
  have HM1 := Lib.hid (HT.out _ _ hp).2
  clear hp HU HR HT HF h hm
  go_loopw [5] (fun z wr => ∃ (gk : Int) (sk : PS) (fk : Nat), z = .int .i64 gk ∧ PSt w0 wr g B tv E n0 n1 n2 n3 n4 toks sk ∧ fk ≤ F ∧ 8 * sk.ts.length + 1 < fk ∧ mN sk ≤ 4000000 ∧ parR E nm (F + 1) (.bin c) s = parR E nm fk (.loop c gk) sk) (fun _ wr => leftW g toks.length wr)
  case atStart => exact ⟨5, s1, F, rfl, hs, Nat.le_refl _, HS1.out, HM1.out, HP.out⟩
  case round =>
    clear hs HS1 HM1 HP
    obtain ⟨gk, sk, fk, rfl, hs, hfk, hsz, hmk, hpk⟩ := hrel
    have HPK := Lib.hid (fun w1 (hk : Kept wr w1) => ppeekK_any (hs.kept hk) C 0 (by decide))
    rw [show (.int .i64 ((0 : Nat) : Int) : Value) = .int .i64 0 from rfl] at HPK
    have HOP := Lib.hid (fun w => operatorOf_any (hdT sk.ts 0) w)
    have hpo := opOf_lt (s := sk)
    have hcs := opOf_cases (hdT sk.ts 0)
    have hst := fun f' => (show parR E nm (f' + 1) (.loop c gk) sk = _ by rw [parR])
    have hleft := hs.left
    generalize opOf (hdT sk.ts 0) = OO at *
    obtain ⟨o, cl⟩ := OO
    dsimp only at hpo hcs hst HOP
    generalize tokA (hdT sk.ts 0) = TA at *
    by_cases hstop : o = 0 ∨ cl < c ∨ gk < cl
    · have HR := Lib.hid (show parR E nm (F + 1) (.bin c) s = some (true, sk) by
        obtain ⟨f', rfl⟩ : ∃ f', fk = f' + 1 := ⟨fk - 1, by omega⟩
        rw [hpk, hst f', if_pos hstop])
      clear hpk hst hpo
      rcases (show o = 0 ∨ (¬ o = 0 ∧ cl < c) ∨ (¬ o = 0 ∧ ¬ cl < c ∧ gk < cl) by omega) with rfl | ⟨ho, hlt⟩ | ⟨ho, hlt, hgt⟩
      · clear hstop hcs
        go_wp2_with (first
          | (go_at_call 49; refine (HPK.out _ (Kept.refl _)).mono ?_; rintro e w2 ⟨rfl, hk2⟩)
          | (go_at_call 51; refine (HOP.out _).mono ?_; rintro e w3 ⟨rfl, hk3⟩))
        go_ret
        exact PRes.mk HR.out (hs.kept (hk2.trans hk3))
      · clear hstop hcs
        have hob := beq_noL ho
        go_wp2_with (first
          | (go_at_call 49; refine (HPK.out _ (Kept.refl _)).mono ?_; rintro e w2 ⟨rfl, hk2⟩)
          | (go_at_call 51; refine (HOP.out _).mono ?_; rintro e w3 ⟨rfl, hk3⟩))
        go_ret
        exact PRes.mk HR.out (hs.kept (hk2.trans hk3))
      · clear hstop hcs
        have hob := beq_noL ho
        go_wp2_with (first
          | (go_at_call 49; refine (HPK.out _ (Kept.refl _)).mono ?_; rintro e w2 ⟨rfl, hk2⟩)
          | (go_at_call 51; refine (HOP.out _).mono ?_; rintro e w3 ⟨rfl, hk3⟩))
        go_ret
        exact PRes.mk HR.out (hs.kept (hk2.trans hk3))
    · have ho : ¬ o = 0 := fun e => hstop (.inl e)
      have hlt : ¬ cl < c := fun e => hstop (.inr (.inl e))
      have hgt : ¬ gk < cl := fun e => hstop (.inr (.inr e))
      have hl := hpo ho
      have hcr : 1 ≤ cl ∧ cl ≤ 5 := by omega
      obtain ⟨f', rfl, hf'⟩ := Sm1 hsz hl
      have hadv := adv_len sk 1
      have HB := Lib.hid (fun w1 (h1 : PSt w0 w1 g B tv E n0 n1 n2 n3 n4 toks (sk.adv 1)) => (IH f' (by omega)).bin (cl + 1) (by omega) (sk.adv 1) w1 hf' (Nat.le_trans (mN_adv sk 1) hmk) h1)
      have HR := Lib.hid (show parR E nm (F + 1) (.bin c) s = thenP (parR E nm f' (.bin (cl + 1)) (sk.adv 1)) fun s' => parR E nm f' (.loop c (if cl = 3 then 2 else cl)) (s'.em o 0) by
        rw [hpk, hst f', if_neg hstop])
      have HM := Lib.hid (fun (b : Bool) s' (hp : parR E nm f' (.bin (cl + 1)) (sk.adv 1) = some (b, s')) => (show mN s' + 1 ≤ 4000000 ∧ s'.ts.length + 1 ≤ sk.ts.length from
        ⟨Nat.le_trans (Nat.add_le_add_right (parR_ns E nm f' (.bin (cl + 1)) (sk.adv 1) b s' hp) 1) (Nat.le_trans (mN_adv1 hl (by decide)) hmk), by have := parR_ts (nt := .bin (cl + 1)) hf' hp; omega⟩))
      have hob := beq_noL ho
      have hwc : IntKind.i64.wrap (cl + 1) = cl + 1 := by rw [IntKind.wrap_i64]; omega
      have HSZ := Lib.hid hsz
      clear hpk hst hpo hcs hstop hf' hadv hsz
      by_cases h3 : cl = 3
      · subst h3
        rw [if_pos rfl] at HR
        go_wp2_with (first
          | (go_at_call 49; refine (HPK.out _ (Kept.refl _)).mono ?_; rintro e w2 ⟨rfl, hk2⟩)
          | (go_at_call 51; refine (HOP.out _).mono ?_; rintro e w3 ⟨rfl, hk3⟩; obtain ⟨i, p1, pl, pf, hA1, -⟩ := (hs.kept (hk2.trans hk3)).pos C.hl; obtain ⟨hw1, hS1⟩ := hA1 hl; clear hA1)
          | (go_at_call 35; refine (HB.out _ hS1).mono ?_; rintro e w4 ⟨b, s', hp, rfl, hs4⟩; cases b)
          | (go_at_call 37; refine (pemit_any hs4 (mN_ns (by have := (HM.out _ _ hp).1; omega)) o 0).mono ?_; rintro e w5 ⟨rfl, hs5⟩))
        · go_ret
          exact PRes.mk (by rw [HR.out, hp]; rfl) hs4
        · go_roundw
          case rel => exact ⟨2, s'.em o 0, f', rfl, hs5, by omega, by have := (HM.out _ _ hp).2; have := HSZ.out; show 8 * s'.ts.length + 1 < f'; omega, by rw [mN_em]; exact (HM.out _ _ hp).1, by rw [HR.out, hp]; rfl⟩
          case measure => rw [hleft, hs5.left]; exact (HM.out _ _ hp).2
      · rw [if_neg h3] at HR
        have h3b := beq_noL h3
        go_wp2_with (first
          | (go_at_call 49; refine (HPK.out _ (Kept.refl _)).mono ?_; rintro e w2 ⟨rfl, hk2⟩)
          | (go_at_call 51; refine (HOP.out _).mono ?_; rintro e w3 ⟨rfl, hk3⟩; obtain ⟨i, p1, pl, pf, hA1, -⟩ := (hs.kept (hk2.trans hk3)).pos C.hl; obtain ⟨hw1, hS1⟩ := hA1 hl; clear hA1)
          | (go_at_call 35; refine (HB.out _ hS1).mono ?_; rintro e w4 ⟨b, s', hp, rfl, hs4⟩; cases b)
          | (go_at_call 37; refine (pemit_any hs4 (mN_ns (by have := (HM.out _ _ hp).1; omega)) o 0).mono ?_; rintro e w5 ⟨rfl, hs5⟩))
        · go_ret
          exact PRes.mk (by rw [HR.out, hp]; rfl) hs4
        · go_roundw
          case rel => exact ⟨cl, s'.em o 0, f', rfl, hs5, by omega, by have := (HM.out _ _ hp).2; have := HSZ.out; show 8 * s'.ts.length + 1 < f'; omega, by rw [mN_em]; exact (HM.out _ _ hp).1, by rw [HR.out, hp]; rfl⟩
          case measure => rw [hleft, hs5.left]; exact (HM.out _ _ hp).2
end
end Go.Proofs.YtdnjfpmngnkcfaaGreatDoor
/- The parser of package exprtext: each of its methods, with as much fuel as there are tokens. -/
namespace Go.Proofs.YtdnjfpmngnkcfaaGreatDoor
open Go.RowKit

section
variable {w0 : World} {g B : Nat} {tv : Value} {E : Int} {n0 n1 n2 n3 n4 : Value} {toks : List Tok} {nm : Nm}
theorem parOK_all (C : PCx w0 tv n0 n1 n2 n3 n4 toks nm) : ∀ F f, f ≤ F → ParOK w0 g B tv E n0 n1 n2 n3 n4 toks nm f
  | 0, f, hf => fun nt s w _ h1 _ _ => by omega
  | F + 1, f, hf => by
    have IH := parOK_all C F
    by_cases h : f ≤ F
    · exact IH f h
    obtain rfl : f = F + 1 := by omega
    intro nt s w hok h1 h2 h3
    cases nt with
    | expr => exact expr_step C (IH F (Nat.le_refl _)) s w h1 h2 h3
    | bin c => exact bin_step C (fun f hf => IH f hf) c hok s w h1 h2 h3
    | loop c g => exact hok.elim
    | un => exact un_step C (IH F (Nat.le_refl _)) s w h1 h2 h3
    | atom => exact atom_step C (IH F (Nat.le_refl _)) s w h1 h2 h3
    | call op => exact call_step C (IH F (Nat.le_refl _)) op hok s w h1 h2 h3
end
end Go.Proofs.YtdnjfpmngnkcfaaGreatDoor
