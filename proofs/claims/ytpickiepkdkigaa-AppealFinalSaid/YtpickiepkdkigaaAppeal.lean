/- What the functions of package appeal, and of its reference, compute. -/
import Derived.Test.YtpickiepkdkigaaApMath
import Derived.Test.YtpickiepkdkigaaLaw06A
namespace Go.Proofs.Ytpickiepkdkigaa
open Go.RowKit

set_option maxHeartbeats 400000 in
theorem perm_any (f t : Int) (w : World) :
    Calls Try.prog 47 #[.int .i64 f, .int .i64 t] w fun e w' => e = .returned (.bool (permB f t)) ∧ w = w' := by
  go_enter Try.func47, Try.ntmps47
  go_wp2
  all_goals (go_ret; exact ⟨ret_bool (by simp_all [permB]), rfl⟩)
set_option maxHeartbeats 400000 in
theorem rperm_any (f t : Int) (w : World) :
    Calls Try.prog 48 #[.int .i64 f, .int .i64 t] w fun e w' => e = .returned (.bool (permB f t)) ∧ w = w' := by
  go_enter Try.func48, Try.ntmps48
  go_wp2
  all_goals (go_ret; exact ⟨ret_bool (by simp_all [permB]), rfl⟩)
set_option maxHeartbeats 400000 in
theorem apdate_any (d : Int) (w : World) :
    Calls Try.prog 41 #[.int .i64 d] w fun e w' => e = .returned (.bool (isDate d)) ∧ w = w' := by
  go_enter Try.func41, Try.ntmps41
  go_wp2
  all_goals (go_ret; exact ⟨ret_bool (by simp [isDate]; try omega), rfl⟩)
set_option maxHeartbeats 400000 in
theorem rapdate_any (d : Int) (w : World) :
    Calls Try.prog 44 #[.int .i64 d] w fun e w' => e = .returned (.bool (isDate d)) ∧ w = w' := by
  go_enter Try.func44, Try.ntmps44
  go_wp2
  all_goals (go_ret; exact ⟨ret_bool (by simp [isDate]; try omega), rfl⟩)
set_option maxHeartbeats 400000 in
theorem months_any (a b : Int) (w : World) :
    Calls Try.prog 42 #[.int .i64 a, .int .i64 b] w fun e w' => e = .returned (.bool (monthsB a b)) ∧ w = w' := by
  go_enter Try.func42, Try.ntmps42
  go_wp2
  all_goals (go_ret; exact ⟨ret_bool (by simp_all [monthsB]; try omega), rfl⟩)
set_option maxHeartbeats 400000 in
theorem rmonths_any (a b : Int) (w : World) :
    Calls Try.prog 45 #[.int .i64 a, .int .i64 b] w fun e w' => e = .returned (.bool (monthsB a b)) ∧ w = w' := by
  go_enter Try.func45, Try.ntmps45
  go_wp2
  all_goals (go_ret; exact ⟨ret_bool (by simp_all [monthsB]; try omega), rfl⟩)

theorem ap_ret {r : Ap × Int} {i f t fi de st ce k : Int} (h : r = (⟨i, f, t, fi, de, st, ce⟩, k)) :
    Ending.returned (.tuple #[.agg #[.int .i64 i, .int .i64 f, .int .i64 t, .int .i64 fi, .int .i64 de, .int .i64 st, .int .i64 ce], .int .i64 k]) =
    .returned (.tuple #[.agg #[.int .i64 r.1.id, .int .i64 r.1.fr, .int .i64 r.1.til, .int .i64 r.1.filed, .int .i64 r.1.dead, .int .i64 r.1.st, .int .i64 r.1.cents], .int .i64 r.2]) := by rw [h]
def ApPost (r : Ap × Int) (w : World) (e : Ending) (w' : World) : Prop :=
  e = .returned (.tuple #[.agg #[.int .i64 r.1.id, .int .i64 r.1.fr, .int .i64 r.1.til, .int .i64 r.1.filed, .int .i64 r.1.dead, .int .i64 r.1.st, .int .i64 r.1.cents], .int .i64 r.2]) ∧ Kept w w'
theorem tardy_no {de s d : Int} (h : tardyB de s d = false) : d ≤ de ∨ (de < d ∧ (s == 2) = false ∧ (s == 3) = false) := by
  simp only [tardyB, Bool.and_eq_false_iff, decide_eq_false_iff_not, Bool.or_eq_false_iff] at h
  rcases Int.lt_or_le de d with h1 | h1
  · right
    rcases h with h | h
    · omega
    · exact ⟨h1, h⟩
  · exact .inl h1
theorem tardy_yes {de s d : Int} (h : tardyB de s d = true) : de < d ∧ ((s == 2) = true ∨ ((s == 2) = false ∧ (s == 3) = true)) := by
  simp only [tardyB, Bool.and_eq_true, decide_eq_true_eq, Bool.or_eq_true] at h
  refine ⟨h.1, ?_⟩
  cases h2 : (s == 2)
  · rcases h.2 with h | h
    · rw [h2] at h; cases h
    · exact .inr ⟨rfl, h⟩
  · exact .inl rfl
theorem cents_no {s c : Int} (h : centsB s c = false) : c < 0 ∨ (0 ≤ c ∧ 1000000000000000 < c) ∨ (0 ≤ c ∧ c ≤ 1000000000000000 ∧ (c == 0) = false ∧ (c != 0) = true ∧ (s == 3) = false ∧ (s != 3) = true) := by
  simp only [centsB, Bool.and_eq_false_iff, decide_eq_false_iff_not, Bool.or_eq_false_iff] at h
  rcases Int.lt_or_le c 0 with h1 | h1
  · exact .inl h1
  rcases Int.lt_or_le 1000000000000000 c with h2 | h2
  · exact .inr (.inl ⟨h1, h2⟩)
  rcases h with h | h | ⟨h3, h4⟩
  · omega
  · omega
  · exact .inr (.inr ⟨h1, h2, h3, by simpa using h3, h4, by simpa using h4⟩)
theorem cents_yes {s c : Int} (h : centsB s c = true) : 0 ≤ c ∧ c ≤ 1000000000000000 ∧ (((c == 0) = true ∧ (c != 0) = false) ∨ ((c == 0) = false ∧ (c != 0) = true ∧ (s == 3) = true ∧ (s != 3) = false)) := by
  simp only [centsB, Bool.and_eq_true, decide_eq_true_eq, Bool.or_eq_true] at h
  refine ⟨h.1, h.2.1, ?_⟩
  cases h2 : (c == 0)
  · rcases h.2.2 with h | h
    · rw [h2] at h; cases h
    · exact .inr ⟨rfl, by simpa using h2, h, by simpa using h⟩
  · exact .inl ⟨rfl, by simpa using h2⟩
set_option maxHeartbeats 1000000 in
theorem trans_any (i f t fi de st ce s c d : Int) (w : World) :
    Calls Try.prog 26 #[.agg #[.int .i64 i, .int .i64 f, .int .i64 t, .int .i64 fi, .int .i64 de, .int .i64 st, .int .i64 ce], .int .i64 s, .int .i64 c, .int .i64 d] w (ApPost (transS ⟨i, f, t, fi, de, st, ce⟩ s c d) w) := by
  cases hp : permB st s
  · have HR := Lib.hid (show transS ⟨i, f, t, fi, de, st, ce⟩ s c d = (⟨0, 0, 0, 0, 0, 0, 0⟩, 13) by simp [transS, hp])
    go_enter Try.func26, Try.ntmps26
    go_wp2_with (go_at_call 47; refine (perm_any _ _ _).mono ?_; rintro e w' ⟨rfl, rfl⟩)
    refine bodyPost_ret (v := .tuple #[.agg #[.int .i64 0, .int .i64 0, .int .i64 0, .int .i64 0, .int .i64 0, .int .i64 0, .int .i64 0], .int .i64 13]) (by simp [results, Try.results26, go_sem]) rfl ⟨ap_ret HR.out, ?_⟩
    exact ((Kept.refl _).alloc _).alloc _
  · by_cases h1 : d < fi
    · have HR := Lib.hid (show transS ⟨i, f, t, fi, de, st, ce⟩ s c d = (⟨0, 0, 0, 0, 0, 0, 0⟩, 9) by simp [transS, hp, h1])
      go_enter Try.func26, Try.ntmps26
      go_wp2_with (go_at_call 47; refine (perm_any _ _ _).mono ?_; rintro e w' ⟨rfl, rfl⟩)
      refine bodyPost_ret (v := .tuple #[.agg #[.int .i64 0, .int .i64 0, .int .i64 0, .int .i64 0, .int .i64 0, .int .i64 0, .int .i64 0], .int .i64 9]) (by simp [results, Try.results26, go_sem]) rfl ⟨ap_ret HR.out, ?_⟩
      exact ((Kept.refl _).alloc _).alloc _
    · cases h2 : tardyB de s d
      · cases h3 : centsB s c
        · have HR := Lib.hid (show transS ⟨i, f, t, fi, de, st, ce⟩ s c d = (⟨0, 0, 0, 0, 0, 0, 0⟩, 3) by simp [transS, hp, h1, h2, h3])
          have h1' : fi ≤ d := by omega
          have h2' := tardy_no h2
          have h3' := cents_no h3
          clear h1 h2 h3
          rcases h2' with h2 | ⟨h2, h21, h22⟩ <;> rcases h3' with h3 | ⟨h3, h31⟩ | ⟨h3, h31, h32, h33, h34, h35⟩
          all_goals
            go_enter Try.func26, Try.ntmps26
            go_wp2_with (go_at_call 47; refine (perm_any _ _ _).mono ?_; rintro e w' ⟨rfl, rfl⟩)
            refine bodyPost_ret (v := .tuple #[.agg #[.int .i64 0, .int .i64 0, .int .i64 0, .int .i64 0, .int .i64 0, .int .i64 0, .int .i64 0], .int .i64 3]) (by simp [results, Try.results26, go_sem]) rfl ⟨ap_ret HR.out, ?_⟩
            exact ((Kept.refl _).alloc _).alloc _
        · have HR := Lib.hid (show transS ⟨i, f, t, fi, de, st, ce⟩ s c d = (⟨i, f, t, fi, de, s, c⟩, 0) by simp [transS, hp, h1, h2, h3])
          have h1' : fi ≤ d := by omega
          have h2' := tardy_no h2
          have h3' := cents_yes h3
          clear h1 h2 h3
          rcases h2' with h2 | ⟨h2, h21, h22⟩ <;> rcases h3' with ⟨h3, h31, ⟨h32, h33⟩ | ⟨h32, h33, h34, h35⟩⟩
          all_goals
            go_enter Try.func26, Try.ntmps26
            go_wp2_with (go_at_call 47; refine (perm_any _ _ _).mono ?_; rintro e w' ⟨rfl, rfl⟩)
            refine bodyPost_ret (v := .tuple #[.agg #[.int .i64 i, .int .i64 f, .int .i64 t, .int .i64 fi, .int .i64 de, .int .i64 s, .int .i64 c], .int .i64 0]) (by simp [results, Try.results26, go_sem]) rfl ⟨ap_ret HR.out, ?_⟩
            exact ((Kept.refl _).alloc _).alloc _
      · have HR := Lib.hid (show transS ⟨i, f, t, fi, de, st, ce⟩ s c d = (⟨0, 0, 0, 0, 0, 0, 0⟩, 14) by simp [transS, hp, h1, h2])
        have h1' : fi ≤ d := by omega
        have h2' := tardy_yes h2
        clear h1 h2
        rcases h2' with ⟨h2, h21 | ⟨h21, h22⟩⟩
        all_goals
          go_enter Try.func26, Try.ntmps26
          go_wp2_with (go_at_call 47; refine (perm_any _ _ _).mono ?_; rintro e w' ⟨rfl, rfl⟩)
          refine bodyPost_ret (v := .tuple #[.agg #[.int .i64 0, .int .i64 0, .int .i64 0, .int .i64 0, .int .i64 0, .int .i64 0, .int .i64 0], .int .i64 14]) (by simp [results, Try.results26, go_sem]) rfl ⟨ap_ret HR.out, ?_⟩
          exact ((Kept.refl _).alloc _).alloc _
set_option maxHeartbeats 1000000 in
theorem rtrans_any (i f t fi de st ce s c d : Int) (w : World) :
    Calls Try.prog 27 #[.agg #[.int .i64 i, .int .i64 f, .int .i64 t, .int .i64 fi, .int .i64 de, .int .i64 st, .int .i64 ce], .int .i64 s, .int .i64 c, .int .i64 d] w (ApPost (transS ⟨i, f, t, fi, de, st, ce⟩ s c d) w) := by
  cases hp : permB st s
  · have HR := Lib.hid (show transS ⟨i, f, t, fi, de, st, ce⟩ s c d = (⟨0, 0, 0, 0, 0, 0, 0⟩, 13) by simp [transS, hp])
    go_enter Try.func27, Try.ntmps27
    go_wp2_with (go_at_call 48; refine (rperm_any _ _ _).mono ?_; rintro e w' ⟨rfl, rfl⟩)
    refine bodyPost_ret (v := .tuple #[.agg #[.int .i64 0, .int .i64 0, .int .i64 0, .int .i64 0, .int .i64 0, .int .i64 0, .int .i64 0], .int .i64 13]) (by simp [results, Try.results27, go_sem]) rfl ⟨ap_ret HR.out, ?_⟩
    exact ((Kept.refl _).alloc _).alloc _
  · by_cases h1 : d < fi
    · have HR := Lib.hid (show transS ⟨i, f, t, fi, de, st, ce⟩ s c d = (⟨0, 0, 0, 0, 0, 0, 0⟩, 9) by simp [transS, hp, h1])
      go_enter Try.func27, Try.ntmps27
      go_wp2_with (go_at_call 48; refine (rperm_any _ _ _).mono ?_; rintro e w' ⟨rfl, rfl⟩)
      refine bodyPost_ret (v := .tuple #[.agg #[.int .i64 0, .int .i64 0, .int .i64 0, .int .i64 0, .int .i64 0, .int .i64 0, .int .i64 0], .int .i64 9]) (by simp [results, Try.results27, go_sem]) rfl ⟨ap_ret HR.out, ?_⟩
      exact ((Kept.refl _).alloc _).alloc _
    · cases h2 : tardyB de s d
      · cases h3 : centsB s c
        · have HR := Lib.hid (show transS ⟨i, f, t, fi, de, st, ce⟩ s c d = (⟨0, 0, 0, 0, 0, 0, 0⟩, 3) by simp [transS, hp, h1, h2, h3])
          have h1' : fi ≤ d := by omega
          have h2' := tardy_no h2
          have h3' := cents_no h3
          clear h1 h2 h3
          rcases h2' with h2 | ⟨h2, h21, h22⟩ <;> rcases h3' with h3 | ⟨h3, h31⟩ | ⟨h3, h31, h32, h33, h34, h35⟩
          all_goals
            go_enter Try.func27, Try.ntmps27
            go_wp2_with (go_at_call 48; refine (rperm_any _ _ _).mono ?_; rintro e w' ⟨rfl, rfl⟩)
            refine bodyPost_ret (v := .tuple #[.agg #[.int .i64 0, .int .i64 0, .int .i64 0, .int .i64 0, .int .i64 0, .int .i64 0, .int .i64 0], .int .i64 3]) (by simp [results, Try.results27, go_sem]) rfl ⟨ap_ret HR.out, ?_⟩
            exact ((Kept.refl _).alloc _).alloc _
        · have HR := Lib.hid (show transS ⟨i, f, t, fi, de, st, ce⟩ s c d = (⟨i, f, t, fi, de, s, c⟩, 0) by simp [transS, hp, h1, h2, h3])
          have h1' : fi ≤ d := by omega
          have h2' := tardy_no h2
          have h3' := cents_yes h3
          clear h1 h2 h3
          rcases h2' with h2 | ⟨h2, h21, h22⟩ <;> rcases h3' with ⟨h3, h31, ⟨h32, h33⟩ | ⟨h32, h33, h34, h35⟩⟩
          all_goals
            go_enter Try.func27, Try.ntmps27
            go_wp2_with (go_at_call 48; refine (rperm_any _ _ _).mono ?_; rintro e w' ⟨rfl, rfl⟩)
            refine bodyPost_ret (v := .tuple #[.agg #[.int .i64 i, .int .i64 f, .int .i64 t, .int .i64 fi, .int .i64 de, .int .i64 s, .int .i64 c], .int .i64 0]) (by simp [results, Try.results27, go_sem]) rfl ⟨ap_ret HR.out, ?_⟩
            exact ((Kept.refl _).alloc _).alloc _
      · have HR := Lib.hid (show transS ⟨i, f, t, fi, de, st, ce⟩ s c d = (⟨0, 0, 0, 0, 0, 0, 0⟩, 14) by simp [transS, hp, h1, h2])
        have h1' : fi ≤ d := by omega
        have h2' := tardy_yes h2
        clear h1 h2
        rcases h2' with ⟨h2, h21 | ⟨h21, h22⟩⟩
        all_goals
          go_enter Try.func27, Try.ntmps27
          go_wp2_with (go_at_call 48; refine (rperm_any _ _ _).mono ?_; rintro e w' ⟨rfl, rfl⟩)
          refine bodyPost_ret (v := .tuple #[.agg #[.int .i64 0, .int .i64 0, .int .i64 0, .int .i64 0, .int .i64 0, .int .i64 0, .int .i64 0], .int .i64 14]) (by simp [results, Try.results27, go_sem]) rfl ⟨ap_ret HR.out, ?_⟩
          exact ((Kept.refl _).alloc _).alloc _
end Go.Proofs.Ytpickiepkdkigaa
