/- What the reference's ParseFixed computes. -/
import Derived.Test.YtdnjfpmngnkcfaaGreatDoorRefParseB
namespace Go.Proofs.YtdnjfpmngnkcfaaGreatDoor
open Go.RowKit

theorem strip_short {l : List UInt8} (h : l.length ≤ 1) : strip l = l := by
  match l, h with
  | [], _ => rfl
  | [c], _ => rfl
theorem strip_head {l : List UInt8} (h : l.head? ≠ some 48) : strip l = l := by
  match l with
  | [] => rfl
  | [c] => rfl
  | c :: d :: r =>
    rw [strip, if_neg (fun e => h (by rw [e]; rfl))]
theorem strip_zero {l : List UInt8} (h : l.head? = some 48) (h1 : 1 < l.length) : strip l = strip (l.drop 1) := by
  match l, h1 with
  | c :: d :: r, _ =>
    have e : c = 48 := Option.some.inj h
    rw [strip, if_pos e]; rfl

def okF (b : List UInt8) (k : Nat) : Bool := (b[k]? == some 46) && (adB (b.take k) && (adB (b.drop (k + 1)) && !(badL b k)))
def finF (t : List UInt8) (neg : Bool) : Int × Int := if neg = true ∧ strip t = [48] then (0, 2) else numR (strip t) neg
def refF (l : List UInt8) (q : Int) : Int × Int :=
  if ((bodyL l).length : Int) - q - 1 < 1 then (0, 2) else
  if okF (bodyL l) (((bodyL l).length : Int) - q - 1).toNat then finF ((bodyL l).take (((bodyL l).length : Int) - q - 1).toNat ++ (bodyL l).drop ((((bodyL l).length : Int) - q - 1).toNat + 1)) (negB l) else (0, 2)
def refP (l : List UInt8) (p : Int) : Int × Int := if min (max p 0) 9 = 0 then refI l else refF l (min (max p 0) 9)

theorem digB_take {l : List UInt8} (h : digB l = true) (k : Nat) : digB (l.drop k) = true := by
  unfold digB at *
  rw [List.all_eq_true] at *
  exact fun x hx => h x (List.mem_of_mem_drop hx)
theorem adB_dig {l : List UInt8} (h : adB l = true) : 0 < l.length ∧ digB l = true := by
  unfold adB at h
  rw [Bool.and_eq_true, decide_eq_true_eq] at h
  exact h


end Go.Proofs.YtdnjfpmngnkcfaaGreatDoor
