/- Typed values: the definitions that both packages compute, in plain Lean. k kind, e enumeration, n number, ms the members of the enumerations. -/
import Derived.Test.YtemejaomfbhldaaGreatDoorValDef
import Derived.Test.YtemejaomfbhldaaGreatDoorCanonMath
import Derived.Test.YtemejaomfbhldaaGreatDoorDateTextMath
namespace Go.Proofs.YtemejaomfbhldaaGreatDoor

/-- the text of a valid value -/
noncomputable def vtext (k e n : Int) (ms : List (List ByteArray)) : ByteArray :=
  if k = 1 then (if n = 0 then ⟨#[102, 97, 108, 115, 101]⟩ else ⟨#[116, 114, 117, 101]⟩) else if k = 2 then numS n else if k = 3 then fixS n 2
  else if k = 4 then fixS n 4 ++ ⟨#[37]⟩ else if k = 5 then dateS n else (memS e ms)[n.toNat]?.getD ⟨#[]⟩
noncomputable def vfmtS (k e n : Int) (ms : List (List ByteArray)) : ByteArray × Int :=
  if vtB k e ms then (if inB n k e ms then (vtext k e n ms, 0) else (⟨#[]⟩, 3)) else (⟨#[]⟩, 8)
/-- the number of a text of a valid type, and an error -/
noncomputable def vnumS (s : ByteArray) (k e : Int) (ms : List (List ByteArray)) : Int × Int :=
  if k = 1 then (if s = ⟨#[102, 97, 108, 115, 101]⟩ then (0, 0) else if s = ⟨#[116, 114, 117, 101]⟩ then (1, 0) else (0, 2))
  else if k = 2 then refI (L s) else if k = 3 then refP (L s) 2
  else if k = 4 then (if (L s).getLast? = some 37 then refP (L s).dropLast 4 else (0, 2))
  else if k = 5 then dparS s else match findS s (memS e ms) 0 with | some i => ((i : Int), 0) | none => (0, 6)
/-- kind, enumeration, number, error -/
noncomputable def vparS (s : ByteArray) (k e : Int) (ms : List (List ByteArray)) : Int × Int × Int × Int :=
  if vtB k e ms then (if (vnumS s k e ms).2 = 0 then (if inB (vnumS s k e ms).1 k e ms then (k, e, (vnumS s k e ms).1, 0) else (0, 0, 0, 3)) else (0, 0, 0, (vnumS s k e ms).2)) else (0, 0, 0, 8)

end Go.Proofs.YtemejaomfbhldaaGreatDoor
