/- The shelf. -/
import Derived.Shelf.Small.Bits
import Derived.Shelf.Small.Wraps
import Derived.Shelf.Strconv.Itoa0
import Derived.Shelf.Strings.Search1
import Derived.Shelf.Strings.Search2
import Derived.Shelf.Strings.Search3
import Derived.Shelf.LaysM
import Derived.Shelf.Strings.Shaped
import Derived.Shelf.Sort.Plain
import Derived.Shelf.Bits.Mul64
import Derived.Shelf.Slices.Turned
import Derived.Shelf.Slices.Equal
import Derived.Ground.Names2Prog
import Derived.Shelf.Slices.CompactI
import Derived.Shelf.Slices.SearchI
import Derived.Shelf.Slices.Cells
import Derived.Shelf.Slices.In.SortNone
import Derived.Shelf.Slices.Empties2
import Derived.Test.YtobpgndkciofhaaGreatDoorProg
namespace Go.Proofs
open Go.Shelf Tryz
def Tryz.agk:Go.Shelf.Ren:=⟨fun|134=>207|129=>136|n=>n,fun|53=>252|3=>3|4=>4|46=>208|5=>5|9=>9|n=>n,fun|n=>n⟩
theorem Tryz.agj:Go.Proofs.Lays.n134 prog Tryz.agk:={
 mixed:=by kernel_rfl
 f129:=func136.trans (congrArg some (by kernel_rfl))
 f134:=func207.trans (congrArg some (by kernel_rfl))
 t3:=underlying3
 a3:=Tryz.isAgg3
 z3:=Tryz.sizeOf3
 v3:=Tryz.zeroValue3
 t4:=underlying4
 a4:=Tryz.isAgg4
 z4:=Tryz.sizeOf4
 v4:=Tryz.zeroValue4
 t5:=underlying5
 a5:=Tryz.isAgg5
 z5:=Tryz.sizeOf5
 v5:=Tryz.zeroValue5
 t9:=underlying9
 a9:=Tryz.isAgg9
 z9:=Tryz.sizeOf9
 v9:=Tryz.zeroValue9
 t46:=underlying208
 a46:=Tryz.isAgg208
 z46:=Tryz.sizeOf208
 v46:=Tryz.zeroValue208
 t53:=underlying252
 a53:=Tryz.isAgg252
 z53:=Tryz.sizeOf252
 v53:=Tryz.zeroValue252}
theorem Tryz.bits_LeadingZeros64 (x:Int) (w:World) (aj:0≤x) (I:x≤18446744073709551615):
  Calls prog 207 #[.int .u64 x] w fun e w'=>e= .returned (.int .i64 (64-(Lib.bitLen x.toNat:Int)))∧w'=w:=Any.bits_LeadingZeros64 Tryz.agj x w aj I
def Tryz.agm:Go.Shelf.Ren:=⟨fun|144=>149|143=>169|219=>181|217=>201|225=>202|224=>203|267=>204|266=>218|314=>219|n=>n,fun|9=>9|4=>4|3=>3|5=>5|46=>208|146=>313|51=>250|n=>n,fun|1=>0|n=>n⟩
theorem Tryz.agl:Go.Proofs.Lays.n144 prog Tryz.agm:={
 mixed:=by kernel_rfl
 f143:=func169.trans (congrArg some (by kernel_rfl))
 f144:=func149.trans (congrArg some (by kernel_rfl))
 f217:=func201.trans (congrArg some (by kernel_rfl))
 f219:=func181.trans (congrArg some (by kernel_rfl))
 f224:=func203.trans (congrArg some (by kernel_rfl))
 f225:=func202.trans (congrArg some (by kernel_rfl))
 f266:=func218.trans (congrArg some (by kernel_rfl))
 f267:=func204.trans (congrArg some (by kernel_rfl))
 f314:=func219.trans (congrArg some (by kernel_rfl))
 t3:=underlying3
 a3:=Tryz.isAgg3
 z3:=Tryz.sizeOf3
 v3:=Tryz.zeroValue3
 t4:=underlying4
 a4:=Tryz.isAgg4
 z4:=Tryz.sizeOf4
 v4:=Tryz.zeroValue4
 t5:=underlying5
 a5:=Tryz.isAgg5
 z5:=Tryz.sizeOf5
 v5:=Tryz.zeroValue5
 t9:=underlying9
 a9:=Tryz.isAgg9
 z9:=Tryz.sizeOf9
 v9:=Tryz.zeroValue9
 t46:=underlying208
 a46:=Tryz.isAgg208
 z46:=Tryz.sizeOf208
 v46:=Tryz.zeroValue208
 t51:=underlying250
 a51:=Tryz.isAgg250
 z51:=Tryz.sizeOf250
 v51:=Tryz.zeroValue250
 t146:=underlying313
 a146:=Tryz.isAgg313
 z146:=Tryz.sizeOf313
 v146:=Tryz.zeroValue313
 g1:=by kernel_rfl}
open Go.RowKit Go.Lib in
theorem Tryz.strings_Contains_one (s:ByteArray) (c:UInt8) (w:World):
  Calls prog 149 #[.string s,.string ⟨#[c]⟩] w fun e w'=>e= .returned (.bool (decide (0≤Lib.indexByte s.data.toList c)))∧w'=w:=Any.strings_Contains_one Tryz.agl s c w
def Tryz.agn:Go.Shelf.Ren:=⟨fun|189=>70|125=>99|257=>98|128=>135|129=>136|294=>126|295=>127|296=>128|297=>129|298=>130|299=>131|216=>132|300=>133|301=>134|328=>151|329=>152|330=>153|331=>154|332=>155|215=>156|343=>171|n=>n,fun|28=>92|3=>3|46=>208|0=>0|51=>250|53=>252|4=>4|183=>244|182=>243|131=>121|5=>5|9=>9|218=>263|222=>267|228=>283|229=>172|n=>n,fun|n=>n⟩
theorem Tryz.Y6:Go.Proofs.Lays.n189 prog Tryz.agn:={
 mixed:=by kernel_rfl
 f125:=func99.trans (congrArg some (by kernel_rfl))
 f128:=func135.trans (congrArg some (by kernel_rfl))
 f129:=func136.trans (congrArg some (by kernel_rfl))
 f189:=func70.trans (congrArg some (by kernel_rfl))
 f215:=func156.trans (congrArg some (by kernel_rfl))
 f216:=func132.trans (congrArg some (by kernel_rfl))
 f257:=func98.trans (congrArg some (by kernel_rfl))
 f294:=func126.trans (congrArg some (by kernel_rfl))
 f295:=func127.trans (congrArg some (by kernel_rfl))
 f296:=func128.trans (congrArg some (by kernel_rfl))
 f297:=func129.trans (congrArg some (by kernel_rfl))
 f298:=func130.trans (congrArg some (by kernel_rfl))
 f299:=func131.trans (congrArg some (by kernel_rfl))
 f300:=func133.trans (congrArg some (by kernel_rfl))
 f301:=func134.trans (congrArg some (by kernel_rfl))
 f328:=func151.trans (congrArg some (by kernel_rfl))
 f329:=func152.trans (congrArg some (by kernel_rfl))
 f330:=func153.trans (congrArg some (by kernel_rfl))
 f331:=func154.trans (congrArg some (by kernel_rfl))
 f332:=func155.trans (congrArg some (by kernel_rfl))
 f343:=func171.trans (congrArg some (by kernel_rfl))
 t0:=underlying0
 a0:=Tryz.isAgg0
 z0:=Tryz.sizeOf0
 v0:=Tryz.zeroValue0
 t3:=underlying3
 a3:=Tryz.isAgg3
 z3:=Tryz.sizeOf3
 v3:=Tryz.zeroValue3
 t4:=underlying4
 a4:=Tryz.isAgg4
 z4:=Tryz.sizeOf4
 v4:=Tryz.zeroValue4
 t5:=underlying5
 a5:=Tryz.isAgg5
 z5:=Tryz.sizeOf5
 v5:=Tryz.zeroValue5
 t9:=underlying9
 a9:=Tryz.isAgg9
 z9:=Tryz.sizeOf9
 v9:=Tryz.zeroValue9
 t28:=underlying92
 a28:=Tryz.isAgg92
 z28:=Tryz.sizeOf92
 v28:=Tryz.zeroValue92
 t46:=underlying208
 a46:=Tryz.isAgg208
 z46:=Tryz.sizeOf208
 v46:=Tryz.zeroValue208
 t51:=underlying250
 a51:=Tryz.isAgg250
 z51:=Tryz.sizeOf250
 v51:=Tryz.zeroValue250
 t53:=underlying252
 a53:=Tryz.isAgg252
 z53:=Tryz.sizeOf252
 v53:=Tryz.zeroValue252
 t131:=underlying121
 a131:=Tryz.isAgg121
 z131:=Tryz.sizeOf121
 v131:=Tryz.zeroValue121
 t182:=underlying243
 a182:=Tryz.isAgg243
 z182:=Tryz.sizeOf243
 v182:=Tryz.zeroValue243
 t183:=underlying244
 a183:=Tryz.isAgg244
 z183:=Tryz.sizeOf244
 v183:=Tryz.zeroValue244
 t218:=underlying263
 a218:=Tryz.isAgg263
 z218:=Tryz.sizeOf263
 v218:=Tryz.zeroValue263
 t222:=underlying267
 a222:=Tryz.isAgg267
 z222:=Tryz.sizeOf267
 v222:=Tryz.zeroValue267
 t228:=underlying283
 a228:=Tryz.isAgg283
 z228:=Tryz.sizeOf283
 v228:=Tryz.zeroValue283
 t229:=underlying172
 a229:=Tryz.isAgg172
 z229:=Tryz.sizeOf172
 v229:=Tryz.zeroValue172}
open Go.Sort Go.RowKit in
theorem Tryz.slices_Sort_int (fD off cap:Nat) (cP:List Int) (w:World) (Ps:Holds (Value.int .i64) w fD off cP.toArray) (aeR:fD<w.heap.size) (n2:cP.length<4611686018427387904):
  Calls prog 70 #[.slice (some ⟨fD,off,none⟩) cP.length cap] w fun e w'=>
   e= .returned (.tuple #[])∧∃n os,w'=grow (putRow (Value.int .i64) (Sort.ahead w n) fD off (cP.mergeSort fun x y=>decide (x≤y)).toArray) os:=Any.slices_Sort_int Tryz.Y6 fD off cap cP w Ps aeR n2
def Tryz.agp:Go.Shelf.Ren:=⟨fun|264=>189|n=>n,fun|53=>252|46=>208|n=>n,fun|n=>n⟩
theorem Tryz.ago:Go.Proofs.Lays.n264 prog Tryz.agp:={
 mixed:=by kernel_rfl
 f264:=func189.trans (congrArg some (by kernel_rfl))
 t46:=underlying208
 a46:=Tryz.isAgg208
 z46:=Tryz.sizeOf208
 v46:=Tryz.zeroValue208
 t53:=underlying252
 a53:=Tryz.isAgg252
 z53:=Tryz.sizeOf252
 v53:=Tryz.zeroValue252}
open Go.RowKit Go.Lib in
theorem Tryz.bits_Mul64 (x y:Nat) (af:x<18446744073709551616) (db:y<18446744073709551616) (w:World):
  Calls prog 189 #[.int .u64 x,.int .u64 y] w fun e w'=>e= .returned (.tuple #[.int .u64 ((x*y/18446744073709551616:Nat):Int),.int .u64 ((x*y% 18446744073709551616:Nat):Int)])∧w'=w:=Any.bits_Mul64 Tryz.ago x y af db w
def Tryz.agh:Go.Shelf.Ren:=⟨fun|107=>97|108=>125|n=>n,fun|28=>92|3=>3|4=>4|0=>0|n=>n,fun|n=>n⟩
theorem Tryz.Y4:Go.Proofs.Lays.n107 prog Tryz.agh:={
 mixed:=by kernel_rfl
 f107:=func97.trans (congrArg some (by kernel_rfl))
 f108:=func125.trans (congrArg some (by kernel_rfl))
 t0:=underlying0
 a0:=Tryz.isAgg0
 z0:=Tryz.sizeOf0
 v0:=Tryz.zeroValue0
 t3:=underlying3
 a3:=Tryz.isAgg3
 z3:=Tryz.sizeOf3
 v3:=Tryz.zeroValue3
 t4:=underlying4
 a4:=Tryz.isAgg4
 z4:=Tryz.sizeOf4
 v4:=Tryz.zeroValue4
 t28:=underlying92
 a28:=Tryz.isAgg92
 z28:=Tryz.sizeOf92
 v28:=Tryz.zeroValue92}
open Go.Lib in
theorem Tryz.slices_Contains_int (b off n c:Nat) (cP:List Int) (x:Int) (w:World) (ck:n≤cP.length) (PO:n≤9223372036854775807) (ah:∀j,j<cP.length→w.cell? ⟨b,off+j,none⟩=some (.int .i64 (cP.getD j 0))):
  Calls prog 97 #[.slice (some ⟨b,off,none⟩) n c,.int .i64 x] w fun e w'=>e= .returned (.bool ((cP.take n).contains x))∧w'=w:=Any.slices_Contains_int Tryz.Y4 b off n c cP x w ck PO ah
open Go.Lib in
theorem Tryz.slices_Contains_int_empty (a:Option Addr) (c:Nat) (x:Int) (w:World):
  Calls prog 97 #[.slice a 0 c,.int .i64 x] w fun e w'=>e= .returned (.bool false)∧w'=w:=Any.slices_Contains_int_empty Tryz.Y4 a c x w
def Tryz.agi:Go.Shelf.Ren:=⟨fun|110=>79|109=>112|n=>n,fun|31=>53|9=>9|4=>4|3=>3|0=>0|n=>n,fun|n=>n⟩
theorem Tryz.Y5:Go.Proofs.Lays.n110 prog Tryz.agi:={
 mixed:=by kernel_rfl
 f109:=func112.trans (congrArg some (by kernel_rfl))
 f110:=func79.trans (congrArg some (by kernel_rfl))
 t0:=underlying0
 a0:=Tryz.isAgg0
 z0:=Tryz.sizeOf0
 v0:=Tryz.zeroValue0
 t3:=underlying3
 a3:=Tryz.isAgg3
 z3:=Tryz.sizeOf3
 v3:=Tryz.zeroValue3
 t4:=underlying4
 a4:=Tryz.isAgg4
 z4:=Tryz.sizeOf4
 v4:=Tryz.zeroValue4
 t9:=underlying9
 a9:=Tryz.isAgg9
 z9:=Tryz.sizeOf9
 v9:=Tryz.zeroValue9
 t31:=underlying53
 a31:=Tryz.isAgg53
 z31:=Tryz.sizeOf53
 v31:=Tryz.zeroValue53}
open Go.Lib in
theorem Tryz.slices_Contains_string (b off n c:Nat) (cP:List ByteArray) (x:ByteArray) (w:World) (ck:n≤cP.length) (PO:n≤9223372036854775807) (ah:∀j,j<cP.length→w.cell? ⟨b,off+j,none⟩=some (.string (cP.getD j ByteArray.empty))):
  Calls prog 79 #[.slice (some ⟨b,off,none⟩) n c,.string x] w fun e w'=>e= .returned (.bool (Lib.containsS (cP.take n) x))∧w'=w:=Any.slices_Contains_string Tryz.Y5 b off n c cP x w ck PO ah
open Go.Lib in
theorem Tryz.slices_Contains_string_empty (a:Option Addr) (c:Nat) (x:ByteArray) (w:World):
  Calls prog 79 #[.slice a 0 c,.string x] w fun e w'=>e= .returned (.bool false)∧w'=w:=Any.slices_Contains_string_empty Tryz.Y5 a c x w
def Tryz.agq:Go.Shelf.Ren:=⟨fun|20=>71|n=>n,fun|22=>92|3=>3|4=>4|0=>0|n=>n,fun|n=>n⟩
theorem Tryz.Y7:Go.Proofs.Lays2.n20 prog Tryz.agq:={
 mixed:=by kernel_rfl
 f20:=func71.trans (congrArg some (by kernel_rfl))
 t0:=underlying0
 a0:=Tryz.isAgg0
 z0:=Tryz.sizeOf0
 v0:=Tryz.zeroValue0
 t3:=underlying3
 a3:=Tryz.isAgg3
 z3:=Tryz.sizeOf3
 v3:=Tryz.zeroValue3
 t4:=underlying4
 a4:=Tryz.isAgg4
 z4:=Tryz.sizeOf4
 v4:=Tryz.zeroValue4
 t22:=underlying92
 a22:=Tryz.isAgg92
 z22:=Tryz.sizeOf92
 v22:=Tryz.zeroValue92
 i3:=by kernel_rfl}
open Go.RowKit Go.Lib Go.Sort in
theorem Tryz.slices_Compact_int (fD off cap:Nat) (cP:List Int) (w:World) (Ps:Holds (Value.int .i64) w fD off cP.toArray) (n2:cP.length≤9223372036854775807) (w0:cP.length≤cap):
  Calls prog 71 #[.slice (some ⟨fD,off,none⟩) cP.length cap] w fun e w'=>e= .returned (.slice (some ⟨fD,off,none⟩) (Lib.compact cP).length cap)∧∃q,w'=putRow (Value.int .i64) (Sort.ahead w q) fD off (Lib.compact cP++List.replicate (cP.length-(Lib.compact cP).length) 0).toArray:=Any.slices_Compact_int Tryz.Y7 fD off cap cP w Ps n2 w0
open Go.RowKit Go.Lib Go.Sort in
theorem Tryz.slices_Compact_int_empty (a:Option Addr) (cap:Nat) (w:World):
  Calls prog 71 #[.slice a 0 cap] w fun e w'=>e= .returned (.slice a 0 cap)∧w'=w:=Any.slices_Compact_int_empty Tryz.Y7 a cap w
open Go.RowKit Go.Sort in
theorem Tryz.slices_Sort_int_none (p:Option Addr) (cap:Nat) (w:World):
  Calls prog 70 #[.slice p 0 cap] w fun e w'=>e= .returned (.tuple #[])∧w'=w:=Any.slices_Sort_int_none Tryz.Y6 p cap w
end Go.Proofs
