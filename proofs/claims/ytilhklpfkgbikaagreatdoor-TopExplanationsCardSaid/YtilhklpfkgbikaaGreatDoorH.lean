/- The shelf. -/
import Derived.Shelf.Small.Bits
import Derived.Shelf.Small.Wraps
import Derived.Shelf.Strconv.Itoa0
import Derived.Shelf.Strings.Search1
import Derived.Shelf.Strings.Search2
import Derived.Shelf.Strings.Search3
import Derived.Shelf.LaysM
import Derived.Shelf.Strings.Shaped
import Derived.Shelf.Sort.Plain
import Derived.Shelf.Bits.Mul64
import Derived.Shelf.Slices.Turned
import Derived.Ground.Names2Prog
import Derived.Shelf.Slices.Clone
import Derived.Shelf.Slices.CompactI
import Derived.Shelf.Slices.SearchI
import Derived.Shelf.Slices.Cells
import Derived.Shelf.Slices.In.SortNone
import Derived.Ground.SlgnProg
import Derived.Shelf.SlicesE.Clone
import Derived.Test.YtilhklpfkgbikaaGreatDoorProg
namespace Go.Proofs
open Go.Shelf Tryz
def Tryz.alZ:Go.Shelf.Ren:=⟨fun|134=>215|129=>76|n=>n,fun|53=>177|3=>3|4=>4|46=>131|5=>5|9=>9|n=>n,fun|n=>n⟩
theorem Tryz.alY:Go.Proofs.Lays.n134 prog Tryz.alZ:={
 mixed:=by kernel_rfl
 f129:=func76.trans (congrArg some (by kernel_rfl))
 f134:=func215.trans (congrArg some (by kernel_rfl))
 t3:=underlying3
 a3:=Tryz.isAgg3
 z3:=Tryz.sizeOf3
 v3:=Tryz.zeroValue3
 t4:=underlying4
 a4:=Tryz.isAgg4
 z4:=Tryz.sizeOf4
 v4:=Tryz.zeroValue4
 t5:=underlying5
 a5:=Tryz.isAgg5
 z5:=Tryz.sizeOf5
 v5:=Tryz.zeroValue5
 t9:=underlying9
 a9:=Tryz.isAgg9
 z9:=Tryz.sizeOf9
 v9:=Tryz.zeroValue9
 t46:=underlying131
 a46:=Tryz.isAgg131
 z46:=Tryz.sizeOf131
 v46:=Tryz.zeroValue131
 t53:=underlying177
 a53:=Tryz.isAgg177
 z53:=Tryz.sizeOf177
 v53:=Tryz.zeroValue177}
theorem Tryz.bits_LeadingZeros64 (x:Int) (w:World) (ar:0≤x) (ab:x≤18446744073709551615):
  Calls prog 215 #[.int .u64 x] w fun e w'=>e= .returned (.int .i64 (64-(Lib.bitLen x.toNat:Int)))∧w'=w:=Any.bits_LeadingZeros64 Tryz.alY x w ar ab
def Tryz.al1:Go.Shelf.Ren:=⟨fun|144=>164|143=>178|219=>189|217=>209|225=>210|224=>211|267=>212|266=>227|314=>228|n=>n,fun|9=>9|4=>4|3=>3|5=>5|46=>131|146=>319|51=>175|n=>n,fun|1=>0|n=>n⟩
theorem Tryz.al0:Go.Proofs.Lays.n144 prog Tryz.al1:={
 mixed:=by kernel_rfl
 f143:=func178.trans (congrArg some (by kernel_rfl))
 f144:=func164.trans (congrArg some (by kernel_rfl))
 f217:=func209.trans (congrArg some (by kernel_rfl))
 f219:=func189.trans (congrArg some (by kernel_rfl))
 f224:=func211.trans (congrArg some (by kernel_rfl))
 f225:=func210.trans (congrArg some (by kernel_rfl))
 f266:=func227.trans (congrArg some (by kernel_rfl))
 f267:=func212.trans (congrArg some (by kernel_rfl))
 f314:=func228.trans (congrArg some (by kernel_rfl))
 t3:=underlying3
 a3:=Tryz.isAgg3
 z3:=Tryz.sizeOf3
 v3:=Tryz.zeroValue3
 t4:=underlying4
 a4:=Tryz.isAgg4
 z4:=Tryz.sizeOf4
 v4:=Tryz.zeroValue4
 t5:=underlying5
 a5:=Tryz.isAgg5
 z5:=Tryz.sizeOf5
 v5:=Tryz.zeroValue5
 t9:=underlying9
 a9:=Tryz.isAgg9
 z9:=Tryz.sizeOf9
 v9:=Tryz.zeroValue9
 t46:=underlying131
 a46:=Tryz.isAgg131
 z46:=Tryz.sizeOf131
 v46:=Tryz.zeroValue131
 t51:=underlying175
 a51:=Tryz.isAgg175
 z51:=Tryz.sizeOf175
 v51:=Tryz.zeroValue175
 t146:=underlying319
 a146:=Tryz.isAgg319
 z146:=Tryz.sizeOf319
 v146:=Tryz.zeroValue319
 g1:=by kernel_rfl}
open Go.RowKit Go.Lib in
theorem Tryz.strings_Contains_one (s:ByteArray) (c:UInt8) (w:World):
  Calls prog 164 #[.string s,.string ⟨#[c]⟩] w fun e w'=>e= .returned (.bool (decide (0≤Lib.indexByte s.data.toList c)))∧w'=w:=Any.strings_Contains_one Tryz.al0 s c w
def Tryz.al2:Go.Shelf.Ren:=⟨fun|189=>23|125=>41|257=>40|128=>75|129=>76|294=>66|295=>67|296=>68|297=>69|298=>70|299=>71|216=>72|300=>73|301=>74|328=>98|329=>99|330=>100|331=>101|332=>102|215=>103|343=>136|n=>n,fun|28=>46|3=>3|46=>131|0=>0|51=>175|53=>177|4=>4|183=>168|182=>167|131=>172|5=>5|9=>9|218=>206|222=>210|228=>253|229=>190|n=>n,fun|n=>n⟩
theorem Tryz.ac6:Go.Proofs.Lays.n189 prog Tryz.al2:={
 mixed:=by kernel_rfl
 f125:=func41.trans (congrArg some (by kernel_rfl))
 f128:=func75.trans (congrArg some (by kernel_rfl))
 f129:=func76.trans (congrArg some (by kernel_rfl))
 f189:=func23.trans (congrArg some (by kernel_rfl))
 f215:=func103.trans (congrArg some (by kernel_rfl))
 f216:=func72.trans (congrArg some (by kernel_rfl))
 f257:=func40.trans (congrArg some (by kernel_rfl))
 f294:=func66.trans (congrArg some (by kernel_rfl))
 f295:=func67.trans (congrArg some (by kernel_rfl))
 f296:=func68.trans (congrArg some (by kernel_rfl))
 f297:=func69.trans (congrArg some (by kernel_rfl))
 f298:=func70.trans (congrArg some (by kernel_rfl))
 f299:=func71.trans (congrArg some (by kernel_rfl))
 f300:=func73.trans (congrArg some (by kernel_rfl))
 f301:=func74.trans (congrArg some (by kernel_rfl))
 f328:=func98.trans (congrArg some (by kernel_rfl))
 f329:=func99.trans (congrArg some (by kernel_rfl))
 f330:=func100.trans (congrArg some (by kernel_rfl))
 f331:=func101.trans (congrArg some (by kernel_rfl))
 f332:=func102.trans (congrArg some (by kernel_rfl))
 f343:=func136.trans (congrArg some (by kernel_rfl))
 t0:=underlying0
 a0:=Tryz.isAgg0
 z0:=Tryz.sizeOf0
 v0:=Tryz.zeroValue0
 t3:=underlying3
 a3:=Tryz.isAgg3
 z3:=Tryz.sizeOf3
 v3:=Tryz.zeroValue3
 t4:=underlying4
 a4:=Tryz.isAgg4
 z4:=Tryz.sizeOf4
 v4:=Tryz.zeroValue4
 t5:=underlying5
 a5:=Tryz.isAgg5
 z5:=Tryz.sizeOf5
 v5:=Tryz.zeroValue5
 t9:=underlying9
 a9:=Tryz.isAgg9
 z9:=Tryz.sizeOf9
 v9:=Tryz.zeroValue9
 t28:=underlying46
 a28:=Tryz.isAgg46
 z28:=Tryz.sizeOf46
 v28:=Tryz.zeroValue46
 t46:=underlying131
 a46:=Tryz.isAgg131
 z46:=Tryz.sizeOf131
 v46:=Tryz.zeroValue131
 t51:=underlying175
 a51:=Tryz.isAgg175
 z51:=Tryz.sizeOf175
 v51:=Tryz.zeroValue175
 t53:=underlying177
 a53:=Tryz.isAgg177
 z53:=Tryz.sizeOf177
 v53:=Tryz.zeroValue177
 t131:=underlying172
 a131:=Tryz.isAgg172
 z131:=Tryz.sizeOf172
 v131:=Tryz.zeroValue172
 t182:=underlying167
 a182:=Tryz.isAgg167
 z182:=Tryz.sizeOf167
 v182:=Tryz.zeroValue167
 t183:=underlying168
 a183:=Tryz.isAgg168
 z183:=Tryz.sizeOf168
 v183:=Tryz.zeroValue168
 t218:=underlying206
 a218:=Tryz.isAgg206
 z218:=Tryz.sizeOf206
 v218:=Tryz.zeroValue206
 t222:=underlying210
 a222:=Tryz.isAgg210
 z222:=Tryz.sizeOf210
 v222:=Tryz.zeroValue210
 t228:=underlying253
 a228:=Tryz.isAgg253
 z228:=Tryz.sizeOf253
 v228:=Tryz.zeroValue253
 t229:=underlying190
 a229:=Tryz.isAgg190
 z229:=Tryz.sizeOf190
 v229:=Tryz.zeroValue190}
open Go.Sort Go.RowKit in
theorem Tryz.slices_Sort_int (eH off cap:Nat) (cc:List Int) (w:World) (I0:Holds (Value.int .i64) w eH off cc.toArray) (ajV:eH<w.heap.size) (nN:cc.length<4611686018427387904):
  Calls prog 23 #[.slice (some ⟨eH,off,none⟩) cc.length cap] w fun e w'=>
   e= .returned (.tuple #[])∧∃n os,w'=grow (putRow (Value.int .i64) (Sort.ahead w n) eH off (cc.mergeSort fun x y=>decide (x≤y)).toArray) os:=Any.slices_Sort_int Tryz.ac6 eH off cap cc w I0 ajV nN
def Tryz.al4:Go.Shelf.Ren:=⟨fun|264=>197|n=>n,fun|53=>177|46=>131|n=>n,fun|n=>n⟩
theorem Tryz.al3:Go.Proofs.Lays.n264 prog Tryz.al4:={
 mixed:=by kernel_rfl
 f264:=func197.trans (congrArg some (by kernel_rfl))
 t46:=underlying131
 a46:=Tryz.isAgg131
 z46:=Tryz.sizeOf131
 v46:=Tryz.zeroValue131
 t53:=underlying177
 a53:=Tryz.isAgg177
 z53:=Tryz.sizeOf177
 v53:=Tryz.zeroValue177}
open Go.RowKit Go.Lib in
theorem Tryz.bits_Mul64 (x y:Nat) (aj:x<18446744073709551616) (bZ:y<18446744073709551616) (w:World):
  Calls prog 197 #[.int .u64 x,.int .u64 y] w fun e w'=>e= .returned (.tuple #[.int .u64 ((x*y/18446744073709551616:Nat):Int),.int .u64 ((x*y% 18446744073709551616:Nat):Int)])∧w'=w:=Any.bits_Mul64 Tryz.al3 x y aj bZ w
def Tryz.alW:Go.Shelf.Ren:=⟨fun|107=>122|108=>150|n=>n,fun|28=>46|3=>3|4=>4|0=>0|n=>n,fun|n=>n⟩
theorem Tryz.ac4:Go.Proofs.Lays.n107 prog Tryz.alW:={
 mixed:=by kernel_rfl
 f107:=func122.trans (congrArg some (by kernel_rfl))
 f108:=func150.trans (congrArg some (by kernel_rfl))
 t0:=underlying0
 a0:=Tryz.isAgg0
 z0:=Tryz.sizeOf0
 v0:=Tryz.zeroValue0
 t3:=underlying3
 a3:=Tryz.isAgg3
 z3:=Tryz.sizeOf3
 v3:=Tryz.zeroValue3
 t4:=underlying4
 a4:=Tryz.isAgg4
 z4:=Tryz.sizeOf4
 v4:=Tryz.zeroValue4
 t28:=underlying46
 a28:=Tryz.isAgg46
 z28:=Tryz.sizeOf46
 v28:=Tryz.zeroValue46}
open Go.Lib in
theorem Tryz.slices_Contains_int (b off n c:Nat) (cc:List Int) (x:Int) (w:World) (bP:n≤cc.length) (WL:n≤9223372036854775807) (aq:∀j,j<cc.length→w.cell? ⟨b,off+j,none⟩=some (.int .i64 (cc.getD j 0))):
  Calls prog 122 #[.slice (some ⟨b,off,none⟩) n c,.int .i64 x] w fun e w'=>e= .returned (.bool ((cc.take n).contains x))∧w'=w:=Any.slices_Contains_int Tryz.ac4 b off n c cc x w bP WL aq
open Go.Lib in
theorem Tryz.slices_Contains_int_empty (a:Option Addr) (c:Nat) (x:Int) (w:World):
  Calls prog 122 #[.slice a 0 c,.int .i64 x] w fun e w'=>e= .returned (.bool false)∧w'=w:=Any.slices_Contains_int_empty Tryz.ac4 a c x w
def Tryz.alX:Go.Shelf.Ren:=⟨fun|110=>104|109=>137|n=>n,fun|31=>90|9=>9|4=>4|3=>3|0=>0|n=>n,fun|n=>n⟩
theorem Tryz.ac5:Go.Proofs.Lays.n110 prog Tryz.alX:={
 mixed:=by kernel_rfl
 f109:=func137.trans (congrArg some (by kernel_rfl))
 f110:=func104.trans (congrArg some (by kernel_rfl))
 t0:=underlying0
 a0:=Tryz.isAgg0
 z0:=Tryz.sizeOf0
 v0:=Tryz.zeroValue0
 t3:=underlying3
 a3:=Tryz.isAgg3
 z3:=Tryz.sizeOf3
 v3:=Tryz.zeroValue3
 t4:=underlying4
 a4:=Tryz.isAgg4
 z4:=Tryz.sizeOf4
 v4:=Tryz.zeroValue4
 t9:=underlying9
 a9:=Tryz.isAgg9
 z9:=Tryz.sizeOf9
 v9:=Tryz.zeroValue9
 t31:=underlying90
 a31:=Tryz.isAgg90
 z31:=Tryz.sizeOf90
 v31:=Tryz.zeroValue90}
open Go.Lib in
theorem Tryz.slices_Contains_string (b off n c:Nat) (cc:List ByteArray) (x:ByteArray) (w:World) (bP:n≤cc.length) (WL:n≤9223372036854775807) (aq:∀j,j<cc.length→w.cell? ⟨b,off+j,none⟩=some (.string (cc.getD j ByteArray.empty))):
  Calls prog 104 #[.slice (some ⟨b,off,none⟩) n c,.string x] w fun e w'=>e= .returned (.bool (Lib.containsS (cc.take n) x))∧w'=w:=Any.slices_Contains_string Tryz.ac5 b off n c cc x w bP WL aq
open Go.Lib in
theorem Tryz.slices_Contains_string_empty (a:Option Addr) (c:Nat) (x:ByteArray) (w:World):
  Calls prog 104 #[.slice a 0 c,.string x] w fun e w'=>e= .returned (.bool false)∧w'=w:=Any.slices_Contains_string_empty Tryz.ac5 a c x w
def Tryz.al5:Go.Shelf.Ren:=⟨fun|20=>24|n=>n,fun|22=>46|3=>3|4=>4|0=>0|n=>n,fun|n=>n⟩
theorem Tryz.ac7:Go.Proofs.Lays2.n20 prog Tryz.al5:={
 mixed:=by kernel_rfl
 f20:=func24.trans (congrArg some (by kernel_rfl))
 t0:=underlying0
 a0:=Tryz.isAgg0
 z0:=Tryz.sizeOf0
 v0:=Tryz.zeroValue0
 t3:=underlying3
 a3:=Tryz.isAgg3
 z3:=Tryz.sizeOf3
 v3:=Tryz.zeroValue3
 t4:=underlying4
 a4:=Tryz.isAgg4
 z4:=Tryz.sizeOf4
 v4:=Tryz.zeroValue4
 t22:=underlying46
 a22:=Tryz.isAgg46
 z22:=Tryz.sizeOf46
 v22:=Tryz.zeroValue46
 i3:=by kernel_rfl}
open Go.RowKit Go.Lib Go.Sort in
theorem Tryz.slices_Compact_int (eH off cap:Nat) (cc:List Int) (w:World) (I0:Holds (Value.int .i64) w eH off cc.toArray) (nN:cc.length≤9223372036854775807) (xt:cc.length≤cap):
  Calls prog 24 #[.slice (some ⟨eH,off,none⟩) cc.length cap] w fun e w'=>e= .returned (.slice (some ⟨eH,off,none⟩) (Lib.compact cc).length cap)∧∃q,w'=putRow (Value.int .i64) (Sort.ahead w q) eH off (Lib.compact cc++List.replicate (cc.length-(Lib.compact cc).length) 0).toArray:=Any.slices_Compact_int Tryz.ac7 eH off cap cc w I0 nN xt
open Go.RowKit Go.Lib Go.Sort in
theorem Tryz.slices_Compact_int_empty (a:Option Addr) (cap:Nat) (w:World):
  Calls prog 24 #[.slice a 0 cap] w fun e w'=>e= .returned (.slice a 0 cap)∧w'=w:=Any.slices_Compact_int_empty Tryz.ac7 a cap w
open Go.RowKit Go.Sort in
theorem Tryz.slices_Sort_int_none (p:Option Addr) (cap:Nat) (w:World):
  Calls prog 23 #[.slice p 0 cap] w fun e w'=>e= .returned (.tuple #[])∧w'=w:=Any.slices_Sort_int_none Tryz.ac6 p cap w
end Go.Proofs
