import Derived.Test.YtobpgndkciofhaaGreatDoorE
import Derived.Deep.DeepCutAuto
set_option linter.all false
namespace Go.Proofs.YtobpgndkciofhaaGreatDoor
open Go.RowKit Go.Proofs.Tryz
open Go.Lib (hid)
set_option maxRecDepth 100000
set_option maxHeartbeats 8000000
def eS (s:ByteArray) (l:List ByteArray):Bool:=l.any fun x=>decide (x=s)
theorem E7 {s:ByteArray} {l:List ByteArray}:eS s l=true↔s∈l:=by simp[eS]
theorem Az (X Y:ByteArray):(X.toList==Y.toList)=decide (X=Y):=by
 rw[CP,CP];by_cases h:X=Y
 ·subst h;simp
 ·rw[decide_eq_false h];simpa using fun e=>h (ab5.1 e)
def jC (w:World) (g o:Nat) (s:ByteArray):Prop:=g<w.heap.size∧w.cell? ⟨g,o,none⟩=some (.string s)
theorem jC.kept {w w':World} {g o:Nat} {s:ByteArray} (h:jC w g o s) (aa:Kept w w'):jC w' g o s:=⟨bd h.1 aa.size,aa.ad h.1 h.2⟩
def xh (q:Bool) (w:World) (e:Ending) (w':World):Prop:=∃r:Int,e= .returned r∧(decide (0≤r))=q∧Kept w w'
def gW (q:Bool) (w:World) (e:Ending) (w':World):Prop:=e= .returned (.bool q)∧Kept w w'
theorem Im {α:Type} {f:α→ByteArray} {s:ByteArray} {xs:List α} {i:Nat} {x:α} (h:xs[i]?=some x) (aj:eS s ((xs.take i).map f)=false):eS s ((xs.take (i+1)).map f)=decide (f x=s):=by
 obtain⟨aE,rfl⟩:=b8 h;rw[List.take_succ_eq_append_getElem aE,List.map_append];unfold eS at aj⊢;rw[List.any_append,aj];simp
theorem Il {α:Type} {f:α→ByteArray} {s:ByteArray} {xs:List α} {i:Nat} {x:α} (h:xs[i]?=some x) (af:f x=s):eS s (xs.map f)=true:=by
 rw[E7,List.mem_map];exact⟨x,List.mem_of_getElem? h,af⟩
theorem ads (ag:ByteArray) (fR:Option Addr) (mJ n4:Nat) (g o:Nat) (s:ByteArray) (w:World) (bM:jC w g o s):Calls prog 89 #[.agg #[ag,.slice fR mJ n4],.pointer (some ⟨g,o,none⟩)] w (gW (decide (ag=s)) w):=by
 unfold gW;obtain⟨I,U⟩:=bM;go_enter func89,ntmps89
 go_wp2_with fail
 go_ret;exact⟨eD (Az _ _),(aQ w).alloc _⟩
theorem afK (v:Value) (xs:List mo) (g o:Nat) (s:ByteArray) (w:World) (c5:cH 2 n_ w v xs) (bM:jC w g o s):Calls prog 115 #[v,.func (.func 89) #[] #[.pointer (some ⟨g,o,none⟩)]] w (xh (eS s (xs.map (·.ag))) w):=by
 obtain⟨A,cap,rfl,-,aq,af⟩:=c5;obtain⟨n,aA⟩:∃n,n=xs.length:=⟨_,rfl⟩;rw[←aA]at aq af⊢;have bn:=hid aA;have eB:=hid bM;clear aA;go_enter func115,ntmps115
 go_wp2_with fail
 go_loopw [8] (fun z wr=>∃i:Nat,z= .int .i64 i∧i≤n∧Kept w wr∧eS s ((xs.take i).map (·.ag))=false) (fun z _=>n-(intOf z).toNat)
 case atStart=>exact⟨0,rfl,Nat.zero_le _,aQ _,by simp[eS]⟩
 case round=>
  obtain⟨i,rfl,de,ab,gD⟩:=hrel;by_cases aD:i<n
  ·obtain⟨b,off,rfl,J,ah⟩:=af (by omega);have ai:xs[i]?=some (xs[i]'(by have:=bn.out;omega)):=a8 _;have au:=ah i _ ai;have pV:=Im ai gD;have rJ:=fun h=>Il (f:=(·.ag)) (s:=s) ai h;generalize xs[i]'(by have:=bn.out;omega)=x at*;have bz:=hid (And.intro pV rJ);clear ai ah af gD pV rJ;obtain⟨ag,mem⟩:=x;obtain⟨⟨b5,-⟩,⟨bW,aC,⟨fR,n4,rfl,-⟩⟩⟩:=au;unfold ed at*;dsimp only at*;generalize mem.length=mJ at*;have rI:=bd J ab.size;replace b5:=ab.ad J b5;replace aC:=ab.ad J aC;have h_:=hid (fun w1 (h:Kept w w1)=>ads ag fR mJ n4 g o s w1 (eB.out.kept h));unfold gW at h_;have c6:(i:Int)<n:=by omega
   cases av:decide (ag=s)
   ·rw[av]at h_;go_wp2_with (go_at_call 89;refine (h_.out _ ab).mono ?_;rintro e w1 ⟨rfl,ak⟩)
    go_roundw
    case rel=>exact⟨i+1,by go_num,aD,ab.trans ak,bz.out.1.trans av⟩
    case measure=>simp[intOf];omega
   ·rw[av]at h_;go_wp2_with (go_at_call 89;refine (h_.out _ ab).mono ?_;rintro e w1 ⟨rfl,ak⟩)
    go_ret;exact⟨i,rfl,by rw[bz.out.2 (of_decide_eq_true av)];simp,ab.trans ak⟩
  ·obtain rfl:n=i:=by omega
   have c6:¬((n:Int)<n):=by omega
   rw[List.take_of_length_le (by have:=bn.out;omega)]at gD;have dX:=hid gD;clear gD af;go_wp2_with fail
   go_ret;exact⟨-1,rfl,by rw[dX.out];rfl,ab⟩
theorem adV (v:Value) (xs:List mo) (g o:Nat) (s:ByteArray) (w:World) (c5:cH 2 n_ w v xs) (bM:jC w g o s):Calls prog 88 #[v,.func (.func 89) #[] #[.pointer (some ⟨g,o,none⟩)]] w (gW (eS s (xs.map (·.ag))) w):=by
 have dn:=hid (afK v xs g o s w c5 bM);unfold xh at dn;unfold gW;obtain⟨A,cap,rfl,-⟩:=c5;go_enter func88,ntmps88
 go_wp2_with (go_at_call 115;refine dn.out.mono ?_;rintro e w1 ⟨r,rfl,aH,ak⟩)
 go_ret;exact⟨rfl,ak⟩
theorem adw (ag:ByteArray) (d_:Int) (eo:Int) (cy:Int) (bE:Int) (fR:Option Addr) (mJ n4:Nat) (g o:Nat) (s:ByteArray) (w:World) (bM:jC w g o s):Calls prog 91 #[.agg #[ag,d_,eo,cy,bE,.slice fR mJ n4],.pointer (some ⟨g,o,none⟩)] w (gW (decide (ag=s)) w):=by
 unfold gW;obtain⟨I,U⟩:=bM;go_enter func91,ntmps91
 go_wp2_with fail
 go_ret;exact⟨eD (Az _ _),(aQ w).alloc _⟩
theorem afP (v:Value) (xs:List jm) (g o:Nat) (s:ByteArray) (w:World) (c5:cH 6 kU w v xs) (bM:jC w g o s):Calls prog 116 #[v,.func (.func 91) #[] #[.pointer (some ⟨g,o,none⟩)]] w (xh (eS s (xs.map (·.ag))) w):=by
 obtain⟨A,cap,rfl,-,aq,af⟩:=c5;obtain⟨n,aA⟩:∃n,n=xs.length:=⟨_,rfl⟩;rw[←aA]at aq af⊢;have bn:=hid aA;have eB:=hid bM;clear aA;go_enter func116,ntmps116
 go_wp2_with fail
 go_loopw [8] (fun z wr=>∃i:Nat,z= .int .i64 i∧i≤n∧Kept w wr∧eS s ((xs.take i).map (·.ag))=false) (fun z _=>n-(intOf z).toNat)
 case atStart=>exact⟨0,rfl,Nat.zero_le _,aQ _,by simp[eS]⟩
 case round=>
  obtain⟨i,rfl,de,ab,gD⟩:=hrel;by_cases aD:i<n
  ·obtain⟨b,off,rfl,J,ah⟩:=af (by omega);have ai:xs[i]?=some (xs[i]'(by have:=bn.out;omega)):=a8 _;have au:=ah i _ ai;have pV:=Im ai gD;have rJ:=fun h=>Il (f:=(·.ag)) (s:=s) ai h;generalize xs[i]'(by have:=bn.out;omega)=x at*;have bz:=hid (And.intro pV rJ);clear ai ah af gD pV rJ;obtain⟨ag,d_,eo,cy,bE,mem⟩:=x;obtain⟨⟨b5,-⟩,⟨aC,-⟩,⟨aM,-⟩,⟨a1,-⟩,⟨bN,-⟩,⟨bW,bJ,⟨fR,n4,rfl,-⟩⟩⟩:=au;unfold ed at*;dsimp only at*;generalize mem.length=mJ at*;have rI:=bd J ab.size;replace b5:=ab.ad J b5;replace aC:=ab.ad J aC;replace aM:=ab.ad J aM;replace a1:=ab.ad J a1;replace bN:=ab.ad J bN;replace bJ:=ab.ad J bJ;have h_:=hid (fun w1 (h:Kept w w1)=>adw ag d_ eo cy bE fR mJ n4 g o s w1 (eB.out.kept h));unfold gW at h_;have c6:(i:Int)<n:=by omega
   cases av:decide (ag=s)
   ·rw[av]at h_;go_wp2_with (go_at_call 91;refine (h_.out _ ab).mono ?_;rintro e w1 ⟨rfl,ak⟩)
    go_roundw
    case rel=>exact⟨i+1,by go_num,aD,ab.trans ak,bz.out.1.trans av⟩
    case measure=>simp[intOf];omega
   ·rw[av]at h_;go_wp2_with (go_at_call 91;refine (h_.out _ ab).mono ?_;rintro e w1 ⟨rfl,ak⟩)
    go_ret;exact⟨i,rfl,by rw[bz.out.2 (of_decide_eq_true av)];simp,ab.trans ak⟩
  ·obtain rfl:n=i:=by omega
   have c6:¬((n:Int)<n):=by omega
   rw[List.take_of_length_le (by have:=bn.out;omega)]at gD;have dX:=hid gD;clear gD af;go_wp2_with fail
   go_ret;exact⟨-1,rfl,by rw[dX.out];rfl,ab⟩
theorem adZ (v:Value) (xs:List jm) (g o:Nat) (s:ByteArray) (w:World) (c5:cH 6 kU w v xs) (bM:jC w g o s):Calls prog 90 #[v,.func (.func 91) #[] #[.pointer (some ⟨g,o,none⟩)]] w (gW (eS s (xs.map (·.ag))) w):=by
 have dn:=hid (afP v xs g o s w c5 bM);unfold xh at dn;unfold gW;obtain⟨A,cap,rfl,-⟩:=c5;go_enter func90,ntmps90
 go_wp2_with (go_at_call 116;refine dn.out.mono ?_;rintro e w1 ⟨r,rfl,aH,ak⟩)
 go_ret;exact⟨rfl,ak⟩
theorem adv (ag:ByteArray) (ms:Int) (fR:Option Addr) (mJ n4:Nat) (fo:Option Addr) (dl fS:Nat) (eC:Option Addr) (dF rc:Nat) (g o:Nat) (s:ByteArray) (w:World) (bM:jC w g o s):Calls prog 93 #[.agg #[ag,ms,.slice fR mJ n4,.slice fo dl fS,.slice eC dF rc],.pointer (some ⟨g,o,none⟩)] w (gW (decide (ag=s)) w):=by
 unfold gW;obtain⟨I,U⟩:=bM;go_enter func93,ntmps93
 go_wp2_with fail
 go_ret;exact⟨eD (Az _ _),(aQ w).alloc _⟩
theorem afN (v:Value) (xs:List bP) (g o:Nat) (s:ByteArray) (w:World) (c5:cH 5 sA w v xs) (bM:jC w g o s):Calls prog 117 #[v,.func (.func 93) #[] #[.pointer (some ⟨g,o,none⟩)]] w (xh (eS s (xs.map (·.ag))) w):=by
 obtain⟨A,cap,rfl,-,aq,af⟩:=c5;obtain⟨n,aA⟩:∃n,n=xs.length:=⟨_,rfl⟩;rw[←aA]at aq af⊢;have bn:=hid aA;have eB:=hid bM;clear aA;go_enter func117,ntmps117
 go_wp2_with fail
 go_loopw [8] (fun z wr=>∃i:Nat,z= .int .i64 i∧i≤n∧Kept w wr∧eS s ((xs.take i).map (·.ag))=false) (fun z _=>n-(intOf z).toNat)
 case atStart=>exact⟨0,rfl,Nat.zero_le _,aQ _,by simp[eS]⟩
 case round=>
  obtain⟨i,rfl,de,ab,gD⟩:=hrel;by_cases aD:i<n
  ·obtain⟨b,off,rfl,J,ah⟩:=af (by omega);have ai:xs[i]?=some (xs[i]'(by have:=bn.out;omega)):=a8 _;have au:=ah i _ ai;have pV:=Im ai gD;have rJ:=fun h=>Il (f:=(·.ag)) (s:=s) ai h;generalize xs[i]'(by have:=bn.out;omega)=x at*;have bz:=hid (And.intro pV rJ);clear ai ah af gD pV rJ;obtain⟨ag,ms,mem,ds,rs⟩:=x;obtain⟨⟨b5,-⟩,⟨aC,-⟩,⟨bW,aM,⟨fR,n4,rfl,-⟩⟩,⟨b6,a1,⟨fo,fS,rfl,-⟩⟩,⟨bA,bN,⟨eC,rc,rfl,-⟩⟩⟩:=au;unfold ed at*;dsimp only at*;generalize mem.length=mJ at*;generalize ds.length=dl at*;generalize rs.length=dF at*;have rI:=bd J ab.size;replace b5:=ab.ad J b5;replace aC:=ab.ad J aC;replace aM:=ab.ad J aM;replace a1:=ab.ad J a1;replace bN:=ab.ad J bN;have h_:=hid (fun w1 (h:Kept w w1)=>adv ag ms fR mJ n4 fo dl fS eC dF rc g o s w1 (eB.out.kept h));unfold gW at h_;have c6:(i:Int)<n:=by omega
   cases av:decide (ag=s)
   ·rw[av]at h_;go_wp2_with (go_at_call 93;refine (h_.out _ ab).mono ?_;rintro e w1 ⟨rfl,ak⟩)
    go_roundw
    case rel=>exact⟨i+1,by go_num,aD,ab.trans ak,bz.out.1.trans av⟩
    case measure=>simp[intOf];omega
   ·rw[av]at h_;go_wp2_with (go_at_call 93;refine (h_.out _ ab).mono ?_;rintro e w1 ⟨rfl,ak⟩)
    go_ret;exact⟨i,rfl,by rw[bz.out.2 (of_decide_eq_true av)];simp,ab.trans ak⟩
  ·obtain rfl:n=i:=by omega
   have c6:¬((n:Int)<n):=by omega
   rw[List.take_of_length_le (by have:=bn.out;omega)]at gD;have dX:=hid gD;clear gD af;go_wp2_with fail
   go_ret;exact⟨-1,rfl,by rw[dX.out];rfl,ab⟩
theorem adY (v:Value) (xs:List bP) (g o:Nat) (s:ByteArray) (w:World) (c5:cH 5 sA w v xs) (bM:jC w g o s):Calls prog 92 #[v,.func (.func 93) #[] #[.pointer (some ⟨g,o,none⟩)]] w (gW (eS s (xs.map (·.ag))) w):=by
 have dn:=hid (afN v xs g o s w c5 bM);unfold xh at dn;unfold gW;obtain⟨A,cap,rfl,-⟩:=c5;go_enter func92,ntmps92
 go_wp2_with (go_at_call 117;refine dn.out.mono ?_;rintro e w1 ⟨r,rfl,aH,ak⟩)
 go_ret;exact⟨rfl,ak⟩
theorem adt (ag:ByteArray) (GR:Int) (GQ:Int) (g o:Nat) (s:ByteArray) (w:World) (bM:jC w g o s):Calls prog 118 #[.agg #[ag,GR,GQ],.pointer (some ⟨g,o,none⟩)] w (gW (decide (ag=s)) w):=by
 unfold gW;obtain⟨I,U⟩:=bM;go_enter func118,ntmps118
 go_wp2_with fail
 go_ret;exact⟨eD (Az _ _),(aQ w).alloc _⟩
theorem afL (v:Value) (xs:List lE) (g o:Nat) (s:ByteArray) (w:World) (c5:cH 3 fL w v xs) (bM:jC w g o s):Calls prog 147 #[v,.func (.func 118) #[] #[.pointer (some ⟨g,o,none⟩)]] w (xh (eS s (xs.map (·.ag))) w):=by
 obtain⟨A,cap,rfl,-,aq,af⟩:=c5;obtain⟨n,aA⟩:∃n,n=xs.length:=⟨_,rfl⟩;rw[←aA]at aq af⊢;have bn:=hid aA;have eB:=hid bM;clear aA;go_enter func147,ntmps147
 go_wp2_with fail
 go_loopw [8] (fun z wr=>∃i:Nat,z= .int .i64 i∧i≤n∧Kept w wr∧eS s ((xs.take i).map (·.ag))=false) (fun z _=>n-(intOf z).toNat)
 case atStart=>exact⟨0,rfl,Nat.zero_le _,aQ _,by simp[eS]⟩
 case round=>
  obtain⟨i,rfl,de,ab,gD⟩:=hrel;by_cases aD:i<n
  ·obtain⟨b,off,rfl,J,ah⟩:=af (by omega);have ai:xs[i]?=some (xs[i]'(by have:=bn.out;omega)):=a8 _;have au:=ah i _ ai;have pV:=Im ai gD;have rJ:=fun h=>Il (f:=(·.ag)) (s:=s) ai h;generalize xs[i]'(by have:=bn.out;omega)=x at*;have bz:=hid (And.intro pV rJ);clear ai ah af gD pV rJ;obtain⟨ag,GR,GQ⟩:=x;obtain⟨⟨b5,-⟩,⟨aC,-⟩,⟨aM,-⟩⟩:=au;unfold ed at*;dsimp only at*;skip
   have rI:=bd J ab.size;replace b5:=ab.ad J b5;replace aC:=ab.ad J aC;replace aM:=ab.ad J aM;have h_:=hid (fun w1 (h:Kept w w1)=>adt ag GR GQ g o s w1 (eB.out.kept h));unfold gW at h_;have c6:(i:Int)<n:=by omega
   cases av:decide (ag=s)
   ·rw[av]at h_;go_wp2_with (go_at_call 118;refine (h_.out _ ab).mono ?_;rintro e w1 ⟨rfl,ak⟩)
    go_roundw
    case rel=>exact⟨i+1,by go_num,aD,ab.trans ak,bz.out.1.trans av⟩
    case measure=>simp[intOf];omega
   ·rw[av]at h_;go_wp2_with (go_at_call 118;refine (h_.out _ ab).mono ?_;rintro e w1 ⟨rfl,ak⟩)
    go_ret;exact⟨i,rfl,by rw[bz.out.2 (of_decide_eq_true av)];simp,ab.trans ak⟩
  ·obtain rfl:n=i:=by omega
   have c6:¬((n:Int)<n):=by omega
   rw[List.take_of_length_le (by have:=bn.out;omega)]at gD;have dX:=hid gD;clear gD af;go_wp2_with fail
   go_ret;exact⟨-1,rfl,by rw[dX.out];rfl,ab⟩
theorem Vd (v:Value) (xs:List lE) (g o:Nat) (s:ByteArray) (w:World) (c5:cH 3 fL w v xs) (bM:jC w g o s):Calls prog 119 #[v,.func (.func 118) #[] #[.pointer (some ⟨g,o,none⟩)]] w (gW (eS s (xs.map (·.ag))) w):=by
 have dn:=hid (afL v xs g o s w c5 bM);unfold xh at dn;unfold gW;obtain⟨A,cap,rfl,-⟩:=c5;go_enter func119,ntmps119
 go_wp2_with (go_at_call 147;refine dn.out.mono ?_;rintro e w1 ⟨r,rfl,aH,ak⟩)
 go_ret;exact⟨rfl,ak⟩
theorem adu (ag:ByteArray) (bK:Int) (bD:Int) (fa:Int) (dH:Int) (dB:Int) (jg:Option Addr) (ox gc:Nat) (iS:Option Addr) (fA gx:Nat) (src:ByteArray) (g o:Nat) (s:ByteArray) (w:World) (bM:jC w g o s):Calls prog 122 #[.agg #[ag,bK,bD,fa,dH,dB,.slice jg ox gc,.slice iS fA gx,src],.pointer (some ⟨g,o,none⟩)] w (gW (decide (ag=s)) w):=by
 unfold gW;obtain⟨I,U⟩:=bM;go_enter func122,ntmps122
 go_wp2_with fail
 go_ret;exact⟨eD (Az _ _),(aQ w).alloc _⟩
theorem afM (v:Value) (xs:List bf) (g o:Nat) (s:ByteArray) (w:World) (c5:cH 9 mv w v xs) (bM:jC w g o s):Calls prog 148 #[v,.func (.func 122) #[] #[.pointer (some ⟨g,o,none⟩)]] w (xh (eS s (xs.map (·.ag))) w):=by
 obtain⟨A,cap,rfl,-,aq,af⟩:=c5;obtain⟨n,aA⟩:∃n,n=xs.length:=⟨_,rfl⟩;rw[←aA]at aq af⊢;have bn:=hid aA;have eB:=hid bM;clear aA;go_enter func148,ntmps148
 go_wp2_with fail
 go_loopw [8] (fun z wr=>∃i:Nat,z= .int .i64 i∧i≤n∧Kept w wr∧eS s ((xs.take i).map (·.ag))=false) (fun z _=>n-(intOf z).toNat)
 case atStart=>exact⟨0,rfl,Nat.zero_le _,aQ _,by simp[eS]⟩
 case round=>
  obtain⟨i,rfl,de,ab,gD⟩:=hrel;by_cases aD:i<n
  ·obtain⟨b,off,rfl,J,ah⟩:=af (by omega);have ai:xs[i]?=some (xs[i]'(by have:=bn.out;omega)):=a8 _;have au:=ah i _ ai;have pV:=Im ai gD;have rJ:=fun h=>Il (f:=(·.ag)) (s:=s) ai h;generalize xs[i]'(by have:=bn.out;omega)=x at*;have bz:=hid (And.intro pV rJ);clear ai ah af gD pV rJ;obtain⟨ag,bK,bD,fa,dH,dB,anM,n8,src⟩:=x;obtain⟨⟨b5,-⟩,⟨aC,-⟩,⟨aM,-⟩,⟨a1,-⟩,⟨bN,-⟩,⟨bJ,-⟩,⟨_,eQ,⟨⟨jg,gc,rfl,-⟩,-⟩⟩,⟨_,kv,⟨⟨iS,gx,rfl,-⟩,-⟩⟩,⟨kx,-⟩⟩:=au;unfold ed at*;dsimp only at*;generalize anM.length=ox at*;generalize n8.length=fA at*;have rI:=bd J ab.size;replace b5:=ab.ad J b5;replace aC:=ab.ad J aC;replace aM:=ab.ad J aM;replace a1:=ab.ad J a1;replace bN:=ab.ad J bN;replace bJ:=ab.ad J bJ;replace eQ:=ab.ad J eQ;replace kv:=ab.ad J kv;replace kx:=ab.ad J kx;have h_:=hid (fun w1 (h:Kept w w1)=>adu ag bK bD fa dH dB jg ox gc iS fA gx src g o s w1 (eB.out.kept h));unfold gW at h_;have c6:(i:Int)<n:=by omega
   cases av:decide (ag=s)
   ·rw[av]at h_;go_wp2_with (go_at_call 122;refine (h_.out _ ab).mono ?_;rintro e w1 ⟨rfl,ak⟩)
    go_roundw
    case rel=>exact⟨i+1,by go_num,aD,ab.trans ak,bz.out.1.trans av⟩
    case measure=>simp[intOf];omega
   ·rw[av]at h_;go_wp2_with (go_at_call 122;refine (h_.out _ ab).mono ?_;rintro e w1 ⟨rfl,ak⟩)
    go_ret;exact⟨i,rfl,by rw[bz.out.2 (of_decide_eq_true av)];simp,ab.trans ak⟩
  ·obtain rfl:n=i:=by omega
   have c6:¬((n:Int)<n):=by omega
   rw[List.take_of_length_le (by have:=bn.out;omega)]at gD;have dX:=hid gD;clear gD af;go_wp2_with fail
   go_ret;exact⟨-1,rfl,by rw[dX.out];rfl,ab⟩
theorem adX (v:Value) (xs:List bf) (g o:Nat) (s:ByteArray) (w:World) (c5:cH 9 mv w v xs) (bM:jC w g o s):Calls prog 121 #[v,.func (.func 122) #[] #[.pointer (some ⟨g,o,none⟩)]] w (gW (eS s (xs.map (·.ag))) w):=by
 have dn:=hid (afM v xs g o s w c5 bM);unfold xh at dn;unfold gW;obtain⟨A,cap,rfl,-⟩:=c5;go_enter func121,ntmps121
 go_wp2_with (go_at_call 148;refine dn.out.mono ?_;rintro e w1 ⟨r,rfl,aH,ak⟩)
 go_ret;exact⟨rfl,ak⟩
structure jl where
 ms:List (List ByteArray)
 tb:List jm
 ins:List cO
 ds:List cO
 md:List cO
 hm:Bool
def nO (w:World) (v:Value) (s:jl):Prop:=
 ∃c_ b4 bo b6 bW,v= .agg #[c_,b4,bo,b6,bW,.bool s.hm]∧Enums w c_ s.ms∧cH 6 kU w b4 s.tb∧kb w bo s.ins∧kb w b6 s.ds∧kb w bW s.md
theorem nO.kept {w w':World} {v:Value} {s:jl} (h:nO w v s) (aa:Kept w w'):nO w' v s:=by
 obtain⟨c_,b4,bo,b6,bW,ay,aj,I,U,ae,aJ⟩:=h;exact⟨c_,b4,bo,b6,bW,ay,aj.kept aa,I.kept kU.kept aa,U.kept aa,ae.kept aa,aJ.kept aa⟩
def oJ (R:cO×Int) (w:World) (r:Ending) (w':World):Prop:=r= .returned (.tuple #[.agg #[R.1.k,R.1.e],R.2])∧Kept w w'
def jc (R:cO×Bool) (w:World) (r:Ending) (w':World):Prop:=r= .returned (.tuple #[.agg #[R.1.k,R.1.e],.bool R.2])∧Kept w w'
def t0:cO:=⟨0,0⟩
def E' (op a b:Int):cO×Bool:=
 if op=14 then (⟨a,0⟩,decide (b=4∧(a=3∨a=4)))
 else if b=2 then (⟨a,0⟩,decide (a=2∨a=3))
 else if op=15∧a=3∧b=3 then (⟨4,0⟩,true)else (t0,false)
def E0 (ms:List (List ByteArray)) (n k:Int):cO×Int:=if n<(nQ k 0 ms).1∨(nQ k 0 ms).2<n then (t0,3)else (⟨k,0⟩,0)
def D0 (ms:List (List ByteArray)) (n:Int):cO×Int:=if n<0 then (t0,3)else if (ms.length:Int)≤n/16∨((E3 (n/16) ms).length:Int)≤n% 16 then (t0,6)else (⟨6,n/16⟩,0)
def o8 (ms:List (List ByteArray)) (n:Int) (l:List cO):cO×Int:=if n<0∨(l.length:Int)≤n then (t0,6)else if kn (l[n.toNat]?.getD t0).k (l[n.toNat]?.getD t0).e ms=true then (l[n.toNat]?.getD t0,0)else (t0,8)
def xu (n:Int):Bool:=decide (0≤n∧n≤5)
theorem GO (k:Int) (w:World):Calls prog 205 #[k] w fun r w'=>r= .returned (.bool (lU k))∧w=w':=by
 unfold lU
 cases I:(k==2)<;>cases U:(k==3)<;>cases ae:(k==4)
 all_goals
  go_enter func205,ntmps205
  go_wp2_with fail
  go_ret;refine⟨eD ?_,rfl⟩;simp at I U ae⊢
  (try omega)
theorem VB (n:Int) (w:World):Calls prog 187 #[n] w fun r w'=>r= .returned (.bool (xu n))∧w=w':=by
 unfold xu;by_cases I:0≤n<;>by_cases U:n≤5
 all_goals
  go_enter func187,ntmps187
  go_wp2_with fail
  go_ret;refine⟨eD ?_,rfl⟩;simp at I U⊢
  (try omega)
theorem ahT (op a b:Int) (w:World):Calls prog 206 #[op,a,b] w (jc (E' op a b) w):=by
 unfold jc;obtain⟨R,aw⟩:∃R,R=E' op a b:=⟨_,rfl⟩;rw[←aw];unfold E' at aw;by_cases h:op=14
 ·subst h
  cases U:(b==4)<;>cases ae:(a==3)<;>cases aJ:(a==4)
  all_goals
   have aI:=hid aw;clear aw;go_enter func206,ntmps206
   go_wp2_with fail
   refine bodyPost_ret (v:= .tuple #[.agg #[R.1.k,R.1.e],.bool R.2]) ?_ rfl ⟨rfl,(aQ _).alloc _⟩;rw[aI.out];simp at U ae aJ;simp[results,results206,go_sem, *]
 ·have I:(op==14)=false:=by simpa using h
  rw[if_neg h]at aw;by_cases J:b=2
  ·subst J
   cases ae:(a==2)<;>cases aJ:(a==3)
   all_goals
    have aI:=hid aw;clear aw;go_enter func206,ntmps206
    go_wp2_with fail
    refine bodyPost_ret (v:= .tuple #[.agg #[R.1.k,R.1.e],.bool R.2]) ?_ rfl ⟨rfl,(aQ _).alloc _⟩;rw[aI.out];simp at ae aJ;simp[results,results206,go_sem, *]
  ·have U:(b==2)=false:=by simpa using J
   rw[if_neg J]at aw
   cases ae:(op==15)<;>cases aJ:(a==3)<;>cases bp:(b==3)
   all_goals
    have aI:=hid aw;clear aw;go_enter func206,ntmps206
    go_wp2_with fail
    refine bodyPost_ret (v:= .tuple #[.agg #[R.1.k,R.1.e],.bool R.2]) ?_ rfl ⟨rfl,(aQ _).alloc _⟩;rw[aI.out];simp at ae aJ bp;simp[results,results206,go_sem,t0, *]
theorem nO.form {w:World} {v:Value} {s:jl} (h:nO w v s):∃cY ce cU cW dS ci gJ b_ eH hg,v= .agg #[.slice cY s.ms.length ce,.slice cU s.tb.length cW,.slice dS s.ins.length ci,.slice gJ s.ds.length b_,.slice eH s.md.length hg,.bool s.hm]∧
  Enums w (.slice cY s.ms.length ce) s.ms∧cH 6 kU w (.slice cU s.tb.length cW) s.tb∧kb w (.slice dS s.ins.length ci) s.ins∧kb w (.slice gJ s.ds.length b_) s.ds∧kb w (.slice eH s.md.length hg) s.md:=by
 obtain⟨c_,b4,bo,b6,bW,ay,aj,I,U,ae,aJ⟩:=h;obtain⟨cY,ce,rfl,-⟩:=id aj;obtain⟨cU,cW,rfl,-⟩:=id I;obtain⟨dS,ci,rfl,-⟩:=id U;obtain⟨gJ,b_,rfl,-⟩:=id ae;obtain⟨eH,hg,rfl,-⟩:=id aJ;exact⟨cY,ce,cU,cW,dS,ci,gJ,b_,eH,hg,ay,aj,I,U,ae,aJ⟩
theorem ao.ZH (W:World) (o:Obj) (t:TypeId) (cs:Array Value):ao ((W.alloc o).alloc (.cells cs t)) (W.heap.size+1) t cs:=by
 have:=ao.new (W.alloc o) t cs;rwa [World.size_alloc]at this
theorem hi {w W:World} {g:Nat} {t:TypeId} {a b:Value} (k e:Int) (aU:ao W g t #[a,b]) (ab:Kept w W) (ai:w.heap.size≤g):
  ao ((W.setCell ⟨g,0,none⟩ k).setCell ⟨g,1,none⟩ e) g t #[k,e]∧Kept w ((W.setCell ⟨g,0,none⟩ k).setCell ⟨g,1,none⟩ e):=
 ⟨(aU.aP 0 _).aP 1 _,(ab.setCell ai _).setCell ai _⟩
theorem agH (n k:Int) (b2:Value) (s:jl) (w:World) (bj:nO w b2 s):Calls prog 182 #[n,k,b2] w (oJ (E0 s.ms n k) w):=by
 obtain⟨cY,ce,cU,cW,dS,ci,gJ,b_,eH,hg,rfl,aX,-⟩:=bj.form;have cg:=hid (fun w1 (h:Kept w w1)=>Oo k 0 _ s.ms w1 (aX.kept h));obtain⟨R,aw⟩:∃R,R=E0 s.ms n k:=⟨_,rfl⟩;unfold oJ;rw[←aw];unfold E0 at aw;generalize (nQ k 0 s.ms).1=ei at*;generalize (nQ k 0 s.ms).2=aE at*;generalize s.ms.length=dN at*;generalize s.tb.length=dh at*;generalize s.ins.length=b1 at*;generalize s.ds.length=cS at*;generalize s.md.length=ew at*;clear bj aX;go_enter func182,ntmps182
 go_upto_region 2 with fail
 generalize ar:((w.alloc _).alloc _).alloc _=W at*;obtain⟨aW,aS,aT,bU⟩:=Kept.b7 ar;clear ar;obtain⟨aC,a7⟩:=aS.p;obtain⟨a1,dz⟩:=bU.p;have aI:=hid aw;clear aw;have jf:∀(k e c:Int) (X:World),R=(⟨k,e⟩,c)→Kept w X→Ending.returned (.tuple #[.agg #[k,e],c])= .returned (.tuple #[.agg #[R.1.k,R.1.e],R.2])∧Kept w X:=fun k e c X h aa=>⟨by rw[h],aa⟩;by_cases I:n<ei
 ·have J:R=(t0,3):=by rw[aI.out,if_pos (.inl I)]
  go_wp2_with (go_at_call 67;refine (cg.out _ aW).mono ?_;rintro e w1 ⟨rfl,ak⟩;have cm:=aT.kept ak;have dx:=bU.kept ak;have Gy:=cm.cell;have Kb:=cm.lt;have Ow:=cm.frozen;have Ov:=dx.cell;have OB:=dx.lt;have bB:=aW.trans ak)
  obtain⟨cC,al⟩:=hi 0 0 cm bB (by omega);have cq:=cC.cell;exact bodyPost_ret (v:= .tuple #[.agg #[(),()],.int .i64 3]) (by simp[results,results182,go_sem,cq]) rfl (jf _ _ _ _ J al)
 by_cases U:aE<n
 ·have J:R=(t0,3):=by rw[aI.out,if_pos (.inr U)]
  go_wp2_with (go_at_call 67;refine (cg.out _ aW).mono ?_;rintro e w1 ⟨rfl,ak⟩;have cm:=aT.kept ak;have dx:=bU.kept ak;have Gy:=cm.cell;have Kb:=cm.lt;have Ow:=cm.frozen;have Ov:=dx.cell;have OB:=dx.lt;have bB:=aW.trans ak)
  obtain⟨cC,al⟩:=hi 0 0 cm bB (by omega);have cq:=cC.cell;exact bodyPost_ret (v:= .tuple #[.agg #[(),()],.int .i64 3]) (by simp[results,results182,go_sem,cq]) rfl (jf _ _ _ _ J al)
 ·have J:R=(⟨k,0⟩,0):=by rw[aI.out,if_neg (fun h=>h.elim I U)]
  go_wp2_with (go_at_call 67;refine (cg.out _ aW).mono ?_;rintro e w1 ⟨rfl,ak⟩;have cm:=aT.kept ak;have dx:=bU.kept ak;have Gy:=cm.cell;have Kb:=cm.lt;have Ow:=cm.frozen;have Ov:=dx.cell;have OB:=dx.lt;have bB:=aW.trans ak)
  obtain⟨cC,al⟩:=hi k 0 cm bB (by omega);have cq:=cC.cell;exact bodyPost_ret (v:= .tuple #[.agg #[k,()],()]) (by simp[results,results182,go_sem,cq]) rfl (jf _ _ _ _ J al)
theorem aei (n:Int) (b2:Value) (s:jl) (w:World) (bj:nO w b2 s) (aA:n≤9223372036854775807):Calls prog 183 #[n,b2] w (oJ (D0 s.ms n) w):=by
 obtain⟨cY,ce,cU,cW,dS,ci,gJ,b_,eH,hg,rfl,aX,-⟩:=bj.form;obtain⟨R,aw⟩:∃R,R=D0 s.ms n:=⟨_,rfl⟩;unfold oJ;rw[←aw];unfold D0 at aw;obtain⟨nE,gf,ay,-,af⟩:=aX;generalize Eu:s.ms.length=dN at*;generalize s.tb.length=dh at*;generalize s.ins.length=b1 at*;generalize s.ds.length=cS at*;generalize s.md.length=ew at*
 cases ay;have aF:=hid (((aQ w).alloc (.cells #[.slice cY dN ce,.slice cU dh cW,.slice dS b1 ci,.slice gJ cS b_,.slice eH ew hg,.bool s.hm] 202)).alloc (.cells #[R.1.k,R.1.e] 57));clear bj;have jf:∀(k e c:Int) (X:World),R=(⟨k,e⟩,c)→Kept w X→Ending.returned (.tuple #[.agg #[k,e],c])= .returned (.tuple #[.agg #[R.1.k,R.1.e],R.2])∧Kept w X:=fun k e c X h aa=>⟨by rw[h],aa⟩;by_cases aj:n<0
 ·rw[if_pos aj]at aw;have aI:=hid aw;clear aw;go_enter func183,ntmps183
  go_wp2_with fail
  exact bodyPost_ret (v:= .tuple #[.agg #[(),()],.int .i64 3]) (by simp[results,results183,go_sem]) rfl (jf _ _ _ _ aI.out (((aQ w).alloc _).alloc _))
 rw[if_neg aj]at aw;obtain⟨j,aB⟩:∃j:Nat,n/16=j:=⟨(n/16).toNat,by omega⟩;have Yf:n.tdiv 16=j:=by rw[Int.tdiv_eq_ediv_of_nonneg (by omega)];exact aB
 have Yg:n.tmod 16=n% 16:=Int.tmod_eq_emod_of_nonneg (by omega);have w7:(j:Int)≤9223372036854775807:=by omega
 rw[aB]at aw;by_cases I:(dN:Int)≤j
 ·rw[if_pos (.inl I)]at aw;have aI:=hid aw;clear aw aB;go_enter func183,ntmps183
  go_wp2_with fail
  exact bodyPost_ret (v:= .tuple #[.agg #[(),()],.int .i64 6]) (by simp[results,results183,go_sem]) rfl (jf _ _ _ _ aI.out (((aQ w).alloc _).alloc _))
 obtain⟨b,off,rfl,J,ah⟩:=af (by omega);obtain⟨-,bW,kD,iJ⟩:=ah j _ (a8 (by omega));obtain⟨fR,n4,rfl,-⟩:=iJ;have gR:(E3 (j:Int) s.ms).length=(s.ms[j]'(by omega)).length:=by unfold E3;rw[Int.toNat_natCast,a8 (by omega),Option.getD_some]
 rw[gR]at aw;generalize (s.ms[j]'(by omega)).length=m at*;have gu:(j:Int)<dN:=by omega
 have au:∃q:Int,n% 16=q∧0≤q∧q<16:=⟨_,rfl,by omega,by omega⟩;obtain⟨q,au,Le,jJ⟩:=au;rw[au]at Yg aw;have bI:=hid kD;by_cases U:(m:Int)≤q
 ·rw[if_pos (.inr U)]at aw;have aI:=hid aw;clear aw aB ah af gR au;have iJ:(((w.alloc (.cells #[.slice (some ⟨b,off,none⟩) dN ce,.slice cU dh cW,.slice dS b1 ci,.slice gJ cS b_,.slice eH ew hg,.bool s.hm] 202)).alloc (.cells #[(),()] 57))).cell? ⟨b,off+j*2+1,none⟩=some (.slice fR m n4):=(((aQ w).alloc _).alloc _).ad J kD;go_enter func183,ntmps183
  go_wp2_with fail
  exact bodyPost_ret (v:= .tuple #[.agg #[(),()],.int .i64 6]) (by simp[results,results183,go_sem]) rfl (jf _ _ _ _ aI.out (((aQ w).alloc _).alloc _))
 ·rw[if_neg (fun h=>h.elim I U)]at aw;have aI:=hid aw;clear aw aB ah af gR au;go_enter func183,ntmps183
  go_wp2_with fail
  exact bodyPost_ret (v:= .tuple #[.agg #[.int .i64 6,j],()]) (by simp[results,results183,go_sem]) rfl (jf _ _ _ _ aI.out (((aQ w).alloc _).alloc _))
theorem Q6 (n:Int) (bT:Value) (l:List cO) (b2:Value) (s:jl) (w:World) (bL:kb w bT l) (bj:nO w b2 s) (aA:n≤9223372036854775807):Calls prog 184 #[n,bT,b2] w (oJ (o8 s.ms n l) w):=by
 obtain⟨cY,ce,cU,cW,dS,ci,gJ,b_,eH,hg,rfl,aX,-⟩:=bj.form;obtain⟨R,aw⟩:∃R,R=o8 s.ms n l:=⟨_,rfl⟩;unfold oJ;rw[←aw];unfold o8 at aw;obtain⟨A,c,rfl,af⟩:=bL.at_;obtain⟨m,hm⟩:∃m,l.length=m:=⟨_,rfl⟩;rw[hm]at af aw⊢;have jf:∀(k e c:Int) (X:World),R=(⟨k,e⟩,c)→Kept w X→Ending.returned (.tuple #[.agg #[k,e],c])= .returned (.tuple #[.agg #[R.1.k,R.1.e],R.2])∧Kept w X:=fun k e c X h aa=>⟨by rw[h],aa⟩;by_cases aj:n<0∨(m:Int)≤n
 ·rw[if_pos aj]at aw;have aI:=hid aw;clear aw af aX bj bL;rcases aj with aj|aj
  ·go_enter func184,ntmps184
   go_wp2_with fail
   exact bodyPost_ret (v:= .tuple #[.agg #[(),()],.int .i64 6]) (by simp[results,results184,go_sem]) rfl (jf _ _ _ _ aI.out (((aQ w).alloc _).alloc _))
  ·have I:¬n<0:=by omega
   go_enter func184,ntmps184
   go_wp2_with fail
   exact bodyPost_ret (v:= .tuple #[.agg #[(),()],.int .i64 6]) (by simp[results,results184,go_sem]) rfl (jf _ _ _ _ aI.out (((aQ w).alloc _).alloc _))
 rw[if_neg aj]at aw;obtain⟨j,rfl⟩:∃j:Nat,n=j:=⟨n.toNat,by omega⟩;have Xx:j<m:=by omega
 have gu:(j:Int)<m:=by omega
 obtain⟨b,off,rfl,J,ah⟩:=af (by omega);have ai:l[j]?=some l[j]:=a8 (by omega);obtain⟨bZ,b3⟩:=ah j _ ai;rw[Int.toNat_natCast,ai,Option.getD_some]at aw;generalize l[j]=T at*;obtain⟨k,e⟩:=T;dsimp only at bZ b3 aw;have eU:=hid (fun w1 (h:Kept w w1)=>IM k e _ s.ms w1 (aX.kept h));generalize kn k e s.ms=q at*;generalize s.ms.length=dN at*;generalize s.tb.length=dh at*;generalize s.ins.length=b1 at*;generalize s.ds.length=cS at*;generalize s.md.length=ew at*;have aI:=hid aw;have bn:=hid (And.intro bZ b3);clear aw bj aX bL af ah ai aj hm bZ b3;go_enter func184,ntmps184
 go_upto_region 3 with fail
 generalize ar:(w.alloc _).alloc _=W at*;obtain⟨aW,aS,aT⟩:=Kept.a6 ar;clear ar;have z0:=al.cell aS.lt (aS.cell 0);have fO:=bd J aW.size;have e6:=al.cell fO (aW.ad J bn.out.1);have z2:=al.cell fO (aW.ad J bn.out.2);refine fQ (by kernel_rfl) (by kernel_rfl) ?_
 repeat (go_big_quiet_step (first|(go_at_call 80;with_reducible exact al.call (eU.out _ (aW.trans (al.h _))))))
 refine wpQuiet_nil ?_;rintro _ ⟨⟨bt,af⟩,rfl⟩;clear z0 e6 z2;have cm:=aT.kept af;obtain⟨Gy,Kb,Ow⟩:=cm.q;have bB:=aW.trans af
 cases q
 ·go_wp2_with fail
  obtain⟨cC,al⟩:=hi 0 0 cm bB (by omega);have cq:=cC.cell;exact bodyPost_ret (v:= .tuple #[.agg #[(),()],.int .i64 8]) (by simp[results,results184,go_sem,cq]) rfl (jf _ _ _ _ aI.out al)
 ·have e3:=bB.ad J bn.out.1;have ee:=bB.ad J bn.out.2;go_wp2_with fail
  obtain⟨cC,al⟩:=hi k e cm bB (by omega);have cq:=cC.cell;exact bodyPost_ret (v:= .tuple #[.agg #[k,e],()]) (by simp[results,results184,go_sem,cq]) rfl (jf _ _ _ _ aI.out al)
def Rb (o k:Int):Bool:=if o=36 then k==2||k==3 else if o=39 then lU k||k==5 else k==1
def CE (s:jl) (o n:Int):cO×Int:=
 if s.hm=false then (t0,6)else if o=35 then (⟨2,0⟩,0)
 else if (o8 s.ms n s.md).2≠0 then (t0,(o8 s.ms n s.md).2)
 else if Rb o (o8 s.ms n s.md).1.k=true then ((o8 s.ms n s.md).1,0)else (t0,8)
theorem agT (o n:Int) (b2:Value) (s:jl) (w:World) (bj:nO w b2 s) (aL:o=35∨o=36∨o=37∨o=38∨o=39) (aA:n≤9223372036854775807):Calls prog 186 #[.agg #[o,n],b2] w (oJ (CE s o n) w):=by
 have tW:=bj;obtain⟨cY,ce,cU,cW,dS,ci,gJ,b_,eH,hg,rfl,-,-,-,-,br⟩:=bj.form;have e7:=hid (fun w1 (h:Kept w w1)=>Q6 n _ s.md _ s w1 (br.kept h) (tW.kept h) aA);unfold oJ at e7⊢;obtain⟨R,aw⟩:∃R,R=CE s o n:=⟨_,rfl⟩;rw[←aw];unfold CE at aw;have jf:∀(k e c:Int) (X:World),R=(⟨k,e⟩,c)→Kept w X→Ending.returned (.tuple #[.agg #[.int .i64 k,.int .i64 e],.int .i64 c])= .returned (.tuple #[.agg #[R.1.k,R.1.e],R.2])∧Kept w X:=fun k e c X h aa=>⟨by rw[h],aa⟩;obtain⟨k,e,c,XA⟩:∃k e c,o8 s.ms n s.md=(⟨k,e⟩,c):=⟨_,_,_,rfl⟩;rw[XA]at aw e7;have aF:=hid ((((aQ w).alloc (.cells #[o,n] 69)).alloc (.cells #[.slice cY s.ms.length ce,.slice cU s.tb.length cW,.slice dS s.ins.length ci,.slice gJ s.ds.length b_,.slice eH s.md.length hg,.bool s.hm] 202)).alloc (.cells #[(),()] 57));generalize s.ms.length=dN at*;generalize s.tb.length=dh at*;generalize s.ins.length=b1 at*;generalize s.ds.length=cS at*;generalize s.md.length=ew at*;generalize s.hm=hm at*;clear bj tW br XA
 cases hm
 ·rw[if_pos rfl]at aw;have aI:=hid aw;clear aw aL;go_enter func186,ntmps186
  go_wp2_with fail
  exact bodyPost_ret (v:= .tuple #[.agg #[(),()],.int .i64 6]) (by simp[results,results186,go_sem]) rfl (jf _ _ _ _ aI.out ((((aQ w).alloc _).alloc _).alloc _))
 rw[if_neg (by decide)]at aw;by_cases zT:o=35
 ·subst zT;rw[if_pos rfl]at aw;have aI:=hid aw;clear aw aL;go_enter func186,ntmps186
  go_wp2_with fail
  exact bodyPost_ret (v:= .tuple #[.agg #[.int .i64 2,()],()]) (by simp[results,results186,go_sem]) rfl (jf _ _ _ _ aI.out ((((aQ w).alloc _).alloc _).alloc _))
 rw[if_neg zT]at aw;have o35:(o==35)=false:=by simpa using zT
 by_cases ah:c=0
 case neg=>
  rw[if_pos ah]at aw;have hh:(c==0)=false:=by simpa using ah
  have aI:=hid aw;clear aw;go_enter func186,ntmps186
  go_upto_region 5 with fail
  generalize ar:((w.alloc _).alloc _).alloc _=W at*;obtain⟨aW,aS,aT,bU⟩:=Kept.b7 ar;clear ar;obtain⟨aC,a7⟩:=aS.p;obtain⟨aM,bx⟩:=aT.p;go_wp2_with (go_at_call 184;refine (e7.out _ aW).mono ?_;rintro e w1 ⟨rfl,ak⟩;have bB:=aW.trans ak;have dx:=(bU.kept ak).alloc (.cells #[.int .i64 k,.int .i64 e] 57);have d3:=dx.cell;have f3:=dx.frozen;have dz:=dx.lt)
  obtain⟨cC,al⟩:=hi 0 0 dx (bB.alloc _) (by omega);have cq:=cC.cell;exact bodyPost_ret (v:= .tuple #[.agg #[(),()],.int .i64 c]) (by simp[results,results186,go_sem,cq]) rfl (jf _ _ _ _ aI.out al)
 subst ah;rw[if_neg (by simp)]at aw;have aI:=hid aw;have bk:=hid (fun w1=>GO k w1);clear aw;go_enter func186,ntmps186
 go_upto_region 5 with fail
 generalize ar:((w.alloc _).alloc _).alloc _=W at*;obtain⟨aW,aS,aT,bU⟩:=Kept.b7 ar;clear ar;obtain⟨aC,a7⟩:=aS.p;obtain⟨aM,bx⟩:=aT.p;go_upto_region 8 with (go_at_call 184;refine (e7.out _ aW).mono ?_;rintro e w1 ⟨rfl,ak⟩;have bB:=aW.trans ak;have fc:=(aS.kept ak).alloc (.cells #[.int .i64 k,.int .i64 e] 57);have dx:=(bU.kept ak).alloc (.cells #[.int .i64 k,.int .i64 e] 57);have qb:=ao.new w1 57 #[.int .i64 k,.int .i64 e])
 have bR:=bB.alloc (.cells #[.int .i64 k,.int .i64 e] 57);generalize w1.alloc (.cells #[.int .i64 k,.int .i64 e] 57)=e8 at*;obtain⟨d1,m1⟩:=fc.p;obtain⟨d3,dz,f3⟩:=dx.q;obtain⟨d4,h5⟩:=qb.p;obtain⟨SG,KW0⟩:=hi 0 0 dx bR (by omega);obtain⟨SH,sv⟩:=hi k e dx bR (by omega);have J5:=SG.cell;have J6:=SH.cell;have cg:=hid (And.intro J5 J6);clear aC a7 aM bx aS aT bU fc dx qb SG SH bB bR aW ak J5 J6 e7 aF;rcases aL with rfl|rfl|rfl|rfl|rfl
 ·exact absurd rfl zT
 all_goals
  clear zT o35
  cases I:(k==1)<;>cases U:(k==2)<;>cases ae:(k==3)<;>cases bp:(k==5)<;>cases au:lU k
  all_goals
   first
   |(exfalso;unfold lU at au;simp at I U ae bp au;omega)
   |(rw[au]at bk
     go_wp2_with (go_at_call 205;refine (bk.out _).mono ?_;rintro e w1 ⟨rfl,rfl⟩)
     obtain⟨J5,J6⟩:=cg.out
     first
     |exact bodyPost_ret (v:= .tuple #[.agg #[(),()],.int .i64 8]) (by simp[results,results186,go_sem,J5]) rfl (jf _ _ _ _ (by rw[aI.out,if_neg (by simp[Rb,I,U,ae,bp,au])];rfl) KW0)
     |exact bodyPost_ret (v:= .tuple #[.agg #[.int .i64 k,.int .i64 e],()]) (by simp[results,results186,go_sem,J6]) rfl (jf _ _ _ _ (by rw[aI.out,if_pos (by simp[Rb,I,U,ae,bp,au])]) sv))
def q0 (a b:cO):Bool:=a.k==b.k&&a.e==b.e
def iK (op:Int) (a b c:cO):cO×Bool:=
 if op=10 then (a,lU a.k)
 else if op=25 then (⟨1,0⟩,a.k==1)
 else if op=11∨op=12 then (a,q0 a b&&lU a.k)
 else if op=13∨op=14∨op=15 then E' op a.k b.k
 else if op=16 then (a,a.k==3&&b.k==3)
 else if op=17∨op=18 then (a,q0 a b&&(lU a.k||a.k==5))
 else if op=19∨op=20 then (⟨1,0⟩,q0 a b)
 else if op=21∨op=22 then (⟨1,0⟩,q0 a b&&(lU a.k||a.k==5))
 else if op=23∨op=24 then (⟨1,0⟩,a.k==1&&b.k==1)
 else if op=26 then (b,a.k==1&&q0 b c)
 else if op=27∨op=28 then (a,a.k==5&&b.k==2)
 else if op=29∨op=30 then (⟨2,0⟩,a.k==5&&b.k==5)
 else if op=31∨op=32 then (⟨2,0⟩,a.k==5)
 else (t0,false)
def ru (w:World) (b off m:Nat) (x y z:cO):Prop:=b<w.heap.size∧(1≤m→w.cell? ⟨b,off,none⟩=some (.int .i64 x.k)∧w.cell? ⟨b,off+1,none⟩=some (.int .i64 x.e))∧
 (2≤m→w.cell? ⟨b,off+2,none⟩=some (.int .i64 y.k)∧w.cell? ⟨b,off+2+1,none⟩=some (.int .i64 y.e))∧(3≤m→w.cell? ⟨b,off+4,none⟩=some (.int .i64 z.k)∧w.cell? ⟨b,off+4+1,none⟩=some (.int .i64 z.e))
theorem aif (op:Int) (aL:op=10) (b off cap:Nat) (x y z:cO) (w:World) (hC:ru w b off 1 x y z):Calls prog 188 #[op,.slice (some ⟨b,off,none⟩) 1 cap] w (jc (iK op x y z) w):=by
 unfold jc;have aw:iK op x y z=(x,lU x.k):=by rcases aL with rfl<;>rfl
 rw[aw];clear aw;obtain⟨J,aC,aM,a1⟩:=hC;obtain⟨kr,kq⟩:=aC (by decide);clear aC aM a1;obtain⟨e5,fK⟩:=x;dsimp only at*;have bk:=hid (fun k w1=>GO k w1);obtain rfl:=aL;go_enter func188,ntmps188
 go_upto_region 4 with fail
 generalize ar:(w.alloc _).alloc _=W at*;obtain⟨aW,aS,aT⟩:=Kept.a6 ar;clear ar;have fO:=bd J aW.size;have lB:=aW.ad J kr;have lA:=aW.ad J kq;have bQ:b≠w.heap.size:=by omega
 have aV:=hid (fun (k e:Int)=>hi k e aS aW (Nat.le_refl _));obtain⟨aC,a7,f1⟩:=aS.q;obtain⟨aM,bx⟩:=aT.p;replace lB:=al.cell fO lB;replace lA:=al.cell fO lA;replace aC:=al.cell aT.lt (aT.cell 0);replace aM:=al.cell aT.lt (aT.cell 1);refine v8 8 (by kernel_rfl) (by kernel_rfl) ?_;simp only[List.take_succ_cons,List.take_zero,List.drop_succ_cons,List.drop_zero]
 repeat (go_big_quiet_step ((go_at_call 205;with_reducible exact al.pure (bk.out _ _))))
 refine wpQuiet_nil ?_;rintro w2 ⟨⟨bt,cj⟩,bb⟩;obtain rfl:w2=bt:=bb;clear lB lA aC aM f1;have cr:=aS.kept cj;obtain⟨d1,dl,bK⟩:=cr.q;have bB:=aW.trans cj;go_wp2_with fail
 obtain⟨cC,al⟩:=hi e5 fK cr bB (by omega);have cq:=cC.cell;exact bodyPost_ret (v:= .tuple #[.agg #[e5,fK],.bool (lU e5)]) (by simp[results,results188,go_sem,cq]) rfl ⟨rfl,al⟩
theorem aio (op:Int) (aL:op=25) (b off cap:Nat) (x y z:cO) (w:World) (hC:ru w b off 1 x y z):Calls prog 188 #[op,.slice (some ⟨b,off,none⟩) 1 cap] w (jc (iK op x y z) w):=by
 unfold jc;have aw:iK op x y z=(⟨1,0⟩,x.k==1):=by rcases aL with rfl<;>rfl
 rw[aw];clear aw;obtain⟨J,aC,aM,a1⟩:=hC;obtain⟨kr,kq⟩:=aC (by decide);clear aC aM a1;obtain⟨e5,fK⟩:=x;dsimp only at*;obtain rfl:=aL;go_enter func188,ntmps188
 go_upto_region 6 with fail
 generalize ar:(w.alloc _).alloc _=W at*;obtain⟨aW,aS,aT⟩:=Kept.a6 ar;clear ar;have fO:=bd J aW.size;have lB:=aW.ad J kr;have lA:=aW.ad J kq;have bQ:b≠w.heap.size:=by omega
 have aV:=hid (fun (k e:Int)=>hi k e aS aW (Nat.le_refl _));obtain⟨aC,a7,f1⟩:=aS.q;obtain⟨aM,bx⟩:=aT.p;go_region
 all_goals
  go_wp2_with fail
  obtain⟨cC,al⟩:=aV.out 1 0;have cq:=cC.drew.cell;exact bodyPost_ret (v:= .tuple #[.agg #[.int .i64 1,()],.bool (e5==1)]) (by simp[results,results188,go_sem,cq]) rfl ⟨rfl,al.drew⟩
theorem aih (op:Int) (aL:op=11∨op=12) (b off cap:Nat) (x y z:cO) (w:World) (hC:ru w b off 2 x y z):Calls prog 188 #[op,.slice (some ⟨b,off,none⟩) 2 cap] w (jc (iK op x y z) w):=by
 unfold jc;have aw:iK op x y z=(x,q0 x y&&lU x.k):=by rcases aL with rfl|rfl<;>rfl
 rw[aw];clear aw;obtain⟨J,aC,aM,a1⟩:=hC;obtain⟨kr,kq⟩:=aC (by decide);obtain⟨mR,mQ⟩:=aM (by decide);clear aC aM a1;obtain⟨e5,fK⟩:=x;obtain⟨f_,hA⟩:=y;dsimp only at*;have bk:=hid (fun k w1=>GO k w1);unfold q0;dsimp only;rcases aL with rfl|rfl
 all_goals
  go_enter func188,ntmps188
  go_upto_region 9 with fail
  generalize ar:(w.alloc _).alloc _=W at*;obtain⟨aW,aS,aT⟩:=Kept.a6 ar;clear ar;have fO:=bd J aW.size;have lB:=aW.ad J kr;have lA:=aW.ad J kq;have oM:=aW.ad J mR;have oL:=aW.ad J mQ;have bQ:b≠w.heap.size:=by omega
  have aV:=hid (fun (k e:Int)=>hi k e aS aW (Nat.le_refl _));obtain⟨aC,a7,f1⟩:=aS.q;obtain⟨aM,bx⟩:=aT.p;by_cases I:f_=e5
  case neg=>
   have aA:(e5==f_)=false:=by simpa using (Ne.symm I)
   go_region
   all_goals
    go_wp2_with fail
    obtain⟨cC,al⟩:=aV.out e5 fK;have cq:=cC.drew.cell;exact bodyPost_ret (v:= .tuple #[.agg #[e5,fK],.bool false]) (by simp[results,results188,go_sem,cq]) rfl ⟨(by simp[aA]),al.drew⟩
  subst I;by_cases U:hA=fK
  case neg=>
   have aA:(fK==hA)=false:=by simpa using (Ne.symm U)
   go_region
   all_goals
    go_wp2_with fail
    obtain⟨cC,al⟩:=aV.out f_ fK;have cq:=cC.drew.cell;exact bodyPost_ret (v:= .tuple #[.agg #[f_,fK],.bool false]) (by simp[results,results188,go_sem,cq]) rfl ⟨(by simp[aA]),al.drew⟩
  subst U;have ej:=hid (show∀X:World,Kept w X→Kept w X∧X.cell? ⟨b,off,none⟩=some (.int .i64 f_)∧X.cell? ⟨b,off+1,none⟩=some (.int .i64 hA)∧X.cell? ⟨b,off+2,none⟩=some (.int .i64 f_)∧X.cell? ⟨b,off+2+1,none⟩=some (.int .i64 hA)from fun X h=>⟨h,h.ad J kr,h.ad J kq,h.ad J mR,h.ad J mQ⟩);go_region_held3 (fun X=>Kept w X∧X.cell? ⟨b,off,none⟩=some (.int .i64 f_)∧X.cell? ⟨b,off+1,none⟩=some (.int .i64 hA)∧X.cell? ⟨b,off+2,none⟩=some (.int .i64 f_)∧X.cell? ⟨b,off+2+1,none⟩=some (.int .i64 hA))
   ((refine ej.out _ ?_;(with_reducible repeat (first|assumption|refine .drew ?_|refine .setCell ?_ (Nat.le_refl _) _))))
   ((go_at_call 205;refine (bk.out _ _).mono ?_;rintro e w1 ⟨rfl,rfl⟩))
  all_goals
   go_wp2_with fail
   obtain⟨cC,al⟩:=aV.out f_ hA;have cq:=cC.drew.cell;exact bodyPost_ret (v:= .tuple #[.agg #[f_,hA],.bool (lU f_)]) (by simp[results,results188,go_sem,cq]) rfl ⟨(by simp),al.drew⟩
theorem aii (op:Int) (aL:op=13∨op=14∨op=15) (b off cap:Nat) (x y z:cO) (w:World) (hC:ru w b off 2 x y z):Calls prog 188 #[op,.slice (some ⟨b,off,none⟩) 2 cap] w (jc (iK op x y z) w):=by
 unfold jc;have aw:iK op x y z=E' op x.k y.k:=by rcases aL with rfl|rfl|rfl<;>rfl
 rw[aw];clear aw;obtain⟨J,aC,aM,a1⟩:=hC;obtain⟨kr,kq⟩:=aC (by decide);obtain⟨mR,mQ⟩:=aM (by decide);clear aC aM a1;obtain⟨e5,fK⟩:=x;obtain⟨f_,hA⟩:=y;dsimp only at*;have cV:=hid (fun w1=>ahT op e5 f_ w1);unfold jc at cV;generalize E' op e5 f_=q at*;obtain⟨⟨qX,qW⟩,ux⟩:=q;dsimp only at*;rcases aL with rfl|rfl|rfl
 all_goals
  go_enter func188,ntmps188
  go_upto_region 13 with fail
  generalize ar:(w.alloc _).alloc _=W at*;obtain⟨aW,aS,aT⟩:=Kept.a6 ar;clear ar;have fO:=bd J aW.size;have lB:=aW.ad J kr;have lA:=aW.ad J kq;have oM:=aW.ad J mR;have oL:=aW.ad J mQ;have bQ:b≠w.heap.size:=by omega
  have aV:=hid (fun (k e:Int)=>hi k e aS aW (Nat.le_refl _));obtain⟨aC,a7,f1⟩:=aS.q;obtain⟨aM,bx⟩:=aT.p;replace lB:=al.cell fO lB;replace lA:=al.cell fO lA;replace oM:=al.cell fO oM;replace oL:=al.cell fO oL;replace aC:=al.cell aT.lt (aT.cell 0);replace aM:=al.cell aT.lt (aT.cell 1);refine v8 12 (by kernel_rfl) (by kernel_rfl) ?_;simp only[List.take_succ_cons,List.take_zero,List.drop_succ_cons,List.drop_zero]
  repeat (go_big_quiet_step ((go_at_call 206;with_reducible exact al.call (cV.out _))))
  refine wpQuiet_nil ?_;rintro w2 ⟨⟨bt,cj⟩,bb⟩;obtain rfl:w2=bt:=bb;clear lB lA oM oL aC aM f1;have cr:=aS.kept cj;obtain⟨d1,dl,bK⟩:=cr.q;have bB:=aW.trans cj;go_wp2_with fail
  obtain⟨cC,al⟩:=hi qX qW cr bB (by omega);have cq:=cC.cell;exact bodyPost_ret (v:= .tuple #[.agg #[qX,qW],.bool ux]) (by simp[results,results188,go_sem,cq]) rfl ⟨rfl,al⟩
theorem aij (op:Int) (aL:op=16) (b off cap:Nat) (x y z:cO) (w:World) (hC:ru w b off 2 x y z):Calls prog 188 #[op,.slice (some ⟨b,off,none⟩) 2 cap] w (jc (iK op x y z) w):=by
 unfold jc;have aw:iK op x y z=(x,x.k==3&&y.k==3):=by rcases aL with rfl<;>rfl
 rw[aw];clear aw;obtain⟨J,aC,aM,a1⟩:=hC;obtain⟨kr,kq⟩:=aC (by decide);obtain⟨mR,mQ⟩:=aM (by decide);clear aC aM a1;obtain⟨e5,fK⟩:=x;obtain⟨f_,hA⟩:=y;dsimp only at*;obtain rfl:=aL;go_enter func188,ntmps188
 go_upto_region 15 with fail
 generalize ar:(w.alloc _).alloc _=W at*;obtain⟨aW,aS,aT⟩:=Kept.a6 ar;clear ar;have fO:=bd J aW.size;have lB:=aW.ad J kr;have lA:=aW.ad J kq;have oM:=aW.ad J mR;have oL:=aW.ad J mQ;have bQ:b≠w.heap.size:=by omega
 have aV:=hid (fun (k e:Int)=>hi k e aS aW (Nat.le_refl _));obtain⟨aC,a7,f1⟩:=aS.q;obtain⟨aM,bx⟩:=aT.p;by_cases I:e5=3
 case neg=>
  have aA:(e5==3)=false:=by simpa using I
  go_region
  all_goals
   go_wp2_with fail
   obtain⟨cC,al⟩:=aV.out e5 fK;have cq:=cC.drew.cell;exact bodyPost_ret (v:= .tuple #[.agg #[e5,fK],.bool false]) (by simp[results,results188,go_sem,cq]) rfl ⟨(by simp[aA]),al.drew⟩
 subst I;go_region
 all_goals
  go_wp2_with fail
  obtain⟨cC,al⟩:=aV.out 3 fK;have cq:=cC.drew.cell;exact bodyPost_ret (v:= .tuple #[.agg #[.int .i64 3,fK],.bool (f_==3)]) (by simp[results,results188,go_sem,cq]) rfl ⟨(by simp),al.drew⟩
theorem ail (op:Int) (aL:op=19∨op=20) (b off cap:Nat) (x y z:cO) (w:World) (hC:ru w b off 2 x y z):Calls prog 188 #[op,.slice (some ⟨b,off,none⟩) 2 cap] w (jc (iK op x y z) w):=by
 unfold jc;have aw:iK op x y z=(⟨1,0⟩,q0 x y):=by rcases aL with rfl|rfl<;>rfl
 rw[aw];clear aw;obtain⟨J,aC,aM,a1⟩:=hC;obtain⟨kr,kq⟩:=aC (by decide);obtain⟨mR,mQ⟩:=aM (by decide);clear aC aM a1;obtain⟨e5,fK⟩:=x;obtain⟨f_,hA⟩:=y;dsimp only at*;unfold q0;dsimp only;rcases aL with rfl|rfl
 all_goals
  go_enter func188,ntmps188
  go_upto_region 21 with fail
  generalize ar:(w.alloc _).alloc _=W at*;obtain⟨aW,aS,aT⟩:=Kept.a6 ar;clear ar;have fO:=bd J aW.size;have lB:=aW.ad J kr;have lA:=aW.ad J kq;have oM:=aW.ad J mR;have oL:=aW.ad J mQ;have bQ:b≠w.heap.size:=by omega
  have aV:=hid (fun (k e:Int)=>hi k e aS aW (Nat.le_refl _));obtain⟨aC,a7,f1⟩:=aS.q;obtain⟨aM,bx⟩:=aT.p;by_cases I:f_=e5
  case neg=>
   have aA:(e5==f_)=false:=by simpa using (Ne.symm I)
   go_region
   all_goals
    go_wp2_with fail
    obtain⟨cC,al⟩:=aV.out 1 0;have cq:=cC.drew.cell;exact bodyPost_ret (v:= .tuple #[.agg #[.int .i64 1,()],.bool false]) (by simp[results,results188,go_sem,cq]) rfl ⟨(by simp[aA]),al.drew⟩
  subst I;by_cases U:hA=fK
  case neg=>
   have aA:(fK==hA)=false:=by simpa using (Ne.symm U)
   go_region
   all_goals
    go_wp2_with fail
    obtain⟨cC,al⟩:=aV.out 1 0;have cq:=cC.drew.cell;exact bodyPost_ret (v:= .tuple #[.agg #[.int .i64 1,()],.bool false]) (by simp[results,results188,go_sem,cq]) rfl ⟨(by simp[aA]),al.drew⟩
  subst U;go_region
  all_goals
   go_wp2_with fail
   obtain⟨cC,al⟩:=aV.out 1 0;have cq:=cC.drew.cell;exact bodyPost_ret (v:= .tuple #[.agg #[.int .i64 1,()],.bool true]) (by simp[results,results188,go_sem,cq]) rfl ⟨(by simp),al.drew⟩
theorem ain (op:Int) (aL:op=23∨op=24) (b off cap:Nat) (x y z:cO) (w:World) (hC:ru w b off 2 x y z):Calls prog 188 #[op,.slice (some ⟨b,off,none⟩) 2 cap] w (jc (iK op x y z) w):=by
 unfold jc;have aw:iK op x y z=(⟨1,0⟩,x.k==1&&y.k==1):=by rcases aL with rfl|rfl<;>rfl
 rw[aw];clear aw;obtain⟨J,aC,aM,a1⟩:=hC;obtain⟨kr,kq⟩:=aC (by decide);obtain⟨mR,mQ⟩:=aM (by decide);clear aC aM a1;obtain⟨e5,fK⟩:=x;obtain⟨f_,hA⟩:=y;dsimp only at*;rcases aL with rfl|rfl
 all_goals
  go_enter func188,ntmps188
  go_upto_region 27 with fail
  generalize ar:(w.alloc _).alloc _=W at*;obtain⟨aW,aS,aT⟩:=Kept.a6 ar;clear ar;have fO:=bd J aW.size;have lB:=aW.ad J kr;have lA:=aW.ad J kq;have oM:=aW.ad J mR;have oL:=aW.ad J mQ;have bQ:b≠w.heap.size:=by omega
  have aV:=hid (fun (k e:Int)=>hi k e aS aW (Nat.le_refl _));obtain⟨aC,a7,f1⟩:=aS.q;obtain⟨aM,bx⟩:=aT.p;by_cases I:e5=1
  case neg=>
   have aA:(e5==1)=false:=by simpa using I
   go_region
   all_goals
    go_wp2_with fail
    obtain⟨cC,al⟩:=aV.out 1 0;have cq:=cC.drew.cell;exact bodyPost_ret (v:= .tuple #[.agg #[.int .i64 1,()],.bool false]) (by simp[results,results188,go_sem,cq]) rfl ⟨(by simp[aA]),al.drew⟩
  subst I;go_region
  all_goals
   go_wp2_with fail
   obtain⟨cC,al⟩:=aV.out 1 0;have cq:=cC.drew.cell;exact bodyPost_ret (v:= .tuple #[.agg #[.int .i64 1,()],.bool (f_==1)]) (by simp[results,results188,go_sem,cq]) rfl ⟨(by simp),al.drew⟩
theorem aip (op:Int) (aL:op=26) (b off cap:Nat) (x y z:cO) (w:World) (hC:ru w b off 3 x y z):Calls prog 188 #[op,.slice (some ⟨b,off,none⟩) 3 cap] w (jc (iK op x y z) w):=by
 unfold jc;have aw:iK op x y z=(y,x.k==1&&q0 y z):=by rcases aL with rfl<;>rfl
 rw[aw];clear aw;obtain⟨J,aC,aM,a1⟩:=hC;obtain⟨kr,kq⟩:=aC (by decide);obtain⟨mR,mQ⟩:=aM (by decide);obtain⟨x2k,x2e⟩:=a1 (by decide);clear aC aM a1;obtain⟨e5,fK⟩:=x;obtain⟨f_,hA⟩:=y;obtain⟨AS,CV⟩:=z;dsimp only at*;unfold q0;dsimp only;obtain rfl:=aL;go_enter func188,ntmps188
 go_upto_region 29 with fail
 generalize ar:(w.alloc _).alloc _=W at*;obtain⟨aW,aS,aT⟩:=Kept.a6 ar;clear ar;have fO:=bd J aW.size;have lB:=aW.ad J kr;have lA:=aW.ad J kq;have oM:=aW.ad J mR;have oL:=aW.ad J mQ;have z2k:=aW.ad J x2k;have z2e:=aW.ad J x2e;have bQ:b≠w.heap.size:=by omega
 have aV:=hid (fun (k e:Int)=>hi k e aS aW (Nat.le_refl _));obtain⟨aC,a7,f1⟩:=aS.q;obtain⟨aM,bx⟩:=aT.p;by_cases aj:e5=1
 case neg=>
  have aA:(e5==1)=false:=by simpa using aj
  go_region
  all_goals
   go_wp2_with fail
   obtain⟨cC,al⟩:=aV.out f_ hA;have cq:=cC.drew.cell;exact bodyPost_ret (v:= .tuple #[.agg #[f_,hA],.bool false]) (by simp[results,results188,go_sem,cq]) rfl ⟨(by simp[aA]),al.drew⟩
 subst aj;by_cases I:AS=f_
 case neg=>
  have aA:(f_==AS)=false:=by simpa using (Ne.symm I)
  go_region
  all_goals
   go_wp2_with fail
   obtain⟨cC,al⟩:=aV.out f_ hA;have cq:=cC.drew.cell;exact bodyPost_ret (v:= .tuple #[.agg #[f_,hA],.bool false]) (by simp[results,results188,go_sem,cq]) rfl ⟨(by simp[aA]),al.drew⟩
 subst I;by_cases U:CV=hA
 case neg=>
  have aA:(hA==CV)=false:=by simpa using (Ne.symm U)
  go_region
  all_goals
   go_wp2_with fail
   obtain⟨cC,al⟩:=aV.out AS hA;have cq:=cC.drew.cell;exact bodyPost_ret (v:= .tuple #[.agg #[AS,hA],.bool false]) (by simp[results,results188,go_sem,cq]) rfl ⟨(by simp[aA]),al.drew⟩
 subst U;go_region
 all_goals
  go_wp2_with fail
  obtain⟨cC,al⟩:=aV.out AS CV;have cq:=cC.drew.cell;exact bodyPost_ret (v:= .tuple #[.agg #[AS,CV],.bool true]) (by simp[results,results188,go_sem,cq]) rfl ⟨(by simp),al.drew⟩
theorem aiq (op:Int) (aL:op=27∨op=28) (b off cap:Nat) (x y z:cO) (w:World) (hC:ru w b off 2 x y z):Calls prog 188 #[op,.slice (some ⟨b,off,none⟩) 2 cap] w (jc (iK op x y z) w):=by
 unfold jc;have aw:iK op x y z=(x,x.k==5&&y.k==2):=by rcases aL with rfl|rfl<;>rfl
 rw[aw];clear aw;obtain⟨J,aC,aM,a1⟩:=hC;obtain⟨kr,kq⟩:=aC (by decide);obtain⟨mR,mQ⟩:=aM (by decide);clear aC aM a1;obtain⟨e5,fK⟩:=x;obtain⟨f_,hA⟩:=y;dsimp only at*;rcases aL with rfl|rfl
 all_goals
  go_enter func188,ntmps188
  go_upto_region 32 with fail
  generalize ar:(w.alloc _).alloc _=W at*;obtain⟨aW,aS,aT⟩:=Kept.a6 ar;clear ar;have fO:=bd J aW.size;have lB:=aW.ad J kr;have lA:=aW.ad J kq;have oM:=aW.ad J mR;have oL:=aW.ad J mQ;have bQ:b≠w.heap.size:=by omega
  have aV:=hid (fun (k e:Int)=>hi k e aS aW (Nat.le_refl _));obtain⟨aC,a7,f1⟩:=aS.q;obtain⟨aM,bx⟩:=aT.p;by_cases I:e5=5
  case neg=>
   have aA:(e5==5)=false:=by simpa using I
   go_region
   all_goals
    go_wp2_with fail
    obtain⟨cC,al⟩:=aV.out e5 fK;have cq:=cC.drew.cell;exact bodyPost_ret (v:= .tuple #[.agg #[e5,fK],.bool false]) (by simp[results,results188,go_sem,cq]) rfl ⟨(by simp[aA]),al.drew⟩
  subst I;go_region
  all_goals
   go_wp2_with fail
   obtain⟨cC,al⟩:=aV.out 5 fK;have cq:=cC.drew.cell;exact bodyPost_ret (v:= .tuple #[.agg #[.int .i64 5,fK],.bool (f_==2)]) (by simp[results,results188,go_sem,cq]) rfl ⟨(by simp),al.drew⟩
theorem air (op:Int) (aL:op=29∨op=30) (b off cap:Nat) (x y z:cO) (w:World) (hC:ru w b off 2 x y z):Calls prog 188 #[op,.slice (some ⟨b,off,none⟩) 2 cap] w (jc (iK op x y z) w):=by
 unfold jc;have aw:iK op x y z=(⟨2,0⟩,x.k==5&&y.k==5):=by rcases aL with rfl|rfl<;>rfl
 rw[aw];clear aw;obtain⟨J,aC,aM,a1⟩:=hC;obtain⟨kr,kq⟩:=aC (by decide);obtain⟨mR,mQ⟩:=aM (by decide);clear aC aM a1;obtain⟨e5,fK⟩:=x;obtain⟨f_,hA⟩:=y;dsimp only at*;rcases aL with rfl|rfl
 all_goals
  go_enter func188,ntmps188
  go_upto_region 35 with fail
  generalize ar:(w.alloc _).alloc _=W at*;obtain⟨aW,aS,aT⟩:=Kept.a6 ar;clear ar;have fO:=bd J aW.size;have lB:=aW.ad J kr;have lA:=aW.ad J kq;have oM:=aW.ad J mR;have oL:=aW.ad J mQ;have bQ:b≠w.heap.size:=by omega
  have aV:=hid (fun (k e:Int)=>hi k e aS aW (Nat.le_refl _));obtain⟨aC,a7,f1⟩:=aS.q;obtain⟨aM,bx⟩:=aT.p;by_cases I:e5=5
  case neg=>
   have aA:(e5==5)=false:=by simpa using I
   go_region
   all_goals
    go_wp2_with fail
    obtain⟨cC,al⟩:=aV.out 2 0;have cq:=cC.drew.cell;exact bodyPost_ret (v:= .tuple #[.agg #[.int .i64 2,()],.bool false]) (by simp[results,results188,go_sem,cq]) rfl ⟨(by simp[aA]),al.drew⟩
  subst I;go_region
  all_goals
   go_wp2_with fail
   obtain⟨cC,al⟩:=aV.out 2 0;have cq:=cC.drew.cell;exact bodyPost_ret (v:= .tuple #[.agg #[.int .i64 2,()],.bool (f_==5)]) (by simp[results,results188,go_sem,cq]) rfl ⟨(by simp),al.drew⟩
theorem ais (op:Int) (aL:op=31∨op=32) (b off cap:Nat) (x y z:cO) (w:World) (hC:ru w b off 1 x y z):Calls prog 188 #[op,.slice (some ⟨b,off,none⟩) 1 cap] w (jc (iK op x y z) w):=by
 unfold jc;have aw:iK op x y z=(⟨2,0⟩,x.k==5):=by rcases aL with rfl|rfl<;>rfl
 rw[aw];clear aw;obtain⟨J,aC,aM,a1⟩:=hC;obtain⟨kr,kq⟩:=aC (by decide);clear aC aM a1;obtain⟨e5,fK⟩:=x;dsimp only at*;rcases aL with rfl|rfl
 all_goals
  go_enter func188,ntmps188
  go_upto_region 38 with fail
  generalize ar:(w.alloc _).alloc _=W at*;obtain⟨aW,aS,aT⟩:=Kept.a6 ar;clear ar;have fO:=bd J aW.size;have lB:=aW.ad J kr;have lA:=aW.ad J kq;have bQ:b≠w.heap.size:=by omega
  have aV:=hid (fun (k e:Int)=>hi k e aS aW (Nat.le_refl _));obtain⟨aC,a7,f1⟩:=aS.q;obtain⟨aM,bx⟩:=aT.p;go_region
  all_goals
   go_wp2_with fail
   obtain⟨cC,al⟩:=aV.out 2 0;have cq:=cC.drew.cell;exact bodyPost_ret (v:= .tuple #[.agg #[.int .i64 2,()],.bool (e5==5)]) (by simp[results,results188,go_sem,cq]) rfl ⟨rfl,al.drew⟩
end Go.Proofs.YtobpgndkciofhaaGreatDoor
