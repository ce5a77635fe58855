import Derived.Test.YtilhklpfkgbikaaGreatDoorE
import Derived.Deep.DeepCutAuto
import Derived.Deep.MidRow
set_option linter.all false
namespace Go.Proofs.YtilhklpfkgbikaaGreatDoor
open Go.RowKit Go.Proofs.Tryz
set_option maxRecDepth 100000
set_option maxHeartbeats 8000000
def fV(s:ez)(l:gh):Bool:=l.any λx=>decide (x=s)
def GX{s:ez}{l:gh}:fV s l=true↔s∈l:=by simp[fV]
def NU(X Y:ez):(X.toList==Y.toList)=decide (X=Y):=by
 rw[G_,G_];by_cases h:X=Y
 .subst h;simp
 .rw[jC h];simpa using λe=>h (agA.1 e)
def ly(w:ag)(g o:aa)(s:ez):Prop:=g<w/\aU w (g,o)=some (.string s)
def ly.kept{w w':ag}{g o:aa}{s:ez}(h:ly w g o s)(ai:Kept w w'):ly w' g o s:=⟨bG h.1 ai.size,ai.aI h.1 h.2⟩
def vb(q:Bool)(w:ag)(e:Ending)(w':ag):Prop:=∃r:J,e=bL r/\(decide (0<=r))=q/\Kept w w'
def fo(q:Bool)(w:ag)(e:Ending)(w':ag):Prop:=e=bL (bR q)/\Kept w w'
def NW{α:Type}{f:α->ez}{s:ez}{xs:List α}{i:aa}{x:α}(h:xs[i]?=some x)(ar:fV s ((xs.take i).map f)=false):fV s ((xs.take (i+1)).map f)=decide (f x=s):=by
 obtain⟨aD,rfl⟩:=b2 h;rw[Ho aD,k6];unfold fV at ar⊢;rw[List.any_append,ar];simp
def NV{α:Type}{f:α->ez}{s:ez}{xs:List α}{i:aa}{x:α}(h:xs[i]?=some x)(aj:f x=s):fV s (xs.map f)=true:=by
 rw[GX,o3];exact⟨x,fe h,aj⟩
def ah6(aM:ez)(gn:gu)(py lK:aa)(g o:aa)(s:ez)(w:ag)(cd:ly w g o s):bg 114 #[aF #[aM,ae gn py lK],.pointer (some (g,o))] w (fo (decide (aM=s)) w):=by
 unfold fo;obtain⟨ab,ad⟩:=cd;go_enter func114,ntmps114
 go_wp2_with fail
 go_ret;exact⟨fG (NU _ _),(aG w).alloc _⟩
def ald(v:ak)(xs:List pI)(g o:aa)(s:ez)(w:ag)(bk:c0 2 n2 w v xs)(cd:ly w g o s):bg 140 #[v,.func (.func 114) #[] #[.pointer (some (g,o))]] w (vb (fV s (xs.map (·.aM))) w):=by
 obtain⟨A,cap,rfl,-,av,aj⟩:=bk;obtain⟨n,aH⟩:∃n,n=xs.length:=⟨_,rfl⟩;rw[<-aH]at av aj⊢;have bS:=I aH;have dP:=I cd;clear aH;go_enter func140,ntmps140
 go_wp2_with fail
 go_loopw [8] (λz wr=>∃i:aa,z=ah i/\i<=n/\Kept w wr/\fV s ((xs.take i).map (·.aM))=false) (λz _=>n-(intOf z).toNat)
 case atStart=>exact⟨0,rfl,d' _,aG _,by simp[fV]⟩
 case round=>
  obtain⟨i,rfl,dG,ax,fK⟩:=hrel;by_cases aN:i<n
  .obtain⟨b,off,rfl,af,aq⟩:=aj (by omega);have al:xs[i]?=some (xs[i]'(by have:=bS.out;omega)):=bn _;have az:=aq i _ al;have mU:=NW al fK;have pZ:=λh=>NV (f:=(·.aM)) (s:=s) al h;generalize xs[i]'(by have:=bS.out;omega)=x at*;have b1:=I (bb mU pZ);clear al aq aj fK mU pZ;obtain⟨aM,mem⟩:=x;obtain⟨⟨cK,-⟩,⟨c1,aY,⟨gn,lK,rfl,-⟩⟩⟩:=az;unfold g' at*;dsimp only at*;generalize mem.length=py at*;have mw:=bG af ax.size;replace cK:=ax.aI af cK;replace aY:=ax.aI af aY;have hr:=I (λw1(h:Kept w w1)=>ah6 aM gn py lK g o s w1 (dP.kept h));unfold fo at hr;have db:(i:J)<n:=by omega
   cases aE:decide (aM=s)
   .rw[aE]at hr;go_wp2_with (go_at_call 114;refine (hr _ ax).mono ?_;rintro e w1⟨rfl,au⟩)
    go_roundw
    case rel=>exact⟨i+1,by go_num,aN,ax.trans au,b1.1.trans aE⟩
    case measure=>simp[intOf];omega
   .rw[aE]at hr;go_wp2_with (go_at_call 114;refine (hr _ ax).mono ?_;rintro e w1⟨rfl,au⟩)
    go_ret;exact⟨i,rfl,by rw[b1.2 (um aE)];simp,ax.trans au⟩
  .obtain rfl:n=i:=by omega
   have db:¬((n:J)<n):=by omega
   rw[mH (by have:=bS.out;omega)]at fK;have e':=I fK;clear fK aj;go_wp2_with fail
   go_ret;exact⟨-1,rfl,by rw[e'];rfl,ax⟩
def aiB(v:ak)(xs:List pI)(g o:aa)(s:ez)(w:ag)(bk:c0 2 n2 w v xs)(cd:ly w g o s):bg 113 #[v,.func (.func 114) #[] #[.pointer (some (g,o))]] w (fo (fV s (xs.map (·.aM))) w):=by
 have dY:=I (ald v xs g o s w bk cd);unfold vb at dY;unfold fo;obtain⟨A,cap,rfl,-⟩:=bk;go_enter func113,ntmps113
 go_wp2_with (go_at_call 140;refine dY.mono ?_;rintro e w1⟨r,rfl,aC,au⟩)
 go_ret;exact⟨rfl,au⟩
def aic(aM:ez)(dL:J)(eY:J)(cg:J)(bK:J)(gn:gu)(py lK:aa)(g o:aa)(s:ez)(w:ag)(cd:ly w g o s):bg 116 #[aF #[aM,dL,eY,cg,bK,ae gn py lK],.pointer (some (g,o))] w (fo (decide (aM=s)) w):=by
 unfold fo;obtain⟨ab,ad⟩:=cd;go_enter func116,ntmps116
 go_wp2_with fail
 go_ret;exact⟨fG (NU _ _),(aG w).alloc _⟩
def alh(v:ak)(xs:List lB)(g o:aa)(s:ez)(w:ag)(bk:c0 6 ld w v xs)(cd:ly w g o s):bg 141 #[v,.func (.func 116) #[] #[.pointer (some (g,o))]] w (vb (fV s (xs.map (·.aM))) w):=by
 obtain⟨A,cap,rfl,-,av,aj⟩:=bk;obtain⟨n,aH⟩:∃n,n=xs.length:=⟨_,rfl⟩;rw[<-aH]at av aj⊢;have bS:=I aH;have dP:=I cd;clear aH;go_enter func141,ntmps141
 go_wp2_with fail
 go_loopw [8] (λz wr=>∃i:aa,z=ah i/\i<=n/\Kept w wr/\fV s ((xs.take i).map (·.aM))=false) (λz _=>n-(intOf z).toNat)
 case atStart=>exact⟨0,rfl,d' _,aG _,by simp[fV]⟩
 case round=>
  obtain⟨i,rfl,dG,ax,fK⟩:=hrel;by_cases aN:i<n
  .obtain⟨b,off,rfl,af,aq⟩:=aj (by omega);have al:xs[i]?=some (xs[i]'(by have:=bS.out;omega)):=bn _;have az:=aq i _ al;have mU:=NW al fK;have pZ:=λh=>NV (f:=(·.aM)) (s:=s) al h;generalize xs[i]'(by have:=bS.out;omega)=x at*;have b1:=I (bb mU pZ);clear al aq aj fK mU pZ;obtain⟨aM,dL,eY,cg,bK,mem⟩:=x;obtain⟨⟨cK,-⟩,⟨aY,-⟩,⟨a',-⟩,⟨bu,-⟩,⟨b4,-⟩,⟨c1,b_,⟨gn,lK,rfl,-⟩⟩⟩:=az;unfold g' at*;dsimp only at*;generalize mem.length=py at*;have mw:=bG af ax.size;replace cK:=ax.aI af cK;replace aY:=ax.aI af aY;replace a':=ax.aI af a';replace bu:=ax.aI af bu;replace b4:=ax.aI af b4;replace b_:=ax.aI af b_;have hr:=I (λw1(h:Kept w w1)=>aic aM dL eY cg bK gn py lK g o s w1 (dP.kept h));unfold fo at hr;have db:(i:J)<n:=by omega
   cases aE:decide (aM=s)
   .rw[aE]at hr;go_wp2_with (go_at_call 116;refine (hr _ ax).mono ?_;rintro e w1⟨rfl,au⟩)
    go_roundw
    case rel=>exact⟨i+1,by go_num,aN,ax.trans au,b1.1.trans aE⟩
    case measure=>simp[intOf];omega
   .rw[aE]at hr;go_wp2_with (go_at_call 116;refine (hr _ ax).mono ?_;rintro e w1⟨rfl,au⟩)
    go_ret;exact⟨i,rfl,by rw[b1.2 (um aE)];simp,ax.trans au⟩
  .obtain rfl:n=i:=by omega
   have db:¬((n:J)<n):=by omega
   rw[mH (by have:=bS.out;omega)]at fK;have e':=I fK;clear fK aj;go_wp2_with fail
   go_ret;exact⟨-1,rfl,by rw[e'];rfl,ax⟩
def aiF(v:ak)(xs:List lB)(g o:aa)(s:ez)(w:ag)(bk:c0 6 ld w v xs)(cd:ly w g o s):bg 115 #[v,.func (.func 116) #[] #[.pointer (some (g,o))]] w (fo (fV s (xs.map (·.aM))) w):=by
 have dY:=I (alh v xs g o s w bk cd);unfold vb at dY;unfold fo;obtain⟨A,cap,rfl,-⟩:=bk;go_enter func115,ntmps115
 go_wp2_with (go_at_call 141;refine dY.mono ?_;rintro e w1⟨r,rfl,aC,au⟩)
 go_ret;exact⟨rfl,au⟩
def aia(aM:ez)(ms:J)(gn:gu)(py lK:aa)(hT:gu)(dl ij:aa)(eR:gu)(eZ rc:aa)(g o:aa)(s:ez)(w:ag)(cd:ly w g o s):bg 118 #[aF #[aM,ms,ae gn py lK,ae hT dl ij,ae eR eZ rc],.pointer (some (g,o))] w (fo (decide (aM=s)) w):=by
 unfold fo;obtain⟨ab,ad⟩:=cd;go_enter func118,ntmps118
 go_wp2_with fail
 go_ret;exact⟨fG (NU _ _),(aG w).alloc _⟩
def alg(v:ak)(xs:List cq)(g o:aa)(s:ez)(w:ag)(bk:c0 5 yy w v xs)(cd:ly w g o s):bg 142 #[v,.func (.func 118) #[] #[.pointer (some (g,o))]] w (vb (fV s (xs.map (·.aM))) w):=by
 obtain⟨A,cap,rfl,-,av,aj⟩:=bk;obtain⟨n,aH⟩:∃n,n=xs.length:=⟨_,rfl⟩;rw[<-aH]at av aj⊢;have bS:=I aH;have dP:=I cd;clear aH;go_enter func142,ntmps142
 go_wp2_with fail
 go_loopw [8] (λz wr=>∃i:aa,z=ah i/\i<=n/\Kept w wr/\fV s ((xs.take i).map (·.aM))=false) (λz _=>n-(intOf z).toNat)
 case atStart=>exact⟨0,rfl,d' _,aG _,by simp[fV]⟩
 case round=>
  obtain⟨i,rfl,dG,ax,fK⟩:=hrel;by_cases aN:i<n
  .obtain⟨b,off,rfl,af,aq⟩:=aj (by omega);have al:xs[i]?=some (xs[i]'(by have:=bS.out;omega)):=bn _;have az:=aq i _ al;have mU:=NW al fK;have pZ:=λh=>NV (f:=(·.aM)) (s:=s) al h;generalize xs[i]'(by have:=bS.out;omega)=x at*;have b1:=I (bb mU pZ);clear al aq aj fK mU pZ;obtain⟨aM,ms,mem,ds,rs⟩:=x;obtain⟨⟨cK,-⟩,⟨aY,-⟩,⟨c1,a',⟨gn,lK,rfl,-⟩⟩,⟨dy,bu,⟨hT,ij,rfl,-⟩⟩,⟨cD,b4,⟨eR,rc,rfl,-⟩⟩⟩:=az;unfold g' at*;dsimp only at*;generalize mem.length=py at*;generalize ds.length=dl at*;generalize rs.length=eZ at*;have mw:=bG af ax.size;replace cK:=ax.aI af cK;replace aY:=ax.aI af aY;replace a':=ax.aI af a';replace bu:=ax.aI af bu;replace b4:=ax.aI af b4;have hr:=I (λw1(h:Kept w w1)=>aia aM ms gn py lK hT dl ij eR eZ rc g o s w1 (dP.kept h));unfold fo at hr;have db:(i:J)<n:=by omega
   cases aE:decide (aM=s)
   .rw[aE]at hr;go_wp2_with (go_at_call 118;refine (hr _ ax).mono ?_;rintro e w1⟨rfl,au⟩)
    go_roundw
    case rel=>exact⟨i+1,by go_num,aN,ax.trans au,b1.1.trans aE⟩
    case measure=>simp[intOf];omega
   .rw[aE]at hr;go_wp2_with (go_at_call 118;refine (hr _ ax).mono ?_;rintro e w1⟨rfl,au⟩)
    go_ret;exact⟨i,rfl,by rw[b1.2 (um aE)];simp,ax.trans au⟩
  .obtain rfl:n=i:=by omega
   have db:¬((n:J)<n):=by omega
   rw[mH (by have:=bS.out;omega)]at fK;have e':=I fK;clear fK aj;go_wp2_with fail
   go_ret;exact⟨-1,rfl,by rw[e'];rfl,ax⟩
def aiE(v:ak)(xs:List cq)(g o:aa)(s:ez)(w:ag)(bk:c0 5 yy w v xs)(cd:ly w g o s):bg 117 #[v,.func (.func 118) #[] #[.pointer (some (g,o))]] w (fo (fV s (xs.map (·.aM))) w):=by
 have dY:=I (alg v xs g o s w bk cd);unfold vb at dY;unfold fo;obtain⟨A,cap,rfl,-⟩:=bk;go_enter func117,ntmps117
 go_wp2_with (go_at_call 142;refine dY.mono ?_;rintro e w1⟨r,rfl,aC,au⟩)
 go_ret;exact⟨rfl,au⟩
def ah7(aM:ez)(uO:J)(BY:J)(g o:aa)(s:ez)(w:ag)(cd:ly w g o s):bg 143 #[aF #[aM,uO,BY],.pointer (some (g,o))] w (fo (decide (aM=s)) w):=by
 unfold fo;obtain⟨ab,ad⟩:=cd;go_enter func143,ntmps143
 go_wp2_with fail
 go_ret;exact⟨fG (NU _ _),(aG w).alloc _⟩
def ale(v:ak)(xs:List mI)(g o:aa)(s:ez)(w:ag)(bk:c0 3 jt w v xs)(cd:ly w g o s):bg 162 #[v,.func (.func 143) #[] #[.pointer (some (g,o))]] w (vb (fV s (xs.map (·.aM))) w):=by
 obtain⟨A,cap,rfl,-,av,aj⟩:=bk;obtain⟨n,aH⟩:∃n,n=xs.length:=⟨_,rfl⟩;rw[<-aH]at av aj⊢;have bS:=I aH;have dP:=I cd;clear aH;go_enter func162,ntmps162
 go_wp2_with fail
 go_loopw [8] (λz wr=>∃i:aa,z=ah i/\i<=n/\Kept w wr/\fV s ((xs.take i).map (·.aM))=false) (λz _=>n-(intOf z).toNat)
 case atStart=>exact⟨0,rfl,d' _,aG _,by simp[fV]⟩
 case round=>
  obtain⟨i,rfl,dG,ax,fK⟩:=hrel;by_cases aN:i<n
  .obtain⟨b,off,rfl,af,aq⟩:=aj (by omega);have al:xs[i]?=some (xs[i]'(by have:=bS.out;omega)):=bn _;have az:=aq i _ al;have mU:=NW al fK;have pZ:=λh=>NV (f:=(·.aM)) (s:=s) al h;generalize xs[i]'(by have:=bS.out;omega)=x at*;have b1:=I (bb mU pZ);clear al aq aj fK mU pZ;obtain⟨aM,uO,BY⟩:=x;obtain⟨⟨cK,-⟩,⟨aY,-⟩,⟨a',-⟩⟩:=az;unfold g' at*;dsimp only at*;skip
   have mw:=bG af ax.size;replace cK:=ax.aI af cK;replace aY:=ax.aI af aY;replace a':=ax.aI af a';have hr:=I (λw1(h:Kept w w1)=>ah7 aM uO BY g o s w1 (dP.kept h));unfold fo at hr;have db:(i:J)<n:=by omega
   cases aE:decide (aM=s)
   .rw[aE]at hr;go_wp2_with (go_at_call 143;refine (hr _ ax).mono ?_;rintro e w1⟨rfl,au⟩)
    go_roundw
    case rel=>exact⟨i+1,by go_num,aN,ax.trans au,b1.1.trans aE⟩
    case measure=>simp[intOf];omega
   .rw[aE]at hr;go_wp2_with (go_at_call 143;refine (hr _ ax).mono ?_;rintro e w1⟨rfl,au⟩)
    go_ret;exact⟨i,rfl,by rw[b1.2 (um aE)];simp,ax.trans au⟩
  .obtain rfl:n=i:=by omega
   have db:¬((n:J)<n):=by omega
   rw[mH (by have:=bS.out;omega)]at fK;have e':=I fK;clear fK aj;go_wp2_with fail
   go_ret;exact⟨-1,rfl,by rw[e'];rfl,ax⟩
def abu(v:ak)(xs:List mI)(g o:aa)(s:ez)(w:ag)(bk:c0 3 jt w v xs)(cd:ly w g o s):bg 144 #[v,.func (.func 143) #[] #[.pointer (some (g,o))]] w (fo (fV s (xs.map (·.aM))) w):=by
 have dY:=I (ale v xs g o s w bk cd);unfold vb at dY;unfold fo;obtain⟨A,cap,rfl,-⟩:=bk;go_enter func144,ntmps144
 go_wp2_with (go_at_call 162;refine dY.mono ?_;rintro e w1⟨r,rfl,aC,au⟩)
 go_ret;exact⟨rfl,au⟩
def ah8(aM:ez)(bx:J)(bJ:J)(d_:J)(cZ:J)(cT:J)(gC:gu)(r' gc:aa)(gx:gu)(hv eT:aa)(src:ez)(g o:aa)(s:ez)(w:ag)(cd:ly w g o s):bg 147 #[aF #[aM,bx,bJ,d_,cZ,cT,ae gC r' gc,ae gx hv eT,src],.pointer (some (g,o))] w (fo (decide (aM=s)) w):=by
 unfold fo;obtain⟨ab,ad⟩:=cd;go_enter func147,ntmps147
 go_wp2_with fail
 go_ret;exact⟨fG (NU _ _),(aG w).alloc _⟩
def alf(v:ak)(xs:List br)(g o:aa)(s:ez)(w:ag)(bk:c0 9 lz w v xs)(cd:ly w g o s):bg 163 #[v,.func (.func 147) #[] #[.pointer (some (g,o))]] w (vb (fV s (xs.map (·.aM))) w):=by
 obtain⟨A,cap,rfl,-,av,aj⟩:=bk;obtain⟨n,aH⟩:∃n,n=xs.length:=⟨_,rfl⟩;rw[<-aH]at av aj⊢;have bS:=I aH;have dP:=I cd;clear aH;go_enter func163,ntmps163
 go_wp2_with fail
 go_loopw [8] (λz wr=>∃i:aa,z=ah i/\i<=n/\Kept w wr/\fV s ((xs.take i).map (·.aM))=false) (λz _=>n-(intOf z).toNat)
 case atStart=>exact⟨0,rfl,d' _,aG _,by simp[fV]⟩
 case round=>
  obtain⟨i,rfl,dG,ax,fK⟩:=hrel;by_cases aN:i<n
  .obtain⟨b,off,rfl,af,aq⟩:=aj (by omega);have al:xs[i]?=some (xs[i]'(by have:=bS.out;omega)):=bn _;have az:=aq i _ al;have mU:=NW al fK;have pZ:=λh=>NV (f:=(·.aM)) (s:=s) al h;generalize xs[i]'(by have:=bS.out;omega)=x at*;have b1:=I (bb mU pZ);clear al aq aj fK mU pZ;obtain⟨aM,bx,bJ,d_,cZ,cT,aut,tr,src⟩:=x;obtain⟨⟨cK,-⟩,⟨aY,-⟩,⟨a',-⟩,⟨bu,-⟩,⟨b4,-⟩,⟨b_,-⟩,⟨_,dn,⟨⟨gC,gc,rfl,-⟩,-⟩⟩,⟨_,mr,⟨⟨gx,eT,rfl,-⟩,-⟩⟩,⟨hV,-⟩⟩:=az;unfold g' at*;dsimp only at*;generalize aut.length=r' at*;generalize tr.length=hv at*;have mw:=bG af ax.size;replace cK:=ax.aI af cK;replace aY:=ax.aI af aY;replace a':=ax.aI af a';replace bu:=ax.aI af bu;replace b4:=ax.aI af b4;replace b_:=ax.aI af b_;replace dn:=ax.aI af dn;replace mr:=ax.aI af mr;replace hV:=ax.aI af hV;have hr:=I (λw1(h:Kept w w1)=>ah8 aM bx bJ d_ cZ cT gC r' gc gx hv eT src g o s w1 (dP.kept h));unfold fo at hr;have db:(i:J)<n:=by omega
   cases aE:decide (aM=s)
   .rw[aE]at hr;go_wp2_with (go_at_call 147;refine (hr _ ax).mono ?_;rintro e w1⟨rfl,au⟩)
    go_roundw
    case rel=>exact⟨i+1,by go_num,aN,ax.trans au,b1.1.trans aE⟩
    case measure=>simp[intOf];omega
   .rw[aE]at hr;go_wp2_with (go_at_call 147;refine (hr _ ax).mono ?_;rintro e w1⟨rfl,au⟩)
    go_ret;exact⟨i,rfl,by rw[b1.2 (um aE)];simp,ax.trans au⟩
  .obtain rfl:n=i:=by omega
   have db:¬((n:J)<n):=by omega
   rw[mH (by have:=bS.out;omega)]at fK;have e':=I fK;clear fK aj;go_wp2_with fail
   go_ret;exact⟨-1,rfl,by rw[e'];rfl,ax⟩
def aiD(v:ak)(xs:List br)(g o:aa)(s:ez)(w:ag)(bk:c0 9 lz w v xs)(cd:ly w g o s):bg 146 #[v,.func (.func 147) #[] #[.pointer (some (g,o))]] w (fo (fV s (xs.map (·.aM))) w):=by
 have dY:=I (alf v xs g o s w bk cd);unfold vb at dY;unfold fo;obtain⟨A,cap,rfl,-⟩:=bk;go_enter func146,ntmps146
 go_wp2_with (go_at_call 163;refine dY.mono ?_;rintro e w1⟨r,rfl,aC,au⟩)
 go_ret;exact⟨rfl,au⟩
structure kj where
 ms:List gh
 tb:List lB
 ins:List dh
 ds:List dh
 md:List dh
 hm:Bool
def qv(w:ag)(v:ak)(s:kj):Prop:=
 ∃dw cM b7 dy c1,v=aF #[dw,cM,b7,dy,c1,bR s.hm]/\Enums w dw s.ms/\c0 6 ld w cM s.tb/\mm w b7 s.ins/\mm w dy s.ds/\mm w c1 s.md
def qv.kept{w w':ag}{v:ak}{s:kj}(h:qv w v s)(ai:Kept w w'):qv w' v s:=by
 obtain⟨dw,cM,b7,dy,c1,aK,ar,ab,ad,ao,aR⟩:=h;exact⟨dw,cM,b7,dy,c1,aK,ar.kept ai,ab.kept ld.kept ai,ad.kept ai,ao.kept ai,aR.kept ai⟩
def rM(R:dh×J)(w:ag)(r:Ending)(w':ag):Prop:=r=bL (bj #[aF #[R.1.k,R.1.e],R.2])/\Kept w w'
def k1(R:dh×Bool)(w:ag)(r:Ending)(w':ag):Prop:=r=bL (bj #[aF #[R.1.k,R.1.e],bR R.2])/\Kept w w'
def t0:dh:=⟨0,0⟩
def JO(op a b:J):dh×Bool:=
 if op=14 then (⟨a,0⟩,decide (b=4/\(a=3\/a=4)))
 else if b=2 then (⟨a,0⟩,decide (a=2\/a=3))
 else if op=15/\a=3/\b=3 then (⟨4,0⟩,true)else (t0,false)
def En(ms:List gh)(n k:J):dh×J:=if n<(pU k 0 ms).1\/(pU k 0 ms).2<n then (t0,3)else (⟨k,0⟩,0)
def F1(ms:List gh)(n:J):dh×J:=if n<0 then (t0,3)else if (ms:J)<=n/16\/((Es (n/16) ms).length:J)<=n% 16 then (t0,6)else (⟨6,n/16⟩,0)
def qS(ms:List gh)(n:J)(l:List dh):dh×J:=if n<0\/(l:J)<=n then (t0,6)else if lr (l[n.toNat]?.getD t0).k (l[n.toNat]?.getD t0).e ms=true then (l[n.toNat]?.getD t0,0)else (t0,8)
def zx(n:J):Bool:=decide (0<=n/\n<=5)
def L3(k:J)(w:ag):bg 213 #[k] w λr w'=>r=bL (bR (nt k))/\w=w':=by
 unfold nt
 cases ab:(k==2)<;>cases ad:(k==3)<;>cases ao:(k==4)
 all_goals
  go_enter func213,ntmps213
  go_wp2_with fail
  go_ret;refine⟨fG ?_,rfl⟩;simp at ab ad ao⊢
  (try omega)
def abK(n:J)(w:ag):bg 195 #[n] w λr w'=>r=bL (bR (zx n))/\w=w':=by
 unfold zx;by_cases ab:0<=n<;>by_cases ad:n<=5
 all_goals
  go_enter func195,ntmps195
  go_wp2_with fail
  go_ret;refine⟨fG ?_,rfl⟩;simp at ab ad⊢
  (try omega)
def anI(op a b:J)(w:ag):bg 214 #[op,a,b] w (k1 (JO op a b) w):=by
 unfold k1;obtain⟨R,aJ⟩:∃R,R=JO op a b:=⟨_,rfl⟩;rw[<-aJ];unfold JO at aJ;by_cases h:op=14
 .subst h
  cases ad:(b==4)<;>cases ao:(a==3)<;>cases aR:(a==4)
  all_goals
   have aX:=I aJ;clear aJ;go_enter func214,ntmps214
   go_wp2_with fail
   refine bI (v:=bj #[aF #[R.1.k,R.1.e],bR R.2]) ?_ rfl ⟨rfl,(aG _).alloc _⟩;rw[aX];simp at ad ao aR;simp[results,results214,go_sem, *]
 .have ab:(op==14)=false:=by simpa using h
  rw[aw h]at aJ;by_cases af:b=2
  .subst af
   cases ao:(a==2)<;>cases aR:(a==3)
   all_goals
    have aX:=I aJ;clear aJ;go_enter func214,ntmps214
    go_wp2_with fail
    refine bI (v:=bj #[aF #[R.1.k,R.1.e],bR R.2]) ?_ rfl ⟨rfl,(aG _).alloc _⟩;rw[aX];simp at ao aR;simp[results,results214,go_sem, *]
  .have ad:(b==2)=false:=by simpa using af
   rw[aw af]at aJ
   cases ao:(op==15)<;>cases aR:(a==3)<;>cases bw:(b==3)
   all_goals
    have aX:=I aJ;clear aJ;go_enter func214,ntmps214
    go_wp2_with fail
    refine bI (v:=bj #[aF #[R.1.k,R.1.e],bR R.2]) ?_ rfl ⟨rfl,(aG _).alloc _⟩;rw[aX];simp at ao aR bw;simp[results,results214,go_sem,t0, *]
def qv.form{w:ag}{v:ak}{s:kj}(h:qv w v s):∃c5 ce cV cX eh ci kO cF ff lh,v=aF #[ae c5 s.ms ce,ae cV s.tb cX,ae eh s.ins ci,ae kO s.ds cF,ae ff s.md lh,bR s.hm]/\
  Enums w (ae c5 s.ms ce) s.ms/\c0 6 ld w (ae cV s.tb cX) s.tb/\mm w (ae eh s.ins ci) s.ins/\mm w (ae kO s.ds cF) s.ds/\mm w (ae ff s.md lh) s.md:=by
 obtain⟨dw,cM,b7,dy,c1,aK,ar,ab,ad,ao,aR⟩:=h;obtain⟨c5,ce,rfl,-⟩:=id ar;obtain⟨cV,cX,rfl,-⟩:=id ab;obtain⟨eh,ci,rfl,-⟩:=id ad;obtain⟨kO,cF,rfl,-⟩:=id ao;obtain⟨ff,lh,rfl,-⟩:=id aR;exact⟨c5,ce,cV,cX,eh,ci,kO,cF,ff,lh,aK,ar,ab,ad,ao,aR⟩
def aB.adA(W:ag)(o:Obj)(t:dC)(cs:ho):aB ((W.alloc o).alloc (.cells cs t)) (W.heap.size+1) t cs:=by
 have:=aB.new (W.alloc o) t cs;rwa [qf]at this
def jc{w W:ag}{g:aa}{t:dC}{a b:ak}(k e:J)(bc:aB W g t #[a,b])(ax:Kept w W)(al:w<=g):
  aB ((W.setCell (g,0) k).setCell (g,1) e) g t #[k,e]/\Kept w ((W.setCell (g,0) k).setCell (g,1) e):=
 ⟨(bc.ba 0 _).ba 1 _,(ax.setCell al _).setCell al _⟩
def amm(n k:J)(cH:ak)(s:kj)(w:ag)(bH:qv w cH s):bg 190 #[n,k,cH] w (rM (En s.ms n k) w):=by
 obtain⟨c5,ce,cV,cX,eh,ci,kO,cF,ff,lh,rfl,a1,-⟩:=bH.form;have dv:=I (λw1(h:Kept w w1)=>Ve k 0 _ s.ms w1 (a1.kept h));obtain⟨R,aJ⟩:∃R,R=En s.ms n k:=⟨_,rfl⟩;unfold rM;rw[<-aJ];unfold En at aJ;generalize (pU k 0 s.ms).1=e2 at*;generalize (pU k 0 s.ms).2=aD at*;generalize s.ms.length=dS at*;generalize s.tb.length=dd at*;generalize s.ins.length=cC at*;generalize s.ds.length=ei at*;generalize s.md.length=eE at*;clear bH a1;go_enter func190,ntmps190
 go_upto_region 2 with fail
 generalize aL:((w.alloc _).alloc _).alloc _=W at*;obtain⟨bp,bh,bm,cP⟩:=Kept.cv aL;clear aL;obtain⟨aY,bq⟩:=bh.p;obtain⟨bu,dW⟩:=cP.p;have aX:=I aJ;clear aJ;have k_:∀(k e c:J)(X:ag),R=(⟨k,e⟩,c)->Kept w X->Ending.returned (bj #[aF #[k,e],c])=bL (bj #[aF #[R.1.k,R.1.e],R.2])/\Kept w X:=λk e c X h ai=>⟨by rw[h],ai⟩;by_cases ab:n<e2
 .have af:R=(t0,3):=by rw[aX,aP (.inl ab)]
  go_wp2_with (go_at_call 86;refine (dv _ bp).mono ?_;rintro e w1⟨rfl,au⟩;have df:=bm.kept au;have ev:=cP.kept au;have P8:=df.cell;have Qa:=df.lt;have Vh:=df.frozen;have Vg:=ev.cell;have Vl:=ev.lt;have ca:=bp.trans au)
  obtain⟨de,aS⟩:=jc 0 0 df ca (by omega);have da:=de.cell;exact bI (v:=bj #[aF #[(),()],ah 3]) (by simp[results,results190,go_sem,da]) rfl (k_ _ _ _ _ af aS)
 by_cases ad:aD<n
 .have af:R=(t0,3):=by rw[aX,aP (.inr ad)]
  go_wp2_with (go_at_call 86;refine (dv _ bp).mono ?_;rintro e w1⟨rfl,au⟩;have df:=bm.kept au;have ev:=cP.kept au;have P8:=df.cell;have Qa:=df.lt;have Vh:=df.frozen;have Vg:=ev.cell;have Vl:=ev.lt;have ca:=bp.trans au)
  obtain⟨de,aS⟩:=jc 0 0 df ca (by omega);have da:=de.cell;exact bI (v:=bj #[aF #[(),()],ah 3]) (by simp[results,results190,go_sem,da]) rfl (k_ _ _ _ _ af aS)
 .have af:R=(⟨k,0⟩,0):=by rw[aX,aw (λh=>h.elim ab ad)]
  go_wp2_with (go_at_call 86;refine (dv _ bp).mono ?_;rintro e w1⟨rfl,au⟩;have df:=bm.kept au;have ev:=cP.kept au;have P8:=df.cell;have Qa:=df.lt;have Vh:=df.frozen;have Vg:=ev.cell;have Vl:=ev.lt;have ca:=bp.trans au)
  obtain⟨de,aS⟩:=jc k 0 df ca (by omega);have da:=de.cell;exact bI (v:=bj #[aF #[k,()],()]) (by simp[results,results190,go_sem,da]) rfl (k_ _ _ _ _ af aS)
def aiZ(n:J)(cH:ak)(s:kj)(w:ag)(bH:qv w cH s)(aH:n<=9223372036854775807):bg 191 #[n,cH] w (rM (F1 s.ms n) w):=by
 obtain⟨c5,ce,cV,cX,eh,ci,kO,cF,ff,lh,rfl,a1,-⟩:=bH.form;obtain⟨R,aJ⟩:∃R,R=F1 s.ms n:=⟨_,rfl⟩;unfold rM;rw[<-aJ];unfold F1 at aJ;obtain⟨pH,fF,aK,-,aj⟩:=a1;generalize uX:s.ms.length=dS at*;generalize s.tb.length=dd at*;generalize s.ins.length=cC at*;generalize s.ds.length=ei at*;generalize s.md.length=eE at*
 cases aK;have aV:=I (((aG w).alloc (.cells #[ae c5 dS ce,ae cV dd cX,ae eh cC ci,ae kO ei cF,ae ff eE lh,bR s.hm] 228)).alloc (.cells #[R.1.k,R.1.e] 94));clear bH;have k_:∀(k e c:J)(X:ag),R=(⟨k,e⟩,c)->Kept w X->Ending.returned (bj #[aF #[k,e],c])=bL (bj #[aF #[R.1.k,R.1.e],R.2])/\Kept w X:=λk e c X h ai=>⟨by rw[h],ai⟩;by_cases ar:n<0
 .rw[aP ar]at aJ;have aX:=I aJ;clear aJ;go_enter func191,ntmps191
  go_wp2_with fail
  exact bI (v:=bj #[aF #[(),()],ah 3]) (by simp[results,results191,go_sem]) rfl (k_ _ _ _ _ aX (((aG w).alloc _).alloc _))
 rw[aw ar]at aJ;obtain⟨j,ay⟩:∃j:aa,n/16=j:=⟨(n/16).toNat,by omega⟩;have htd:n.tdiv 16=j:=by rw[Hh (by omega)];exact ay
 have htm:n.tmod 16=n% 16:=OF (by omega);have M1:(j:J)<=9223372036854775807:=by omega
 rw[ay]at aJ;by_cases ab:(dS:J)<=j
 .rw[aP (.inl ab)]at aJ;have aX:=I aJ;clear aJ ay;go_enter func191,ntmps191
  go_wp2_with fail
  exact bI (v:=bj #[aF #[(),()],ah 6]) (by simp[results,results191,go_sem]) rfl (k_ _ _ _ _ aX (((aG w).alloc _).alloc _))
 obtain⟨b,off,rfl,af,aq⟩:=aj (by omega);obtain⟨-,c1,po,lG⟩:=aq j _ (bn (by omega));obtain⟨gn,lK,rfl,-⟩:=lG;have gp:(Es (j:J) s.ms).length=(s.ms[j]'(by omega)).length:=by unfold Es;rw[c7,bn (by omega),b9]
 rw[gp]at aJ;generalize (s.ms[j]'(by omega)).length=m at*;have hH:(j:J)<dS:=by omega
 have az:∃q:J,n% 16=q/\0<=q/\q<16:=⟨_,rfl,by omega,by omega⟩;obtain⟨q,az,Xu,jn⟩:=az;rw[az]at htm aJ;have ct:=I po;by_cases ad:(m:J)<=q
 .rw[aP (.inr ad)]at aJ;have aX:=I aJ;clear aJ ay aq aj gp az;have lG:(((w.alloc (.cells #[ae (some (b,off)) dS ce,ae cV dd cX,ae eh cC ci,ae kO ei cF,ae ff eE lh,bR s.hm] 228)).alloc (.cells #[(),()] 94))).cell? (b,off+j*2+1)=some (ae gn m lK):=(((aG w).alloc _).alloc _).aI af po;go_enter func191,ntmps191
  go_wp2_with fail
  exact bI (v:=bj #[aF #[(),()],ah 6]) (by simp[results,results191,go_sem]) rfl (k_ _ _ _ _ aX (((aG w).alloc _).alloc _))
 .rw[aw (λh=>h.elim ab ad)]at aJ;have aX:=I aJ;clear aJ ay aq aj gp az;go_enter func191,ntmps191
  go_wp2_with fail
  exact bI (v:=bj #[aF #[ah 6,j],()]) (by simp[results,results191,go_sem]) rfl (k_ _ _ _ _ aX (((aG w).alloc _).alloc _))
def Yj(n:J)(cm:ak)(l:List dh)(cH:ak)(s:kj)(w:ag)(bE:mm w cm l)(bH:qv w cH s)(aH:n<=9223372036854775807):bg 192 #[n,cm,cH] w (rM (qS s.ms n l) w):=by
 obtain⟨c5,ce,cV,cX,eh,ci,kO,cF,ff,lh,rfl,a1,-⟩:=bH.form;obtain⟨R,aJ⟩:∃R,R=qS s.ms n l:=⟨_,rfl⟩;unfold rM;rw[<-aJ];unfold qS at aJ;obtain⟨A,c,rfl,aj⟩:=bE.at_;obtain⟨m,hm⟩:∃m,l.length=m:=⟨_,rfl⟩;rw[hm]at aj aJ⊢;have k_:∀(k e c:J)(X:ag),R=(⟨k,e⟩,c)->Kept w X->Ending.returned (bj #[aF #[k,e],c])=bL (bj #[aF #[R.1.k,R.1.e],R.2])/\Kept w X:=λk e c X h ai=>⟨by rw[h],ai⟩;by_cases ar:n<0\/(m:J)<=n
 .rw[aP ar]at aJ;have aX:=I aJ;clear aJ aj a1 bH bE;rcases ar with ar|ar
  .go_enter func192,ntmps192
   go_wp2_with fail
   exact bI (v:=bj #[aF #[(),()],ah 6]) (by simp[results,results192,go_sem]) rfl (k_ _ _ _ _ aX (((aG w).alloc _).alloc _))
  .have ab:¬n<0:=by omega
   go_enter func192,ntmps192
   go_wp2_with fail
   exact bI (v:=bj #[aF #[(),()],ah 6]) (by simp[results,results192,go_sem]) rfl (k_ _ _ _ _ aX (((aG w).alloc _).alloc _))
 rw[aw ar]at aJ;obtain⟨j,rfl⟩:∃j:aa,n=j:=⟨n.toNat,by omega⟩;have hjm:j<m:=by omega
 have hH:(j:J)<m:=by omega
 obtain⟨b,off,rfl,af,aq⟩:=aj (by omega);have al:l[j]?=some l[j]:=bn (by omega);obtain⟨bX,bQ⟩:=aq j _ al;rw[c7,al,b9]at aJ;generalize l[j]=T at*;obtain⟨k,e⟩:=T;dsimp only at bX bQ aJ;have fE:=I (λw1(h:Kept w w1)=>On k e _ s.ms w1 (a1.kept h));generalize lr k e s.ms=q at*;generalize s.ms.length=dS at*;generalize s.tb.length=dd at*;generalize s.ins.length=cC at*;generalize s.ds.length=ei at*;generalize s.md.length=eE at*;have aX:=I aJ;have bS:=I (bb bX bQ);clear aJ bH a1 bE aj aq al ar hm bX bQ;go_enter func192,ntmps192
 go_upto_region 3 with fail
 generalize aL:(w.alloc _).alloc _=W at*;obtain⟨bp,bh,bm⟩:=Kept.a_ aL;clear aL;have z0:=aS.cell bh.lt (bh.cell 0);have hE:=bG af bp.size;have fL:=aS.cell hE (bp.aI af bS.1);have z2:=aS.cell hE (bp.aI af bS.2);refine nc (by kernel_rfl) (by kernel_rfl) ?_
 repeat (go_big_quiet_step (first|(go_at_call 105;with_reducible exact aS.call (fE.out _ (bp.trans (aS.h _))))))
 refine f' ?_;rintro _⟨⟨cj,aj⟩,rfl⟩;clear z0 fL z2;have df:=bm.kept aj;obtain⟨P8,Qa,Vh⟩:=df.q;have ca:=bp.trans aj
 cases q
 .go_wp2_with fail
  obtain⟨de,aS⟩:=jc 0 0 df ca (by omega);have da:=de.cell;exact bI (v:=bj #[aF #[(),()],ah 8]) (by simp[results,results192,go_sem,da]) rfl (k_ _ _ _ _ aX aS)
 .have eU:=ca.aI af bS.1;have dr:=ca.aI af bS.2;go_wp2_with fail
  obtain⟨de,aS⟩:=jc k e df ca (by omega);have da:=de.cell;exact bI (v:=bj #[aF #[k,e],()]) (by simp[results,results192,go_sem,da]) rfl (k_ _ _ _ _ aX aS)
def Ys(o k:J):Bool:=if o=36 then k==2||k==3 else if o=39 then nt k||k==5 else k==1
def GV(s:kj)(o n:J):dh×J:=
 if s.hm=false then (t0,6)else if o=35 then (⟨2,0⟩,0)
 else if (qS s.ms n s.md).2≠0 then (t0,(qS s.ms n s.md).2)
 else if Ys o (qS s.ms n s.md).1.k=true then ((qS s.ms n s.md).1,0)else (t0,8)
def amA(o n:J)(cH:ak)(s:kj)(w:ag)(bH:qv w cH s)(aA:o=35\/o=36\/o=37\/o=38\/o=39)(aH:n<=9223372036854775807):bg 194 #[aF #[o,n],cH] w (rM (GV s o n) w):=by
 have tT:=bH;obtain⟨c5,ce,cV,cX,eh,ci,kO,cF,ff,lh,rfl,-,-,-,-,bN⟩:=bH.form;have dB:=I (λw1(h:Kept w w1)=>Yj n _ s.md _ s w1 (bN.kept h) (tT.kept h) aH);unfold rM at dB⊢;obtain⟨R,aJ⟩:∃R,R=GV s o n:=⟨_,rfl⟩;rw[<-aJ];unfold GV at aJ;have k_:∀(k e c:J)(X:ag),R=(⟨k,e⟩,c)->Kept w X->Ending.returned (bj #[aF #[ah k,ah e],ah c])=bL (bj #[aF #[R.1.k,R.1.e],R.2])/\Kept w X:=λk e c X h ai=>⟨by rw[h],ai⟩;obtain⟨k,e,c,hkc⟩:∃k e c,qS s.ms n s.md=(⟨k,e⟩,c):=⟨_,_,_,rfl⟩;rw[hkc]at aJ dB;have aV:=I ((((aG w).alloc (.cells #[o,n] 101)).alloc (.cells #[ae c5 s.ms ce,ae cV s.tb cX,ae eh s.ins ci,ae kO s.ds cF,ae ff s.md lh,bR s.hm] 228)).alloc (.cells #[(),()] 94));generalize s.ms.length=dS at*;generalize s.tb.length=dd at*;generalize s.ins.length=cC at*;generalize s.ds.length=ei at*;generalize s.md.length=eE at*;generalize s.hm=hm at*;clear bH tT bN hkc
 cases hm
 .rw[aP rfl]at aJ;have aX:=I aJ;clear aJ aA;go_enter func194,ntmps194
  go_wp2_with fail
  exact bI (v:=bj #[aF #[(),()],ah 6]) (by simp[results,results194,go_sem]) rfl (k_ _ _ _ _ aX ((((aG w).alloc _).alloc _).alloc _))
 rw[aw (by decide)]at aJ;by_cases DW:o=35
 .subst DW;rw[aP rfl]at aJ;have aX:=I aJ;clear aJ aA;go_enter func194,ntmps194
  go_wp2_with fail
  exact bI (v:=bj #[aF #[ah 2,()],()]) (by simp[results,results194,go_sem]) rfl (k_ _ _ _ _ aX ((((aG w).alloc _).alloc _).alloc _))
 rw[aw DW]at aJ;have o35:(o==35)=false:=by simpa using DW
 by_cases aq:c=0
 case neg=>
  rw[aP aq]at aJ;have jv:(c==0)=false:=by simpa using aq
  have aX:=I aJ;clear aJ;go_enter func194,ntmps194
  go_upto_region 5 with fail
  generalize aL:((w.alloc _).alloc _).alloc _=W at*;obtain⟨bp,bh,bm,cP⟩:=Kept.cv aL;clear aL;obtain⟨aY,bq⟩:=bh.p;obtain⟨a',b5⟩:=bm.p;go_wp2_with (go_at_call 192;refine (dB _ bp).mono ?_;rintro e w1⟨rfl,au⟩;have ca:=bp.trans au;have ev:=(cP.kept au).alloc (.cells #[ah k,ah e] 94);have d3:=ev.cell;have f3:=ev.frozen;have dW:=ev.lt)
  obtain⟨de,aS⟩:=jc 0 0 ev (ca.alloc _) (by omega);have da:=de.cell;exact bI (v:=bj #[aF #[(),()],ah c]) (by simp[results,results194,go_sem,da]) rfl (k_ _ _ _ _ aX aS)
 subst aq;rw[aw (by simp)]at aJ;have aX:=I aJ;have b3:=I (λw1=>L3 k w1);clear aJ;go_enter func194,ntmps194
 go_upto_region 5 with fail
 generalize aL:((w.alloc _).alloc _).alloc _=W at*;obtain⟨bp,bh,bm,cP⟩:=Kept.cv aL;clear aL;obtain⟨aY,bq⟩:=bh.p;obtain⟨a',b5⟩:=bm.p;go_upto_region 8 with (go_at_call 192;refine (dB _ bp).mono ?_;rintro e w1⟨rfl,au⟩;have ca:=bp.trans au;have gN:=(bh.kept au).alloc (.cells #[ah k,ah e] 94);have ev:=(cP.kept au).alloc (.cells #[ah k,ah e] 94);have tx:=aB.new w1 94 #[ah k,ah e])
 have c3:=ca.alloc (.cells #[ah k,ah e] 94);generalize w1.alloc (.cells #[ah k,ah e] 94)=ha at*;obtain⟨d1,m1⟩:=gN.p;obtain⟨d3,dW,f3⟩:=ev.q;obtain⟨d4,gz⟩:=tx.p;obtain⟨BW0,KW0⟩:=jc 0 0 ev c3 (by omega);obtain⟨BW1,vS⟩:=jc k e ev c3 (by omega);have P2:=BW0.cell;have P3:=BW1.cell;have dv:=I (bb P2 P3);clear aY bq a' b5 bh bm cP gN ev tx BW0 BW1 ca c3 bp au P2 P3 dB aV;rcases aA with rfl|rfl|rfl|rfl|rfl
 .exact absurd rfl DW
 all_goals
  clear DW o35
  cases ab:(k==1)<;>cases ad:(k==2)<;>cases ao:(k==3)<;>cases bw:(k==5)<;>cases az:nt k
  all_goals
   first
   |(exfalso;unfold nt at az;simp at ab ad ao bw az;omega)
   |(rw[az]at b3
     go_wp2_with (go_at_call 213;refine (b3 _).mono ?_;rintro e w1⟨rfl,rfl⟩)
     obtain⟨P2,P3⟩:=dv.out
     first
     |exact bI (v:=bj #[aF #[(),()],ah 8]) (by simp[results,results194,go_sem,P2]) rfl (k_ _ _ _ _ (by rw[aX,aw (by simp[Ys,ab,ad,ao,bw,az])];rfl) KW0)
     |exact bI (v:=bj #[aF #[ah k,ah e],()]) (by simp[results,results194,go_sem,P3]) rfl (k_ _ _ _ _ (by rw[aX,aP (by simp[Ys,ab,ad,ao,bw,az])]) vS))
def ug(a b:dh):Bool:=a.k==b.k&&a.e==b.e
def kK(op:J)(a b c:dh):dh×Bool:=
 if op=10 then (a,nt a.k)
 else if op=25 then (⟨1,0⟩,a.k==1)
 else if op=11\/op=12 then (a,ug a b&&nt a.k)
 else if op=13\/op=14\/op=15 then JO op a.k b.k
 else if op=16 then (a,a.k==3&&b.k==3)
 else if op=17\/op=18 then (a,ug a b&&(nt a.k||a.k==5))
 else if op=19\/op=20 then (⟨1,0⟩,ug a b)
 else if op=21\/op=22 then (⟨1,0⟩,ug a b&&(nt a.k||a.k==5))
 else if op=23\/op=24 then (⟨1,0⟩,a.k==1&&b.k==1)
 else if op=26 then (b,a.k==1&&ug b c)
 else if op=27\/op=28 then (a,a.k==5&&b.k==2)
 else if op=29\/op=30 then (⟨2,0⟩,a.k==5&&b.k==5)
 else if op=31\/op=32 then (⟨2,0⟩,a.k==5)
 else (t0,false)
def uI(w:ag)(b off m:aa)(x y z:dh):Prop:=b<w/\(1<=m->aU w (b,off)=some (ah x.k)/\aU w (b,off+1)=some (ah x.e))/\
 (2<=m->aU w (b,off+2)=some (ah y.k)/\aU w (b,off+2+1)=some (ah y.e))/\(3<=m->aU w (b,off+4)=some (ah z.k)/\aU w (b,off+4+1)=some (ah z.e))
def YR:Op->Bool
 | .move _=>true
 | .assign _=>true
 | .pick _ _ _=>true
 | .build _ _=>true
 | .load _ _=>true
 | .fieldAddr _ _ _=>true
 | .indexAddr _ _ _=>true
 | .binOp _ _ _ _ _=>true
 | .unOp _ _ _=>true
 | .extract _ _=>true
 |_=>false
section
variable {P:Program} {ops:Array Oper} {md:Region.Mode} {C:Array Bool->ag->Prop}
def ahy{α:Type}{s:Sem α}{g:α->Next}{w w':ag}{f:FuncId}{args:ho}(al:∀a,g a≠ .enter f args)(h:(do pure (g (<-s)):Sem Next).run P w= .ok (.enter f args) w'):False:=by
 simp only[OE,OD]at h;generalize s.run P w=r at h
 cases r with
 |ok a w2=>simp only[Result.andThen]at h;injection h with ab ad;exact al _ ab
 |halt x w2=>simp only[Result.andThen]at h;cases h
def anF{o:Oper}(h:YR o.op=true){r:Operand->ak}{w w':ag}{f:FuncId}{args:ho}(e:(execOp r o).run P w= .ok (.enter f args) w'):False:=by
 unfold execOp at e
 cases qO:o.op<;>simp only[qO,YR,A7]at h<;>simp only[qO]at e
 all_goals first
  |(simp only[OD]at e;cases e)
  |exact ahy (λa=>by simp) e
def NH(P:Program)(C:ag->Prop)(w:ag)(v:ak):Result Next->Prop
 | .ok (.value u) w'=>C w'/\u=v
 | .ok .skip w'=>C w'/\v=undef
 | .ok (.enter f args) w'=>w'=w/\Calls P f args w (λe C6=>e= .returned v/\C C6)
 |_=>False
def Eo(P:Program)(o:Oper)(a:Act)(C:ag->Prop)(w:ag)(v:ak):Prop:=NH P C w v ((execOp a.eval o).run P w)
def Yn(P:Program)(o:Oper)(i:aa)(a:Act)(C:Array Bool->ag->Prop)(K:Act->Prop):Prop:=∃v,(∀L w,C L w->Eo P o a (C (L.setIfInBounds i true)) w v)/\K (a.put o.dst v)
def idle(C:Array Bool->ag->Prop)(i:aa):Prop:=∀L w,C L w->C (L.setIfInBounds i true) w
def vg(P:Program)(ops:Array Oper)(C:Array Bool->ag->Prop)(i:aa)(K:Act->Prop)(a:Act):Prop:=
 match ops[i]? with
 |none=>K a
 |some o=>if Region.wanted o (yielded ops a.tmps)then Yn P o i a C K else idle C i/\K (a.put o.dst undef)
def amt{i:aa}{a:Act}{K K4:Act->Prop}(h:∀a,K a->K4 a)(aT:vg P ops C i K a):vg P ops C i K4 a:=by
 unfold vg at*;split
 .exact h _ (by simpa[*] using aT)
 .rename_i o aA;simp only[aA]at aT;split
  .rename_i hw;simp only[hw,k3]at aT;obtain⟨v,ab,ad⟩:=aT;exact⟨v,ab,h _ ad⟩
  .rename_i hw;simp only[hw]at aT;exact⟨aT.1,h _ aT.2⟩
def t_(P:Program)(ops:Array Oper)(C:Array Bool->ag->Prop)(Q:Act->Prop):aa->List Oper->Act->Prop
 |_,[],a=>Q a
 |k,o::rest,a=>if Region.wanted o (yielded ops a.tmps)then Yn P o k a C (t_ P ops C Q (k+1) rest)else idle C k/\t_ P ops C Q (k+1) rest (a.put o.dst undef)
def NG(P:Program)(md:Region.Mode)(ops:Array Oper)(C:Array Bool->ag->Prop)(Q:Act->Prop):aa->Array Bool->Act->Prop
 |0,listed,a=>Region.ready md ops listed=[]/\Q a
 |f+1,listed,a=>(Region.ready md ops listed=[]->Q a)/\∀i∈Region.ready md ops listed,vg P ops C i (NG P md ops C Q f (listed.setIfInBounds i true)) a
def aqM{o:Oper}{i:aa}{a:Act}{L:Array Bool}{K:Act->Prop}{K4:Act->ag->Prop}{Q':Exit->Act->ag->Prop}{w:ag}(hw:C L w)(h:∀a w',C (L.setIfInBounds i true) w'->K a->K4 a w')(aT:Yn P o i a C K):o.wp P a w K4 Q':=by
 obtain⟨v,ab,ad⟩:=aT;have ao:=ab L w hw;unfold Eo at ao;unfold Oper.wp;generalize (execOp a.eval o).run P w=r at*
 cases r with
 |ok n w'=>
  cases n<;>simp only[NH]at ao<;>simp only[Oper.upon]
  case value u=>
   rw[ao.2];exact h _ _ ao.1 ad
  case skip=>
   rw[<-ao.2];exact h _ _ ao.1 ad
  case enter f args=>
   obtain⟨aQ,aq⟩:=ao;rw[aQ];exact aq.mono λe C6⟨he,alb⟩=>by subst he;exact h _ _ alb ad
 |halt x w'=>simp only[NH]at ao
theorem ZH{Q:Act->Prop}{Q':Exit->Act->ag->Prop}(cL:∀L a w,Region.ready md ops L=[]->C L w->Q a->Q' .normal a w):∀(f:aa)(listed:Array Bool)(a:Act)(w:ag),C listed w->NG P md ops C Q f listed a->wpAny P md ops Q' f listed a w
 |0,_,_,_,hw,h=>⟨h.1,cL _ _ _ h.1 hw h.2⟩
 |f+1,listed,a,w,hw,h=>⟨λar=>cL _ _ _ ar hw (h.1 ar),λi aD=>by
  have aT:=h.2 i aD;obtain⟨-,o,aA,-⟩:=mem_ready.1 aD;unfold vg at aT;unfold wpOp;simp only[aA]at aT⊢;split
  .rename_i aj;simp only[aj,k3]at aT;exact .inl (aqM hw (λfI w' s_=>ZH cL f _ fI w' s_) aT)
  .rename_i aj;simp only[aj]at aT;exact ZH cL f _ _ _ (aT.1 _ _ hw) aT.2⟩
def Ep(P:Program)(ops:Array Oper)(C:Array Bool->ag->Prop)(o:Oper)(i:aa)(v:ak)(a:Act):Prop:=
 (Region.wanted o (yielded ops a.tmps)=true/\∀L w,C L w->Eo P o a (C (L.setIfInBounds i true)) w v)\/(Region.wanted o (yielded ops a.tmps)=false/\idle C i/\v=undef)
def Ep.op{i:aa}{o:Oper}{v:ak}{a:Act}(aD:ops[i]?=some o)(bZ:Ep P ops C o i v a){K:Act->Prop}(h:K (a.put o.dst v)):vg P ops C i K a:=by
 unfold vg;simp only[aD];rcases bZ with⟨hw,aK⟩|⟨hw,hid,rfl⟩
 .simp only[hw,k3];exact⟨v,aK,h⟩
 .simp only[hw,A7,sx];exact⟨hid,h⟩
def amv{i:aa}{o:Oper}{a:Act}{K:Act->Prop}(aD:ops[i]?=some o)(h:vg P ops C i K a):∃v,Ep P ops C o i v a/\K (a.put o.dst v):=by
 unfold vg at h;simp only[aD]at h;by_cases hw:Region.wanted o (yielded ops a.tmps)=true
 .simp only[hw,k3]at h;obtain⟨v,ab,ad⟩:=h;exact⟨v,.inl ⟨hw,ab⟩,ad⟩
 .simp only[hw]at h;exact⟨undef,.inr ⟨by simpa using hw,h.1,rfl⟩,h.2⟩
def amu{i j:aa}{nv nw:Oper}{v:ak}(ay:ops[j]?=some nw)(QZ:nv.apart ops nw=true)(GC:∀cs b,nv.op≠ .select cs b)(hsj:∀cs b,nw.op≠ .select cs b){K:Act->Prop}{a:Act}(bZ:Ep P ops C nv i v a)(h:vg P ops C j K (a.put nv.dst v)):vg P ops C j (λfI=>Ep P ops C nv i v fI/\K (fI.put nv.dst v)) a:=by
 obtain⟨ab,ad,ao⟩:=Oper.apart_spec QZ;have keep:∀u,Ep P ops C nv i v (a.put nw.dst u):=λu=>by
  have aQ:=execOp_put nv GC a nw.dst u ao;have a_:=wanted_put nv a nw.dst u ao;unfold Ep Eo at*;rw[aQ,a_];exact bZ
 unfold vg at*;simp only[ay]at*;rw[wanted_put nw a nv.dst v ab]at h;split
 .rename_i hw;simp only[hw,k3]at h;obtain⟨u,hu,aH⟩:=h;refine⟨u,λL w s_=> ?_,keep u,by rw[<-Act.put_comm a v u ad];exact aH⟩;have:=hu L w s_;unfold Eo at*;rwa [execOp_put nw hsj a nv.dst v ab]at this
 .rename_i hw;simp only[hw]at h;exact⟨h.1,keep _,by rw[<-Act.put_comm a v undef ad];exact h.2⟩
def ams{Q:Act->Prop}{i:aa}{nv:Oper}{v:ak}(aD:ops[i]?=some nv)(rB:∀(j:aa)(o:Oper)cs b,ops[j]?=some o->o.op≠ .select cs b):
  ∀(f:aa)(listed:Array Bool)(a:Act),
   (∀j nw,ops[j]?=some nw->j≠i->listed.getD j true=false->(∀e∈nw.after,Region.binds md e=true->e.on≠i)->nv.apart ops nw=true)->
   i∈Region.ready md ops listed->Ep P ops C nv i v a->
   NG P md ops C Q f (listed.setIfInBounds i true) (a.put nv.dst v)->NG P md ops C Q (f+1) listed a:=by
 intro f;induction f with
 |zero=>
  intro listed a _ aC bZ H;refine⟨λh=>(by rw[h]at aC;cases aC),λj ay=> ?_⟩;by_cases hH:j=i
  .subst hH;exact bZ.op aD H
  .have:=Ki ay hH;rw[H.1]at this
   cases this
 |succ f bO=>
  intro listed a MT aC bZ H;refine⟨λh=>(by rw[h]at aC;cases aC),λj ay=> ?_⟩;by_cases hH:j=i
  .subst hH;exact bZ.op aD H
  .have ab:=H.2 j (Ki ay hH);obtain⟨M3,nw,Gx,iK⟩:=mem_ready.1 ay;have Gu:∀e∈nw.after,Region.binds md e=true->e.on≠i:=λe he af heq=>by
    have ab:=iK e he af;rw[heq,getD_both (mem_ready.1 aC).1]at ab
    cases ab
   have ad:=amu Gx (MT j nw Gx hH M3 Gu) (λcs b=>rB i nv cs b aD) (λcs b=>rB j nw cs b Gx) bZ ab;have WW:∀k ok,ops[k]?=some ok->k≠i->(listed.setIfInBounds j true).getD k true=false->
     (∀e∈ok.after,Region.binds md e=true->e.on≠i)->nv.apart ops ok=true:=λk ok ai lF tZ fK=>by
    refine MT k ok ai lF ?_ fK;by_cases Eb:j=k
    .subst Eb;exact M3
    .rw[getD_set_ne true Eb]at tZ;exact tZ
   refine amt (λfI ao=>bO (listed.setIfInBounds j true) fI WW (Ki aC (vB hH)) ao.1 ?_) ad;rw[Array.setIfInBounds_comm _ _ hH];exact ao.2
theorem adf{Q:Act->Prop}(aO:Region.noSelect ops=true):∀(l:List Oper)(k:aa)(listed:Array Bool)(a:Act),(∀j,l[j]?=ops[k+j]?)->
  Region.lexFrom md ops l k listed=true->t_ P ops C Q k l a->NG P md ops C Q l listed a
 |[],_,_,_,_,bc,h=>⟨by simpa[Region.lexFrom] using bc,h⟩
 |o::l,k,listed,a,av,bc,h=>by
  have ar:ops[k]?=some o:=by simpa using (av 0).symm
  simp only[hi,Region.lexFrom,nB]at bc;obtain⟨⟨aC,bV⟩,Mj⟩:=bc;have dH:vg P ops C k (t_ P ops C Q (k+1) l) a:=by unfold vg;simp only[ar];exact h
  obtain⟨v,bZ,ax⟩:=amv ar dH;exact ams ar (Region.noSelect_spec aO) l listed a (Region.free_spec ar bV) (by simpa using aC) bZ
   (adf aO l (k+1) _ _ (λj=>by have:=av (j+1);simpa[Hl,Nat.add_comm 1 j] using this) Mj ax)
def adU(md:Region.Mode)(ops:Array Oper):Bool:=(List.range ops.size).all λk=>match ops[k]? with
 |none=>true
 |some o=>o.after.all λe=> !Region.binds md e||decide (e.on<k)
def ag4(aA:adU md ops=true){L:Array Bool}(bP:L.size=ops.size)(h:Region.ready md ops L=[]):∀i,i<ops.size->L.getD i false=true:=by
 intro i;induction i using Nat.strongRecOn with
 |ind i bO=>
  intro aD
  cases af:L.getD i false with
  |true=>rfl
  |false=>
   exfalso;have aE:L.getD i true=false:=by
    have Ea:i<L.size:=by omega
    simp only[Array.getD,Ea,dite_true]at af⊢;exact af
   have mR:i∈Region.ready md ops L:=mem_ready.2 ⟨aE,ops[i],J9 aD,λe he xr=>by
    have ab:=Tp.1 aA i (me.2 aD);rw[J9 aD]at ab;simp only[Array.all_eq_true_iff_forall_mem]at ab;have ad:e.on<i:=by simpa[xr] using ab e he
    exact bO e.on ad (by omega)⟩
   rw[h]at mR
   cases mR
def C8{id:aa}{Q:Exit->Act->ag->Prop}{a:Act}{w:ag}{l:List Oper}(hm:P.follows .mixedOrders=true)(bc:Region.lexB .any l.toArray=true)(aA:adU .any l.toArray=true)(bP:∀L w,C L w->L.size=l.length)(hC:C (Array.replicate l false) w.drew)(h:t_ P l.toArray C (λfI=>∀L w',(∀i,i<l.length->L.getD i false=true)->C L w'->Q .normal fI w') 0 l a):
  (Code.region id l.toArray true).wp P Q a w:=by
 simp only[Region.lexB,nB]at bc;refine wp_region_any hm (ZH (Q:=λfI=>∀L w',(∀i,i<l.length->L.getD i false=true)->C L w'->Q .normal fI w') (C:=C) (λL _ w' ar s_ h=>h L w' (λi aD=>ag4 aA (by rw[bP L w' s_];simp) ar i (by simpa using aD)) s_) _ _ _ _ (by simpa using hC) ?_);have:=adf (C:=C) (md:= .any) bc.1 l 0 (Array.replicate l.toArray.size false) a (by simp) (by simpa using bc.2) h;simpa using this
end
abbrev kQ:=aa×aa×dC×Array ak
structure h9(W0:ag)(n:aa)(S:List kQ)(L:Array Bool)(w:ag):Prop where
 zg:L.size=n
 os:w.os=W0.os
 tape:w.tape=W0.tape
 output:w.output=W0.output
 size:W0<=w.heap.size
 block:∀b,b<W0.heap.size->(∀s∈S,b≠s.2.1)->w.heap[b]?=W0.heap[b]?
 own:∀s∈S,∃cs,aB w s.2.1 s.2.2.1 cs/\cs.size=s.2.2.2.size/\(L.getD s.1 false=true->cs=s.2.2.2)
structure fb(W0:ag)(n:aa)(S:List kQ) where
 W:ag
 L:Array Bool
 h:h9 W0 n S L W
section
variable {P:Program} {ops:Array Oper} {W0:ag} {n:aa} {S:List kQ}
def abX{L:Array Bool}{i j:aa}(h:i≠j):(L.setIfInBounds i true).getD j false=L.getD j false:=getD_set_ne false h
def h9.idle{i:aa}(aD:∀s∈S,s.1≠i):idle (h9 W0 n S) i:=λL w h=>
 ⟨by rw[Tf];exact h.zg,h.os,h.tape,h.output,h.size,h.block,λs aO=>by
  obtain⟨cs,ab,ad,ao⟩:=h.own s aO;exact⟨cs,ab,ad,λbE=>ao (by rwa [abX (vB (aD s aO))]at bE)⟩⟩
def h9.start(bH:∀s∈S,∃cs,aB W0 s.2.1 s.2.2.1 cs/\cs.size=s.2.2.2.size):h9 W0 n S (Array.replicate n false) W0.drew:=
 ⟨by simp,rfl,rfl,rfl,bB _,λ_ _ _=>rfl,λs aO=>by
  obtain⟨cs,ab,ad⟩:=bH s aO;refine⟨cs,ab,ad,λh=> ?_⟩;simp only[Array.getD,Array.size_replicate]at h;split at h<;>simp at h⟩
theorem fb.ne(bH:∀s∈S,∃cs,aB W0 s.2.1 s.2.2.1 cs/\cs.size=s.2.2.2.size):Nonempty (fb W0 n S):=⟨⟨W0.drew,_,h9.start bH⟩⟩
def fb.cell{b o:aa}{v:ak}(bU:∀s∈S,b≠s.2.1)(af:b<W0)(aq:aU W0 (b,o)=some v)(x:fb W0 n S):x.W.cell? (b,o)=some v:=by
 rw[Db (a:=⟨b,o,none⟩) (x.h.block b af bU)];exact aq
def h9.kept{L:Array Bool}{w w':ag}(h:h9 W0 n S L w')(ai:Kept w W0)(al:∀s∈S,w.heap.size<=s.2.1):Kept w w':=
 ⟨h.os.trans ai.os,h.tape.trans ai.tape,h.output.trans ai.output,fN ai.size h.size,λb af=>(h.block b (bG af ai.size) (λs aO=>by have:=al s aO;omega)).trans (ai.block b af)⟩
def h9.new{L:Array Bool}{w':ag}(h:h9 W0 n S L w')(bE:∀i,i<n->L.getD i false=true){s:kQ}(aO:s∈S)(aH:s.1<n):aB w' s.2.1 s.2.2.1 s.2.2.2:=by
 obtain⟨cs,ab,-,ao⟩:=h.own s aO;rw[ao (bE _ aH)]at ab;exact ab
theorem p8{Q:Act->Prop}:∀(bq r:List Oper)(k:aa)(a:Act),bq.all (λo=>YR o.op)=true->(∀s∈S,s.1<k\/k+bq.length<=s.1)->
  wpQuiet P ops (λw'=>∃x:fb W0 n S,w'=x.W) (λa=>t_ P ops (h9 W0 n S) Q (k+bq.length) r a) bq a->t_ P ops (h9 W0 n S) Q k (bq++r) a
 |[],r,k,a,_,_,h=>h
 |o::bq,r,k,a,hp,bH,h=>by
  rw[List.cons_append];rw[Hm,nB]at hp;have hid:idle (h9 W0 n S) k:=h9.idle λs aO=>by have:=bH s aO;rw[hi]at this;omega
  have D3:∀s∈S,s.1<k+1\/k+1+bq.length<=s.1:=λs aO=>by have:=bH s aO;rw[hi]at this;omega
  have e:k+(o::bq).length=k+1+bq.length:=by rw[hi];omega
  rw[e]at h;unfold wpQuiet at h;unfold t_;split
  .rename_i hw;rw[aP hw]at h;obtain⟨v,ab,ad⟩:=h;refine⟨v,λL w bE=> ?_,p8 bq r (k+1) _ hp.2 D3 ad⟩;have ao:=ab w ⟨⟨w,L,bE⟩,rfl⟩;unfold Oper.quietAt at ao;unfold Eo;have aR:=λf args w'=>anF (P:=P) hp.1 (r:=a.eval) (w:=w) (w':=w') (f:=f) (args:=args);generalize (execOp a.eval o).run P w=q at*
   cases q with
   |ok Sn w'=>
    cases Sn<;>simp only[Oper.quietUpon]at ao<;>simp only[NH]
    case value u=>exact⟨ao.1▸hid L w bE,ao.2⟩
    case skip=>exact⟨ao.1▸hid L w bE,ao.2⟩
    case enter f args=>exact (aR f args w' rfl).elim
   |halt x w'=>simp only[Oper.quietUpon]at ao
  .rename_i hw;rw[aw hw]at h;exact⟨hid,p8 bq r (k+1) _ hp.2 D3 h⟩
theorem Za(g b:aa)(h:b≠g):∀(cs:dN)(o:aa)(w:ag),(w.setCells g o cs).heap[b]?=w.heap[b]?
 |[],_,_=>rfl
 |c::cs,o,w=>(Za g b h cs (o+1) _).trans (jQ w (g,o) c b h)
theorem aeD(g:aa):∀(cs:dN)(o:aa)(w:ag),(w.setCells g o cs).os=w.os/\(w.setCells g o cs).tape=w.tape/\(w.setCells g o cs).output=w.output/\(w.setCells g o cs).heap.size=w.heap.size
 |[],_,_=>⟨rfl,rfl,rfl,rfl⟩
 |c::cs,o,w=>by
  obtain⟨ab,ad,ao,aR⟩:=aeD g cs (o+1) (w.setCell ⟨g,o,none⟩ c);exact⟨ab.trans rfl,ad.trans rfl,ao.trans rfl,aR.trans (by simp)⟩
theorem aeC{g:aa}{t:dC}:∀(cs pre old:dN)(w:ag),aB w g t (pre++old).toArray->old.length=cs.length->aB (w.setCells g pre cs) g t (pre++cs).toArray
 |[],pre,old,w,h,av=>by
  have:old=[]:=oC.1 av;subst this;exact h
 |c::cs,pre,old,w,h,av=>by
  cases old with
  |nil=>cases av
  |cons j0 old=>
   have ab:=h.ba pre c;have e:((pre++j0::old).toArray.setIfInBounds pre c)=((pre++[c])++old).toArray:=by simp
   rw[e]at ab;have ad:=aeC cs (pre++[c]) old _ ab (by simpa using av);rw[fk,sy,nY]at ad;exact ad
def CJ{C:Array Bool->ag->Prop}{Q:Act->Prop}{k:aa}{a:Act}(h:Q a):t_ P ops C Q k [] a:=h
def rb(S:List kQ):Prop:=S.Pairwise (λa b=>a.1≠b.1/\a.2.1≠b.2.1)
theorem rb.apart:∀{S:List kQ},rb S->∀x∈S,∀s∈S,s≠x->s.1≠x.1/\s.2.1≠x.2.1
 |[],_,x,aj,_,_,_=>by cases aj
 |y::S,h,x,aj,s,aO,bU=>by
  obtain⟨ab,ad⟩:=List.pairwise_cons.1 h;rcases fM.1 aj with aQ|aQ<;>rcases fM.1 aO with a_|a_
  .exact absurd (a_.trans aQ.symm) bU
  .subst aQ;exact⟨(ab s a_).1.symm,(ab s a_).2.symm⟩
  .subst a_;exact ab x aQ
  .exact rb.apart ad x aQ s a_ bU
def rF{Q:Act->Prop}{o:Oper}{r:List Oper}{k:aa}{a:Act}{ty T:dC}{x y:Operand}{g:aa}{cs:dN}(aO:((k,g,T,cs.toArray):kQ)∈S)(hu:∀s∈S,s≠(k,g,T,cs.toArray)->s.1≠k/\s.2.1≠g)(hw:Region.wanted o (yielded ops a.tmps)=true)(aE:o.dst=none)(aA:o.op= .store ty x y)(aj:a.eval x= .pointer (some (g,0)))(bZ:a.eval y=aF cs.toArray)(aD:(P.info? ty).map (·.size)=some cs.length)(ab:cs.all (·.oneCell')=true)(h:t_ P ops (h9 W0 n S) Q (k+1) r a):t_ P ops (h9 W0 n S) Q k (o::r) a:=by
 unfold t_;rw[aP hw];have he:a.put o.dst undef=a:=by rw[aE];rfl
 refine⟨undef,λL w bE=> ?_,by rw[he];exact h⟩;obtain⟨old,bc,bP,-⟩:=bE.own _ aO;simp only at bc bP;have XV:old.toList.length=cs.length:=by simpa using bP
 have cr:w.there g 0 cs.toArray.size:=λj ay=>by
  rw[ql,bc.cell,bc.frozen];refine⟨?_,rfl⟩;have:j<old.size:=by rw[bP];exact ay
  rw[J9 this];rfl
 unfold Eo execOp;have a6:=run_storeAt_mid (P:=P) w g 0 ty cs.toArray cr (by simpa using aD) (by simpa using ab);simp only[aA,aj,bZ,OE,OD,a6,Result.andThen_ok];refine⟨?_,rfl⟩;obtain⟨aQ,a_,cv,h_⟩:=aeD g cs 0 w;have hBn:aB (w.setCells g 0 cs) g T cs.toArray:=by
  have:=aeC (t:=T) cs [] old.toList w (by simpa using bc) XV;simpa using this
 refine⟨by rw[Tf];exact bE.zg,aQ.trans bE.os,a_.trans bE.tape,cv.trans bE.output,by simp only[h_];exact bE.size,λb af bU=>(Za g b (bU _ aO) cs 0 w).trans (bE.block b af bU),λs Jl=> ?_⟩;by_cases hse:s=(k,g,T,cs.toArray)
 .subst hse;exact⟨_,hBn,rfl,λ_=>rfl⟩
 .obtain⟨ai,al⟩:=hu s Jl hse;obtain⟨a',g1,g2,g3⟩:=bE.own s Jl;exact⟨a',(Za g s.2.1 al cs 0 w).trans g1,g2,λav=>g3 (by rwa [abX (vB ai)]at av)⟩
structure Bv(X:ag) where
 W:ag
 h:W=X
instance (X:ag):Nonempty (Bv X):=⟨⟨X,rfl⟩⟩
def Bv.pure{f:FuncId}{args:ho}{X:ag}{x:Bv X}{v:ak}(h:Calls P f args x.W λe w'=>e=bL v/\x.W=w'):Calls P f args x.W λe C6=>e=bL v/\∃y:Bv X,C6=y.W:=
 h.mono λ_ _⟨he,ai⟩=>⟨he,x,ai.symm⟩
def Yo{Q:Act->Prop}{o:Oper}{r:List Oper}{k:aa}{a a2:Act}(v:ak)(ai:∀s∈S,s.1≠k)(hw:Region.wanted o (yielded ops a.tmps)=true)(ab:∀X:ag,wpQuiet P ops (λw'=>∃x:Bv X,w'=x.W) (λfI=>fI=a2) [o] a)(akH:∀u,a.put o.dst u=a2->u=v)(h:t_ P ops (h9 W0 n S) Q (k+1) r a2):t_ P ops (h9 W0 n S) Q k (o::r) a:=by
 have key:∀X:ag,(o.quietAt P a (λw'=>∃x:Bv X,w'=x.W) X v)/\a.put o.dst v=a2:=λX=>by
  have ad:=ab X;unfold wpQuiet at ad;rw[aP hw]at ad;obtain⟨u,bd,a8⟩:=ad;have dI:a.put o.dst u=a2:=a8;have e:=akH u dI;subst e;exact⟨bd X ⟨⟨X,rfl⟩,rfl⟩,dI⟩
 unfold t_;rw[aP hw];refine⟨v,λL w bE=> ?_,by rw[(key W0).2];exact h⟩;have ao:=(key w).1;unfold Oper.quietAt at ao;unfold Eo;have hid:=h9.idle (W0:=W0) (n:=n) ai;generalize (execOp a.eval o).run P w=q at*
 cases q with
 |ok Sn w'=>
  cases Sn<;>simp only[Oper.quietUpon]at ao<;>simp only[NH]
  case value u=>exact⟨ao.1▸hid L w bE,ao.2⟩
  case skip=>exact⟨ao.1▸hid L w bE,ao.2⟩
  case enter f args=>
   obtain⟨aQ,aq⟩:=ao;refine⟨aQ,aq.mono ?_⟩;rintro e C6⟨he,⟨y,bZ⟩⟩;exact⟨he,by rw[bZ,y.h];exact hid L w bE⟩
 |halt x w'=>simp only[Oper.quietUpon]at ao
end
end Go.Proofs.YtilhklpfkgbikaaGreatDoor
