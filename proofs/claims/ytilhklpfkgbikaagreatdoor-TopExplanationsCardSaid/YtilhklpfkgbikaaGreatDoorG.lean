import Derived.Test.YtilhklpfkgbikaaGreatDoorE
import Derived.Deep.AppendSrc
import Derived.Deep.Upon
import Derived.Deep.DeepCutAuto
set_option linter.all false
namespace Go.Proofs.YtilhklpfkgbikaaGreatDoor
open Go.RowKit Go.Proofs.Tryz
set_option maxRecDepth 100000
set_option maxHeartbeats 8000000
def vf(c:UInt8):Bool:=decide (97<=c.toNat)&&decide (c.toNat<=122)
def ts(c:UInt8):Bool:=vf c||(AJ c||decide (c.toNat=95))
def pv(p:UInt8->Bool):List UInt8->aa
 |[]=>0
 |c::r=>if p c then pv p r+1 else 0
def amc(p:UInt8->Bool)(l:List UInt8):pv p l<=l.length:=by
 induction l with
 |nil=>exact bB _
 |cons c r bO=>
  rw[pv];split
  .rw[hi];omega
  .exact d' _
def ama{p:UInt8->Bool}{l:List UInt8}:(l.take (pv p l)).all p=true:=by
 induction l with
 |nil=>rfl
 |cons c r bO=>
  rw[pv];by_cases hp:p c=true
  .rw[aP hp,sz,Hm,hp,bO];rfl
  .rw[aw hp];rfl
def amb{p:UInt8->Bool}{a b:List UInt8}(bD:a.all p=true)(af:b.head?=none\/∃c,b.head?=some c/\p c=false):pv p (a++b)=a.length:=by
 induction a with
 |nil=>
  cases b with
  |nil=>rfl
  |cons c r=>
   rcases af with af|⟨d,aE,hp⟩
   .cases af
   .have:c=d:=cJ aE;subst this;rw[qj,pv,hp];rfl
 |cons c r bO=>
  simp only[Hm,nB]at bD;rw[List.cons_append,pv,aP bD.1,bO bD.2,hi]
def JD(c:UInt8)(w:ag):bg 110 #[.int .u8 c.toNat] w λe w'=>e=bL (bR (vf c))/\w=w':=by
 by_cases h:97<=c.toNat
 .have aX:=I (show vf c=decide ((c.toNat:J)<=122) by simp[vf,h];omega);go_enter func110,ntmps110
  go_wp2_with fail
  go_ret;exact⟨fG aX.symm,rfl⟩
 .have aX:=I (show vf c=false by simp[vf,h]);go_enter func110,ntmps110
  go_wp2_with fail
  go_ret;exact⟨fG aX.symm,rfl⟩
def ac8(c:UInt8)(w:ag):bg 139 #[.int .u8 c.toNat] w λe w'=>e=bL (bR (AJ c))/\w=w':=by
 by_cases h:48<=c.toNat
 .have aX:=I (show AJ c=decide ((c.toNat:J)<=57) by simp[AJ,h];omega);go_enter func139,ntmps139
  go_wp2_with fail
  go_ret;exact⟨fG aX.symm,rfl⟩
 .have aX:=I (show AJ c=false by simp[AJ,h]);go_enter func139,ntmps139
  go_wp2_with fail
  go_ret;exact⟨fG aX.symm,rfl⟩
def ame{p:UInt8->Bool}{s:ez}{i n k:aa}(aD:i<s.size)(hp:p (s[i]'aD)=true)(h:n=k+pv p ((L s).drop i)):n=k+1+pv p ((L s).drop (i+1)):=by
 rw[h,aaw s i aD,pv,aP hp];omega
def amf{p:UInt8->Bool}{s:ez}{i n k:aa}(aD:i<s.size)(hp:p (s[i]'aD)=false)(h:n=k+pv p ((L s).drop i)):n=k:=by
 rw[h,aaw s i aD,pv,hp];rfl
def amd{p:UInt8->Bool}{s:ez}{i n k:aa}(aD:¬i<s.size)(h:n=k+pv p ((L s).drop i)):n=k:=by
 rw[h,List.drop_of_length_le (by rw[DB];omega)];rfl
def aqJ(c:UInt8):(vf c=true/\ts c=true)\/(vf c=false/\AJ c=true/\ts c=true)\/(vf c=false/\AJ c=false/\((c.toNat:J)==95)=true/\ts c=true)\/(vf c=false/\AJ c=false/\((c.toNat:J)==95)=false/\ts c=false):=by
 have e:((c.toNat:J)==95)=decide (c.toNat=95):=by
  rw[nZ,beq_iff_eq,gg];omega
 unfold ts;rw[e]
 cases vf c<;>cases AJ c<;>cases decide (c.toNat=95)<;>simp
def amS(s:ez)(aO:s.size<=140737488355328)(w:ag):
  bg 111 #[s] w λe w'=>e=bL (ah (pv ts (L s)))/\w=w':=by
 go_enter func111,ntmps111
 go_wp2_with fail
 go_loop [3] (λx=>∃k:aa,x=ah (k:J)/\k<=s.size/\pv ts (L s)=k+pv ts ((L s).drop k)) (λx=>s.size-(intOf x).toNat)
 case atStart=>exact⟨0,rfl,d' _,by simp⟩
 case round=>
  obtain⟨k,rfl,ai,aC⟩:=hrel;by_cases aN:k<s.size
  .rcases aqJ (s[k]'aN)with⟨ab,ad⟩|⟨ar,ab,ad⟩|⟨ar,ab,ao,ad⟩|⟨ar,ab,ao,ad⟩
   iterate 3
    .have aX:=I (ame aN ad aC);clear aC ad;go_wp2_with (first|(go_at_call 139;refine (ac8 _ _).mono ?_;rintro e w'⟨rfl,rfl⟩)|(go_at_call 110;refine (JD _ _).mono ?_;rintro e w'⟨rfl,rfl⟩))
     go_round
     case rel=>exact⟨k+1,by go_num,aN,aX⟩
     case measure=>simp[intOf];omega
   .have aX:=I (amf aN ad aC);clear aC ad;go_wp2_with (first|(go_at_call 139;refine (ac8 _ _).mono ?_;rintro e w'⟨rfl,rfl⟩)|(go_at_call 110;refine (JD _ _).mono ?_;rintro e w'⟨rfl,rfl⟩))
    go_ret;exact⟨xP (by rw[aX]),rfl⟩
  .have aX:=I (amd aN aC);clear aC;go_wp2_with fail
   go_ret;exact⟨xP (by rw[aX]),rfl⟩
def aef:List (List UInt8):=[[105,102],
 [116,104,101,110],
 [101,108,115,101],
 [111,114],
 [97,110,100],
 [110,111,116],
 [116,114,117,101],
 [102,97,108,115,101],
 [116,111,100,97,121],
 [115,104,97,114,101],
 [100,105,118],
 [114,111,117,110,100],
 [109,105,110],
 [109,97,120],
 [112,108,117,115],
 [109,111,110,116,104,115],
 [100,97,121,115],
 [121,101,97,114,115],
 [121,101,97,114],
 [109,111,110,116,104],
 [116,97,98],
 [98,97,110,100],
 [99,111,117,110,116],
 [115,117,109],
 [97,108,108],
 [97,110,121],
 [109,111,115,116],
 [101,110,117,109],
 [116,97,98,108,101],
 [114,111,119],
 [115,99,111,112,101],
 [109,101,109,98,101,114,115],
 [105,110,112,117,116],
 [100,101,102],
 [114,117,108,101],
 [111,102],
 [111,118,101,114],
 [112,114,105,111],
 [102,114,111,109],
 [116,111],
 [101,110,100],
 [119,104,101,110],
 [105,115],
 [115,114,99],
 [98,111,111,108],
 [105,110,116],
 [109,111,110,101,121],
 [114,97,116,101],
 [100,97,116,101],
 [100,111,119,110],
 [117,112],
 [122,101,114,111],
 [97,119,97,121],
 [104,97,108,102],
 [101,118,101,110]]
def EH(l:List UInt8):Bool:=aef.contains l
def an4(s:ez):EH (L s)=((s.toList==[105,102])||((s.toList==[116,104,101,110])||((s.toList==[101,108,115,101])||((s.toList==[111,114])||((s.toList==[97,110,100])||((s.toList==[110,111,116])||((s.toList==[116,114,117,101])||((s.toList==[102,97,108,115,101])||((s.toList==[116,111,100,97,121])||((s.toList==[115,104,97,114,101])||((s.toList==[100,105,118])||((s.toList==[114,111,117,110,100])||((s.toList==[109,105,110])||((s.toList==[109,97,120])||((s.toList==[112,108,117,115])||((s.toList==[109,111,110,116,104,115])||((s.toList==[100,97,121,115])||((s.toList==[121,101,97,114,115])||((s.toList==[121,101,97,114])||((s.toList==[109,111,110,116,104])||((s.toList==[116,97,98])||((s.toList==[98,97,110,100])||((s.toList==[99,111,117,110,116])||((s.toList==[115,117,109])||((s.toList==[97,108,108])||((s.toList==[97,110,121])||((s.toList==[109,111,115,116])||((s.toList==[101,110,117,109])||((s.toList==[116,97,98,108,101])||((s.toList==[114,111,119])||((s.toList==[115,99,111,112,101])||((s.toList==[109,101,109,98,101,114,115])||((s.toList==[105,110,112,117,116])||((s.toList==[100,101,102])||((s.toList==[114,117,108,101])||((s.toList==[111,102])||((s.toList==[111,118,101,114])||((s.toList==[112,114,105,111])||((s.toList==[102,114,111,109])||((s.toList==[116,111])||((s.toList==[101,110,100])||((s.toList==[119,104,101,110])||((s.toList==[105,115])||((s.toList==[115,114,99])||((s.toList==[98,111,111,108])||((s.toList==[105,110,116])||((s.toList==[109,111,110,101,121])||((s.toList==[114,97,116,101])||((s.toList==[100,97,116,101])||((s.toList==[100,111,119,110])||((s.toList==[117,112])||((s.toList==[122,101,114,111])||((s.toList==[97,119,97,121])||((s.toList==[104,97,108,102])||((s.toList==[101,118,101,110])))))))))))))))))))))))))))))))))))))))))))))))))))))))):=by
 rw[G_];simp only[EH,aef,List.contains_cons,List.contains_nil,Bool.or_false]
def an6(s:ez)(w:ag):
  bg 112 #[s] w λe w'=>e=bL (bR (EH (L s)))/\w=w':=by
 have eb:=I (an4 s);generalize EH (L s)=R at*;go_enter func112,ntmps112
 go_wp2_with fail
 all_goals first
  |(rename_i a b;rw[a]at b;exact absurd b (by decide))
  |(go_ret;exact⟨fG (by rw[eb];simp[*]),rfl⟩)
def R8(l:List UInt8):Bool:=match l.head? with
 |some c=>vf c
 |none=>false
def nP(l:List UInt8):Bool:=decide (0<l.length)&&(decide (l.length<=16)&&(R8 l&&(l.all ts&& !EH l)))
def al9(p:UInt8->Bool)(l:List UInt8):pv p l=l.length↔l.all p=true:=by
 constructor
 .intro h;have:=ama (p:=p) (l:=l);rwa [h,x3]at this
 .intro h;have:=amb (p:=p) (a:=l) (b:=[]) h (.inl rfl);simpa using this
def Nv(s:ez)(aO:s.size<=140737488355328)(w:ag):
  bg 82 #[s] w λe w'=>e=bL (bR (nP (L s)))/\w=w':=by
 have hid:nP (L s)=(decide (0<s.size)&&(decide (s.size<=16)&&(R8 (L s)&&((L s).all ts&& !EH (L s))))):=rfl;by_cases ar:0<s.size
 .have tW:R8 (L s)=vf (s[0]'ar):=by
   unfold R8;rw[List.head?_eq_getElem?,aax s 0 ar]
  have bU:(s.toList !=[])=true:=by
   rw[G_,bne_iff_ne];intro e;have:=congrArg List.length e;rw[DB,sB]at this;omega
  have Rs:(s.toList==[])=false:=by
   rw[G_,beq_eq_false_iff_ne];intro e;have:=congrArg List.length e;rw[DB,sB]at this;omega
  have uU:=al9 ts (L s);rw[DB]at uU;have b3:=I (λw=>amS s aO w);have o_:=I (λw=>an6 s w);have QE:(0:J)<s.size:=by omega
  rw[tW,jR ar]at hid;have hle:=amc ts (L s);rw[DB]at hle
  cases av:vf (s[0]'ar)
  .have aX:=I (show nP (L s)=false by rw[hid,av];simp);clear hid tW uU;go_enter func82,ntmps82
   go_wp2_with (go_at_call 110;refine (JD _ _).mono ?_;rintro e w'⟨rfl,rfl⟩)
   go_ret;exact⟨fG aX.symm,rfl⟩
  .by_cases hw:pv ts (L s)=s.size
   .rw[av,uU.1 hw]at hid;rw[hw]at b3;have aX:=I (show nP (L s)=(decide (s.size<=16)&& !EH (L s)) by rw[hid];simp);generalize EH (L s)=R at*;by_cases V8:s.size<=16
    .have ajD:(s.size:J)<=16:=by omega
     have jH:=I (show nP (L s)= !R by rw[aX,jR V8];rfl);clear hid tW uU hw
     cases R
     all_goals
      go_enter func82,ntmps82
      go_wp2_with (first
       |(go_at_call 110;refine (JD _ _).mono ?_;rintro e w'⟨rfl,rfl⟩)
       |(go_at_call 111;refine (b3 _).mono ?_;rintro e w'⟨rfl,rfl⟩)
       |(go_at_call 112;refine (o_ _).mono ?_;rintro e w'⟨rfl,rfl⟩))
      go_ret;exact⟨fG jH.symm,rfl⟩
    .have ajD:¬((s.size:J)<=16):=by omega
     have jH:=I (show nP (L s)=false by rw[aX,jC V8];rfl);clear hid tW uU hw;go_enter func82,ntmps82
     go_wp2_with (first
      |(go_at_call 110;refine (JD _ _).mono ?_;rintro e w'⟨rfl,rfl⟩)
      |(go_at_call 111;refine (b3 _).mono ?_;rintro e w'⟨rfl,rfl⟩)
      |(go_at_call 112;refine (o_ _).mono ?_;rintro e w'⟨rfl,rfl⟩))
     go_ret;exact⟨fG jH.symm,rfl⟩
   .have iK:(L s).all ts=false:=by
     rw[Bool.eq_false_iff];intro e;exact hw (uU.2 e)
    have aX:=I (show nP (L s)=false by rw[hid,iK];simp);have hwb:((pv ts (L s):J)==s.size)=false:=by rw[beq_eq_false_iff_ne];omega
    clear hid tW uU hw iK;generalize pv ts (L s)=n at*;go_enter func82,ntmps82
    go_wp2_with (first
     |(go_at_call 110;refine (JD _ _).mono ?_;rintro e w'⟨rfl,rfl⟩)
     |(go_at_call 111;refine (b3 _).mono ?_;rintro e w'⟨rfl,rfl⟩))
    go_ret;exact⟨fG aX.symm,rfl⟩
 .have aX:=I (show nP (L s)=false by rw[hid,jC ar];rfl);have bP:s.size=0:=by omega
  have bU:(s.toList !=[])=false:=by
   rw[G_,oC.1 (show (L s).length=0 from bP)];rfl
  have Rs:(s.toList==[])=true:=by
   rw[G_,oC.1 (show (L s).length=0 from bP)];rfl
  clear hid bP;go_enter func82,ntmps82
  go_wp2_with fail
  go_ret;exact⟨fG aX.symm,rfl⟩
def xe.strs{w:ag}{v:ak}{xs:gh}(h:xe w v xs):yz w v xs:=by
 obtain⟨A,cap,aK,aq,av,aj⟩:=h;refine⟨A,cap,aK,λhp=> ?_⟩;obtain⟨b,off,a7,af,ef⟩:=aj hp;refine⟨b,off,a7,af,λj ay=> ?_⟩;have al:xs[j]?=some xs[j]:=bn ay;have:=(ef j _ al).1;rw[al];unfold g' at this;rwa [jD]at this
def cO.ms(l:cO):List gh:=l.bs.map (·.mem)
def cO.c2(l:cO):List sP:=l.sc.map λs=>⟨s.ms,s.ins.map λf=>⟨f.k,f.e⟩⟩
def Qw{w:ag}{v:ak}{xs:List pI}(h:c0 2 n2 w v xs):Enums w v (xs.map (·.mem)):=by
 obtain⟨A,cap,aK,aq,av,aj⟩:=h;refine⟨A,cap,by rw[er];exact aK,by rw[er];omega,λhp=> ?_⟩;rw[er]at hp;obtain⟨b,off,a7,af,ef⟩:=aj hp;refine⟨b,off,a7,af,λj l ay=> ?_⟩;rw[hS]at ay;obtain⟨x,al,rfl⟩:=Da.1 ay;obtain⟨-,⟨c1,ab,ad⟩⟩:=ef j x al;obtain⟨_,_,_,_,oq,_⟩:=id ad;exact⟨by omega,c1,ab,ad.strs⟩
def ajl{w:ag}{v:ak}{xs:List mI}(h:c0 3 jt w v xs):wR w v (xs.map λf=>⟨f.k,f.e⟩):=by
 obtain⟨A,cap,aK,aq,av,aj⟩:=h;refine⟨A,cap,by rw[er];exact aK,λhp=> ?_⟩;rw[er]at hp;obtain⟨b,off,a7,af,ef⟩:=aj hp;refine⟨b,off,a7,af,λj l ay=> ?_⟩;rw[hS]at ay;obtain⟨x,al,rfl⟩:=Da.1 ay;obtain⟨-,ab,ad⟩:=ef j x al;exact⟨ab.1,ad.1⟩
def ao1{w:ag}{v:ak}{xs:List cq}(h:c0 5 yy w v xs):DE w v (xs.map λs=>⟨s.ms,s.ins.map λf=>⟨f.k,f.e⟩⟩):=by
 obtain⟨A,cap,aK,aq,av,aj⟩:=h;refine⟨A,cap,by rw[er];exact aK,by rw[er];omega,λhp=> ?_⟩;rw[er]at hp;obtain⟨b,off,a7,af,ef⟩:=aj hp;refine⟨b,off,a7,af,λj l ay=> ?_⟩;rw[hS]at ay;obtain⟨x,al,rfl⟩:=Da.1 ay;obtain⟨-,ab,⟨b7,ad,ao⟩,-⟩:=ef j x al;obtain⟨_,_,_,_,oq,_⟩:=id ao;exact⟨by rw[er];omega,ab.1,b7,ad,ajl ao⟩
def h1.ac2{w:ag}{v:ak}{l:cO}(h:h1 w v l):H3 w v l.ms l.c2:=by
 obtain⟨dw,cM,cH,rfl,ar,ab,ad⟩:=h;obtain⟨At,fS,rfl,-⟩:=id ab;exact⟨dw,At,_,fS,cH,rfl,Qw ar,ao1 ad⟩
def c0.N8{α:Type}{k:aa}{P:ag->aa->aa->α->Prop}{p:ag->aa->aa->Prop}{w:ag}{v:ak}{xs:List α}(h:c0 k P w v xs)(hp:∀b o x,P w b o x->p w b o):sQ w k p v:=by
 obtain⟨A,cap,aK,aq,av,aj⟩:=h;refine⟨A,_,cap,aK,by omega,λxy=> ?_⟩;obtain⟨b,off,a7,af,ef⟩:=aj xy;exact⟨b,off,a7,af,λj ay=>hp _ _ _ (ef j _ (bn ay))⟩
def c0.aoQ{α:Type}{k:aa}{P:ag->aa->aa->α->Prop}{w:ag}{b o:aa}{xs:List α}(h:tI (c0 k P) w b o xs):z_ w b o:=by
 obtain⟨v,ab,⟨A,cap,rfl,_,av,_⟩⟩:=h;exact⟨A,_,cap,ab,by omega⟩
def h1.alT{w:ag}{v:ak}{l:cO}(h:h1 w v l):K_ w v:=by
 obtain⟨dw,cM,cH,rfl,ar,ab,ad⟩:=h;have iA:∀b o(xs:List cw),tI iU w b o xs->z_ w b o:=λb o xs⟨u,ab,⟨A,cap,ad,_⟩,ao,_⟩=>by
  subst ad;exact⟨A,_,cap,ab,by omega⟩
 have v8:∀b o(xs:List mI),tI (c0 3 jt) w b o xs->∃v,aU w ⟨b,o,none⟩=some v/\sQ w 3 lb v:=λb o xs⟨u,ab,ad⟩=>⟨u,ab,ad.N8 (λ_ _ x aj=>⟨x.aM,aj.1.1⟩)⟩;refine⟨dw,cM,cH,rfl,ar.N8 (λ_ _ x aj=>⟨x.aM,aj.1.1⟩),ab.N8 (λ_ _ x aj=>⟨⟨x.aM,aj.1.1⟩,c0.aoQ aj.2.2.2.2.2⟩),ad.N8 (λb o x aj=> ?_)⟩;obtain⟨cK,aY,a',bu,⟨u,b4,b_⟩⟩:=aj;refine⟨⟨x.aM,cK.1⟩,⟨x.ms,aY.1⟩,v8 _ _ _ a',v8 _ _ _ bu,u,b4,b_.N8 (λb o y bZ=> ?_)⟩;obtain⟨d0,d1,d2,d3,d4,d5,d6,d7,d8⟩:=bZ;exact⟨⟨_,d0.1⟩,⟨_,d1.1⟩,⟨_,d2.1⟩,⟨_,d3.1⟩,⟨_,d4.1⟩,⟨_,d5.1⟩,iA _ _ _ d6,iA _ _ _ d7,⟨_,d8.1⟩⟩
def AZ(U:List (J×J))(ns:List cl):aa:=(U.filter λp=> !gf ns p.1 p.2).length
def lM(K:aa)(U:List (J×J))(ns:List cl):aa:=ns.length+K*AZ U ns
def yQ(C:q2)(r:J×J):aa:=if r.1=0\/r.1=1\/r.1=2\/r.1=3 then 1 else C.aM
def tR(C:q2)(l:List (J×J)):aa:=(l.map (yQ C)).sum
def afg(U:List (J×J))(ns s:List cl):AZ U (ns++s)<=AZ U ns:=by
 unfold AZ;induction U with
 |nil=>exact bB _
 |cons p U bO=>
  rw[sA,sA];by_cases h:gf ns p.1 p.2=true
  .rw[h,Gg h];simpa using bO
  .have ec:gf ns p.1 p.2=false:=by simpa using h
   rw[ec];simp only[Bool.not_false,k3];split<;>simp only[hi]<;>omega
def aqm{U:List (J×J)}{ns:List cl}{n:cl}(ji:(n.m,n.cQ)∈U)(aH:gf ns n.m n.cQ=false)(ab:n.k=1):AZ U (ns++[n])+1<=AZ U ns:=by
 have aE:gf (ns++[n]) n.m n.cQ=true:=Gf.2 ⟨n,by simp,ab,rfl,rfl⟩;induction U with
 |nil=>cases ji
 |cons p U bO=>
  unfold AZ at bO⊢;rw[sA,sA];rcases fM.1 ji with rfl|ji
  .have:=afg U ns [n];unfold AZ at this;simp only[aH,aE,Bool.not_true,Bool.not_false,k3,A7,sx,hi];omega
  .have:=bO ji;by_cases h:gf ns p.1 p.2=true
   .rw[h,Gg h];simpa using this
   .have ec:gf ns p.1 p.2=false:=by simpa using h
    rw[ec];simp only[Bool.not_false,k3];split<;>simp only[hi]<;>omega
section
variable {C:q2} {G:J->J->Prop} {cS:J->J->aa} {U:List (J×J)} {K:aa}
def Sz(ns:List cl)(n:cl):lM K U (ns++[n])<=lM K U ns+1:=by
 unfold lM;have:=Nat.mul_le_mul_left K (afg U ns [n]);rw[fk,sy];omega
def ad3{ns:List cl}{n:cl}(ji:(n.m,n.cQ)∈U)(aH:gf ns n.m n.cQ=false)(ab:n.k=1):lM K U (ns++[n])+K<=lM K U ns+1:=by
 unfold lM;have:=Nat.mul_le_mul_left K (aqm ji aH ab);rw[Nat.mul_add,jD]at this;rw[fk,sy];omega
theorem N1{α:Type}{g:List cl->α->List cl}{cs:α->aa}:∀(l:List α),(∀x∈l,∀ns,lM K U (g ns x)<=lM K U ns+cs x)->∀ns,lM K U (l.foldl g ns)<=lM K U ns+(l.map cs).sum
 |[],_,_=>by simp
 |x::l,h,ns=>by
  rw[x6,zE,Dd];have ab:=h x (by simp) ns;have ad:=N1 l (λy bZ=>h y (by simp[bZ])) (g ns x);omega
def aeZ(l:List aa):(l.map λ_=>1).sum=l.length:=by
 induction l with
 |nil=>rfl
 |cons a l bO=>rw[zE,Dd,bO,hi];omega
def ad2(aL:Good C G cS){F:aa}(bO:∀ns m d dp,cS m d<F->G m d->lM K U (hJ C F ns m d dp)<=lM K U ns+1){m d:J}(al:G m d)(hF:cS m d<=F)(dp:J){r:J×J}(aC:r∈C.refs m d)(ns:List cl):
  lM K U (qz C (hJ C F) m dp ns r)<=lM K U ns+yQ C r:=by
 obtain⟨hh,iC,kY,sr,EE⟩:=aL.ref m d al r aC;unfold qz yQ;by_cases et:r.1=0
 .rw[aP et,aP (.inl et)];exact Sz _ _
 rw[aw et];by_cases au:r.1=1
 .rw[aP au,aP (.inr (.inl au))];obtain⟨g1,g2⟩:=sr au;exact bO ns m r.2 dp (by omega) g1
 rw[aw au];by_cases bt:r.1=2
 .rw[aP bt,aP (.inr (.inr (.inl bt)))];exact Sz _ _
 rw[aw bt];by_cases bF:r.1=3
 .rw[aP bF,aP (.inr (.inr (.inr bF)))];exact Sz _ _
 rw[aw bF,aw (by omega)];have:=N1 (K:=K) (U:=U) (g:=λns(j:aa)=>hJ C F ns (j:J) r.2 dp) (cs:=λ_=>1) (List.range C.aM) (λj ay ns=>by
  obtain⟨g1,g2⟩:=EE (by omega) j (me.1 ay);exact bO ns (j:J) r.2 dp (by omega) g1) ns
 rw[aeZ,vG]at this;exact this
theorem ad4(aL:Good C G cS)(ji:∀m d,G m d->(m,d)∈U)(ax:∀m d,G m d->tR C (C.refs m d)<=K):∀(F:aa)(ns:List cl)(m d dp:J),cS m d<F->G m d->lM K U (hJ C F ns m d dp)<=lM K U ns+1
 |0,_,_,_,_,h,_=>by omega
 |F+1,ns,m,d,dp,hF,al=>by
  rw[hJ];by_cases aE:gf ns m d=true
  .rw[aP aE];exact Sz _ _
  .rw[aw aE];have WS:gf ns m d=false:=by simpa using aE
   have ab:=ad3 (K:=K) (U:=U) (ns:=ns) (n:=⟨1,dp,m,d,C.nS m d,C.val m d⟩) (ji m d al) WS rfl;have ad:=N1 (K:=K) (U:=U) (g:=qz C (hJ C F) m (dp+1)) (cs:=yQ C) (C.refs m d) (λr aC ns=>ad2 aL (λns m d dp a b=>ad4 aL ji ax F ns m d dp a b) al (by omega) (dp+1) aC ns) (ns++[⟨1,dp,m,d,C.nS m d,C.val m d⟩]);have ao:=ax m d al;unfold tR at ao;omega
end
def xi{W:ag}{g T:aa}{cs:ho}(h:g=W.heap.size):aB (W.alloc (.cells cs T)) g T cs:=h▸aB.new W T cs
def j8{X:ag}{g T:aa}{a b c:ak}(B:aB X g T #[a,b,c])(x y z:ak):aB (((X.setCell (g,0) x).setCell (g,1) y).setCell (g,2) z) g T #[x,y,z]:=by
 have:=((B.ba 0 x).ba 1 y).ba 2 z;simpa using this
def ee{X:ag}{g T:aa}{a b c d:ak}(B:aB X g T #[a,b,c,d])(x y z u:ak):aB ((((X.setCell (g,0) x).setCell (g,1) y).setCell (g,2) z).setCell (g,3) u) g T #[x,y,z,u]:=by
 have:=(((B.ba 0 x).ba 1 y).ba 2 z).ba 3 u;simpa using this
def Ae{X:ag}{g h T:aa}{cs:ho}(B:aB X h T cs)(bU:h≠g)(x y z:ak):aB (((X.setCell (g,0) x).setCell (g,1) y).setCell (g,2) z) h T cs:=
 ((B.far (p:=⟨g,0,none⟩) bU x).far (p:=⟨g,1,none⟩) bU y).far (p:=⟨g,2,none⟩) bU z
def PU{X:ag}{g h T:aa}{cs:ho}(B:aB X h T cs)(bU:h≠g)(x y z u:ak):aB ((((X.setCell (g,0) x).setCell (g,1) y).setCell (g,2) z).setCell (g,3) u) h T cs:=
 (Ae B bU x y z).far (p:=⟨g,3,none⟩) bU u
def yc(w:ag)(v:ak)(n:aa)(news:dN):Prop:=∃A c,v=ae A n c/\(0<n->∃b off,A=some ⟨b,off,none⟩/\b<w.heap.size/\∀j u,news[j]?=some u->aU w ⟨b,off+j,none⟩=some u)
def sN(w0 w:ag)(v:ak)(n:aa)(news:dN):Prop:=∃A c,v=ae A n c/\n<=c/\(0<n->∃g,A=some ⟨g,0,none⟩/\w0.heap.size<=g/\g<w.heap.size/\∀j u,news[j]?=some u->aU w ⟨g,j,none⟩=some u)
def ahK{w:ag}{b off j:aa}:aU w (((b,off):Addr).add j)=aU w (b,off+j):=by
 unfold Addr.add;by_cases ar:j=0
 .subst ar;rfl
 .simp[ar]
def ahH(n:aa)(aH:0<n):Builtin.nextslicecap n 0=n:=by
 unfold Builtin.nextslicecap;simp;omega
def ag8{w:ag}{T e:dC}{i:TypeInfo}{z:ak}{k bytes:aa}(cr:prog.underlying T=some (.slice e))(aD:prog.info? e=some i)(bP:i.zero=some z)(ai:i.size=k)(MK:i.bytes=bytes)(ty:dC){zG A:gu}{n c:aa}{news:dN}(av:news.length=n*k)(ab:∀u∈news,u.oneCell'=true)(aq:0<n->∃b off,A=some ⟨b,off,none⟩/\b<w.heap.size/\∀j u,news[j]?=some u->aU w ⟨b,off+j,none⟩=some u)(af:n*bytes<=281474976710656)(hm:n<=8796093022208):
  ∃v' w',(Builtin.append_ #[T,T] ty #[ae zG 0 0,ae A n c]).run prog w= .ok v' w'/\sN w w' v' n news/\Kept w w':=by
 subst ai;subst MK;by_cases ar:n=0
 .subst ar;have ad:news=[]:=oC.1 (by omega);subst ad;have Jo:Src prog i.size T (ae A 0 c) 0 [] w:=⟨.inl ⟨e,cr⟩,λw'=>by simp[Builtin.lenOf],by cases A<;>simp[Builtin.firstCells,loadCells,loadCellsFrom],by cases A<;>simp[Builtin.firstCells,loadCells,loadCellsFrom],by simp,λu hu=>by cases hu⟩;exact⟨_,w,run_append_nothing w _ _ ty e i cr aD zG 0 0 (bB _) _ Jo,⟨zG,0,rfl,bB _,λh=>absurd h (by decide)⟩,aG w⟩
 .obtain⟨b,off,rfl,oj,aq⟩:=aq (by omega);have Jo:Src prog i.size T (ae (some ⟨b,off,none⟩) n c) n news w:=Src.ofSlice w cr ⟨b,off,none⟩ n c news av (λj u ay=>by rw[ahK];exact aq j u ay) ab;have aC:=run_append_grow_src (P:=prog) w T T ty e i z cr aD bP zG 0 0 [] (by cases zG<;>simp[Builtin.firstCells,loadCells,loadCellsFrom]) _ n news Jo (by omega) (by omega) (by rw[ql,ahH n (by omega)];exact af);refine⟨_,_,aC,⟨_,grownCap w (0+n) 0 e,by rw[ql],?_,λ_=>⟨w.heap.size,rfl,bB _,by simp,λj u ay=> ?_⟩⟩,?_⟩
  .have:=grownCap_ge w (0+n) 0 e;omega
  .have aQ:(w.drew.alloc (.cells (([]++news).toArray++Builtin.zeroCells z.cells (grownCap w (0+n) 0 e-(0+n))) e)).cell? ⟨w.heap.size,j,none⟩=_:=World.cell?_alloc_new w.drew _ _ j;rw[aQ,Array.getElem?_append_left (by simp only[qj,Oz];exact (b2 ay).1),hL,qj];exact ay
  .exact ((aG w).drew).alloc _
def aqL{o:Oper}{a:Act}{K:Act->ag->Prop}{Q:Exit->Act->ag->Prop}{w:ag}(s x:Operand)(T e:dC)(i:TypeInfo)(z:ak)(k bytes:aa)(aA:o.op= .call {callee:= .builtin .append,args:=#[s,x],argTypes:=#[T,T]})(cr:prog.underlying T=some (.slice e))(aD:prog.info? e=some i)(bP:i.zero=some z)(ai:i.size=k)(MK:i.bytes=bytes){zG A:gu}{n c:aa}{news:dN}(aO:a.eval s=ae zG 0 0)(aj:a.eval x=ae A n c)(av:news.length=n*k)(ab:∀u∈news,u.oneCell'=true)(aq:0<n->∃b off,A=some ⟨b,off,none⟩/\b<w.heap.size/\∀j u,news[j]?=some u->aU w ⟨b,off+j,none⟩=some u)(af:n*bytes<=281474976710656)(hm:n<=8796093022208)(h:∀v' w',sN w w' v' n news->Kept w w'->K (a.put o.dst v') w'):o.wp prog a w K Q:=by
 obtain⟨v',w',aC,ad,ao⟩:=ag8 cr aD bP ai MK o.type av ab aq af hm;rw[<-aO,<-aj]at aC;unfold Oper.wp execOp;simp only[aA,resolve,invoke,builtin,OE,OD,Result.andThen_ok,List.map_toArray,zE,Kh,aC];exact h v' w' ad ao
def ea(ok:aa->Prop)(w:ag)(Q:ag->Prop):Prop:=∀w',w.heap.size<=w'.heap.size->(∀b,b<w.heap.size->ok b->w'.heap[b]?=w.heap[b]?)->Q w'
section
variable {ok ok':aa->Prop} {w w':ag} {Q Q':ag->Prop}
def ea.now(h:ea ok w Q):Q w:=h w (bB _) λ_ _ _=>rfl
def ea.step(h:ea ok w Q)(aO:w<=w'.heap.size)(af:∀b,b<w.heap.size->ok b->w'.heap[b]?=w.heap[b]?)(aA:∀b,b<w.heap.size->ok b->ok' b):ea ok' w' Q:=
 λu hu hd=>h u (fN aO hu) λb ab ad=>(hd b (bG ab aO) (aA b ab ad)).trans (af b ab ad)
def ea.mono(h:ea ok w Q)(aA:∀b,b<w.heap.size->ok b->ok' b):ea ok' w Q:=h.step (bB _) (λ_ _ _=>rfl) aA
def ea.imp(h:ea ok w Q)(az:∀w,Q w->Q' w):ea ok w Q':=λu ab ad=>az u (h u ab ad)
def ea.and(h:ea ok w Q)(ec:ea ok w Q'):ea ok w λu=>Q u/\Q' u:=λu ab ad=>⟨h u ab ad,ec u ab ad⟩
def ea.kept(h:ea ok w Q)(ai:Kept w w'):ea ok w' Q:=h.step ai.size (λb af _=>ai.block b af) λ_ _ h=>h
end
def Fb(w:ag)(b o:aa)(l:dN):Prop:=∀i u,l[i]?=some u->aU w ⟨b,o+i,none⟩=some u
structure Rec{α:Type}(k:aa)(P:ag->aa->aa->α->Prop)(f:α->List ak)(p:α->Prop):Prop where
 len:∀x,(f x).length=k
 one:∀x,∀u∈f x,u.oneCell'=true
 out:∀w b o x,P w b o x->Fb w b o (f x)/\p x
 lay:∀w b o x,Fb w b o (f x)->p x->P w b o x
section
variable {α:Type} {k:aa} {P:ag->aa->aa->α->Prop} {f:α->List ak} {p:α->Prop}
theorem VZ(bV:∀x,(f x).length=k):∀(xs:List α)(j:aa)(u:ak),(xs.flatMap f)[j]?=some u->∃(i:aa)(x:α)(r:aa),xs[i]?=some x/\(f x)[r]?=some u/\j=i*k+r
 |[],j,u,h=>by simp at h
 |x::xs,j,u,h=>by
  rw[zC]at h;by_cases ay:j<(f x).length
  .rw[lQ ay]at h;exact⟨0,x,j,rfl,h,by omega⟩
  .rw[k4 (by omega)]at h;obtain⟨i,y,r,ab,ad,ao⟩:=VZ bV xs _ u h;have:=bV x;exact⟨i+1,y,r,by rw[jd];exact ab,ad,by rw[Hn];omega⟩
def IL(bV:∀x,(f x).length=k)(xs:List α):(xs.flatMap f).length=xs.length*k:=by
 induction xs with
 |nil=>simp
 |cons x xs bO=>rw[zC,fk,bV,bO,hi,Hn];omega
def IM(ab:∀x,∀u∈f x,u.oneCell'=true)(xs:List α):∀u∈xs.flatMap f,u.oneCell'=true:=λu hu=>by
 obtain⟨x,-,aj⟩:=List.mem_flatMap.1 hu;exact ab x u aj
def c0.cells(R:Rec k P f p){w:ag}{v:ak}{xs:List α}(h:c0 k P w v xs):yc w v xs (xs.flatMap f)/\(∀x∈xs,p x)/\xs.length<=8796093022208:=by
 obtain⟨A,cap,rfl,aq,av,aj⟩:=h;refine⟨⟨A,cap,rfl,λhp=> ?_⟩,λx AG=> ?_,av⟩
 .obtain⟨b,off,a7,af,ef⟩:=aj hp;refine⟨b,off,a7,af,λj u ay=> ?_⟩;obtain⟨i,x,r,ab,ad,e⟩:=VZ R.len xs j u ay;subst e;have:=(R.out _ _ _ _ (ef i x ab)).1 r u ad;rw[Hl]at this;exact this
 .obtain⟨b,off,a7,af,ef⟩:=aj (ZR AG);obtain⟨i,aD⟩:=mc AG;exact (R.out _ _ _ _ (ef i x aD)).2
def sN.CZ(R:Rec k P f p){w0 w:ag}{v:ak}{xs:List α}(hp:∀x∈xs,p x)(av:xs.length<=8796093022208)(h:sN w0 w v xs (xs.flatMap f)):ea (λb=>w0.heap.size<=b) w λu=>c0 k P u v xs:=λu hu af=>by
 obtain⟨A,c,rfl,aq,aj⟩:=h;refine⟨A,c,rfl,aq,av,λxy=> ?_⟩;obtain⟨g,rfl,ar,al,ef⟩:=aj xy;refine⟨g,0,rfl,bG al hu,λj x ay=>R.lay _ _ _ _ (λi y bZ=> ?_) (hp x (fe ay))⟩;rw[Db (a:=⟨g,0+j*k+i,none⟩) (af g al ar),ql];exact ef _ _ (DT R.len xs j x ay i y bZ)
end
def ow(n:J):Prop:= -9223372036854775808<=n/\n<=9223372036854775807
def Zg(s:ez):dN:=[.string s]
def flC(x:mI):dN:=[.string x.aM,x.k,x.e]
def rwC(x:nE):dN:=[ah x.cZ,x.cT,x.e2,x.aD,x.n]
def SH:Rec 1 uv Zg (λs=>s.size<=140737488355328):=
 ⟨λ_=>rfl,λx u hu=>by simp[Zg]at hu;subst hu;rfl,λw b o x h=>⟨λi u hu=>by
  match i,hu with
  |0,hu=>cases hu;exact h.1,h.2⟩,λw b o x h hp=>⟨h 0 _ rfl,hp⟩⟩
def EG:Rec 3 jt flC (λx=>x.aM.size<=140737488355328/\ow x.k/\ow x.e):=
 ⟨λ_=>rfl,λx u hu=>by simp[flC]at hu;rcases hu with rfl|rfl|rfl<;>rfl,λw b o x⟨ar,ab,ad⟩=>⟨λi u hu=>by
  match i,hu with
  |0,hu=>cases hu;exact ar.1
  |1,hu=>cases hu;exact ab.1
  |2,hu=>cases hu;exact ad.1,ar.2,ab.2,ad.2⟩,λw b o x h hp=>⟨⟨h 0 _ rfl,hp.1⟩,⟨h 1 _ rfl,hp.2.1⟩,⟨h 2 _ rfl,hp.2.2⟩⟩⟩
def SG:Rec 5 oG rwC (λx=>ow x.cZ/\ow x.cT/\ow x.e2/\ow x.aD/\ow x.n):=
 ⟨λ_=>rfl,λx u hu=>by simp[rwC]at hu;rcases hu with rfl|rfl|rfl|rfl|rfl<;>rfl,λw b o x⟨ar,ab,ad,ao,aR⟩=>⟨λi u hu=>by
  match i,hu with
  |0,hu=>cases hu;exact ar.1
  |1,hu=>cases hu;exact ab.1
  |2,hu=>cases hu;exact ad.1
  |3,hu=>cases hu;exact ao.1
  |4,hu=>cases hu;exact aR.1,ar.2,ab.2,ad.2,ao.2,aR.2⟩,λw b o x h hp=>⟨⟨h 0 _ rfl,hp.1⟩,⟨h 1 _ rfl,hp.2.1⟩,⟨h 2 _ rfl,hp.2.2.1⟩,⟨h 3 _ rfl,hp.2.2.2.1⟩,⟨h 4 _ rfl,hp.2.2.2.2⟩⟩⟩
def AM(n:aa)(news:dN)(w:ag)(e:Ending)(w':ag):Prop:=∃v,e=bL v/\sN w w' v n news/\Kept w w'
def sN.low{w0 w1 w:ag}{v:ak}{n:aa}{news:dN}(h:sN w1 w v n news)(aO:w0<=w1.heap.size):sN w0 w v n news:=by
 obtain⟨A,c,rfl,aq,aj⟩:=h;refine⟨A,c,rfl,aq,λhp=> ?_⟩;obtain⟨g,rfl,ar,ab,ad⟩:=aj hp;exact⟨g,rfl,fN aO ar,ab,ad⟩
def LK{w w':ag}{A:gu}{n:aa}{news:dN}(h:0<n->∃b off,A=some ⟨b,off,none⟩/\b<w.heap.size/\∀(j:aa)u,news[j]?=some u->aU w ⟨b,off+j,none⟩=some u)(ai:Kept w w'):
  0<n->∃b off,A=some ⟨b,off,none⟩/\b<w'.heap.size/\∀(j:aa)u,news[j]?=some u->aU w' ⟨b,off+j,none⟩=some u:=λhp=>by
 obtain⟨b,off,bD,af,aq⟩:=h hp;exact⟨b,off,bD,bG af ai.size,λj u ay=>ai.aI af (aq j u ay)⟩
def yc.kept{w w':ag}{v:ak}{n:aa}{news:dN}(h:yc w v n news)(ai:Kept w w'):yc w' v n news:=by
 obtain⟨A,c,aK,aj⟩:=h;exact⟨A,c,aK,LK aj ai⟩
def S_{ops:Array Oper}{rest:List Oper}{o:Oper}{a:Act}{Q:Exit->Act->ag->Prop}{w:ag}(MV:o.guard=none)(s x:Operand)(T e:dC)(i:TypeInfo)(z:ak)(k bytes:aa)(aA:o.op= .call {callee:= .builtin .append,args:=#[s,x],argTypes:=#[T,T]})(cr:prog.underlying T=some (.slice e))(aD:prog.info? e=some i)(bP:i.zero=some z)(ai:i.size=k)(MK:i.bytes=bytes){zG A:gu}{n c:aa}{news:dN}(aO:a.eval s=ae zG 0 0)(aj:a.eval x=ae A n c)(av:news.length=n*k)(ab:∀u∈news,u.oneCell'=true)(aq:0<n->∃b off,A=some ⟨b,off,none⟩/\b<w.heap.size/\∀j u,news[j]?=some u->aU w ⟨b,off+j,none⟩=some u)(af:n*bytes<=281474976710656)(hm:n<=8796093022208)(h:∀v' w',sN w w' v' n news->Kept w w'->wpList prog ops Q rest (a.put o.dst v') w'):wpList prog ops Q (o::rest) a w:=
 wpList_plain MV λ_ ax=>aqL s x T e i z k bytes aA cr aD bP ai MK aO aj av ab aq af hm λv' w' ab ad=>ax _ _ (h v' w' ab ad)
def Tryz.alk:(prog.info? 113).map (λi=>(i.zero,i.size,i.bytes))=some (some (aF #[.string ⟨#[]⟩,(),()]),3,32):=by kernel_rfl
def abi(v:ak)(n:aa)(news:dN)(w:ag)(h:yc w v n news)(av:news.length=n*3)(ab:∀u∈news,u.oneCell'=true)(aH:n<=1000000):bg 44 #[v] w (AM n news w):=by
 obtain⟨i0,fx,fy,fz,fA⟩:=hy Tryz.alk;obtain⟨A,c,rfl,aj⟩:=h;have bS:=I aj;have H1:=I ab;unfold AM
 cases A with
 |none=>
  have ar:n=0:=by
   rcases zB n with h|h
   .exact h
   .obtain⟨_,_,e,_⟩:=aj h
    cases e
  subst ar;clear aj ab;have he:(binOp .eql 87 (ae none 0 c) bf).run prog w= .ok (bR true) w:=by kernel_rfl
  go_enter func44,ntmps44
  go_wp2_with fail
  go_ret;exact⟨_,rfl,⟨none,0,rfl,bB _,λh=>absurd h (by decide)⟩,aG w⟩
 |some a=>
  have dB:=I av;clear aj ab av;have he:(binOp .eql 87 (ae (some a) n c) bf).run prog w= .ok (bR false) w:=by kernel_rfl
  go_enter func44,ntmps44
  go_wp2_with (at_builtin;refine S_ rfl (.tmp 5) (.tmp 6) 87 113 i0 _ 3 32 rfl underlying87 fx fy fz fA rfl rfl dB H1 (LK bS ((aG _).aZ)) (by omega) (by omega) ?_;intro v' w' bd a8;have b1:=I (bb bd a8);clear bd a8)
  go_ret;exact⟨_,rfl,b1.1.low (Kept.size_le ((aG _).aZ)),Kept.trans ((aG _).aZ) b1.2⟩
def Tryz.alm:(prog.info? 101).map (λi=>(i.zero,i.size,i.bytes))=some (some (aF #[(),()]),2,16):=by kernel_rfl
def abj(v:ak)(n:aa)(news:dN)(w:ag)(h:yc w v n news)(av:news.length=n*2)(ab:∀u∈news,u.oneCell'=true)(aH:n<=1000000):bg 45 #[v] w (AM n news w):=by
 obtain⟨i0,fx,fy,fz,fA⟩:=hy Tryz.alm;obtain⟨A,c,rfl,aj⟩:=h;have bS:=I aj;have H1:=I ab;unfold AM
 cases A with
 |none=>
  have ar:n=0:=by
   rcases zB n with h|h
   .exact h
   .obtain⟨_,_,e,_⟩:=aj h
    cases e
  subst ar;clear aj ab;have he:(binOp .eql 102 (ae none 0 c) bf).run prog w= .ok (bR true) w:=by kernel_rfl
  go_enter func45,ntmps45
  go_wp2_with fail
  go_ret;exact⟨_,rfl,⟨none,0,rfl,bB _,λh=>absurd h (by decide)⟩,aG w⟩
 |some a=>
  have dB:=I av;clear aj ab av;have he:(binOp .eql 102 (ae (some a) n c) bf).run prog w= .ok (bR false) w:=by kernel_rfl
  go_enter func45,ntmps45
  go_wp2_with (at_builtin;refine S_ rfl (.tmp 5) (.tmp 6) 102 101 i0 _ 2 16 rfl underlying102 fx fy fz fA rfl rfl dB H1 (LK bS ((aG _).aZ)) (by omega) (by omega) ?_;intro v' w' bd a8;have b1:=I (bb bd a8);clear bd a8)
  go_ret;exact⟨_,rfl,b1.1.low (Kept.size_le ((aG _).aZ)),Kept.trans ((aG _).aZ) b1.2⟩
def Tryz.alo:(prog.info? 9).map (λi=>(i.zero,i.size,i.bytes))=some (some (.string ⟨#[]⟩),1,16):=by kernel_rfl
def aib(v:ak)(n:aa)(news:dN)(w:ag)(h:yc w v n news)(av:news.length=n*1)(ab:∀u∈news,u.oneCell'=true)(aH:n<=1000000):bg 77 #[v] w (AM n news w):=by
 obtain⟨i0,fx,fy,fz,fA⟩:=hy Tryz.alo;obtain⟨A,c,rfl,aj⟩:=h;have bS:=I aj;have H1:=I ab;unfold AM
 cases A with
 |none=>
  have ar:n=0:=by
   rcases zB n with h|h
   .exact h
   .obtain⟨_,_,e,_⟩:=aj h
    cases e
  subst ar;clear aj ab;have he:(binOp .eql 90 (ae none 0 c) bf).run prog w= .ok (bR true) w:=by kernel_rfl
  go_enter func77,ntmps77
  go_wp2_with fail
  go_ret;exact⟨_,rfl,⟨none,0,rfl,bB _,λh=>absurd h (by decide)⟩,aG w⟩
 |some a=>
  have dB:=I av;clear aj ab av;have he:(binOp .eql 90 (ae (some a) n c) bf).run prog w= .ok (bR false) w:=by kernel_rfl
  go_enter func77,ntmps77
  go_wp2_with (at_builtin;refine S_ rfl (.tmp 5) (.tmp 6) 90 9 i0 _ 1 16 rfl underlying90 fx fy fz fA rfl rfl dB H1 (LK bS ((aG _).aZ)) (by omega) (by omega) ?_;intro v' w' bd a8;have b1:=I (bb bd a8);clear bd a8)
  go_ret;exact⟨_,rfl,b1.1.low (Kept.size_le ((aG _).aZ)),Kept.trans ((aG _).aZ) b1.2⟩
def Tryz.aln:(prog.info? 181).map (λi=>(i.zero,i.size,i.bytes))=some (some (aF #[(),(),(),(),()]),5,40):=by kernel_rfl
def ah9(v:ak)(n:aa)(news:dN)(w:ag)(h:yc w v n news)(av:news.length=n*5)(ab:∀u∈news,u.oneCell'=true)(aH:n<=1000000):bg 78 #[v] w (AM n news w):=by
 obtain⟨i0,fx,fy,fz,fA⟩:=hy Tryz.aln;obtain⟨A,c,rfl,aj⟩:=h;have bS:=I aj;have H1:=I ab;unfold AM
 cases A with
 |none=>
  have ar:n=0:=by
   rcases zB n with h|h
   .exact h
   .obtain⟨_,_,e,_⟩:=aj h
    cases e
  subst ar;clear aj ab;have he:(binOp .eql 95 (ae none 0 c) bf).run prog w= .ok (bR true) w:=by kernel_rfl
  go_enter func78,ntmps78
  go_wp2_with fail
  go_ret;exact⟨_,rfl,⟨none,0,rfl,bB _,λh=>absurd h (by decide)⟩,aG w⟩
 |some a=>
  have dB:=I av;clear aj ab av;have he:(binOp .eql 95 (ae (some a) n c) bf).run prog w= .ok (bR false) w:=by kernel_rfl
  go_enter func78,ntmps78
  go_wp2_with (at_builtin;refine S_ rfl (.tmp 5) (.tmp 6) 95 181 i0 _ 5 40 rfl underlying95 fx fy fz fA rfl rfl dB H1 (LK bS ((aG _).aZ)) (by omega) (by omega) ?_;intro v' w' bd a8;have b1:=I (bb bd a8);clear bd a8)
  go_ret;exact⟨_,rfl,b1.1.low (Kept.size_le ((aG _).aZ)),Kept.trans ((aG _).aZ) b1.2⟩
def yz.at3{w:ag}{v:ak}{xs:gh}(h:yz w v xs):∃A cap,v=ae A xs cap/\(0<xs.length->∃b off,A=some ⟨b,off,none⟩/\b<w.heap.size/\∀(j:aa)x,xs[j]?=some x->aU w ⟨b,off+j,none⟩=some (.string x)):=by
 obtain⟨A,cap,aK,aj⟩:=h;refine⟨A,cap,aK,λhp=> ?_⟩;obtain⟨b,off,a7,af,aq⟩:=aj hp;refine⟨b,off,a7,af,λj x ay=> ?_⟩;have:=aq j (b2 ay).1;rwa [ay,b9]at this
def sQ.at_{w:ag}{k:aa}{p:ag->aa->aa->Prop}{v:ak}(h:sQ w k p v):∃A n cap,v=ae A n cap/\n<=9223372036854775807/\(0<n->∃b off,A=some ⟨b,off,none⟩/\b<w.heap.size/\∀j,j<n->p w b (off+j*k)):=h
def DF(Q:Prop)(w:ag)(r:Ending)(w':ag):Prop:=∃b:Bool,r=bL (bR b)/\Kept w w'/\(b=true->Q)
def aoV(aM:ez)(m:J)(b7 dy cD:ak)(w:ag)(b6:sQ w 3 lb b7)(cY:sQ w 3 lb dy)(aJ:sQ w 9 Ie cD):
  bg 27 #[aF #[aM,m,b7,dy,cD]] w (DF True w):=by
 obtain⟨dm,e9,aY,rfl,jL,nO⟩:=b6.at_;obtain⟨dx,eC,a',rfl,mA,eX⟩:=cY.at_;obtain⟨dq,ia,bu,rfl,uW,xD⟩:=aJ.at_;have aV:=I ((aG w).alloc (.cells #[aM,m,ae dm e9 aY,ae dx eC a',ae dq ia bu] 89));clear b6 cY aJ;rcases (show 80<(aM.size:J)\/(¬80<(aM.size:J)/\14<(e9:J))\/(¬80<(aM.size:J)/\¬14<(e9:J)/\14<(eC:J))\/(¬80<(aM.size:J)/\¬14<(e9:J)/\¬14<(eC:J)/\60<(ia:J))\/(¬80<(aM.size:J)/\¬14<(e9:J)/\¬14<(eC:J)/\¬60<(ia:J)) by omega)with h|⟨h,ab⟩|⟨h,ab,ad⟩|⟨h,ab,ad,ao⟩|⟨h,ab,ad,ao⟩
 iterate 4
  clear nO eX xD;go_enter func27,ntmps27
  go_wp2_with fail
  go_ret;exact⟨_,rfl,aV,λh=>trivial⟩
 go_enter func27,ntmps27
 go_wp2_with fail
 have B:=aB.new w 89 #[aM,m,ae dm e9 aY,ae dx eC a',ae dq ia bu];have bp:=aV.out;generalize w.alloc (.cells #[aM,m,ae dm e9 aY,ae dx eC a',ae dq ia bu] 89)=W at*;have cK:=B.cell 2;have c1':=B.cell 3;have c2':=B.cell 4;have aI:=B.lt;go_loopw [3] (λy wr=>∃i:aa,y=ah i/\i<=e9/\wr=W) (λy _=>e9-(intOf y).toNat)
 case atStart=>exact⟨0,rfl,d' _,rfl⟩
 case round=>
  obtain⟨i,rfl,dG,rfl⟩:=hrel;by_cases aN:i<e9
  .obtain⟨b,off,rfl,af,aq⟩:=nO (by omega);obtain⟨s,aO⟩:=aq i aN;have iI:=bp.aI af aO;have hd:=bG af bp.size;have db:(i:J)<e9:=by omega
   clear aq aO nO eX xD;by_cases eI:80<(s.size:J)
   .go_wp2_with fail
    go_ret;exact⟨_,rfl,bp,λh=>trivial⟩
   .go_wp2_with fail
    go_roundw
    case rel=>exact⟨i+1,rfl,aN,trivial⟩
    case measure=>simp[intOf];omega
  .have db:¬((i:J)<e9):=by omega
   go_wp2_with fail
   go_loopw [4] (λy xY=>∃i:aa,y=ah i/\i<=eC/\xY=wr) (λy _=>eC-(intOf y).toNat)
   case atStart=>exact⟨0,rfl,d' _,rfl⟩
   case round=>
    obtain⟨j,rfl,Aw,rfl⟩:=hrel;by_cases qN:j<eC
    .obtain⟨b,off,rfl,af,aq⟩:=eX (by omega);obtain⟨s,aO⟩:=aq j qN;have iI:=bp.aI af aO;have hd:=bG af bp.size;have kT:(j:J)<eC:=by omega
     clear aq aO nO eX xD;by_cases eI:80<(s.size:J)
     .go_wp2_with fail
      go_ret;exact⟨_,rfl,bp,λh=>trivial⟩
     .go_wp2_with fail
      go_roundw
      case rel=>exact⟨j+1,rfl,qN,trivial⟩
      case measure=>simp[intOf];omega
    .have kT:¬((j:J)<eC):=by omega
     go_wp2_with fail
     go_loopw [5] (λy xY=>∃i:aa,y=ah i/\i<=ia/\Kept wr xY) (λy _=>ia-(intOf y).toNat)
     case atStart=>exact⟨0,rfl,d' _,aG _⟩
     case round=>
      obtain⟨q,rfl,RB,ax⟩:=hrel;have bm:=B.kept ax;have d2:=bm.cell 4;have dl:=bm.lt;by_cases M8:q<ia
      .obtain⟨b,off,rfl,af,aq⟩:=xD (by omega);have p4:=Ie.kept _ _ _ _ (bp.trans ax) af (aq q M8);obtain⟨⟨ie,g0⟩,⟨fL,g1⟩,⟨z2,g2⟩,⟨z3,g3⟩,⟨z4,g4⟩,⟨z5,g5⟩,⟨wN,zj,dn,g6,fq⟩,⟨Kj,Yw,mr,g7,JB⟩,⟨SP,g8⟩⟩:=p4;have hd:=bG af (bp.trans ax).size;have Cw:(q:J)<ia:=by omega
       clear aq nO eX xD h ab ad ao;rcases (show 80<(ie.size:J)\/(¬80<(ie.size:J)/\80<(SP.size:J))\/(¬80<(ie.size:J)/\¬80<(SP.size:J)/\50<(zj:J))\/(¬80<(ie.size:J)/\¬80<(SP.size:J)/\¬50<(zj:J)/\50<(Yw:J))\/(¬80<(ie.size:J)/\¬80<(SP.size:J)/\¬50<(zj:J)/\¬50<(Yw:J)) by omega)with h|⟨h,ab⟩|⟨h,ab,ad⟩|⟨h,ab,ad,ao⟩|⟨h,ab,ad,ao⟩
       iterate 4
        go_wp2_with fail
        go_ret;exact⟨_,rfl,(bp.trans ax).alloc _,λh=>trivial⟩
       go_wp2_with fail
       go_roundw
       case rel=>exact⟨q+1,rfl,M8,ax.alloc _⟩
       case measure=>simp[intOf];omega
      .have Cw:¬((q:J)<ia):=by omega
       go_wp2_with fail
       go_ret;exact⟨_,rfl,bp.trans ax,λh=>trivial⟩
def aoT(d:J)(b7 c1:ak)(ins:List bC)(mem:List (List bC))(w:ag)(b6:ft w b7 ins)(bN:kh w c1 mem):
  bg 14 #[aF #[d,b7,c1]] w (DF (ins.length<=14/\mem.length<=10/\∀l∈mem,l.length<=14) w):=by
 obtain⟨dm,aY,rfl,_⟩:=b6;obtain⟨dx,a',rfl,gp,aj⟩:=bN.at_;obtain⟨e9,jL⟩:∃n,n=ins.length:=⟨_,rfl⟩;obtain⟨eC,mA⟩:∃n,n=mem.length:=⟨_,rfl⟩;rw[<-mA]at aj gp;rw[<-jL,<-mA];obtain⟨Q,cL⟩:∃Q,(e9<=14/\eC<=10/\∀l∈mem,l.length<=14)=Q:=⟨_,rfl⟩;rw[cL];have b1:=I (λh=>cL▸h:(e9<=14/\eC<=10/\∀l∈mem,l.length<=14)->Q);have b3:=I mA;clear jL mA bN cL;have aV:=I ((aG w).alloc (.cells #[d,ae dm e9 aY,ae dx eC a'] 30));rcases (show 14<(e9:J)\/(¬14<(e9:J)/\10<(eC:J))\/(¬14<(e9:J)/\¬10<(eC:J)) by omega)with h|⟨h,ab⟩|⟨h,ab⟩
 iterate 2
  clear aj;go_enter func14,ntmps14
  go_wp2_with fail
  go_ret;exact⟨_,rfl,aV,λh=>by cases h⟩
 have aT:e9<=14/\eC<=10:=by omega
 have dP:=I aT;go_enter func14,ntmps14
 go_wp2_with fail
 have B:=aB.new w 30 #[d,ae dm e9 aY,ae dx eC a'];have bp:=aV.out;generalize w.alloc (.cells #[d,ae dm e9 aY,ae dx eC a'] 30)=W at*;have c2':=B.cell 2;have aI:=B.lt;go_loopw [3] (λy wr=>∃i:aa,y=ah i/\i<=eC/\wr=W/\∀(j:aa)l,j<i->mem[j]?=some l->l.length<=14) (λy _=>eC-(intOf y).toNat)
 case atStart=>exact⟨0,rfl,d' _,rfl,λ_ _ h=>absurd h (uo _)⟩
 case round=>
  obtain⟨i,rfl,dG,rfl,iK⟩:=hrel;have eF:=I iK;clear iK;by_cases aN:i<eC
  .obtain⟨b,off,rfl,af,aq⟩:=aj (by omega);have al:mem[i]?=some (mem[i]'(by have:=b3.out;omega)):=bn _;obtain⟨uV,ath,cl',eU,_⟩:=aq i _ al;have eQ:=I al;generalize mem[i]'(by have:=b3.out;omega)=l at*;have Ab:=bp.aI af eU;have hd:=bG af bp.size;have db:(i:J)<eC:=by omega
   clear aq eU aj al;by_cases eI:14<(l.length:J)
   .go_wp2_with fail
    go_ret;exact⟨_,rfl,bp,λh=>by cases h⟩
   .go_wp2_with fail
    go_roundw
    case rel=>
     refine⟨i+1,rfl,aN,trivial,λj l' ay mz=> ?_⟩;by_cases hH:j=i
     .subst hH;rw[eQ]at mz;obtain rfl:=cJ mz;omega
     .exact eF j l' (by omega) mz
    case measure=>simp[intOf];omega
  .have db:¬((i:J)<eC):=by omega
   go_wp2_with fail
   go_ret;refine⟨_,rfl,bp,λ_=>b1 ⟨dP.1,dP.2,λl av=> ?_⟩⟩;obtain⟨j,ay⟩:=mc av;have qL:=(b2 ay).1;exact eF j l (by have:=b3.out;omega) ay
def afx(x:J): -9223372036854775808<=wrap64 x/\wrap64 x<=9223372036854775807:=by
 unfold wrap64;omega
def aoU(cm:ak)(ms:List gh)(c2:List sP)(w:ag)(bE:H3 w cm ms c2)(aJ:K_ w cm):
  bg 13 #[cm] w (DF (∀l∈ms,l.length<=20/\∀x∈l,x.size<=80) w):=by
 obtain⟨dw,At,jZ,fS,cH,rfl,a1,bH⟩:=bE;obtain⟨ev',EU,sv',aK,atP,atS,atQ⟩:=aJ;simp only[x4,x7,qk,kN]at aK;obtain⟨rfl,rfl,rfl⟩:=aK;obtain⟨c5,ce,rfl,hme,RT⟩:=a1;obtain⟨AE',ne',ce',aK,_,y'⟩:=atP.at_;simp only[i_]at aK;obtain⟨rfl,rfl,rfl⟩:=aK;obtain⟨AT',nt',ct',aK,Rt,Nh⟩:=atS.at_;simp only[i_]at aK;obtain⟨rfl,rfl,rfl⟩:=aK;obtain⟨hM,ns,cs,rfl,y8,Xz⟩:=atQ.at_;obtain⟨ne,bU⟩:∃n,n=ms.length:=⟨_,rfl⟩;rw[<-bU]at RT y' hme⊢;have b3:=I bU;obtain⟨Q,cL⟩:∃Q,(∀l∈ms,l.length<=20/\∀x∈l,x.size<=80)=Q:=⟨_,rfl⟩;rw[cL];have b1:=I (λh=>cL▸h:(∀l∈ms,l.length<=20/\∀x∈l,x.size<=80)->Q);clear bU bH atS atQ atP cL;have aV:=I ((aG w).alloc (.cells #[ae c5 ne ce,ae At jZ fS,ae hM ns cs] 26));rcases (show 9<(ne:J)\/(¬9<(ne:J)/\9<(jZ:J))\/(¬9<(ne:J)/\¬9<(jZ:J)/\5<(ns:J))\/(¬9<(ne:J)/\¬9<(jZ:J)/\¬5<(ns:J)) by omega)with h|⟨h,ab⟩|⟨h,ab,ad⟩|⟨h,ab,ad⟩
 iterate 3
  clear RT y' Nh Xz;go_enter func13,ntmps13
  go_wp2_with fail
  go_ret;exact⟨_,rfl,aV,λh=>by cases h⟩
 go_enter func13,ntmps13
 go_wp2_with fail
 have B:=aB.new w 26 #[ae c5 ne ce,ae At jZ fS,ae hM ns cs];have bp:=aV.out;generalize w.alloc (.cells #[ae c5 ne ce,ae At jZ fS,ae hM ns cs] 26)=W at*;have cK:=B.cell 0;have aY:=B.cell 1;have a':=B.cell 2;have aI:=B.lt;go_loopw [5] (λy wr=>∃i:aa,y=ah i/\i<=ne/\wr=W/\∀(j:aa)l,j<i->ms[j]?=some l->l.length<=20/\∀x∈l,x.size<=80) (λy _=>ne-(intOf y).toNat)
 case atStart=>exact⟨0,rfl,d' _,rfl,λ_ _ h=>absurd h (uo _)⟩
 case round=>
  obtain⟨i,rfl,dG,rfl,iK⟩:=hrel;have eF:=I iK;clear iK;by_cases aN:i<ne
  .obtain⟨b,off,rfl,af,aq⟩:=RT (by omega);obtain⟨j7,adH,hAe,_,y1⟩:=y' (by omega);simp only[vF,wJ,kN]at hAe;obtain⟨rfl,rfl⟩:=hAe;obtain⟨ie,qP⟩:=y1 i aN;have al:ms[i]?=some (ms[i]'(by have:=b3.out;omega)):=bn _;obtain⟨uV,c1,Ay,acJ⟩:=aq i _ al;have eQ:=I al;generalize ms[i]'(by have:=b3.out;omega)=l at*;obtain⟨ath,cl',rfl,hxl⟩:=acJ.at3;have iI:=bp.aI af qP;have kk:=bp.aI af Ay;have hd:=bG af bp.size;have db:(i:J)<ne:=by omega
   clear aq y1 qP Ay al;rcases (show 80<(ie.size:J)\/(¬80<(ie.size:J)/\20<(l.length:J))\/(¬80<(ie.size:J)/\¬20<(l.length:J)) by omega)with eI|⟨eI,xo⟩|⟨eI,xo⟩
   iterate 2
    go_wp2_with fail
    go_ret;exact⟨_,rfl,bp,λh=>by cases h⟩
   obtain⟨nl,Nd⟩:∃n,n=l.length:=⟨_,rfl⟩;rw[<-Nd]at kk xo hxl uV;have dB:=I Nd;clear Nd acJ;go_wp2_with fail
   go_loopw [6] (λy xY=>∃k:aa,y=ah k/\k<=nl/\xY=wr/\∀(j:aa)x,j<k->l[j]?=some x->x.size<=80) (λy _=>nl-(intOf y).toNat)
   case atStart=>exact⟨0,rfl,d' _,rfl,λ_ _ h=>absurd h (uo _)⟩
   case round=>
    obtain⟨k,rfl,l8,rfl,y0⟩:=hrel;have HAK:=I y0;clear y0;by_cases fu:k<nl
    .obtain⟨j8,kJ,rfl,qF,uQ⟩:=hxl (by omega);have l7:l[k]?=some (l[k]'(by have:=dB.out;omega)):=bn _;have eU:=uQ k _ l7;have HG3:=I l7;generalize l[k]'(by have:=dB.out;omega)=x at*;have Ab:=bp.aI qF eU;have Q1:=bG qF bp.size;have Rl:(k:J)<nl:=by omega
     clear uQ eU l7;by_cases ta:80<(x.size:J)
     .go_wp2_with fail
      go_ret;exact⟨_,rfl,bp,λh=>by cases h⟩
     .go_wp2_with fail
      go_roundw
      case rel=>
       refine⟨k+1,rfl,fu,trivial,λj jO ay Nq=> ?_⟩;by_cases Eb:j=k
       .subst Eb;rw[HG3]at Nq;obtain rfl:=cJ Nq;omega
       .exact HAK j jO (by omega) Nq
      case measure=>simp[intOf];omega
    .have Rl:¬((k:J)<nl):=by omega
     have kg:=I (show l.length<=20/\∀x∈l,x.size<=80 from⟨by have:=dB.out;omega,λx aj=>by
      obtain⟨j,ay⟩:=mc aj;have qL:=(b2 ay).1;exact HAK j x (by have:=dB.out;omega) ay⟩)
     go_wp2_with fail
     go_roundw
     case rel=>
      refine⟨i+1,rfl,aN,trivial,λj l' ay mz=> ?_⟩;by_cases hH:j=i
      .subst hH;rw[eQ]at mz;obtain rfl:=cJ mz;exact kg
      .exact eF j l' (by omega) mz
     case measure=>simp[intOf];omega
  .have db:¬((i:J)<ne):=by omega
   have KI:=I (show∀l∈ms,l.length<=20/\∀x∈l,x.size<=80 from λl av=>by
    obtain⟨j,ay⟩:=mc av;have qL:=(b2 ay).1;exact eF j l (by have:=b3.out;omega) ay)
   clear eF RT y';go_wp2_with fail
   go_loopw [3,7] (λx y xY=>∃(r:J)(i:aa),x=ah r/\(-9223372036854775808<=r/\r<=9223372036854775807)/\y=ah i/\i<=jZ/\xY=wr) (λ_ y _=>jZ-(intOf y).toNat)
   case atStart=>exact⟨0,0,rfl,by omega,rfl,d' _,rfl⟩
   case round=>
    obtain⟨r,j,rfl,gq,rfl,Aw,rfl⟩:=hrel;by_cases qN:j<jZ
    .obtain⟨b,off,rfl,af,aq⟩:=Nh (by omega);obtain⟨⟨s,aO⟩,e6,CL,b_,bw,hn5⟩:=aq j qN;have iI:=bp.aI af aO;have avb:=bp.aI af bw;have hd:=bG af bp.size;have kT:(j:J)<jZ:=by omega
     clear aq aO bw;obtain⟨iC,iL⟩:∃iC,wrap64 (r+CL)=iC:=⟨_,rfl⟩;have hw:=afx (r+CL);rw[iL]at hw;rcases (show 80<(s.size:J)\/(¬80<(s.size:J)/\150<iC)\/(¬80<(s.size:J)/\¬150<iC) by omega)with eI|⟨eI,xo⟩|⟨eI,xo⟩
     iterate 2
      go_wp2_with fail
      go_ret;exact⟨_,rfl,bp,λh=>by cases h⟩
     go_wp2_with fail
     go_roundw
     case rel=>exact⟨iC,j+1,by rw[iL],hw,rfl,qN,trivial⟩
     case measure=>simp[intOf];omega
    .have kT:¬((j:J)<jZ):=by omega
     clear Nh;go_wp2_with fail
     go_loopw [4,8] (λx y xY=>∃(r:J)(i:aa),x=ah r/\(-9223372036854775808<=r/\r<=9223372036854775807)/\y=ah i/\i<=ns/\Kept wr xY) (λ_ y _=>ns-(intOf y).toNat)
     case atStart=>exact⟨0,0,rfl,by omega,rfl,d' _,aG _⟩
     case round=>
      obtain⟨kY,q,rfl,asA,rfl,RB,ax⟩:=hrel;have bm:=B.kept ax;have d2:=bm.cell 2;have dl:=bm.lt;by_cases M8:q<ns
      .obtain⟨b,off,rfl,af,aq⟩:=Xz (by omega);have tX:=Lh.kept _ _ _ _ (bp.trans ax) af (aq q M8);obtain⟨⟨ie,g0⟩,⟨fL,g1⟩,⟨v2,g2,dQ⟩,⟨v3,g3,fP⟩,v4,g4,kW⟩:=tX;obtain⟨dx,eC,a_,rfl,_,_⟩:=id dQ;obtain⟨dq,ia,cv,rfl,_,_⟩:=id fP;obtain⟨fr,wz,h_,rfl,hn4,_⟩:=id kW;have hd:=bG af (bp.trans ax).size;have Cw:(q:J)<ns:=by omega
       have KS:=I (aoV ie fL _ _ _ wr dQ fP kW);unfold DF at KS;obtain⟨iC,iL⟩:∃iC,wrap64 (kY+wz)=iC:=⟨_,rfl⟩;have hw:=afx (kY+wz);rw[iL]at hw;clear aq Xz dQ fP kW;by_cases xo:60<iC
       .go_wp2_with fail
        go_ret;exact⟨_,rfl,bp.trans ax,λh=>by cases h⟩
       .go_wp2_with fail
        refine KS.mono ?_;rintro e c4⟨fm,rfl,cy,_⟩
        cases fm
        .go_wp2_with fail
         go_ret;exact⟨_,rfl,(bp.trans ax).trans cy,λh=>by cases h⟩
        .go_wp2_with fail
         go_roundw
         case rel=>exact⟨iC,q+1,by first|rfl|rw[iL],hw,rfl,M8,ax.trans cy⟩
         case measure=>simp[intOf];omega
      .have Cw:¬((q:J)<ns):=by omega
       go_wp2_with fail
       go_ret;exact⟨_,rfl,bp.trans ax,λh=>b1 KI⟩
end Go.Proofs.YtilhklpfkgbikaaGreatDoor
