import Derived.Test.YtobpgndkciofhaaGreatDoorJ
set_option linter.all false
namespace Go.Proofs.YtobpgndkciofhaaGreatDoor
open Go.RowKit Go.Proofs.Tryz
open Go.Lib (hid)
set_option maxRecDepth 100000
set_option maxHeartbeats 8000000
theorem AF (k e n:Int) (w:World):Calls prog 145 #[.agg #[k,e,n]] w fun x w'=>x= .returned (.bool (gH ⟨k,e,n⟩))∧Kept w w':=by
 go_enter func145,ntmps145
 go_wp2_with fail
 all_goals
  go_ret;exact⟨eD (by unfold gH;(rw[Bool.eq_iff_iff];(try simp at*);(try omega))),(aQ _).alloc _⟩
theorem eqB (a b:Int):(a==b)=decide (a=b):=by by_cases h:a=b<;>simp[h]
theorem WT (k e n fb e9:Int) (w:World):Calls prog 159 #[.agg #[k,e,n],.agg #[fb,e9]] w fun x w'=>x= .returned (.bool (tX ⟨k,e,n⟩ fb e9))∧Kept w w':=by
 have cV:=hid (fun w=>AF k e n w)
 cases hp:gH ⟨k,e,n⟩
 all_goals
  rw[hp]at cV;have aI:=hid (show tX ⟨k,e,n⟩ fb e9=_ from by unfold tX;rw[hp]);clear hp;have du:=hid (((aQ w).alloc (.cells #[k,e,n] 44)).alloc (.cells #[fb,e9] 57));go_enter func159,ntmps159
  go_wp2_with (go_at_call 145;refine (cV.out _).mono ?_;rintro y w2 ⟨rfl,a'⟩;obtain⟨bY,bc,eh⟩:=Kept.UK a')
  all_goals
   go_ret;exact⟨eD (by rw[aI.out];(rw[Bool.eq_iff_iff];(try simp at*);(try omega))),du.out.trans a'⟩
theorem aiE (a b:bg) (w:World):Calls prog 163 #[.agg #[a.k,a.e,a.n],.agg #[b.k,b.e,b.n]] w fun x w'=>x= .returned (.bool (Iy a b))∧Kept w w':=by
 obtain⟨k,e,n⟩:=a;obtain⟨YY,nj,mi⟩:=b;go_enter func163,ntmps163
 go_wp2_with fail
 all_goals
  go_ret;exact⟨eD (by unfold Iy;(rw[Bool.eq_iff_iff];(try simp at*);(try omega))),((aQ _).alloc _).alloc _⟩
theorem QR (k:Int) (w:World):Calls prog 172 #[k] w fun x w'=>x= .returned (.bool (lU k))∧w=w':=by
 go_enter func172,ntmps172
 go_wp2_with fail
 all_goals
  go_ret;exact⟨eD (by unfold lU;(rw[Bool.eq_iff_iff];(try simp at*);(try omega))),rfl⟩
theorem abe (o:Int) (w:World):Calls prog 158 #[o] w fun x w'=>x= .returned (.bool (yV o))∧w=w':=by
 go_enter func158,ntmps158
 go_wp2_with fail
 all_goals
  go_ret;exact⟨eD (by unfold yV;(rw[Bool.eq_iff_iff];(try simp at*);(try omega))),rfl⟩
theorem aa8 (b:Bool) (w:World):Calls prog 176 #[.bool b] w fun x w'=>x= .returned (.agg #[.int .i64 1,(),.int .i64 (oK b).n])∧Kept w w':=by
 cases b
 ·go_enter func176,ntmps176
  go_wp2_with fail
  exact bodyPost_ret (v:= .agg #[.int .i64 1,(),()]) (by simp[results,results176,go_sem]) rfl ⟨rfl,by repeat (first|exact (aQ _).alloc _|refine Kept.setCell ?_ (by simp) _)⟩
 ·go_enter func176,ntmps176
  go_wp2_with fail
  exact bodyPost_ret (v:= .agg #[.int .i64 1,(),.int .i64 1]) (by simp[results,results176,go_sem]) rfl ⟨rfl,by repeat (first|exact (aQ _).alloc _|refine Kept.setCell ?_ (by simp) _)⟩
theorem akd (o k:Int) (w:World):Calls prog 161 #[o,k] w fun x w'=>x= .returned (.bool (IK o k))∧w=w':=by
 have bk:=hid (show lU k=decide (k=2∨k=3∨k=4)from rfl);have dn:=hid (fun w=>QR k w)
 cases au:lU k
 all_goals
  rw[au]at bk dn;clear au;go_enter func161,ntmps161
  go_wp2_with (go_at_call 172;refine (dn.out _).mono ?_;rintro e w' ⟨rfl,rfl⟩)
  all_goals
   go_ret;have yp:=bk.out;clear dn bk;exact⟨eD (by unfold IK;(rw[Bool.eq_iff_iff];(try simp at*);(try omega))),rfl⟩
theorem agU (o k e:Int) (w:World):Calls prog 160 #[o,.agg #[k,e]] w fun x w'=>x= .returned (.bool (Ic o ⟨k,e⟩))∧Kept w w':=by
 have bk:=hid (show lU k=decide (k=2∨k=3∨k=4)from rfl)
 cases au:lU k
 all_goals
  rw[au]at bk;have dn:=hid (fun w=>QR k w);rw[au]at dn;clear au;go_enter func160,ntmps160
  go_wp2_with (go_at_call 172;refine (dn.out _).mono ?_;rintro e w' ⟨rfl,rfl⟩)
  all_goals
   go_ret;have yp:=bk.out;clear dn bk;exact⟨eD (by unfold Ic;(rw[Bool.eq_iff_iff];(try simp at*);(try omega))),(aQ _).alloc _⟩
theorem acQ (o:Int):o=11∨o=12∨o=13∨o=14∨o=15∨o=16∨o=17∨o=18∨o=21∨o=22∨o=19∨o=20∨o=23∨o=24∨o=27∨o=28∨o=29∨o=30∨(o<11∨30<o∨o=25∨o=26):=by omega
theorem acP (o b9 cL an dv be cc:Int) (aL:(11≤o∧o≤24)∨(27≤o∧o≤30)) (w:World):Calls prog 162 #[o,.agg #[b9,cL,an],.agg #[dv,be,cc]] w fun x w'=>x= .returned (.bool (ve o ⟨b9,cL,an⟩ ⟨dv,be,cc⟩))∧Kept w w':=by
 have dn:=hid (fun w=>QR b9 w);have ch:=hid (fun w=>aiE ⟨b9,cL,an⟩ ⟨dv,be,cc⟩ w);have bz:=hid (show lU b9=decide (b9=2∨b9=3∨b9=4)from rfl);have cD:=hid (show Iy ⟨b9,cL,an⟩ ⟨dv,be,cc⟩=decide (b9=dv∧cL=be)from rfl);generalize lU b9=q at*;generalize Iy ⟨b9,cL,an⟩ ⟨dv,be,cc⟩=s at*;rcases acQ o with rfl|rfl|rfl|rfl|rfl|rfl|rfl|rfl|rfl|rfl|rfl|rfl|rfl|rfl|rfl|rfl|rfl|rfl|h
 case inr.inr.inr.inr.inr.inr.inr.inr.inr.inr.inr.inr.inr.inr.inr.inr.inr.inr=>exfalso;omega
 case' inr.inr.inr.inr.inl=>by_cases h15:dv=2
 all_goals
  (try clear aL)
  go_enter func162,ntmps162
  go_wp2_with (first|(go_at_call 172;refine (dn.out _).mono ?_;rintro e w' ⟨rfl,rfl⟩)|(go_at_call 163;refine (ch.out _).mono ?_;rintro y w2 ⟨rfl,a'⟩;obtain⟨bY,bc,eh⟩:=Kept.UK a'))
  all_goals
   go_ret;have au:=bz.out;have ax:=cD.out;clear dn ch bz cD;refine⟨eD ?_,?_⟩
   ·cases q<;>cases s<;>first
     |contradiction
     |(rw[Bool.eq_iff_iff];unfold ve;simp at au ax;simp<;>omega)
   ·first
     |exact Kept.alloc (Kept.alloc (aQ _) _) _
     |exact Kept.trans (Kept.alloc (Kept.alloc (aQ _) _) _) ‹Kept _ _›
def xX (o n:Int) (a b:bg) (r:bg×Int):Prop:=
 ∀w,Calls prog 178 #[.agg #[o,n],.agg #[a.k,a.e,a.n],.agg #[b.k,b.e,b.n]] w fun x w'=>x= .returned (.tuple #[.agg #[r.1.k,r.1.e,r.1.n],r.2])∧Kept w w'
theorem AE {v:bg} (h:gH v=true): -1000000000000000≤v.n∧v.n≤1000000000000000∧(v.k=2→ -1000000000000≤v.n∧v.n≤1000000000000):=by
 unfold gH at h;simp at h;omega
theorem aiJ (n b9 cL an dv be cc:Int) (aZ: -1000000000000000≤an∧an≤1000000000000000) (J: -1000000000000≤cc∧cc≤1000000000000):∃r,xX 13 n ⟨b9,cL,an⟩ ⟨dv,be,cc⟩ r:=by
 obtain⟨q,b_,au,g'⟩:=ahU an cc aZ J;have cB:=hid g';clear g';refine⟨(⟨b9,0,q⟩,b_),fun w=> ?_⟩;go_enter func178,ntmps178
 go_wp2_with (go_at_call 195;refine (cB.out _).mono ?_;rintro e w1 ⟨rfl,ak⟩;obtain⟨cx,gQ⟩:=Kept.cells ak;have cb:=ak.size;(try simp at cb))
 exact bodyPost_ret (v:= .tuple #[.agg #[b9,(),q],b_]) (by simp[results,results178,go_sem,cx]) rfl ⟨rfl,(by with_reducible repeat first|exact .refl _|assumption|refine .drew ?_|refine .alloc ?_ _|refine .setCell ?_ (by (try simp only);omega) _|refine .trans ?_ ‹Kept _ _›)⟩
theorem aiK (n b9 cL an dv be cc:Int) (aZ:gT an) (J:gT cc) (aa:b9=3):∃r,xX 14 n ⟨b9,cL,an⟩ ⟨dv,be,cc⟩ r:=by
 obtain⟨q,b_,au,g'⟩:=ahV an cc n aZ J;have cB:=hid g';clear g';subst aa;refine⟨(⟨3,0,q⟩,b_),fun w=> ?_⟩;go_enter func178,ntmps178
 go_wp2_with (go_at_call 196;refine (cB.out _).mono ?_;rintro e w1 ⟨rfl,ak⟩;obtain⟨cx,gQ⟩:=Kept.cells ak;have cb:=ak.size;(try simp at cb))
 exact bodyPost_ret (v:= .tuple #[.agg #[.int .i64 3,(),q],b_]) (by simp[results,results178,go_sem,cx]) rfl ⟨rfl,(by with_reducible repeat first|exact .refl _|assumption|refine .drew ?_|refine .alloc ?_ _|refine .setCell ?_ (by (try simp only);omega) _|refine .trans ?_ ‹Kept _ _›)⟩
theorem aiL (n b9 cL an dv be cc:Int) (aa:¬b9=3):∃r,xX 14 n ⟨b9,cL,an⟩ ⟨dv,be,cc⟩ r:=by
 obtain⟨q,b_,au,g'⟩:=aib an cc n;have cB:=hid g';clear g';refine⟨(⟨b9,0,q⟩,b_),fun w=> ?_⟩;go_enter func178,ntmps178
 go_wp2_with (go_at_call 197;refine (cB.out _).mono ?_;rintro e w1 ⟨rfl,ak⟩;obtain⟨cx,gQ⟩:=Kept.cells ak;have cb:=ak.size;(try simp at cb))
 exact bodyPost_ret (v:= .tuple #[.agg #[b9,(),q],b_]) (by simp[results,results178,go_sem,cx]) rfl ⟨rfl,(by with_reducible repeat first|exact .refl _|assumption|refine .drew ?_|refine .alloc ?_ _|refine .setCell ?_ (by (try simp only);omega) _|refine .trans ?_ ‹Kept _ _›)⟩
theorem aiM (n b9 cL an dv be cc:Int) (aZ:gT an) (J:gT cc) (aa:dv=2):∃r,xX 15 n ⟨b9,cL,an⟩ ⟨dv,be,cc⟩ r:=by
 obtain⟨q,b_,au,g'⟩:=Kh an cc n aZ J;have cB:=hid g';clear g';subst aa;refine⟨(⟨b9,0,q⟩,b_),fun w=> ?_⟩;go_enter func178,ntmps178
 go_wp2_with (go_at_call 191;refine (cB.out _).mono ?_;rintro e w1 ⟨rfl,ak⟩;obtain⟨cx,gQ⟩:=Kept.cells ak;have cb:=ak.size;(try simp at cb))
 exact bodyPost_ret (v:= .tuple #[.agg #[b9,(),q],b_]) (by simp[results,results178,go_sem,cx]) rfl ⟨rfl,(by with_reducible repeat first|exact .refl _|assumption|refine .drew ?_|refine .alloc ?_ _|refine .setCell ?_ (by (try simp only);omega) _|refine .trans ?_ ‹Kept _ _›)⟩
theorem aiN (n b9 cL an dv be cc:Int) (aa:¬dv=2):∃r,xX 15 n ⟨b9,cL,an⟩ ⟨dv,be,cc⟩ r:=by
 obtain⟨q,b_,au,g'⟩:=aeA an cc n;have cB:=hid g';clear g';refine⟨(⟨4,0,q⟩,b_),fun w=> ?_⟩;go_enter func178,ntmps178
 go_wp2_with (go_at_call 199;refine (cB.out _).mono ?_;rintro e w1 ⟨rfl,ak⟩;obtain⟨cx,gQ⟩:=Kept.cells ak;have cb:=ak.size;(try simp at cb))
 exact bodyPost_ret (v:= .tuple #[.agg #[.int .i64 4,(),q],b_]) (by simp[results,results178,go_sem,cx]) rfl ⟨rfl,(by with_reducible repeat first|exact .refl _|assumption|refine .drew ?_|refine .alloc ?_ _|refine .setCell ?_ (by (try simp only);omega) _|refine .trans ?_ ‹Kept _ _›)⟩
theorem aiO (n b9 cL an dv be cc:Int) (aZ:gT an) (J:gT cc):∃r,xX 16 n ⟨b9,cL,an⟩ ⟨dv,be,cc⟩ r:=by
 obtain⟨q,b_,au,g'⟩:=aie an cc n aZ J;have cB:=hid g';clear g';refine⟨(⟨b9,0,q⟩,b_),fun w=> ?_⟩;go_enter func178,ntmps178
 go_wp2_with (go_at_call 198;refine (cB.out _).mono ?_;rintro e w1 ⟨rfl,ak⟩;obtain⟨cx,gQ⟩:=Kept.cells ak;have cb:=ak.size;(try simp at cb))
 exact bodyPost_ret (v:= .tuple #[.agg #[b9,(),q],b_]) (by simp[results,results178,go_sem,cx]) rfl ⟨rfl,(by with_reducible repeat first|exact .refl _|assumption|refine .drew ?_|refine .alloc ?_ _|refine .setCell ?_ (by (try simp only);omega) _|refine .trans ?_ ‹Kept _ _›)⟩
theorem aiP (o n:Int) (a b:bg) (aL:13≤o∧o≤16) (bD:gH a=true) (gG:gH b=true) (J:ve o a b=true):∃r,xX o n a b r:=by
 obtain⟨b9,cL,an⟩:=a;obtain⟨dv,be,cc⟩:=b;have Iw:=AE bD;have ux:=AE gG;have ER:gT an:=⟨by simp at Iw;omega,by simp at Iw;omega⟩;have Cs:gT cc:=⟨by simp at ux;omega,by simp at ux;omega⟩;obtain rfl|rfl|rfl|rfl:o=13∨o=14∨o=15∨o=16:=by omega
 ·exact aiJ n b9 cL an dv be cc ⟨Iw.1,Iw.2.1⟩ (ux.2.2 (by unfold ve at J;simp at J;exact J.1))
 ·by_cases h:b9=3
  ·exact aiK n b9 cL an dv be cc ER Cs h
  ·exact aiL n b9 cL an dv be cc h
 ·by_cases h:dv=2
  ·exact aiM n b9 cL an dv be cc ER Cs h
  ·exact aiN n b9 cL an dv be cc h
 ·exact aiO n b9 cL an dv be cc ER Cs
open Classical in
noncomputable def oH (x:cz) (a b:bg):bg×Int:=if h:∃r,xX x.o x.n a b r then Classical.choose h else (v0,0)
theorem aiI {x:cz} {a b:bg} (aL:13≤x.o∧x.o≤16) (bD:gH a=true) (gG:gH b=true) (J:ve x.o a b=true):xX x.o x.n a b (oH x a b):=by
 have h:=aiP x.o x.n a b aL bD gG J;unfold oH;rw[dif_pos h];exact Classical.choose_spec h
theorem ake (o k e n:Int) (aL:o=10∨o=25∨o=31∨o=32) (bD:gH ⟨k,e,n⟩=true) (w:World) (br:Mon w):Calls prog 167 #[o,.agg #[k,e,n]] w fun x w'=>x= .returned (.agg #[.int .i64 (CS o ⟨k,e,n⟩).k,.int .i64 (CS o ⟨k,e,n⟩).e,.int .i64 (CS o ⟨k,e,n⟩).n])∧Kept w w':=by
 obtain⟨aO,aN,-⟩:=AE bD;simp only at aO aN;have cB:=hid (fun w br=>Mv n w br);have cp:=hid br;rcases aL with rfl|rfl|rfl|rfl
 ·go_enter func167,ntmps167
  go_wp2_with fail
  exact bodyPost_ret (v:= .agg #[k,(),.int .i64 (-n)]) (by simp[results,results167,go_sem]) rfl ⟨rfl,(by with_reducible repeat first|exact .refl _|assumption|refine .drew ?_|refine .alloc ?_ _|refine .setCell ?_ (by (try simp only);omega) _|refine .trans ?_ ‹Kept _ _›)⟩
 ·have ch:=hid (fun w=>(by rw[eqB];exact aa8 _ w:Calls prog 176 #[.bool (n==0)] w fun x w'=>x= .returned (.agg #[.int .i64 1,(),.int .i64 (oK (decide (n=0))).n])∧Kept w w'));obtain⟨z,ck⟩:∃z,z=(oK (decide (n=0))).n:=⟨_,rfl⟩;rw[←ck]at ch;have aI:=hid (show CS 25 ⟨k,e,n⟩=⟨1,0,z⟩ by rw[ck];rfl);clear ck;rw[aI.out];go_enter func167,ntmps167
  go_wp2_with (go_at_call 176;refine (ch.out _).mono ?_;rintro y w1 ⟨rfl,ak⟩;obtain⟨cx,gQ⟩:=Kept.cells ak;have cb:=ak.size;(try simp at cb))
  exact bodyPost_ret (v:= .agg #[.int .i64 1,(),.int .i64 z]) (by simp[results,results167,go_sem,cx]) rfl ⟨rfl,(by with_reducible repeat first|exact .refl _|assumption|refine .drew ?_|refine .alloc ?_ _|refine .setCell ?_ (by (try simp only);omega) _|refine .trans ?_ ‹Kept _ _›)⟩
 ·go_enter func167,ntmps167
  go_wp2_with (go_at_call 177;refine (cB.out _ (cp.out.kept (by with_reducible repeat first|exact .refl _|assumption|refine .drew ?_|refine .alloc ?_ _|refine .setCell ?_ (by (try simp only);omega) _|refine .trans ?_ ‹Kept _ _›))).mono ?_;rintro y w1 ⟨rfl,rfl⟩)
  exact bodyPost_ret (v:= .agg #[.int .i64 2,(),.int .i64 (dU n).1]) (by simp[results,results167,go_sem]) rfl ⟨rfl,(by with_reducible repeat first|exact .refl _|assumption|refine .drew ?_|refine .alloc ?_ _|refine .setCell ?_ (by (try simp only);omega) _|refine .trans ?_ ‹Kept _ _›)⟩
 ·go_enter func167,ntmps167
  go_wp2_with (go_at_call 177;refine (cB.out _ (cp.out.kept (by with_reducible repeat first|exact .refl _|assumption|refine .drew ?_|refine .alloc ?_ _|refine .setCell ?_ (by (try simp only);omega) _|refine .trans ?_ ‹Kept _ _›))).mono ?_;rintro y w1 ⟨rfl,rfl⟩)
  exact bodyPost_ret (v:= .agg #[.int .i64 2,(),.int .i64 (dU n).2.1]) (by simp[results,results167,go_sem]) rfl ⟨rfl,(by with_reducible repeat first|exact .refl _|assumption|refine .drew ?_|refine .alloc ?_ _|refine .setCell ?_ (by (try simp only);omega) _|refine .trans ?_ ‹Kept _ _›)⟩
theorem acR (o:Int) (aL:(11≤o∧o≤22)∨(27≤o∧o≤30)):o=11∨o=27∨o=12∨o=29∨(13≤o∧o≤16)∨o=17∨o=18∨o=19∨o=20∨o=21∨o=22∨o=28∨o=30:=by omega
def vcV (r:bg×Int):Value:= .tuple #[.agg #[r.1.k,r.1.e,r.1.n],r.2]
theorem acS (qv:jm→Int→Int→Int→Int×Int) (o n b9 cL an dv be cc:Int) (aL:(11≤o∧o≤22)∨(27≤o∧o≤30)) (bD:gH ⟨b9,cL,an⟩=true) (gG:gH ⟨dv,be,cc⟩=true) (J:ve o ⟨b9,cL,an⟩ ⟨dv,be,cc⟩=true) (w:World) (br:Mon w):
  Calls prog 168 #[.agg #[o,n],.agg #[b9,cL,an],.agg #[dv,be,cc]] w fun x w'=>x= .returned (vcV (ng ⟨oH,qv⟩ ⟨o,n⟩ ⟨b9,cL,an⟩ ⟨dv,be,cc⟩))∧Kept w w':=by
 obtain⟨aO,aN,-⟩:=AE bD;obtain⟨im,i_,-⟩:=AE gG;simp only at aO aN im i_;have cp:=hid br;have ch:=hid (fun (b:Bool) w=>aa8 b w);rcases acR o aL with rfl|rfl|rfl|rfl|h|rfl|rfl|rfl|rfl|rfl|rfl|rfl|rfl
 ·clear br bD gG J aL;go_enter func168,ntmps168
  go_wp2_with fail
  exact bodyPost_ret (v:= .tuple #[.agg #[b9,(),.int .i64 (an+cc)],()]) (by simp[results,results168,go_sem]) rfl ⟨rfl,(by with_reducible repeat first|exact .refl _|assumption|refine .drew ?_|refine .alloc ?_ _|refine .setCell ?_ (by (try simp only);omega) _|refine .trans ?_ ‹Kept _ _›)⟩
 ·clear br bD gG J aL;go_enter func168,ntmps168
  go_wp2_with fail
  exact bodyPost_ret (v:= .tuple #[.agg #[b9,(),.int .i64 (an+cc)],()]) (by simp[results,results168,go_sem]) rfl ⟨rfl,(by with_reducible repeat first|exact .refl _|assumption|refine .drew ?_|refine .alloc ?_ _|refine .setCell ?_ (by (try simp only);omega) _|refine .trans ?_ ‹Kept _ _›)⟩
 ·clear br bD gG J aL;go_enter func168,ntmps168
  go_wp2_with fail
  exact bodyPost_ret (v:= .tuple #[.agg #[b9,(),.int .i64 (an-cc)],()]) (by simp[results,results168,go_sem]) rfl ⟨rfl,(by with_reducible repeat first|exact .refl _|assumption|refine .drew ?_|refine .alloc ?_ _|refine .setCell ?_ (by (try simp only);omega) _|refine .trans ?_ ‹Kept _ _›)⟩
 ·clear br bD gG J aL;go_enter func168,ntmps168
  go_wp2_with fail
  exact bodyPost_ret (v:= .tuple #[.agg #[.int .i64 2,(),.int .i64 (cc-an)],()]) (by simp[results,results168,go_sem]) rfl ⟨rfl,(by with_reducible repeat first|exact .refl _|assumption|refine .drew ?_|refine .alloc ?_ _|refine .setCell ?_ (by (try simp only);omega) _|refine .trans ?_ ‹Kept _ _›)⟩
 ·have ax:=aiI (x:=⟨o,n⟩) h bD gG J;have aI:=hid (show ng ⟨oH,qv⟩ ⟨o,n⟩ ⟨b9,cL,an⟩ ⟨dv,be,cc⟩=oH ⟨o,n⟩ ⟨b9,cL,an⟩ ⟨dv,be,cc⟩ by
   unfold ng;rw[if_neg (by simp;omega),if_neg (by simp;omega),if_pos h])
  generalize oH ⟨o,n⟩ ⟨b9,cL,an⟩ ⟨dv,be,cc⟩=R at*;obtain⟨⟨eX,gw,dw⟩,rc⟩:=R;have cD:=hid ax;obtain⟨bY,bc,eh⟩:(o==11)=false∧(o==27)=false∧(o==12)=false:=by refine⟨?_,?_,?_⟩<;>(simp;omega)
  rw[aI.out];have dy:(o==13)=true∨((o==13)=false∧(o==14)=true)∨((o==13)=false∧(o==14)=false∧(o==15)=true)∨((o==13)=false∧(o==14)=false∧(o==15)=false∧(o==16)=true):=by simp;omega
  clear br bD gG J aL ax h;rcases dy with h|⟨h,U⟩|⟨h,U,ae⟩|⟨h,U,ae,aJ⟩
  all_goals
   go_enter func168,ntmps168
   go_wp2_with (go_at_call 178;refine (cD.out _).mono ?_;rintro y w1 ⟨rfl,ak⟩;obtain⟨cx,gQ⟩:=Kept.cells ak;have cb:=ak.size;(try simp at cb))
   exact bodyPost_ret (v:= .tuple #[.agg #[eX,gw,dw],rc]) (by simp[results,results168,go_sem,cx]) rfl ⟨rfl,(by with_reducible repeat first|exact .refl _|assumption|refine .drew ?_|refine .alloc ?_ _|refine .setCell ?_ (by (try simp only);omega) _|refine .trans ?_ ‹Kept _ _›)⟩
 ·clear br bD gG J aL;by_cases aD:cc<an
  ·have aI:=hid (show ng ⟨oH,qv⟩ ⟨17,n⟩ ⟨b9,cL,an⟩ ⟨dv,be,cc⟩=(⟨dv,be,cc⟩,0) by simp[ng,aD]);go_enter func168,ntmps168
   go_wp2_with fail
   exact bodyPost_ret (v:= .tuple #[.agg #[dv,be,cc],()]) (by simp[results,results168,go_sem]) rfl ⟨by rw[aI.out];rfl,(by with_reducible repeat first|exact .refl _|assumption|refine .drew ?_|refine .alloc ?_ _|refine .setCell ?_ (by (try simp only);omega) _|refine .trans ?_ ‹Kept _ _›)⟩
  ·have aI:=hid (show ng ⟨oH,qv⟩ ⟨17,n⟩ ⟨b9,cL,an⟩ ⟨dv,be,cc⟩=(⟨b9,cL,an⟩,0) by simp[ng,aD]);go_enter func168,ntmps168
   go_wp2_with fail
   exact bodyPost_ret (v:= .tuple #[.agg #[b9,cL,an],()]) (by simp[results,results168,go_sem]) rfl ⟨by rw[aI.out];rfl,(by with_reducible repeat first|exact .refl _|assumption|refine .drew ?_|refine .alloc ?_ _|refine .setCell ?_ (by (try simp only);omega) _|refine .trans ?_ ‹Kept _ _›)⟩
 ·clear br bD gG J aL;by_cases aD:cc<an
  ·have aI:=hid (show ng ⟨oH,qv⟩ ⟨18,n⟩ ⟨b9,cL,an⟩ ⟨dv,be,cc⟩=(⟨b9,cL,an⟩,0) by simp[ng,aD]);go_enter func168,ntmps168
   go_wp2_with fail
   exact bodyPost_ret (v:= .tuple #[.agg #[b9,cL,an],()]) (by simp[results,results168,go_sem]) rfl ⟨by rw[aI.out];rfl,(by with_reducible repeat first|exact .refl _|assumption|refine .drew ?_|refine .alloc ?_ _|refine .setCell ?_ (by (try simp only);omega) _|refine .trans ?_ ‹Kept _ _›)⟩
  ·have aI:=hid (show ng ⟨oH,qv⟩ ⟨18,n⟩ ⟨b9,cL,an⟩ ⟨dv,be,cc⟩=(⟨dv,be,cc⟩,0) by simp[ng,aD]);go_enter func168,ntmps168
   go_wp2_with fail
   exact bodyPost_ret (v:= .tuple #[.agg #[dv,be,cc],()]) (by simp[results,results168,go_sem]) rfl ⟨by rw[aI.out];rfl,(by with_reducible repeat first|exact .refl _|assumption|refine .drew ?_|refine .alloc ?_ _|refine .setCell ?_ (by (try simp only);omega) _|refine .trans ?_ ‹Kept _ _›)⟩
 ·clear br bD gG J aL;obtain⟨z,ck⟩:∃z,z=(oK (decide (an=cc))).n:=⟨_,rfl⟩;have aI:=hid (show ng ⟨oH,qv⟩ ⟨19,n⟩ ⟨b9,cL,an⟩ ⟨dv,be,cc⟩=(⟨1,0,z⟩,0) by rw[ck];rfl);have cg:=hid (show∀b:Bool,(b=true↔an=cc)→(oK b).n=z from fun b J=>by rw[ck,show decide (an=cc)=b by rw[Bool.eq_iff_iff,decide_eq_true_eq,J]]);clear ck;rw[aI.out];go_enter func168,ntmps168
  go_wp2_with (go_at_call 176;refine (ch.out _ _).mono ?_;rw[cg.out _ (by simp)];rintro y w1 ⟨rfl,ak⟩;obtain⟨cx,gQ⟩:=Kept.cells ak;have cb:=ak.size;(try simp at cb))
  exact bodyPost_ret (v:= .tuple #[.agg #[.int .i64 1,(),.int .i64 z],()]) (by simp[results,results168,go_sem,cx]) rfl ⟨rfl,(by with_reducible repeat first|exact .refl _|assumption|refine .drew ?_|refine .alloc ?_ _|refine .setCell ?_ (by (try simp only);omega) _|refine .trans ?_ ‹Kept _ _›)⟩
 ·clear br bD gG J aL;obtain⟨z,ck⟩:∃z,z=(oK (decide (an≠cc))).n:=⟨_,rfl⟩;have aI:=hid (show ng ⟨oH,qv⟩ ⟨20,n⟩ ⟨b9,cL,an⟩ ⟨dv,be,cc⟩=(⟨1,0,z⟩,0) by rw[ck];rfl);have cg:=hid (show∀b:Bool,(b=true↔an≠cc)→(oK b).n=z from fun b J=>by rw[ck,show decide (an≠cc)=b by rw[Bool.eq_iff_iff,decide_eq_true_eq,J]]);clear ck;rw[aI.out];go_enter func168,ntmps168
  go_wp2_with (go_at_call 176;refine (ch.out _ _).mono ?_;rw[cg.out _ (by simp)];rintro y w1 ⟨rfl,ak⟩;obtain⟨cx,gQ⟩:=Kept.cells ak;have cb:=ak.size;(try simp at cb))
  exact bodyPost_ret (v:= .tuple #[.agg #[.int .i64 1,(),.int .i64 z],()]) (by simp[results,results168,go_sem,cx]) rfl ⟨rfl,(by with_reducible repeat first|exact .refl _|assumption|refine .drew ?_|refine .alloc ?_ _|refine .setCell ?_ (by (try simp only);omega) _|refine .trans ?_ ‹Kept _ _›)⟩
 ·clear br bD gG J aL;obtain⟨z,ck⟩:∃z,z=(oK (decide (an<cc))).n:=⟨_,rfl⟩;have aI:=hid (show ng ⟨oH,qv⟩ ⟨21,n⟩ ⟨b9,cL,an⟩ ⟨dv,be,cc⟩=(⟨1,0,z⟩,0) by rw[ck];rfl);have cg:=hid (show∀b:Bool,(b=true↔an<cc)→(oK b).n=z from fun b J=>by rw[ck,show decide (an<cc)=b by rw[Bool.eq_iff_iff,decide_eq_true_eq,J]]);clear ck;rw[aI.out];go_enter func168,ntmps168
  go_wp2_with (go_at_call 176;refine (ch.out _ _).mono ?_;rw[cg.out _ (by simp)];rintro y w1 ⟨rfl,ak⟩;obtain⟨cx,gQ⟩:=Kept.cells ak;have cb:=ak.size;(try simp at cb))
  exact bodyPost_ret (v:= .tuple #[.agg #[.int .i64 1,(),.int .i64 z],()]) (by simp[results,results168,go_sem,cx]) rfl ⟨rfl,(by with_reducible repeat first|exact .refl _|assumption|refine .drew ?_|refine .alloc ?_ _|refine .setCell ?_ (by (try simp only);omega) _|refine .trans ?_ ‹Kept _ _›)⟩
 ·clear br bD gG J aL;obtain⟨z,ck⟩:∃z,z=(oK (decide (an≤cc))).n:=⟨_,rfl⟩;have aI:=hid (show ng ⟨oH,qv⟩ ⟨22,n⟩ ⟨b9,cL,an⟩ ⟨dv,be,cc⟩=(⟨1,0,z⟩,0) by rw[ck];rfl);have cg:=hid (show∀b:Bool,(b=true↔an≤cc)→(oK b).n=z from fun b J=>by rw[ck,show decide (an≤cc)=b by rw[Bool.eq_iff_iff,decide_eq_true_eq,J]]);clear ck;rw[aI.out];go_enter func168,ntmps168
  go_wp2_with (go_at_call 176;refine (ch.out _ _).mono ?_;rw[cg.out _ (by simp)];rintro y w1 ⟨rfl,ak⟩;obtain⟨cx,gQ⟩:=Kept.cells ak;have cb:=ak.size;(try simp at cb))
  exact bodyPost_ret (v:= .tuple #[.agg #[.int .i64 1,(),.int .i64 z],()]) (by simp[results,results168,go_sem,cx]) rfl ⟨rfl,(by with_reducible repeat first|exact .refl _|assumption|refine .drew ?_|refine .alloc ?_ _|refine .setCell ?_ (by (try simp only);omega) _|refine .trans ?_ ‹Kept _ _›)⟩
 ·clear bD gG J aL;have cB:=hid (fun w br=>Uo an cc w br);have aI:=hid (show ng ⟨oH,qv⟩ ⟨28,n⟩ ⟨b9,cL,an⟩ ⟨dv,be,cc⟩=(⟨5,0,(nf an cc).1⟩,(nf an cc).2)from rfl);rw[aI.out];generalize nf an cc=R at*;obtain⟨b3,cT⟩:=R;go_enter func168,ntmps168
  go_wp2_with (go_at_call 179;refine (cB.out _ (cp.out.kept (by with_reducible repeat first|exact .refl _|assumption|refine .drew ?_|refine .alloc ?_ _|refine .setCell ?_ (by (try simp only);omega) _|refine .trans ?_ ‹Kept _ _›))).mono ?_;rintro y w1 ⟨rfl,rfl⟩)
  exact bodyPost_ret (v:= .tuple #[.agg #[.int .i64 5,(),b3],cT]) (by simp[results,results168,go_sem]) rfl ⟨rfl,(by with_reducible repeat first|exact .refl _|assumption|refine .drew ?_|refine .alloc ?_ _|refine .setCell ?_ (by (try simp only);omega) _|refine .trans ?_ ‹Kept _ _›)⟩
 ·clear bD gG J aL;have cB:=hid (fun w br=>akG an cc w br);have aI:=hid (show ng ⟨oH,qv⟩ ⟨30,n⟩ ⟨b9,cL,an⟩ ⟨dv,be,cc⟩=(⟨2,0,y1 an cc⟩,0)from rfl);rw[aI.out];generalize y1 an cc=R at*;go_enter func168,ntmps168
  go_wp2_with (go_at_call 180;refine (cB.out _ (cp.out.kept (by with_reducible repeat first|exact .refl _|assumption|refine .drew ?_|refine .alloc ?_ _|refine .setCell ?_ (by (try simp only);omega) _|refine .trans ?_ ‹Kept _ _›))).mono ?_;rintro y w1 ⟨rfl,rfl⟩)
  exact bodyPost_ret (v:= .tuple #[.agg #[.int .i64 2,(),R],()]) (by simp[results,results168,go_sem]) rfl ⟨rfl,(by with_reducible repeat first|exact .refl _|assumption|refine .drew ?_|refine .alloc ?_ _|refine .setCell ?_ (by (try simp only);omega) _|refine .trans ?_ ‹Kept _ _›)⟩
theorem aed (f t:Int) (w:World):Calls prog 81 #[.agg #[f,t]] w fun x w'=>x= .returned (.bool (decide (0≤f∧f≤t∧t≤109573)))∧Kept w w':=by
 go_enter func81,ntmps81
 go_wp2_with fail
 all_goals
  go_ret;exact⟨eD (by (rw[Bool.eq_iff_iff];(try simp at*);(try omega))),(by with_reducible repeat first|exact .refl _|assumption|refine .drew ?_|refine .alloc ?_ _|refine .setCell ?_ (by (try simp only);omega) _|refine .trans ?_ ‹Kept _ _›)⟩
theorem OE (f t d:Int) (w:World):Calls prog 104 #[.agg #[f,t],d] w fun x w'=>x= .returned (.bool (wO f t d))∧Kept w w':=by
 obtain⟨q,au⟩:∃q,q=decide (0≤f∧f≤t∧t≤109573):=⟨_,rfl⟩;have eU:=hid (fun w=>aed f t w);rw[←au]at eU;have bz:=hid au;clear au
 cases q
 all_goals
  go_enter func104,ntmps104
  go_wp2_with (go_at_call 81;refine (eU.out _).mono ?_;rintro y w1 ⟨rfl,ak⟩;obtain⟨cx,gQ⟩:=Kept.cells ak;have cb:=ak.size;(try simp at cb))
  all_goals
   go_ret;have au:=bz.out;clear eU bz;exact⟨eD (by unfold wO;(try clear cx gQ);simp at au;(rw[Bool.eq_iff_iff];(try simp at*);(try omega))),(by with_reducible repeat first|exact .refl _|assumption|refine .drew ?_|refine .alloc ?_ _|refine .setCell ?_ (by (try simp only);omega) _|refine .trans ?_ ‹Kept _ _›)⟩
def nk {α:Type} (p:α→Bool):List α→Nat→Option Nat
 |[],_=>none
 |x::r,i=>if p x then some i else nk p r (i+1)
theorem VI {α:Type} {p:α→Bool} {xs:List α} {i:Nat} {x:α} (h:xs[i]?=some x):nk p (xs.drop i) i=if p x then some i else nk p (xs.drop (i+1)) (i+1):=by
 obtain⟨aE,rfl⟩:=b8 h;rw[List.drop_eq_getElem_cons aE,nk]
theorem VJ {α:Type} {p:α→Bool} {xs:List α} {i:Nat} (h:¬i<xs.length):nk p (xs.drop i) i=none:=by
 rw[List.drop_eq_nil_iff.2 (by omega)];rfl
theorem VK {α:Type} {p:α→Bool}:∀(xs pre:List α),match nk p xs pre.length with
  |none=>xs.find? p=none
  |some k=>∃x,(pre++xs)[k]?=some x∧xs.find? p=some x
 |[],pre=>rfl
 |x::r,pre=>by
  unfold nk;by_cases h:p x=true
  ·rw[if_pos h];exact⟨x,by simp,by rw[List.find?_cons,h]⟩
  ·rw[if_neg h];have bH:=VK (p:=p) r (pre++[x]);rw[List.length_append,List.length_singleton]at bH;have dp:p x=false:=by simpa using h
   cases bO:nk p r (pre.length+1)with
   |none=>rw[bO]at bH;simp only at bH⊢;rw[List.find?_cons,dp];exact bH
   |some k=>
    rw[bO]at bH;obtain⟨y,I,U⟩:=bH;exact⟨y,by simpa using I,by rw[List.find?_cons,dp];exact U⟩
def E8 (o:Option Nat):Value:=match o with
 |none=> .tuple #[(),.bool false]
 |some k=> .tuple #[.int .i64 (k:Nat),.bool true]
def ya {α:Type} (p:α→Bool) (xs:List α) (w:World) (e:Ending) (w':World):Prop:=e= .returned (E8 (nk p xs 0))∧Kept w w'
def xp (r:kT):Value:= .agg #[r.dH,r.dB,r.ei,r.aE,r.n]
theorem agI (r:kT) (p q:Addr) (d k:Int) (w:World) (hp:p.spot=none∧p.block<w.heap.size∧w.cell? p=some (.int .i64 d)) (au:q.spot=none∧q.block<w.heap.size∧w.cell? q=some (.int .i64 k)):
  Calls prog 173 #[xp r,.pointer (some p),.pointer (some q)] w fun x w'=>x= .returned (.bool (s9 d k r))∧Kept w w':=by
 obtain⟨dH,dB,ei,aE,n⟩:=r;obtain⟨gG,anY,ps⟩:=p;obtain⟨ux,r7,aoH⟩:=q;obtain⟨rfl,Ch,ua⟩:=hp;obtain⟨rfl,jJ,jK⟩:=au;dsimp only at Ch jJ;have eU:=hid (fun w=>OE dH dB d w)
 cases ah:wO dH dB d
 all_goals
  rw[ah]at eU;have bI:=hid ah;clear ah;unfold xp;go_enter func173,ntmps173
  go_wp2_with (go_at_call 104;refine (eU.out _).mono ?_;rintro y w1 ⟨rfl,ak⟩;obtain⟨cx,gQ⟩:=Kept.cells ak;have cb:=ak.size;(try simp at cb))
  all_goals
   go_ret;have ah:=bI.out;clear eU bI;exact⟨eD (by unfold s9;rw[ah];(try clear cx gQ);clear ua jK;(rw[Bool.eq_iff_iff];(try simp at*);(try omega))),(by with_reducible repeat first|exact .refl _|assumption|refine .drew ?_|refine .alloc ?_ _|refine .setCell ?_ (by (try simp only);omega) _|refine .trans ?_ ‹Kept _ _›)⟩
theorem cH.at_ {α:Type} {k:Nat} {P:World→Nat→Nat→α→Prop} {w:World} {v:Value} {xs:List α} (h:cH k P w v xs):∃A cap,v= .slice A xs.length cap∧xs.length≤cap∧xs.length≤8796093022208∧(0<xs.length→∃b off,A=some ⟨b,off,none⟩∧b<w.heap.size∧∀j x,xs[j]?=some x→P w b (off+j*k) x):=h
theorem aet (v:Value) (rs:List kT) (p q:Addr) (d k:Int) (w:World) (bj:cH 5 jZ w v rs) (hp:p.spot=none∧p.block<w.heap.size∧w.cell? p=some (.int .i64 d)) (au:q.spot=none∧q.block<w.heap.size∧w.cell? q=some (.int .i64 k)):
 Calls prog 82 #[v,.func (.func 173) #[] #[.pointer (some p),.pointer (some q)]] w (ya (s9 d k) rs w):=by
 unfold ya;obtain⟨A,cap,rfl,w0,aq,aK⟩:=bj.at_;have bI:=hid (fun (r:kT) w1 (h:Kept w w1)=>agI r p q d k w1 ⟨hp.1,bd hp.2.1 h.size,h.cell hp.2.1 hp.2.2⟩ ⟨au.1,bd au.2.1 h.size,h.cell au.2.1 au.2.2⟩);obtain⟨n,aA⟩:∃n,n=rs.length:=⟨_,rfl⟩;rw[←aA]at aK w0 aq⊢;have bk:=hid aA;clear aA bj hp au;go_enter func82,ntmps82
 go_wp2_with fail
 go_loopw [10] (fun z wr=>∃i:Nat,i≤n∧z= .int .i64 i∧Kept w wr∧nk (s9 d k) (rs.drop i) i=nk (s9 d k) rs 0) (fun z _=>(n-intOf z).toNat)
 case atStart=>exact⟨0,Nat.zero_le _,rfl,aQ _,rfl⟩
 case round=>
  obtain⟨i,de,rfl,ab,aG⟩:=hrel;by_cases aD:i<n
  ·obtain⟨b,off,rfl,J,af⟩:=aK (by omega);have ai:rs[i]?=some (rs[i]'(by have:=bk.out;omega)):=a8 _;rw[VI ai]at aG;obtain⟨⟨bZ,-⟩,⟨b3,-⟩,⟨cT,-⟩,⟨ha,-⟩,⟨h0,-⟩⟩:=af i _ ai;generalize rs[i]'(by have:=bk.out;omega)=r at*;have gd:=bZ.kept ab J;have hO:=b3.kept ab J;have iv:=cT.kept ab J;have zG:=ha.kept ab J;have DL:=h0.kept ab J;unfold ed at gd hO iv zG DL;have oW:=bd J ab.size;have c6:(i:Int)<n:=by omega
   have A8:=hid (bI.out r);have k0:xp r= .agg #[r.dH,r.dB,r.ei,r.aE,r.n]:=rfl;rw[k0]at A8;clear af aK ai bZ b3 cT ha h0 k0
   cases HL:s9 d k r
   all_goals
    rw[HL]at aG A8;clear HL;simp only[if_true,Bool.false_eq_true,if_false]at aG;have dd:=hid aG;clear aG;go_wp2_with (go_at_call 173;refine (A8.out _ (Kept.trans ab (by with_reducible repeat first|exact .refl _|assumption|refine .drew ?_|refine .alloc ?_ _|refine .setCell ?_ (by (try simp only);omega) _|refine .trans ?_ ‹Kept _ _›))).mono ?_;rintro y w2 ⟨rfl,a'⟩)
    first
     |(go_roundw
       case rel=>exact⟨i+1,aD,by go_num,(by with_reducible repeat first|exact .refl _|assumption|refine .drew ?_|refine .alloc ?_ _|refine .setCell ?_ (by (try simp only);omega) _|refine .trans ?_ ‹Kept _ _›),dd.out⟩
       case measure=>simp[intOf];omega)
     |(go_ret2;exact⟨by rw[←dd.out];rfl,(by with_reducible repeat first|exact .refl _|assumption|refine .drew ?_|refine .alloc ?_ _|refine .setCell ?_ (by (try simp only);omega) _|refine .trans ?_ ‹Kept _ _›)⟩)
  ·have c6:¬((i:Int)<n):=by omega
   rw[VJ (by have:=bk.out;omega)]at aG;have dd:=hid aG;clear aG;go_wp2_with fail
   go_ret2
   exact⟨by rw[←dd.out];rfl,ab⟩
theorem ad1 (l n:Int) (I:0<l) (U:l≤2000000000000000):∃(q r:Int) (b:Bool),gT q∧gT r∧pn 174 #[l,n] (.tuple #[q,r,.bool b]):=by
 obtain⟨N,rfl⟩:∃N:Nat,l=N:=⟨l.toNat,by omega⟩;have aoV:IntKind.u64.wrap (N:Int)=N:=wrapN (by omega);obtain⟨va,tW,gY⟩:=jd n;obtain⟨S,bj,az⟩:=jd (if n<0 then -(va:Int)else va);have qz:(¬n<0→va=S)∧(n<0→IntKind.u64.wrap (-(va:Int))=S):=by
  refine⟨fun h=> ?_,fun h=> ?_⟩
  ·rw[if_neg h,wrapN tW]at az;omega
  ·rw[if_pos h]at az;exact az
 have hmul:=fun w=>LC N S (by omega) bj w;have vA:N*S/18446744073709551616<18446744073709551616:=by
  have:N*S≤2000000000000000*18446744073709551616:=Nat.mul_le_mul (by omega) (Nat.le_of_lt bj);omega
 have pQ:N*S% 18446744073709551616<18446744073709551616:=Nat.mod_lt _ (by decide);generalize N*S/18446744073709551616=dn at*;generalize N*S% 18446744073709551616=uV at*;have pw:=hid hmul;clear hmul az;by_cases ln:1000000≤dn
 ·have B7:(1000000:Int)≤dn:=by omega
  refine⟨0,0,false,⟨by decide,by decide⟩,⟨by decide,by decide⟩,fun w=> ?_⟩;by_cases lQ:n<0
  case' pos=>have a6:=qz.2 lQ
  case' neg=>obtain rfl:=qz.1 lQ
  all_goals
   clear qz tW vA pQ bj ln
   (try clear au cJ aw)
   go_enter func174,ntmps174
   go_wp2_with (go_at_call 189;refine (pw.out _).mono ?_;rintro y w1 ⟨rfl,rfl⟩)
   go_ret3
   exact⟨rfl,aQ _⟩
 have B7:decide ((1000000:Int)≤dn)=false:=decide_eq_false (by omega);obtain⟨Q,R,cJ,aw,g'⟩:=OT dn uV 1000000 (by omega) pQ (by omega);rw[show ((1000000:Nat):Int)=1000000 from rfl]at g';have qd:=hid g';clear g';by_cases au:1000000000000000<Q
 ·have rR:(1000000000000000:Int)<Q:=by omega
  refine⟨0,0,false,⟨by decide,by decide⟩,⟨by decide,by decide⟩,fun w=> ?_⟩;by_cases lQ:n<0
  case' pos=>have a6:=qz.2 lQ
  case' neg=>obtain rfl:=qz.1 lQ
  all_goals
   clear qz tW vA pQ bj ln
   (try clear au cJ aw)
   go_enter func174,ntmps174
   go_wp2_with (first|(go_at_call 189;refine (pw.out _).mono ?_;rintro y w1 ⟨rfl,rfl⟩)|(go_at_call 190;refine (qd.out _).mono ?_;rintro y w1 ⟨rfl,ak⟩))
   go_ret3
   exact⟨rfl,ak⟩
 have rR:¬(1000000000000000:Int)<Q:=by omega
 obtain⟨pa,xc,er0,alb⟩:=yY (R:Int);obtain⟨im,n0,er1,aem⟩:=yY (-pa);by_cases lQ:n<0
 ·have a6:=qz.2 lQ;refine⟨-(Q:Int),im,true,⟨by omega,by omega⟩,n0,fun w=> ?_⟩;clear qz tW vA pQ bj aw xc n0 ln au cJ;go_enter func174,ntmps174
  go_wp2_with (first|(go_at_call 189;refine (pw.out _).mono ?_;rintro y w1 ⟨rfl,rfl⟩)|(go_at_call 190;refine (qd.out _).mono ?_;rintro y w1 ⟨rfl,ak⟩))
  go_ret3
  exact⟨rfl,ak⟩
 ·obtain rfl:=qz.1 lQ;refine⟨(Q:Int),pa,true,⟨by omega,by omega⟩,xc,fun w=> ?_⟩;clear qz tW vA pQ bj aw xc n0 er1 aem ln au cJ;go_enter func174,ntmps174
  go_wp2_with (first|(go_at_call 189;refine (pw.out _).mono ?_;rintro y w1 ⟨rfl,rfl⟩)|(go_at_call 190;refine (qd.out _).mono ?_;rintro y w1 ⟨rfl,ak⟩))
  go_ret3
  exact⟨rfl,ak⟩
theorem aid (a b m:Int) (J:gT b):∃q c:Int,gT q∧pn 175 #[a,b,m] (.tuple #[q,c]):=by
 have dK: -1000000<b.tmod 1000000∧b.tmod 1000000<1000000:=by
  have I:=Int.tmod_lt_of_pos b (show (0:Int)<1000000 by decide);have U:=Int.lt_tmod_of_pos b (show (0:Int)<1000000 by decide);omega
 obtain⟨rm,wY⟩:∃rm,b.tdiv 1000000=rm:=⟨_,rfl⟩;obtain⟨M2,vs⟩:∃M2,b.tmod 1000000=M2:=⟨_,rfl⟩;have tY:=Int.tmod_add_mul_tdiv b 1000000;rw[vs]at dK;rw[wY,vs]at tY;have m3: -9223372036856<rm:=by have:=J.1;omega
 have m4:rm<9223372036856:=by have:=J.2;omega
 clear tY;obtain⟨W,eV,az,qz⟩:=yY (a+rm);obtain⟨m1,m2⟩:=dK;by_cases aH:W< -2000000000000000∨2000000000000000<W
 ·refine⟨0,3,⟨by decide,by decide⟩,fun w=> ?_⟩;rcases (show W< -2000000000000000∨(¬W< -2000000000000000∧2000000000000000<W) by omega)with h|⟨h,dp⟩
  all_goals
   clear aH J eV;go_enter func175,ntmps175
   go_wp2_with fail
   go_ret2
   exact⟨rfl,aQ _⟩
 have w1:¬W< -2000000000000000:=by omega
 have w2:¬2000000000000000<W:=by omega
 have ua: -2<W.tmod 2∧W.tmod 2<2:=by
  have I:=Int.tmod_lt_of_pos W (show (0:Int)<2 by decide);have U:=Int.lt_tmod_of_pos W (show (0:Int)<2 by decide);omega
 obtain⟨Dz,Ww⟩:∃Dz,W.tmod 2=Dz:=⟨_,rfl⟩;rw[Ww]at ua;obtain⟨dq,dR⟩:=ua;obtain⟨P,dJ⟩:∃P,P=if 1<W then Dz+2 else if W< -1 then Dz-2 else Dz:=⟨_,rfl⟩;have PB: -4<P∧P<4:=by rw[dJ];split<;>(try split)<;>omega
 obtain⟨fU,jN⟩:=PB;obtain⟨D,b'⟩:∃D,D=P*1000000+M2:=⟨_,rfl⟩;obtain⟨q,b_,au,g'⟩:=Kh D 1000000 m ⟨by omega,by omega⟩ ⟨by decide,by decide⟩;rw[b']at g';clear b';have cB:=hid g';obtain⟨Z,jH,a6,Vq⟩:=yY (W-P+q);have cV:=hid dJ;have PR:∀w,(b_=0→ -1000000000000000≤Z→Z≤1000000000000000→Calls prog 175 #[a,b,m] w fun e w'=>e= .returned (.tuple #[Z,()])∧Kept w w')∧
   (b_=0→(Z< -1000000000000000∨1000000000000000<Z)→Calls prog 175 #[a,b,m] w fun e w'=>e= .returned (.tuple #[(),.int .i64 3])∧Kept w w')∧
   ((b_ !=0)=true→Calls prog 175 #[a,b,m] w fun e w'=>e= .returned (.tuple #[(),b_])∧Kept w w'):=by
  intro w;clear g' dJ J eV aH jH au;have ae:(1<W∧W% 2=Dz)∨(¬1<W∧W< -1)∨(¬1<W∧¬W< -1):=by
   rcases Int.lt_or_le 1 W with h|h
   ·exact .inl ⟨h,by rw[←Int.tmod_eq_emod_of_nonneg (by omega)];exact Ww⟩
   ·omega
  refine⟨fun kC e6 z2=> ?_,fun kC ck=> ?_,fun kC=> ?_⟩
  case refine_1=>
   subst kC;have z3:¬Z< -1000000000000000:=by omega
   have z4:¬1000000000000000<Z:=by omega
   rcases ae with⟨h,dp⟩|⟨h,dp⟩|⟨h,dp⟩
   all_goals
    have oV:=cV.out
    first|rw[if_pos h]at oV|rw[if_neg h,if_pos dp]at oV|rw[if_neg h,if_neg dp]at oV
    subst oV;clear cV;go_enter func175,ntmps175
    go_wp2_with (go_at_call 191;refine (cB.out _).mono ?_;rintro y w1 ⟨rfl,ak⟩)
    go_ret2
    exact⟨rfl,ak⟩
  case refine_2=>
   subst kC;rcases (show Z< -1000000000000000∨(¬Z< -1000000000000000∧1000000000000000<Z) by omega)with z|⟨z,aoZ⟩
   all_goals
    clear ck;rcases ae with⟨h,dp⟩|⟨h,dp⟩|⟨h,dp⟩
    all_goals
     have oV:=cV.out
     first|rw[if_pos h]at oV|rw[if_neg h,if_pos dp]at oV|rw[if_neg h,if_neg dp]at oV
     subst oV;clear cV;go_enter func175,ntmps175
     go_wp2_with (go_at_call 191;refine (cB.out _).mono ?_;rintro y w1 ⟨rfl,ak⟩)
     go_ret2
     exact⟨rfl,ak⟩
  case refine_3=>
   rcases ae with⟨h,dp⟩|⟨h,dp⟩|⟨h,dp⟩
   all_goals
    have oV:=cV.out
    first|rw[if_pos h]at oV|rw[if_neg h,if_pos dp]at oV|rw[if_neg h,if_neg dp]at oV
    subst oV;clear cV;go_enter func175,ntmps175
    go_wp2_with (go_at_call 191;refine (cB.out _).mono ?_;rintro y w1 ⟨rfl,ak⟩)
    go_ret2
    exact⟨rfl,ak⟩
 by_cases kC:b_=0
 ·by_cases ck:Z< -1000000000000000∨1000000000000000<Z
  ·exact⟨0,3,⟨by decide,by decide⟩,fun w=>(PR w).2.1 kC ck⟩
  ·exact⟨Z,0,jH,fun w=>(PR w).1 kC (by omega) (by omega)⟩
 ·exact⟨0,b_,⟨by decide,by decide⟩,fun w=>(PR w).2.2 (by simpa using kC)⟩
open Classical in
noncomputable def vl (l n:Int):Int×Int×Bool:=if h:∃r:Int×Int×Bool,pn 174 #[l,n] (.tuple #[r.1,r.2.1,.bool r.2.2])then Classical.choose h else (0,0,false)
theorem ac3 {l n:Int} (I:0<l) (U:l≤2000000000000000):pn 174 #[l,n] (.tuple #[.int .i64 (vl l n).1,.int .i64 (vl l n).2.1,.bool (vl l n).2.2]):=by
 have h:∃r:Int×Int×Bool,pn 174 #[l,n] (.tuple #[r.1,r.2.1,.bool r.2.2]):=by
  obtain⟨q,r,b,_,_,h⟩:=ad1 l n I U;exact⟨(q,r,b),h⟩
 unfold vl;rw[dif_pos h];exact Classical.choose_spec h
open Classical in
noncomputable def Fc (a b m:Int):Int×Int:=if h:∃r:Int×Int,pn 175 #[a,b,m] (.tuple #[r.1,r.2])then Classical.choose h else (0,0)
theorem ait {a b m:Int} (J:gT b):pn 175 #[a,b,m] (.tuple #[.int .i64 (Fc a b m).1,.int .i64 (Fc a b m).2]):=by
 have h:∃r:Int×Int,pn 175 #[a,b,m] (.tuple #[r.1,r.2]):=by
  obtain⟨q,r,_,h⟩:=aid a b m J;exact⟨(q,r),h⟩
 unfold Fc;rw[dif_pos h];exact Classical.choose_spec h
noncomputable def vf (d c:Int):List kT→Int→Int→Option (Int×Int)
 |[],a,b=>some (a,b)
 |r::rs,a,b=>
  if wO r.dH r.dB d=false∨min r.aE c≤max r.ei 0 then vf d c rs a b
  else if (vl (min r.aE c-max r.ei 0) r.n).2.2 then vf d c rs (wrap64 (a+(vl (min r.aE c-max r.ei 0) r.n).1)) (wrap64 (b+(vl (min r.aE c-max r.ei 0) r.n).2.1))else none
noncomputable def vg (t:jm) (d c m:Int):Int×Int:=match vf d c t.rows 0 0 with
 |none=>(0,3)
 |some x=>Fc x.1 x.2 m
theorem acZ {d c a b:Int} {xs:List kT} {i:Nat} {r:kT} (h:xs[i]?=some r):vf d c (xs.drop i) a b=if wO r.dH r.dB d=false∨min r.aE c≤max r.ei 0 then vf d c (xs.drop (i+1)) a b
  else if (vl (min r.aE c-max r.ei 0) r.n).2.2 then vf d c (xs.drop (i+1)) (wrap64 (a+(vl (min r.aE c-max r.ei 0) r.n).1)) (wrap64 (b+(vl (min r.aE c-max r.ei 0) r.n).2.1))else none:=by
 obtain⟨aE,rfl⟩:=b8 h;rw[List.drop_eq_getElem_cons aE,vf]
theorem ac0 (ag:ByteArray) (bA:Value) (rs:List kT) (d c m:Int) (w:World) (bj:cH 5 jZ w bA rs) (hm:0≤m∧m≤5) (hh: -1000000000000000≤c∧c≤1000000000000000) (t:jm) (bS:t.rows=rs):
  Calls prog 166 #[.agg #[ag,.int .i64 3,(),.int .i64 4,(),bA],d,c,m] w fun x w'=>x= .returned (.tuple #[.int .i64 (vg t d c m).1,.int .i64 (vg t d c m).2])∧Kept w w':=by
 have aI:=hid (show vg t d c m=match vf d c rs 0 0 with|none=>(0,3)|some x=>Fc x.1 x.2 m by unfold vg;rw[bS]);generalize vg t d c m=R at*;obtain⟨tK,Gh⟩:=R;obtain⟨A,cap,rfl,w0,aq,aK⟩:=bj.at_;obtain⟨n,aA⟩:∃n,n=rs.length:=⟨_,rfl⟩;rw[←aA]at aK w0 aq⊢;have bk:=hid aA;obtain⟨m1,m2⟩:=hm;obtain⟨aC,aM⟩:=hh;have m3:¬m<0:=by omega
 have m4:¬5<m:=by omega
 have a1:¬c< -1000000000000000:=by omega
 have bN:¬1000000000000000<c:=by omega
 clear aA bj bS;go_enter func166,ntmps166
 go_upto_region 8 with fail
 have cN:=hid ((aQ w).alloc (.cells #[ag,.int .i64 3,(),.int .i64 4,(),.slice A n cap] 60));go_wp2_with fail
 go_loopw [10,11,44] (fun x y z wr=>∃(i:Nat) (a b:Int),i≤n∧z= .int .i64 i∧x= .int .i64 a∧y= .int .i64 b∧gT a∧gT b∧Kept w wr∧vf d c (rs.drop i) a b=vf d c rs 0 0) (fun _ _ z _=>(n-intOf z).toNat)
 case atStart=>exact⟨0,0,0,Nat.zero_le _,rfl,rfl,rfl,⟨by decide,by decide⟩,⟨by decide,by decide⟩,cN.out,rfl⟩
 case round=>
  obtain⟨i,a,b,de,rfl,rfl,rfl,ER,Cs,ab,aG⟩:=hrel;by_cases aD:i<n
  ·obtain⟨lg,off,rfl,J,af⟩:=aK (by omega);have ai:rs[i]?=some (rs[i]'(by have:=bk.out;omega)):=a8 _;rw[acZ ai]at aG;obtain⟨⟨bZ,-⟩,⟨b3,-⟩,⟨cT,i2⟩,⟨ha,i3⟩,⟨h0,-⟩⟩:=af i _ ai;generalize rs[i]'(by have:=bk.out;omega)=r at*;have gd:=bZ.kept ab J;have hO:=b3.kept ab J;have iv:=cT.kept ab J;have zG:=ha.kept ab J;have DL:=h0.kept ab J;unfold ed at gd hO iv zG DL;obtain⟨dH,dB,ei,aE,dw⟩:=r;dsimp only at*;have oW:=bd J ab.size;have c6:(i:Int)<n:=by omega
   have B2:=fun w=>OE dH dB d w;obtain⟨F,Vs⟩:∃F,max ei 0=F:=⟨_,rfl⟩;obtain⟨T,O0⟩:∃T,min aE c=T:=⟨_,rfl⟩;rw[Vs,O0]at aG;have f0:0≤F:=by omega
   have f1:F≤9223372036854775807:=by have:=i2.2;omega
   have t0:T≤c:=by omega
   have t1: -9223372036854775808≤T:=by have:=i3.1;omega
   clear af aK ai bZ b3 cT ha h0 i2 i3;go_upto_region 11 with fail
   generalize ar:wr.alloc _=W at*;obtain⟨fq,B⟩:=Kept.az ar;clear ar;have hD:=ab.trans fq;clear fq;have z2:=al.cell B.lt (B.cell 2);have z3:=al.cell B.lt (B.cell 3);refine fQ (by kernel_rfl) (by kernel_rfl) ?_
   repeat (go_big_quiet_step (fail))
   refine wpQuiet_nil ?_;rintro w2 ⟨⟨bt,cj⟩,bb⟩;obtain rfl:w2=bt:=bb;have aT:=B.kept cj;have BS:=hD.trans cj;obtain⟨ku,kV⟩:=aT.p;clear z2 z3 Vs O0 B cj hD
   cases ah:wO dH dB d
   case false=>
    rw[ah]at B2;rw[if_pos (.inl ah)]at aG;have A7:=hid B2;have dd:=hid aG;clear B2 aG ah;go_wp2_with (go_at_call 104;refine (A7.out _).mono ?_;rintro y w1 ⟨rfl,ak⟩)
    go_roundw
    case rel=>exact⟨i+1,a,b,aD,by go_num,rfl,rfl,ER,Cs,(by with_reducible repeat first|exact .refl _|assumption|refine .drew ?_|refine .alloc ?_ _|refine .setCell ?_ (by (try simp only);omega) _|refine .trans ?_ ‹Kept _ _›),dd.out⟩
    case measure=>simp[intOf];omega
   case true=>
    rw[ah]at B2;have A7:=hid B2;by_cases Xk:T≤F
    ·rw[if_pos (.inr Xk)]at aG;have dd:=hid aG;clear B2 aG ah;go_wp2_with (go_at_call 104;refine (A7.out _).mono ?_;rintro y w1 ⟨rfl,ak⟩)
     go_roundw
     case rel=>exact⟨i+1,a,b,aD,by go_num,rfl,rfl,ER,Cs,(by with_reducible repeat first|exact .refl _|assumption|refine .drew ?_|refine .alloc ?_ _|refine .setCell ?_ (by (try simp only);omega) _|refine .trans ?_ ‹Kept _ _›),dd.out⟩
     case measure=>simp[intOf];omega
    ·rw[if_neg (by rw[ah];simp only[Bool.true_eq_false,false_or];exact Xk)]at aG;have hh:=ac3 (l:=T-F) (n:=dw) (by omega) (by omega);generalize vl (T-F) dw=X at*;obtain⟨an8,an9,wa⟩:=X;dsimp only at aG hh;have A6:=hid hh;obtain⟨a2,ia2,wQ,ea'⟩:=yY (a+an8);obtain⟨bc,ib2,gn,eb'⟩:=yY (b+an9);rw[ea',eb']at aG;have bU:=hid (fun cw (h:Kept w2 cw)=>aT.kept h);clear B2 ah hh
     cases wa
     case false=>
      rw[if_neg (by decide)]at aG;have cv:=hid (show (tK,Gh)=((0:Int),(3:Int)) by have:=aI.out;rw[←aG]at this;exact this);clear aG;go_wp2_with (first|(go_at_call 104;refine (A7.out _).mono ?_;rintro y w1 ⟨rfl,ak⟩;have Oh:=(bU.out _ ak).cell;have Oj:=(bU.out _ ak).lt)|(go_at_call 174;refine (A6.out _).mono ?_;rintro y cw ⟨rfl,bw⟩))
      go_ret2
      obtain⟨rfl,rfl⟩:=Prod.mk.inj cv.out;exact⟨rfl,(by with_reducible repeat first|exact .refl _|assumption|refine .drew ?_|refine .alloc ?_ _|refine .setCell ?_ (by (try simp only);omega) _|refine .trans ?_ ‹Kept _ _›)⟩
     case true=>
      rw[if_pos rfl]at aG;have dd:=hid aG;clear aG;go_wp2_with (first|(go_at_call 104;refine (A7.out _).mono ?_;rintro y w1 ⟨rfl,ak⟩;have Oh:=(bU.out _ ak).cell;have Oj:=(bU.out _ ak).lt)|(go_at_call 174;refine (A6.out _).mono ?_;rintro y cw ⟨rfl,bw⟩))
      go_roundw
      case rel=>exact⟨i+1,a2,bc,aD,by go_num,rfl,rfl,ia2,ib2,(by with_reducible repeat first|exact .refl _|assumption|refine .drew ?_|refine .alloc ?_ _|refine .setCell ?_ (by (try simp only);omega) _|refine .trans ?_ ‹Kept _ _›),dd.out⟩
      case measure=>simp[intOf];omega
  ·have c6:¬((i:Int)<n):=by omega
   have he:vf d c rs 0 0=some (a,b):=by rw[←aG,List.drop_eq_nil_iff.2 (by have:=bk.out;omega)];rfl
   have lG:=hid (ait (a:=a) (m:=m) Cs);have cv:=hid (show Fc a b m=(tK,Gh) by have:=aI.out;rw[he]at this;exact this.symm);rw[cv.out]at lG;clear aG he;go_wp2_with (go_at_call 175;refine (lG.out _).mono ?_;rintro y w1 ⟨rfl,ak⟩)
   go_ret2
   exact⟨rfl,(by with_reducible repeat first|exact .refl _|assumption|refine .drew ?_|refine .alloc ?_ _|refine .setCell ?_ (by (try simp only);omega) _|refine .trans ?_ ‹Kept _ _›)⟩
theorem agJ (ag:ByteArray) (d_ eo cy bE:Int) (bA:Value) (rs:List kT) (d k:Int) (w:World) (bj:cH 5 jZ w bA rs):
  Calls prog 165 #[.agg #[ag,d_,eo,cy,bE,bA],d,k] w (ya (s9 d k) rs w):=by
 unfold ya;have aV:=hid (fun (p q:Addr) (w1:World) (h:Kept w w1) I U=>aet bA rs p q d k w1 (bj.kept jZ.kept h) I U);unfold ya at aV;obtain⟨A,cap,rfl,-⟩:=bj.at_;clear bj
 cases bO:nk (s9 d k) rs 0
 all_goals
  rw[bO]at aV;unfold E8 at aV⊢;clear bO;go_enter func165,ntmps165
  go_wp2_with (go_at_call 82;refine (aV.out ⟨w.heap.size+1,0,none⟩ ⟨w.heap.size+1+1,0,none⟩ _ (by with_reducible repeat first|exact .refl _|assumption|refine .drew ?_|refine .alloc ?_ _|refine .setCell ?_ (by (try simp only);omega) _|refine .trans ?_ ‹Kept _ _›) ⟨rfl,by simp,(Kept.BA (aQ _)).2.1.cell 0⟩ ⟨rfl,by simp,(Kept.BA (aQ _)).2.2.cell 0⟩).mono ?_;rintro y w1 ⟨rfl,ak⟩)
  go_ret2
  exact⟨rfl,(by with_reducible repeat first|exact .refl _|assumption|refine .drew ?_|refine .alloc ?_ _|refine .setCell ?_ (by (try simp only);omega) _|refine .trans ?_ ‹Kept _ _›)⟩
def hl (w:World) (v:Value) (E:dC):Prop:=∃bo b6 bW b4 bv,v= .agg #[E.dt,bo,b6,bW,b4,bv]∧ff w bo E.ins∧ff w b6 E.ds∧ld w bW E.ms∧kb w b4 E.mt∧cH 6 kU w bv E.tb
theorem hl.kept {w w':World} {v:Value} {E:dC} (h:hl w v E) (aa:Kept w w'):hl w' v E:=by
 obtain⟨bo,b6,bW,b4,bv,ay,I,U,ae,aJ,bp⟩:=h;exact⟨bo,b6,bW,b4,bv,ay,I.kept aa,U.kept aa,ae.kept aa,aJ.kept aa,bp.kept kU.kept aa⟩
theorem aer (o:Int):o=7∨o=8∨o=33∨o=34∨o=36∨o=37∨o=38∨o=39∨(o≠7∧o≠8∧o≠33∧o≠34∧o≠36∧o≠37∧o≠38∧o≠39):=by omega
theorem aes (o n:Int) (bE:Value) (E:dC) (w:World) (aX:hl w bE E) (aA:gT n) (me:o=34→0≤n):Calls prog 141 #[.agg #[o,n],bE] w fun x w'=>x= .returned (.bool (qB ⟨o,n⟩ E))∧Kept w w':=by
 obtain⟨bo,b6,bW,b4,bv,rfl,I,U,ae,aJ,bp⟩:=aX;obtain⟨cl,aC,rfl,-⟩:=I.at_;obtain⟨cM,aM,rfl,av⟩:=U.at_;obtain⟨cX,a1,rfl,-⟩:=ae.at_;obtain⟨ef,bN,rfl,-⟩:=aJ.at_;obtain⟨dk,bJ,rfl,-⟩:=bp.at_;clear I U ae aJ bp;have hex:∀P:Bool,P=qB ⟨o,n⟩ E→P=(if o=7 then lL n E.ins.length
  else if o=8 then lL n E.ds.length&&decide ((E.ds[n.toNat]?.getD v0).k≠0)
  else if o=33 then lL n E.tb.length
  else if o=34 then decide (n/8<E.tb.length)
  else if 36≤o∧o≤39 then lL n E.mt.length
  else true):=fun _ h=>h
 obtain⟨R,aw⟩:∃R,R=qB ⟨o,n⟩ E:=⟨_,rfl⟩;have eF:=hex R aw;rw[←aw];clear hex aw;unfold lL at eF;obtain⟨dt,ins,ds,ms,mt,tb⟩:=E;dsimp only at*;generalize ins.length=li at*;generalize tb.length=lt at*;generalize mt.length=lm at*;rcases aer o with rfl|rfl|rfl|rfl|rfl|rfl|rfl|rfl|aL
 case inr.inl=>
  simp only[show¬(8:Int)=7 by decide,if_false,if_true]at eF;by_cases aj:0≤n
  case neg=>
   have aI:=hid (show R=false by rw[eF,decide_eq_false (fun h=>aj h.1)];rfl);clear eF me av;go_enter func141,ntmps141
   go_wp2_with fail
   go_ret;exact⟨eD aI.out.symm,(by with_reducible repeat first|exact .refl _|assumption|refine .drew ?_|refine .alloc ?_ _|refine .setCell ?_ (by (try simp only);omega) _|refine .trans ?_ ‹Kept _ _›)⟩
  obtain⟨k,rfl⟩:∃k:Nat,n=k:=⟨n.toNat,by omega⟩;rw[Int.toNat_natCast]at eF;by_cases aD:k<ds.length
  case neg=>
   have aI:=hid (show R=false by rw[eF,decide_eq_false (fun h=>aD (by omega))];rfl);have jI:¬((k:Int)<ds.length):=by omega
   clear eF me av;go_enter func141,ntmps141
   go_wp2_with fail
   go_ret;exact⟨eD aI.out.symm,(by with_reducible repeat first|exact .refl _|assumption|refine .drew ?_|refine .alloc ?_ _|refine .setCell ?_ (by (try simp only);omega) _|refine .trans ?_ ‹Kept _ _›)⟩
  obtain⟨b,off,rfl,J,af⟩:=av (by omega);have ai:ds[k]?=some ds[k]:=a8 aD;rw[ai,Option.getD_some,decide_eq_true ⟨aj,by omega⟩,Bool.true_and]at eF;obtain⟨bZ,-,-⟩:=af k _ ai;have jI:(k:Int)<ds.length:=by omega
  generalize ds[k]=V at*;have aI:=hid eF;clear eF me af av ai;go_enter func141,ntmps141
  go_wp2_with fail
  go_ret;exact⟨eD (by rw[aI.out];clear aI bZ;(rw[Bool.eq_iff_iff];(try simp at*);(try omega))),(by with_reducible repeat first|exact .refl _|assumption|refine .drew ?_|refine .alloc ?_ _|refine .setCell ?_ (by (try simp only);omega) _|refine .trans ?_ ‹Kept _ _›)⟩
 case inr.inr.inr.inr.inr.inr.inr.inr=>
  obtain⟨h01,h02,h03,h04,h05,h06,h07,h08⟩:=aL;rw[if_neg h01,if_neg h02,if_neg h03,if_neg h04,if_neg (by omega)]at eF;have aI:=hid eF;clear eF av me;go_enter func141,ntmps141
  go_wp2_with fail
  go_ret;exact⟨eD aI.out.symm,(by with_reducible repeat first|exact .refl _|assumption|refine .drew ?_|refine .alloc ?_ _|refine .setCell ?_ (by (try simp only);omega) _|refine .trans ?_ ‹Kept _ _›)⟩
 all_goals
  have aI:=hid eF;clear eF av
  (try (have lQ:0≤n:=me rfl))
  (try (have ns:n.tdiv 8=n/8:=Int.tdiv_eq_ediv_of_nonneg (me rfl)))
  obtain⟨j9,ke⟩:=aA;clear me;go_enter func141,ntmps141
  go_wp2_with fail
  all_goals
   go_ret;have eF:=aI.out;clear aI
   (try simp at eF)
   exact⟨eD (by first|exact eF.symm|(rw[eF];clear eF;(rw[Bool.eq_iff_iff];(try simp at*);(try omega)))),(by with_reducible repeat first|exact .refl _|assumption|refine .drew ?_|refine .alloc ?_ _|refine .setCell ?_ (by (try simp only);omega) _|refine .trans ?_ ‹Kept _ _›)⟩
theorem acr {p:bg→Bool} {xs:List bg} {i:Nat} {x:bg} (h:xs[i]?=some x):(xs.drop i).all p=(p x&&(xs.drop (i+1)).all p):=by
 obtain⟨aE,rfl⟩:=b8 h;rw[List.drop_eq_getElem_cons aE,List.all_cons]
theorem acq (v:Value) (xs:List bg) (w:World) (dZ:ff w v xs) (aq:xs.length≤8796093022208):Calls prog 142 #[v] w fun x w'=>x= .returned (.bool (xs.all gH))∧Kept w w':=by
 obtain⟨A,cap,rfl,aK⟩:=dZ.at_;obtain⟨n,aA⟩:∃n,n=xs.length:=⟨_,rfl⟩;rw[←aA]at aK aq⊢;have bk:=hid aA;clear aA dZ;obtain⟨R,aw⟩:∃R,R=xs.all gH:=⟨_,rfl⟩;rw[←aw];have aI:=hid (show (xs.drop 0).all gH=R by rw[aw];rfl);clear aw;go_enter func142,ntmps142
 go_wp2_with fail
 go_loopw [7] (fun z wr=>∃i:Nat,i≤n∧z= .int .i64 i∧Kept w wr∧(xs.drop i).all gH=R) (fun z _=>(n-intOf z).toNat)
 case atStart=>exact⟨0,Nat.zero_le _,rfl,aQ _,aI.out⟩
 case round=>
  obtain⟨i,de,rfl,ab,aG⟩:=hrel;by_cases aD:i<n
  ·obtain⟨b,off,rfl,J,af⟩:=aK (by omega);have ai:xs[i]?=some (xs[i]'(by have:=bk.out;omega)):=a8 _;rw[acr ai]at aG;obtain⟨bZ,b3,cT⟩:=af i _ ai;generalize xs[i]'(by have:=bk.out;omega)=V at*;obtain⟨k,e,m⟩:=V;have gd:=ab.ad J bZ;have hO:=ab.ad J b3;have iv:=ab.ad J cT;dsimp only at gd hO iv;have oW:=bd J ab.size;have c6:(i:Int)<n:=by omega
   have cV:=hid (fun w=>AF k e m w);clear af aK ai bZ b3 cT
   cases hp:gH ⟨k,e,m⟩
   all_goals
    rw[hp]at aG cV;clear hp;simp only[Bool.true_and,Bool.false_and]at aG;have dd:=hid aG;clear aG;go_wp2_with (go_at_call 145;refine (cV.out _).mono ?_;rintro y w1 ⟨rfl,ak⟩)
    first
     |(go_roundw
       case rel=>exact⟨i+1,aD,by go_num,(by with_reducible repeat first|exact .refl _|assumption|refine .drew ?_|refine .alloc ?_ _|refine .setCell ?_ (by (try simp only);omega) _|refine .trans ?_ ‹Kept _ _›),dd.out⟩
       case measure=>simp[intOf];omega)
     |(go_ret;exact⟨eD dd.out,(by with_reducible repeat first|exact .refl _|assumption|refine .drew ?_|refine .alloc ?_ _|refine .setCell ?_ (by (try simp only);omega) _|refine .trans ?_ ‹Kept _ _›)⟩)
  ·have c6:¬((i:Int)<n):=by omega
   have dd:=hid (show R=true by rw[←aG,List.drop_eq_nil_iff.2 (by have:=bk.out;omega)];rfl);clear aG;go_wp2_with fail
   go_ret;exact⟨eD dd.out.symm,ab⟩
end Go.Proofs.YtobpgndkciofhaaGreatDoor
