import Derived.Test.YtilhklpfkgbikaaGreatDoorAI
set_option linter.all false
namespace Go.Proofs.YtilhklpfkgbikaaGreatDoor
open Go.RowKit Go.Proofs.Tryz
set_option maxRecDepth 100000
set_option maxHeartbeats 16000000
structure o6(v:ak)(w:ag)(v':ak)(w':ag):Prop where
 l4:w.grownBy w' v.ownBlock
 own:v'.ownBlock=v.ownBlock\/∀g,v'.ownBlock=some g->w.heap.size<=g
def qy(B:aa)(v:ak)(l:List (J×J))(w:ag)(e:Ending)(w':ag):Prop:=∃v',e=bL v'/\cb w' B 127 hY 2 v' l/\o6 v w v' w'
def CS(r:J×J):∀u∈hY r,u.oneCell'=true:=by
 intro u hu;simp[hY]at hu;rcases hu with rfl|rfl<;>rfl
def Tryz.CC:(prog.info? 127).map (λi=>(i.zero,i.size,i.bytes))=some (some (aF #[(),()]),2,16):=by kernel_rfl
def Ac{w w':ag}{B:aa}{v:ak}{l:List (J×J)}(h:cb w B 127 hY 2 v l)(ai:Kept w w'):qy B v l w (bL v) w':=
 ⟨v,rfl,h.lk ai,⟨ai.os,ai.tape,ai.output,ai.size,λb af _=>ai.block b af⟩,.inl rfl⟩
def BG{w W dc:ag}{B:aa}{v v6:ak}{l:List (J×J)}{r:J×J}{o:Obj}(h:cb W B 127 hY 2 v l)(ai:Kept w W)(bd:dc.ownsRow B 127 2 v6 (l.length+1) (l.flatMap hY++hY r))(a8:(W.alloc o).grownBy dc v.ownBlock)(dk:v6.ownBlock=v.ownBlock\/v6.ownBlock=some (W.alloc o).heap.size):
  qy B v (l++[r]) w (bL v6) dc:=by
 have aO:=ai.size;have eL:=a8.size;simp at eL;refine⟨v6,rfl,cb.snoc bd,⟨a8.os.trans ai.os,a8.tape.trans ai.tape,a8.output.trans ai.output,by omega,λb af bU=> ?_⟩,?_⟩
 .rw[a8.block b (by simp;omega) bU,wL W o b (by omega)];exact ai.block b af
 .rcases dk with aR|aR
  .exact .inl aR
  .exact .inr λg al=>by
    rw[aR]at al;have:=cJ al;simp at this;omega
def agO(B:aa)(v:ak)(l:List (J×J))(n:J)(w:ag)(h:cb w B 127 hY 2 v l)(av:l.length<=1000000)(bc:B<=w.heap.size):bg 97 #[v,aF #[ah 7,n]] w (qy B v (hl l (some (0,n))) w):=by
 obtain⟨i0,fx,fy,fz,fA⟩:=hy Tryz.CC;obtain⟨A,c,rfl,-⟩:=cb.jx m' h;have aX:=I (λw1(ai:Kept w w1)=>BQ _ l (0,n) w1 ((cb.jx m' h).kept ai) (by omega));unfold fo at aX;have dP:=I h;have dB:=I av;have hU:=I bc;clear h av bc;go_enter func97,ntmps97
 go_upto_region 19 with fail
 generalize aL:(w.alloc _).alloc _=W at*;obtain⟨aV,bo,bh⟩:=Kept.a_ aL;clear aL;have cp:=I aV;obtain⟨aY,bq⟩:=bh.p
 cases aC:jJ l (0,n)
 .have cI:=I (show hl l (some (0,n))=l++[(0,n)]from by unfold hl;unfold jJ at aC;rw[vC]at aC;exact aw aC);rw[aC]at aX;clear aV aC;go_upto_region 21 with (go_at_call 135;refine (aX _ cp).mono ?_;rintro e w1⟨rfl,au⟩)
  have c9:=bh.kept au;have dA:=I (cp.trans au);clear aY bq;obtain⟨aY,bq⟩:=c9.p;go_wp2_with (at_builtin;refine jB _ rfl (.tmp 45) (.tmp 47) 124 rfl B 127 i0 (aF #[(),()]) 2 16 underlying124 fx fy fz fA rfl (by decide) (ae A l c) l (l.flatMap hY) rfl (fX (cb.lk dP dA) _) ⟨w1.heap.size,0,none⟩ 1 1 (hY (0,n)) rfl rfl pf (CS _) (by have:=dB.out;unfold maxLen;omega) (by have:=dB.out;omega) (by have:=hU.out;have:=dA.size;simp<;>omega) ?_;intro v6 dc bd a8 _ dk;go_loud (have gm:=I (BG (v:=ae A l c) (r:=(0,n)) (cb.lk dP dA) dA bd a8 dk);obtain⟨wN,dn,rfl⟩:=iN bd;clear bd a8 dk))
  go_ret;rw[cI];exact gm
 .have cI:=I (show hl l (some (0,n))=l from by unfold hl;unfold jJ at aC;rw[gg]at aC;exact aP aC);rw[aC]at aX;clear aV aC;go_wp2_with (go_at_call 135;refine (aX _ cp).mono ?_;rintro e w1⟨rfl,au⟩)
  go_ret;rw[cI];exact Ac dP (cp.trans au)
def agP(B:aa)(v:ak)(l:List (J×J))(n:J)(w:ag)(h:cb w B 127 hY 2 v l)(av:l.length<=1000000)(bc:B<=w.heap.size):bg 97 #[v,aF #[ah 8,n]] w (qy B v (hl l (some (1,n))) w):=by
 obtain⟨i0,fx,fy,fz,fA⟩:=hy Tryz.CC;obtain⟨A,c,rfl,-⟩:=cb.jx m' h;have aX:=I (λw1(ai:Kept w w1)=>BQ _ l (1,n) w1 ((cb.jx m' h).kept ai) (by omega));unfold fo at aX;have dP:=I h;have dB:=I av;have hU:=I bc;clear h av bc;go_enter func97,ntmps97
 go_upto_region 19 with fail
 generalize aL:(w.alloc _).alloc _=W at*;obtain⟨aV,bo,bh⟩:=Kept.a_ aL;clear aL;have cp:=I aV;obtain⟨aY,bq⟩:=bh.p
 cases aC:jJ l (1,n)
 .have cI:=I (show hl l (some (1,n))=l++[(1,n)]from by unfold hl;unfold jJ at aC;rw[vC]at aC;exact aw aC);rw[aC]at aX;clear aV aC;go_upto_region 21 with (go_at_call 135;refine (aX _ cp).mono ?_;rintro e w1⟨rfl,au⟩)
  have c9:=bh.kept au;have dA:=I (cp.trans au);clear aY bq;obtain⟨aY,bq⟩:=c9.p;go_wp2_with (at_builtin;refine jB _ rfl (.tmp 45) (.tmp 47) 124 rfl B 127 i0 (aF #[(),()]) 2 16 underlying124 fx fy fz fA rfl (by decide) (ae A l c) l (l.flatMap hY) rfl (fX (cb.lk dP dA) _) ⟨w1.heap.size,0,none⟩ 1 1 (hY (1,n)) rfl rfl pf (CS _) (by have:=dB.out;unfold maxLen;omega) (by have:=dB.out;omega) (by have:=hU.out;have:=dA.size;simp<;>omega) ?_;intro v6 dc bd a8 _ dk;go_loud (have gm:=I (BG (v:=ae A l c) (r:=(1,n)) (cb.lk dP dA) dA bd a8 dk);obtain⟨wN,dn,rfl⟩:=iN bd;clear bd a8 dk))
  go_ret;rw[cI];exact gm
 .have cI:=I (show hl l (some (1,n))=l from by unfold hl;unfold jJ at aC;rw[gg]at aC;exact aP aC);rw[aC]at aX;clear aV aC;go_wp2_with (go_at_call 135;refine (aX _ cp).mono ?_;rintro e w1⟨rfl,au⟩)
  go_ret;rw[cI];exact Ac dP (cp.trans au)
def agQ(B:aa)(v:ak)(l:List (J×J))(n:J)(w:ag)(h:cb w B 127 hY 2 v l)(av:l.length<=1000000)(bc:B<=w.heap.size):bg 97 #[v,aF #[ah 9,n]] w (qy B v (hl l (some (2,0))) w):=by
 obtain⟨i0,fx,fy,fz,fA⟩:=hy Tryz.CC;obtain⟨A,c,rfl,-⟩:=cb.jx m' h;have aX:=I (λw1(ai:Kept w w1)=>BQ _ l (2,0) w1 ((cb.jx m' h).kept ai) (by omega));unfold fo at aX;have dP:=I h;have dB:=I av;have hU:=I bc;clear h av bc;go_enter func97,ntmps97
 go_upto_region 19 with fail
 generalize aL:(w.alloc _).alloc _=W at*;obtain⟨aV,bo,bh⟩:=Kept.a_ aL;clear aL;have cp:=I aV;obtain⟨aY,bq⟩:=bh.p
 cases aC:jJ l (2,0)
 .have cI:=I (show hl l (some (2,0))=l++[(2,0)]from by unfold hl;unfold jJ at aC;rw[vC]at aC;exact aw aC);rw[aC]at aX;clear aV aC;go_upto_region 21 with (go_at_call 135;refine (aX _ cp).mono ?_;rintro e w1⟨rfl,au⟩)
  have c9:=bh.kept au;have dA:=I (cp.trans au);clear aY bq;obtain⟨aY,bq⟩:=c9.p;go_wp2_with (at_builtin;refine jB _ rfl (.tmp 45) (.tmp 47) 124 rfl B 127 i0 (aF #[(),()]) 2 16 underlying124 fx fy fz fA rfl (by decide) (ae A l c) l (l.flatMap hY) rfl (fX (cb.lk dP dA) _) ⟨w1.heap.size,0,none⟩ 1 1 (hY (2,0)) rfl rfl pf (CS _) (by have:=dB.out;unfold maxLen;omega) (by have:=dB.out;omega) (by have:=hU.out;have:=dA.size;simp<;>omega) ?_;intro v6 dc bd a8 _ dk;go_loud (have gm:=I (BG (v:=ae A l c) (r:=(2,0)) (cb.lk dP dA) dA bd a8 dk);obtain⟨wN,dn,rfl⟩:=iN bd;clear bd a8 dk))
  go_ret;rw[cI];exact gm
 .have cI:=I (show hl l (some (2,0))=l from by unfold hl;unfold jJ at aC;rw[gg]at aC;exact aP aC);rw[aC]at aX;clear aV aC;go_wp2_with (go_at_call 135;refine (aX _ cp).mono ?_;rintro e w1⟨rfl,au⟩)
  go_ret;rw[cI];exact Ac dP (cp.trans au)
def agI(B:aa)(v:ak)(l:List (J×J))(n:J)(w:ag)(h:cb w B 127 hY 2 v l)(av:l.length<=1000000)(bc:B<=w.heap.size):bg 97 #[v,aF #[ah 33,n]] w (qy B v (hl l (some (3,n))) w):=by
 obtain⟨i0,fx,fy,fz,fA⟩:=hy Tryz.CC;obtain⟨A,c,rfl,-⟩:=cb.jx m' h;have aX:=I (λw1(ai:Kept w w1)=>BQ _ l (3,n) w1 ((cb.jx m' h).kept ai) (by omega));unfold fo at aX;have dP:=I h;have dB:=I av;have hU:=I bc;clear h av bc;go_enter func97,ntmps97
 go_upto_region 19 with fail
 generalize aL:(w.alloc _).alloc _=W at*;obtain⟨aV,bo,bh⟩:=Kept.a_ aL;clear aL;have cp:=I aV;obtain⟨aY,bq⟩:=bh.p
 cases aC:jJ l (3,n)
 .have cI:=I (show hl l (some (3,n))=l++[(3,n)]from by unfold hl;unfold jJ at aC;rw[vC]at aC;exact aw aC);rw[aC]at aX;clear aV aC;go_upto_region 21 with (go_at_call 135;refine (aX _ cp).mono ?_;rintro e w1⟨rfl,au⟩)
  have c9:=bh.kept au;have dA:=I (cp.trans au);clear aY bq;obtain⟨aY,bq⟩:=c9.p;go_wp2_with (at_builtin;refine jB _ rfl (.tmp 45) (.tmp 47) 124 rfl B 127 i0 (aF #[(),()]) 2 16 underlying124 fx fy fz fA rfl (by decide) (ae A l c) l (l.flatMap hY) rfl (fX (cb.lk dP dA) _) ⟨w1.heap.size,0,none⟩ 1 1 (hY (3,n)) rfl rfl pf (CS _) (by have:=dB.out;unfold maxLen;omega) (by have:=dB.out;omega) (by have:=hU.out;have:=dA.size;simp<;>omega) ?_;intro v6 dc bd a8 _ dk;go_loud (have gm:=I (BG (v:=ae A l c) (r:=(3,n)) (cb.lk dP dA) dA bd a8 dk);obtain⟨wN,dn,rfl⟩:=iN bd;clear bd a8 dk))
  go_ret;rw[cI];exact gm
 .have cI:=I (show hl l (some (3,n))=l from by unfold hl;unfold jJ at aC;rw[gg]at aC;exact aP aC);rw[aC]at aX;clear aV aC;go_wp2_with (go_at_call 135;refine (aX _ cp).mono ?_;rintro e w1⟨rfl,au⟩)
  go_ret;rw[cI];exact Ac dP (cp.trans au)
def agJ(B:aa)(v:ak)(l:List (J×J))(n:J)(w:ag)(h:cb w B 127 hY 2 v l)(av:l.length<=1000000)(bc:B<=w.heap.size)(nJ:0<=n)(jL:n<=9223372036854775807):bg 97 #[v,aF #[ah 34,n]] w (qy B v (hl l (some (3,n/8))) w):=by
 obtain⟨i0,fx,fy,fz,fA⟩:=hy Tryz.CC;obtain⟨A,c,rfl,-⟩:=cb.jx m' h;have aX:=I (λw1(ai:Kept w w1)=>BQ _ l (3,n/8) w1 ((cb.jx m' h).kept ai) (by omega));unfold fo at aX;have dP:=I h;have dB:=I av;have hU:=I bc;clear h av bc;go_enter func97,ntmps97
 go_upto_region 19 with fail
 generalize aL:(w.alloc _).alloc _=W at*;obtain⟨aV,bo,bh⟩:=Kept.a_ aL;clear aL;have cp:=I aV;obtain⟨aY,bq⟩:=bh.p
 cases aC:jJ l (3,n/8)
 .have cI:=I (show hl l (some (3,n/8))=l++[(3,n/8)]from by unfold hl;unfold jJ at aC;rw[vC]at aC;exact aw aC);rw[aC]at aX;clear aV aC;go_upto_region 21 with (go_at_call 135;refine (aX _ cp).mono ?_;rintro e w1⟨rfl,au⟩)
  have c9:=bh.kept au;have dA:=I (cp.trans au);clear aY bq;obtain⟨aY,bq⟩:=c9.p;go_wp2_with (at_builtin;refine jB _ rfl (.tmp 45) (.tmp 47) 124 rfl B 127 i0 (aF #[(),()]) 2 16 underlying124 fx fy fz fA rfl (by decide) (ae A l c) l (l.flatMap hY) rfl (fX (cb.lk dP dA) _) ⟨w1.heap.size,0,none⟩ 1 1 (hY (3,n/8)) rfl rfl pf (CS _) (by have:=dB.out;unfold maxLen;omega) (by have:=dB.out;omega) (by have:=hU.out;have:=dA.size;simp<;>omega) ?_;intro v6 dc bd a8 _ dk;go_loud (have gm:=I (BG (v:=ae A l c) (r:=(3,n/8)) (cb.lk dP dA) dA bd a8 dk);obtain⟨wN,dn,rfl⟩:=iN bd;clear bd a8 dk))
  go_ret;rw[cI];exact gm
 .have cI:=I (show hl l (some (3,n/8))=l from by unfold hl;unfold jJ at aC;rw[gg]at aC;exact aP aC);rw[aC]at aX;clear aV aC;go_wp2_with (go_at_call 135;refine (aX _ cp).mono ?_;rintro e w1⟨rfl,au⟩)
  go_ret;rw[cI];exact Ac dP (cp.trans au)
def agK(B:aa)(v:ak)(l:List (J×J))(n:J)(w:ag)(h:cb w B 127 hY 2 v l)(av:l.length<=1000000)(bc:B<=w.heap.size):bg 97 #[v,aF #[ah 36,n]] w (qy B v (hl l (some (4,n))) w):=by
 obtain⟨i0,fx,fy,fz,fA⟩:=hy Tryz.CC;obtain⟨A,c,rfl,-⟩:=cb.jx m' h;have aX:=I (λw1(ai:Kept w w1)=>BQ _ l (4,n) w1 ((cb.jx m' h).kept ai) (by omega));unfold fo at aX;have dP:=I h;have dB:=I av;have hU:=I bc;clear h av bc;go_enter func97,ntmps97
 go_upto_region 19 with fail
 generalize aL:(w.alloc _).alloc _=W at*;obtain⟨aV,bo,bh⟩:=Kept.a_ aL;clear aL;have cp:=I aV;obtain⟨aY,bq⟩:=bh.p
 cases aC:jJ l (4,n)
 .have cI:=I (show hl l (some (4,n))=l++[(4,n)]from by unfold hl;unfold jJ at aC;rw[vC]at aC;exact aw aC);rw[aC]at aX;clear aV aC;go_upto_region 21 with (go_at_call 135;refine (aX _ cp).mono ?_;rintro e w1⟨rfl,au⟩)
  have c9:=bh.kept au;have dA:=I (cp.trans au);clear aY bq;obtain⟨aY,bq⟩:=c9.p;go_wp2_with (at_builtin;refine jB _ rfl (.tmp 45) (.tmp 47) 124 rfl B 127 i0 (aF #[(),()]) 2 16 underlying124 fx fy fz fA rfl (by decide) (ae A l c) l (l.flatMap hY) rfl (fX (cb.lk dP dA) _) ⟨w1.heap.size,0,none⟩ 1 1 (hY (4,n)) rfl rfl pf (CS _) (by have:=dB.out;unfold maxLen;omega) (by have:=dB.out;omega) (by have:=hU.out;have:=dA.size;simp<;>omega) ?_;intro v6 dc bd a8 _ dk;go_loud (have gm:=I (BG (v:=ae A l c) (r:=(4,n)) (cb.lk dP dA) dA bd a8 dk);obtain⟨wN,dn,rfl⟩:=iN bd;clear bd a8 dk))
  go_ret;rw[cI];exact gm
 .have cI:=I (show hl l (some (4,n))=l from by unfold hl;unfold jJ at aC;rw[gg]at aC;exact aP aC);rw[aC]at aX;clear aV aC;go_wp2_with (go_at_call 135;refine (aX _ cp).mono ?_;rintro e w1⟨rfl,au⟩)
  go_ret;rw[cI];exact Ac dP (cp.trans au)
def agL(B:aa)(v:ak)(l:List (J×J))(n:J)(w:ag)(h:cb w B 127 hY 2 v l)(av:l.length<=1000000)(bc:B<=w.heap.size):bg 97 #[v,aF #[ah 37,n]] w (qy B v (hl l (some (4,n))) w):=by
 obtain⟨i0,fx,fy,fz,fA⟩:=hy Tryz.CC;obtain⟨A,c,rfl,-⟩:=cb.jx m' h;have aX:=I (λw1(ai:Kept w w1)=>BQ _ l (4,n) w1 ((cb.jx m' h).kept ai) (by omega));unfold fo at aX;have dP:=I h;have dB:=I av;have hU:=I bc;clear h av bc;go_enter func97,ntmps97
 go_upto_region 19 with fail
 generalize aL:(w.alloc _).alloc _=W at*;obtain⟨aV,bo,bh⟩:=Kept.a_ aL;clear aL;have cp:=I aV;obtain⟨aY,bq⟩:=bh.p
 cases aC:jJ l (4,n)
 .have cI:=I (show hl l (some (4,n))=l++[(4,n)]from by unfold hl;unfold jJ at aC;rw[vC]at aC;exact aw aC);rw[aC]at aX;clear aV aC;go_upto_region 21 with (go_at_call 135;refine (aX _ cp).mono ?_;rintro e w1⟨rfl,au⟩)
  have c9:=bh.kept au;have dA:=I (cp.trans au);clear aY bq;obtain⟨aY,bq⟩:=c9.p;go_wp2_with (at_builtin;refine jB _ rfl (.tmp 45) (.tmp 47) 124 rfl B 127 i0 (aF #[(),()]) 2 16 underlying124 fx fy fz fA rfl (by decide) (ae A l c) l (l.flatMap hY) rfl (fX (cb.lk dP dA) _) ⟨w1.heap.size,0,none⟩ 1 1 (hY (4,n)) rfl rfl pf (CS _) (by have:=dB.out;unfold maxLen;omega) (by have:=dB.out;omega) (by have:=hU.out;have:=dA.size;simp<;>omega) ?_;intro v6 dc bd a8 _ dk;go_loud (have gm:=I (BG (v:=ae A l c) (r:=(4,n)) (cb.lk dP dA) dA bd a8 dk);obtain⟨wN,dn,rfl⟩:=iN bd;clear bd a8 dk))
  go_ret;rw[cI];exact gm
 .have cI:=I (show hl l (some (4,n))=l from by unfold hl;unfold jJ at aC;rw[gg]at aC;exact aP aC);rw[aC]at aX;clear aV aC;go_wp2_with (go_at_call 135;refine (aX _ cp).mono ?_;rintro e w1⟨rfl,au⟩)
  go_ret;rw[cI];exact Ac dP (cp.trans au)
def agM(B:aa)(v:ak)(l:List (J×J))(n:J)(w:ag)(h:cb w B 127 hY 2 v l)(av:l.length<=1000000)(bc:B<=w.heap.size):bg 97 #[v,aF #[ah 38,n]] w (qy B v (hl l (some (4,n))) w):=by
 obtain⟨i0,fx,fy,fz,fA⟩:=hy Tryz.CC;obtain⟨A,c,rfl,-⟩:=cb.jx m' h;have aX:=I (λw1(ai:Kept w w1)=>BQ _ l (4,n) w1 ((cb.jx m' h).kept ai) (by omega));unfold fo at aX;have dP:=I h;have dB:=I av;have hU:=I bc;clear h av bc;go_enter func97,ntmps97
 go_upto_region 19 with fail
 generalize aL:(w.alloc _).alloc _=W at*;obtain⟨aV,bo,bh⟩:=Kept.a_ aL;clear aL;have cp:=I aV;obtain⟨aY,bq⟩:=bh.p
 cases aC:jJ l (4,n)
 .have cI:=I (show hl l (some (4,n))=l++[(4,n)]from by unfold hl;unfold jJ at aC;rw[vC]at aC;exact aw aC);rw[aC]at aX;clear aV aC;go_upto_region 21 with (go_at_call 135;refine (aX _ cp).mono ?_;rintro e w1⟨rfl,au⟩)
  have c9:=bh.kept au;have dA:=I (cp.trans au);clear aY bq;obtain⟨aY,bq⟩:=c9.p;go_wp2_with (at_builtin;refine jB _ rfl (.tmp 45) (.tmp 47) 124 rfl B 127 i0 (aF #[(),()]) 2 16 underlying124 fx fy fz fA rfl (by decide) (ae A l c) l (l.flatMap hY) rfl (fX (cb.lk dP dA) _) ⟨w1.heap.size,0,none⟩ 1 1 (hY (4,n)) rfl rfl pf (CS _) (by have:=dB.out;unfold maxLen;omega) (by have:=dB.out;omega) (by have:=hU.out;have:=dA.size;simp<;>omega) ?_;intro v6 dc bd a8 _ dk;go_loud (have gm:=I (BG (v:=ae A l c) (r:=(4,n)) (cb.lk dP dA) dA bd a8 dk);obtain⟨wN,dn,rfl⟩:=iN bd;clear bd a8 dk))
  go_ret;rw[cI];exact gm
 .have cI:=I (show hl l (some (4,n))=l from by unfold hl;unfold jJ at aC;rw[gg]at aC;exact aP aC);rw[aC]at aX;clear aV aC;go_wp2_with (go_at_call 135;refine (aX _ cp).mono ?_;rintro e w1⟨rfl,au⟩)
  go_ret;rw[cI];exact Ac dP (cp.trans au)
def agN(B:aa)(v:ak)(l:List (J×J))(n:J)(w:ag)(h:cb w B 127 hY 2 v l)(av:l.length<=1000000)(bc:B<=w.heap.size):bg 97 #[v,aF #[ah 39,n]] w (qy B v (hl l (some (4,n))) w):=by
 obtain⟨i0,fx,fy,fz,fA⟩:=hy Tryz.CC;obtain⟨A,c,rfl,-⟩:=cb.jx m' h;have aX:=I (λw1(ai:Kept w w1)=>BQ _ l (4,n) w1 ((cb.jx m' h).kept ai) (by omega));unfold fo at aX;have dP:=I h;have dB:=I av;have hU:=I bc;clear h av bc;go_enter func97,ntmps97
 go_upto_region 19 with fail
 generalize aL:(w.alloc _).alloc _=W at*;obtain⟨aV,bo,bh⟩:=Kept.a_ aL;clear aL;have cp:=I aV;obtain⟨aY,bq⟩:=bh.p
 cases aC:jJ l (4,n)
 .have cI:=I (show hl l (some (4,n))=l++[(4,n)]from by unfold hl;unfold jJ at aC;rw[vC]at aC;exact aw aC);rw[aC]at aX;clear aV aC;go_upto_region 21 with (go_at_call 135;refine (aX _ cp).mono ?_;rintro e w1⟨rfl,au⟩)
  have c9:=bh.kept au;have dA:=I (cp.trans au);clear aY bq;obtain⟨aY,bq⟩:=c9.p;go_wp2_with (at_builtin;refine jB _ rfl (.tmp 45) (.tmp 47) 124 rfl B 127 i0 (aF #[(),()]) 2 16 underlying124 fx fy fz fA rfl (by decide) (ae A l c) l (l.flatMap hY) rfl (fX (cb.lk dP dA) _) ⟨w1.heap.size,0,none⟩ 1 1 (hY (4,n)) rfl rfl pf (CS _) (by have:=dB.out;unfold maxLen;omega) (by have:=dB.out;omega) (by have:=hU.out;have:=dA.size;simp<;>omega) ?_;intro v6 dc bd a8 _ dk;go_loud (have gm:=I (BG (v:=ae A l c) (r:=(4,n)) (cb.lk dP dA) dA bd a8 dk);obtain⟨wN,dn,rfl⟩:=iN bd;clear bd a8 dk))
  go_ret;rw[cI];exact gm
 .have cI:=I (show hl l (some (4,n))=l from by unfold hl;unfold jJ at aC;rw[gg]at aC;exact aP aC);rw[aC]at aX;clear aV aC;go_wp2_with (go_at_call 135;refine (aX _ cp).mono ?_;rintro e w1⟨rfl,au⟩)
  go_ret;rw[cI];exact Ac dP (cp.trans au)
def agR(B:aa)(v:ak)(l:List (J×J))(o n:J)(w:ag)(h:cb w B 127 hY 2 v l)(aA:o≠7/\o≠8/\o≠9/\o≠33/\o≠34/\o≠36/\o≠37/\o≠38/\o≠39):bg 97 #[v,aF #[o,n]] w (qy B v l w):=by
 obtain⟨A,c,rfl,-⟩:=cb.jx m' h;have dP:=I h;have aQ:(o==7)=false:=by simpa using aA.1
 have a_:(o==8)=false:=by simpa using aA.2.1
 have cv:(o==9)=false:=by simpa using aA.2.2.1
 have h_:(o==33)=false:=by simpa using aA.2.2.2.1
 have ko:(o==34)=false:=by simpa using aA.2.2.2.2.1
 have qB:(o==36)=false:=by simpa using aA.2.2.2.2.2.1
 have r9:(o==37)=false:=by simpa using aA.2.2.2.2.2.2.1
 have DR:(o==38)=false:=by simpa using aA.2.2.2.2.2.2.2.1
 have L2:(o==39)=false:=by simpa using aA.2.2.2.2.2.2.2.2
 clear h aA;go_enter func97,ntmps97
 go_wp2_with fail
 go_ret;exact Ac dP (((aG w).alloc _).alloc _)
end Go.Proofs.YtilhklpfkgbikaaGreatDoor
