import Derived.Test.YtobpgndkciofhaaGreatDoorQ
set_option linter.all false
namespace Go.Proofs.YtobpgndkciofhaaGreatDoor
open Go.RowKit Go.Proofs.Tryz
open Go.Lib (hid)
set_option maxRecDepth 100000
set_option maxHeartbeats 8000000
def wE (e:List cz) (E:dC) (q:Nat):Prop:=
 ∀F:Nat,q<F→∀(v:Value) (w:World),tg w v e (cF e).1 E→Mon w→Calls prog 78 #[v,q] w (fN (fY ca E e (cF e).1 F q) w)
theorem opsL {S:List Nat} {q:Nat} (hle:∀k s:Nat,S[k]?=some s→s≤k):∀(k:Nat) (z:Int) (acc:List Int),JE S k z→z<q→∃L:List Nat,L.length=k∧qU S k z acc=L.map (fun n:Nat=>(n:Int))++acc∧∀l∈L,l<q:=by
 intro k;induction k with
 |zero=>intro z acc _ _;exact⟨[],rfl,rfl,fun l h=>by cases h⟩
 |succ k bH=>
  intro z acc h ck;obtain⟨l,s,rfl,ax,U⟩:=h;obtain⟨L,ae,aJ,bp⟩:=bH ((s:Int)-1) ((l:Int)::acc) U (by have:=hle l s ax;omega);refine⟨L++[l],by simp[ae],?_,fun y db=> ?_⟩
  ·rw[ZX ax,aJ];simp
  ·rcases List.mem_append.1 db with db|db
   ·exact bp y db
   ·rw[List.mem_singleton]at db;omega
theorem ZY {e:List cz} {q:Nat} {x:cz} {a:Nat} (ay:(cF e).2.2=0) (af:e[q]?=some x) (aZ:dY x.o=a):∃L:List Nat,L.length=a∧qU (cF e).1 a ((q:Int)-1) []=L.map (fun n:Nat=>(n:Int))∧∀l∈L,l<q:=by
 obtain⟨_,_,_,ht,_⟩:=IE ay;obtain⟨_,gD⟩:=ht q _ af;have eG:=ZW gD;rw[aZ,Int.toNat_natCast]at eG;obtain⟨L,I,U,ae⟩:=opsL (q:=q) (fun k s ax=>aaL ay k k s (Nat.le_refl _) ax) a _ [] eG (by omega);exact⟨L,I,by rw[U,List.append_nil],ae⟩
theorem On (v:Value) (e:List cz) (E:dC) (q F:Nat) (w:World) (hC:wE e E q) (hF:q<F) (dZ:tg w v e (cF e).1 E) (br:Mon w):
  Calls prog 139 #[v,q] w (fN (nh (fY ca E e (cF e).1 F q)) w):=by
 have bI:=hid (fun w1 (h:Kept w w1)=>hC F hF v w1 (dZ.kept h) (br.kept h));obtain⟨ny,b2,cl,aC,cM,aM,cX,a1,ef,bN,dk,bJ,rfl,bM,bj,-⟩:=dZ;obtain⟨A,cap,rfl,-⟩:=bM.at_;obtain⟨qp,ly,rfl,-⟩:=CH bj;generalize fY ca E e (cF e).1 F q=r at*;obtain⟨⟨eX,gw,dw⟩,rc⟩:=r;unfold fN at bI⊢;dsimp only at bI;have cV:=hid (fun w=>AF eX gw dw w);have gq:nh (⟨eX,gw,dw⟩,rc)=if rc≠0 then (v0,rc)else if eX≠1∨gH ⟨eX,gw,dw⟩=false then (v0,8)else (⟨eX,gw,dw⟩,0):=rfl;obtain⟨R,aw⟩:∃R,R=nh (⟨eX,gw,dw⟩,rc):=⟨_,rfl⟩;rw[←aw]at gq⊢;clear aw bM bj hC br;obtain⟨⟨R3,aoK,dG⟩,sc⟩:=R;by_cases ah:rc=0
 case neg=>
  have hh:(rc !=0)=true:=by simpa using ah
  rw[if_pos ah]at gq;obtain⟨rfl,rfl,rfl,rfl⟩:=h7 gq;clear gq ah;go_enter func139,ntmps139
  go_wp2_with (go_at_call 78;refine (bI.out _ (by with_reducible repeat first|exact .refl _|assumption|refine .drew ?_|refine .alloc ?_ _|refine .setCell ?_ (by (try simp only);omega) _|refine .trans ?_ ‹Kept _ _›)).mono ?_;rintro y w1 ⟨rfl,ak⟩;obtain⟨cx,gQ⟩:=Kept.cells ak;have cb:=ak.size;(try simp at cb);have:w.heap.size<w1.heap.size:=(by omega);have:w.heap.size+1<w1.heap.size:=(by omega))
  exact bodyPost_ret (v:= .tuple #[.agg #[(),(),()],_]) (by simp[results,results139,go_sem, *]) rfl ⟨rfl,(by with_reducible repeat first|exact .refl _|assumption|refine .drew ?_|refine .alloc ?_ _|refine .setCell ?_ (by (try simp only);omega) _|refine .trans ?_ ‹Kept _ _›)⟩
 subst ah;rw[if_neg (by decide)]at gq;by_cases I:eX=1
 case neg=>
  have Pe:(eX !=1)=true:=by simpa using I
  rw[if_pos (.inl I)]at gq;obtain⟨rfl,rfl,rfl,rfl⟩:=h7 gq;clear gq I;go_enter func139,ntmps139
  go_wp2_with (go_at_call 78;refine (bI.out _ (by with_reducible repeat first|exact .refl _|assumption|refine .drew ?_|refine .alloc ?_ _|refine .setCell ?_ (by (try simp only);omega) _|refine .trans ?_ ‹Kept _ _›)).mono ?_;rintro y w1 ⟨rfl,ak⟩;obtain⟨cx,gQ⟩:=Kept.cells ak;have cb:=ak.size;(try simp at cb);have:w.heap.size<w1.heap.size:=(by omega);have:w.heap.size+1<w1.heap.size:=(by omega))
  exact bodyPost_ret (v:= .tuple #[.agg #[(),(),()],.int .i64 8]) (by simp[results,results139,go_sem, *]) rfl ⟨rfl,(by with_reducible repeat first|exact .refl _|assumption|refine .drew ?_|refine .alloc ?_ _|refine .setCell ?_ (by (try simp only);omega) _|refine .trans ?_ ‹Kept _ _›)⟩
 subst I
 cases hp:gH ⟨1,gw,dw⟩
 case false=>
  rw[if_pos (.inr hp)]at gq;obtain⟨rfl,rfl,rfl,rfl⟩:=h7 gq;rw[hp]at cV;clear gq hp;go_enter func139,ntmps139
  go_wp2_with (first|(go_at_call 78;refine (bI.out _ (by with_reducible repeat first|exact .refl _|assumption|refine .drew ?_|refine .alloc ?_ _|refine .setCell ?_ (by (try simp only);omega) _|refine .trans ?_ ‹Kept _ _›)).mono ?_;rintro y w1 ⟨rfl,ak⟩;obtain⟨cx,gQ⟩:=Kept.cells ak;have cb:=ak.size;(try simp at cb);have:w.heap.size<w1.heap.size:=(by omega);have:w.heap.size+1<w1.heap.size:=(by omega))|(go_at_call 145;refine (cV.out _).mono ?_;rintro y w2 ⟨rfl,a'⟩;obtain⟨fE,nY⟩:=Kept.cells a';have eu:=a'.size;(try simp at eu);have:w.heap.size<w2.heap.size:=(by omega);have:w.heap.size+1<w2.heap.size:=(by omega)))
  exact bodyPost_ret (v:= .tuple #[.agg #[(),(),()],.int .i64 8]) (by simp[results,results139,go_sem, *]) rfl ⟨rfl,(by with_reducible repeat first|exact .refl _|assumption|refine .drew ?_|refine .alloc ?_ _|refine .setCell ?_ (by (try simp only);omega) _|refine .trans ?_ ‹Kept _ _›)⟩
 case true=>
  rw[if_neg (by rw[hp];simp)]at gq;obtain⟨rfl,rfl,rfl,rfl⟩:=h7 gq;rw[hp]at cV;clear gq hp;go_enter func139,ntmps139
  go_wp2_with (first|(go_at_call 78;refine (bI.out _ (by with_reducible repeat first|exact .refl _|assumption|refine .drew ?_|refine .alloc ?_ _|refine .setCell ?_ (by (try simp only);omega) _|refine .trans ?_ ‹Kept _ _›)).mono ?_;rintro y w1 ⟨rfl,ak⟩;obtain⟨cx,gQ⟩:=Kept.cells ak;have cb:=ak.size;(try simp at cb);have:w.heap.size<w1.heap.size:=(by omega);have:w.heap.size+1<w1.heap.size:=(by omega))|(go_at_call 145;refine (cV.out _).mono ?_;rintro y w2 ⟨rfl,a'⟩;obtain⟨fE,nY⟩:=Kept.cells a';have eu:=a'.size;(try simp at eu);have:w.heap.size<w2.heap.size:=(by omega);have:w.heap.size+1<w2.heap.size:=(by omega)))
  exact bodyPost_ret (v:= .tuple #[.agg #[.int .i64 1,aoK,dG],()]) (by simp[results,results139,go_sem, *]) rfl ⟨rfl,(by with_reducible repeat first|exact .refl _|assumption|refine .drew ?_|refine .alloc ?_ _|refine .setCell ?_ (by (try simp only);omega) _|refine .trans ?_ ‹Kept _ _›)⟩
end Go.Proofs.YtobpgndkciofhaaGreatDoor
