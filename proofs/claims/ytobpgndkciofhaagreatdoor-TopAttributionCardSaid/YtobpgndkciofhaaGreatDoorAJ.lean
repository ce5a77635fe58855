import Derived.Test.YtobpgndkciofhaaGreatDoorAH
set_option linter.all false
namespace Go.Proofs.YtobpgndkciofhaaGreatDoor
open Go.RowKit
structure j0 (W:World) (g t9:Nat) (eZ:Array Value) (g9:Nat) (a b c d e:Int) (v5 v6:Value) (dP ev:List Int) (wr:World):Prop where
 two:Two W wr none g
 kW:ao wr g 37 #[a,b,c,d,e,(),()]
 xk:cn wr W.heap.size v5 dP
 yH:cn wr W.heap.size v6 ev
 ap:h8 v5 v6
 lt:g<W.heap.size
 fg:ao wr g9 t9 eZ
 s0:W.heap.size≤g9∧v5.ownBlock≠some g9∧v6.ownBlock≠some g9
section
variable {W wr w':World} {g t9 g9:Nat} {eZ:Array Value} {a b c d e:Int} {v5 v6:Value} {dP ev:List Int}
theorem j0.keep (h:j0 W g t9 eZ g9 a b c d e v5 v6 dP ev wr) (aa:Kept wr w'):j0 W g t9 eZ g9 a b c d e v5 v6 dP ev w':=
 ⟨h.two.trans (Two.iZ aa) (.inl rfl),h.kW.kept aa,h.xk.kH aa,h.yH.kH aa,h.ap,h.lt,h.fg.kept aa,h.s0⟩
theorem RA {w:World} {B g:Nat} {v:Value} {l:List Int} (h:cn w B v l) (ai:g<B):v.ownBlock≠some g:=fun e=>by have:=s6 h e;omega
theorem j0.aP (h:j0 W g t9 eZ g9 a b c d e v5 v6 dP ev wr) (i:Nat) (u:Value) {d' ey gf eR nj:Int} (ax:#[Value.int .i64 a,b,c,d,e,(),()].setIfInBounds i u=#[Value.int .i64 d',ey,gf,eR,nj,(),()]):
  j0 W g t9 eZ g9 d' ey gf eR nj v5 v6 dP ev (wr.setCell ⟨g,i,none⟩ u):=
 ⟨h.two.aP i u,ax▸h.kW.aP i u,h.xk.vY (RA h.xk h.lt) u,h.yH.vY (RA h.yH h.lt) u,h.ap,h.lt,h.fg.far (p:=⟨g,i,none⟩) (by have:=h.lt;have:=h.s0.1;simp only;omega) u,h.s0⟩
theorem j0.Ur {x:Int} {v':Value} (h:j0 W g t9 eZ g9 a b c d e v5 v6 dP ev wr) (aO:cn w' W.heap.size v' (dP++[x])) (aN:wr.grownBy w' v5.ownBlock) (cK:v'.ownBlock=v5.ownBlock∨v'.ownBlock=some wr.heap.size):
  j0 W g t9 eZ g9 a b c d e v' v6 (dP++[x]) ev w':=by
 refine⟨h.two.trans (Two.uv aN) ?_,(aN.block g h.kW.lt (fun k=>RA h.xk h.lt k.symm)).trans h.kW,aO,h.yH.other aN h.ap,?_,h.lt,(aN.block g9 h.fg.lt (fun k=>h.s0.2.1 k.symm)).trans h.fg,h.s0.1,?_,h.s0.2.2⟩
 ·cases ay:v5.ownBlock with
  |none=>exact .inl rfl
  |some b=>exact .inr ⟨b,rfl,s6 h.xk ay⟩
 ·intro k aa En;rcases cK with q|q
  ·exact h.ap k (q▸aa) En
  ·rw[q]at aa;obtain rfl:=Option.some.inj aa;exact Nat.lt_irrefl _ (E9 h.yH En)
 ·rcases cK with q|q
  ·rw[q];exact h.s0.2.1
  ·rw[q];intro k;have:=Option.some.inj k;have:=h.fg.lt;omega
theorem j0.swap (h:j0 W g t9 eZ g9 a b c d e v5 v6 dP ev wr):j0 W g t9 eZ g9 a b c d e v6 v5 ev dP wr:=⟨h.two,h.kW,h.yH,h.xk,h.ap.symm,h.lt,h.fg,h.s0.1,h.s0.2.2,h.s0.2.1⟩
theorem j0.acy {x:Int} {v':Value} (h:j0 W g t9 eZ g9 a b c d e v5 v6 dP ev wr) (aO:cn w' W.heap.size v' (ev++[x])) (aN:wr.grownBy w' v6.ownBlock) (cK:v'.ownBlock=v6.ownBlock∨v'.ownBlock=some wr.heap.size):
  j0 W g t9 eZ g9 a b c d e v5 v' dP (ev++[x]) w':=(h.swap.Ur aO aN cK).swap
theorem j0.aiV (h:j0 W g t9 eZ g9 a b c d e v5 v6 dP ev wr) (d' ey gf eR nj:Int):
  j0 W g t9 eZ g9 d' ey gf eR nj v5 v6 dP ev (((((((wr.setCell ⟨g,0,none⟩ d').setCell ⟨g,1,none⟩ ey).setCell ⟨g,2,none⟩ gf).setCell ⟨g,3,none⟩ eR).setCell ⟨g,4,none⟩ nj).setCell ⟨g,5,none⟩ ()).setCell ⟨g,6,none⟩ ()):=by
 have I:j0 W g t9 eZ g9 d' b c d e v5 v6 dP ev _:=h.aP 0 d' (by simp);have U:j0 W g t9 eZ g9 d' ey c d e v5 v6 dP ev _:=I.aP 1 ey (by simp);have ae:j0 W g t9 eZ g9 d' ey gf d e v5 v6 dP ev _:=U.aP 2 gf (by simp);have aJ:j0 W g t9 eZ g9 d' ey gf eR e v5 v6 dP ev _:=ae.aP 3 eR (by simp);have bp:j0 W g t9 eZ g9 d' ey gf eR nj v5 v6 dP ev _:=aJ.aP 4 nj (by simp);have eJ:j0 W g t9 eZ g9 d' ey gf eR nj v5 v6 dP ev _:=bp.aP 5 () (by simp);exact eJ.aP 6 () (by simp)
end
end Go.Proofs.YtobpgndkciofhaaGreatDoor
