/- Lemmas of the walks, merged and pressed by press.py. Conditions: those of each theorem. -/
import Derived.Test.YtaoceecfjlkmdaaGreatM6
import Derived.Test.YtaoceecfjlkmdaaGreatM11
import Derived.Shelf.Abstract
import Derived.Shelf.RegionOpen
import Derived.OwnWalkIn
import Derived.TacticsInMore
import Derived.LoopNIn
import Derived.LoopIn
set_option maxRecDepth 100000
set_option maxHeartbeats 64000000
set_option linter.all false
namespace Go.Proofs.YtaoceecfjlkmdaaGreat
open Tryz
variable {bk bt d i m n nn p p0 pt:Nat} {D' S:Nat→Prop} {r row:Option Nat} {W' w wr:World}
section
open Go Go.RowKit Go.Shelf
attribute [local go_sem] Oper.semAt_some
def ze1 (w:World) (S:Nat->Prop):={x:Nat × Tr 0 // zQ w S x.1 x.2/\0 < zH x.2/\zH x.2<=6}
def zoc {lt:Tr 0} (h1:zQ w S p lt) (h2:0 < zH lt) (h3:zH lt<=6):ze1 w S:=⟨(p,lt),h1,h2,h3⟩
structure zjD {α:Type} (J:List α->(Nat->Prop)->World->Prop) (X:Nat->Prop) (w W0:World) (D0:Nat->Prop) (pre:List α) (D:Nat->Prop) (W:World):Prop where
 j:J pre D W
 lt:∀j,D j->j < W.heap.size
 grew:zba D0 W0 D W
 outs:zD D0 W0 W
 keep:zbD X w W
section
variable {α:Type} {J:List α→(Nat→Prop)→World→Prop} {X:Nat→Prop} {w W0 W:World} {D0 D:Nat→Prop} {pre:List α}
theorem zjD.step (hJ:zcL J) (h:zjD J X w W0 D0 pre D W) (Ck:∀j,X j->j < ↑W0)   (hg:W.grownBy W' row) (hr:∀r,row=some r->↑W0<=r/\¬D r):zjD J X w W0 D0 pre D W':=by
 have hk:zbD D W W':=⟨hg.os,hg.tape,hg.output,hg.size,fun j hj=> hg.block j (h.lt j hj) (fun e=> (hr j e.symm).2 hj)⟩;refine ⟨hJ _ _ _ _ h.j hk,fun j hj=> zt (h.lt j hj) hg.size,⟨h.grew.new,fun j hj=> zt (h.lt j hj) hg.size⟩,h.outs.trans (zD.of_grown (D:=fun j=> ↑W0<=j) hg (fun r e=> .inl (hr r e).1)) (fun j hj=> .inr hj),h.keep.trans ⟨hg.os,hg.tape,hg.output,hg.size,fun j hj=> hg.block j (zt (Ck j hj) h.outs.size) (fun e=> ?_)⟩⟩;have:=(hr j e.symm).1;have:=Ck j hj
 omega
theorem zjD.below (hJ:zcL J) (h:zjD J X w W0 D0 pre D W) (Ck:∀j,X j->j < ↑W0)  (hb:θ W W W'):zjD J X w W0 D0 pre D W':=
 h.step hJ Ck (row:=none) ⟨hb.os,hb.tape,hb.output,hb.size,fun j hj _=> hb.block j hj⟩ (fun r e=> by cases e)
theorem zjD.yielded (h:zjD J X w W0 D0 pre D W) (Ck:∀j,X j->j < ↑W0) (Iu:∀j,D0 j->¬X j)  {x:α}  (hg:zba D W D' W') (ho:zD D W W') (hj:J (pre++ [x]) D' W'):zjD J X w W0 D0 (pre++ [x]) D' W':=by
 refine ⟨hj,hg.lt,h.grew.trans hg h.outs.size,h.outs.trans ho h.grew.new,h.keep.trans (ho.kept (fun j hj=> zt (Ck j hj) h.outs.size) (fun j hj hd=> (h.grew.new j hd).elim (fun h2=> Iu j h2 hj) (fun h2=> by have:=Ck j hj;omega)))⟩
end
theorem zke (h:zaw w pt r n):
 χ 202 #[zv pt] w fun e w'=> e=ρ (π (r.map fun p=> ⟨p,0,none⟩))/\w'=w:=by
 have h0:w.cell? ⟨pt,0,none⟩=some (π (r.map fun p=> ⟨p,0,none⟩)):=cell_of_row w pt 0 _ _ _ h;generalize r.map (fun p=> (⟨p,0,none⟩:Addr))=rr at *;unfold zv;go_enter func202,ntmps202;go_wp2_with fail;go_ret;exact ⟨rfl,rfl⟩
theorem zod (p:Nat->Prop):∀m,p m->∃k,p k/\∀j,p j->k<=j:=by
 intro m
 induction m using Nat.strongRecOn with
 | _ m ih=>
   intro hm
   by_cases h:∃j,j < m/\p j
   ·obtain ⟨j,hj,aL⟩:=h;exact ih j hj aL
   exact ⟨m,hm,fun j hj=> by
      rcases Nat.lt_or_ge j m with h2 | h2
      ·exact absurd ⟨j,h2,hj⟩ h
      exact h2⟩
open Classical in
noncomputable def zlh (p:Nat->Prop):Nat:=if h:∃k,p k/\∀j,p j->k<=j then Classical.choose h else 0
theorem zdo {p:Nat->Prop} (h:∃m,p m):p (zlh p)/\∀j,p j->zlh p<=j:=by
 obtain ⟨m,hm⟩:=h;have h2:=zod p m hm;unfold zlh;rw [dif_pos h2];exact Classical.choose_spec h2
def zeo (J:List (ze1 w S)->(Nat->Prop)->World->Prop) (X:Nat->Prop) (W0:World) (D0:Nat->Prop) (d q:Nat) (LL:List (Tr 0)) (u5:Value) (wr:World) (m:Nat):Prop:=
 ∃ (pre:List (ze1 w S)) (D:Nat->Prop),zjD J X w W0 D0 pre D wr/\¬D q/\q < ↑wr/\
   ((∃(p:Nat) (lt:Tr 0) (stk:List (Nat × Nat)) (L:List (Tr 0)),u5=π (some ↑p)/\zQ w S p lt/\0 < zH lt/\zH lt<=6/\zO wr q stk/\zdq w S d stk L/\LL=pre.map (·.1.2)++lt::L/\m=L.length+1)\/
     (u5=π none/\LL=pre.map (·.1.2)/\m=0))
def zlU (J:List (ze1 w S)->(Nat->Prop)->World->Prop) (X:Nat->Prop) (W0:World) (D0:Nat->Prop) (d q:Nat) (LL:List (Tr 0)) (pre:List (ze1 w S)) (D:Nat->Prop) (u5:Value) (wr:World) (e:Nat):Prop:=
 zjD J X w W0 D0 pre D wr/\q < ↑wr/\
    ((∃(p:Nat) (c:Tr e) (stk:List (Nat × Nat)) (L:List (Tr 0)),u5=π (some ↑p)/\zQ w S p c/\0 < zH c/\zH c<=6/\zax c/\zO wr q stk/\zdq w S d stk L/\stk.length+e<=d/\LL=pre.map (·.1.2)++(zap c++L))\/
      (u5=π none/\e=0/\LL=pre.map (·.1.2)))
theorem zQ.kidAt {u:Tr (m+1)} {c:Tr m} (h:zQ w S p u) (hc:(zx u)[i]? =some c) (hs:zbk S w wr):
 ∃cb co cc qc,wr (p 3 ())=some (σ (some ⟨cb,co,()⟩) (zH u) cc)/\wr ⟨cb,co+i,()⟩=some (π (some ⟨qc,0,()⟩))/\zQ w S qc c/\S p/\S cb:=by
 obtain ⟨ka,kc,ca,cc,ps,AH,-,Fc,AQ,hk⟩:=h;have hi:=(zi hc).1;obtain ⟨x,hx⟩:∃x,ps[i]? =some x:=⟨_,ze (by rw [AQ];exact hi)⟩
 obtain ⟨b,o,rfl,Bn⟩:=Fc.2 i (zv x) (by rw [List.getElem?_map,hx];rfl)
 exact ⟨b,o,cc,x,(zau hs AH.self _).trans AH.reads.2.2.2.1,(zau hs (AH.kids b o rfl) _).trans Bn,hk i x c hx hc,AH.self,AH.kids b o rfl⟩
def PopS (J:List (ze1 w S)->(Nat->Prop)->World->Prop) (X:Nat->Prop) (W0:World) (D0:Nat->Prop) (d q:Nat) (pre:List (ze1 w S)) (D:Nat->Prop) (L:List (Tr 0)) (u5 u7 u8:Value) (wz:World):Prop:=
 u5 =π none/\∃(xb:Nat) (op:Option Addr) (iv:Int),u7=π (some ↑xb)/\zjD J X w W0 D0 pre D wz/\q < ↑wz/\wz.heap[xb]? =some (.cells #[π op,↑iv] 309)/\¬D xb/\q < xb/\
    ((u8= .bool false/\L= []/\zO wz q [])\/(∃(stk:List (Nat × Nat)) (p i:Nat),u8= .bool true/\op=some ↑p/\iv=i/\zO wz q stk/\zdq w S d (stk++ [(p,i)]) L))
theorem zlf {t:Tr d} (n:Nat) (hn:1<=n) (AF:zaw w pt (some p0) nn) (ht:zQ w S p0 t) (hR:zcM t) (AC:zac (flatT t)) (hd:d<=15) (hS:∀j,S j->j < w.heap.size) (k:Nat)
 (Hy:w.heap[bt]? =some (.cells #[zv pt] 102)) (Hw:w.heap[bk]? =some (.cells #[τ (zj k),ν (zo k),υ (zp k)] 111)):
 zdF Fence.wide n prog 200 #[zv bt,zv bk] (fun x:ze1 w S=> #[zv x.1.1]) (fun ys=> ys.map (·.1.2)=zF t k) (fun pre=> ∃r,zF t k=pre.map (·.1.2)++r) (fun j=> S j\/j=bt\/j=bk\/j=pt) (zF t k).length w:=by
 intro l J Jx D0 W hX hJ QD F7 Iu hY h0;have Sw:=(zg Hy).1;have yw:=(zg Hw).1;have BZ:pt < w.heap.size:=(zg AF).1;have Ck:∀j,(S j\/j=bt\/j=bk\/j=pt)->j < W.heap.size:=fun j hj=> by
  have:=hX.size;rcases hj with h | rfl | rfl | rfl
  ·have:=hS j h;omega
  ·omega
  ·omega
  omega
 have jo:zjD J (fun j=> S j\/j=bt\/j=bk\/j=pt) w W D0 [] D0 W:=⟨h0,F7,⟨fun j hj=> .inl hj,F7⟩,zD.refl _ _,hX⟩;have qK:=zh jo;have HX:=zh hX;have HY:=zh hY;have HN:=zh (zdY W);have VT:=zh Hy;have qC:=zh Hw;have Cj:=zh AF;have HT:=zh ht;have HR:=zh hR;have A3:=zh AC;unfold zv at HN ⊢;clear jo hX hY h0 Hy Hw AF ht hR AC;refine callsIn_of_wp func200 rfl trivial ?_ rfl;refine wpIn_wide.2 ?_;simp only [ntmps200,List.size_toArray,List.length_cons,List.length_nil,Nat.reduceAdd,Nat.reduceSub,Array.replicate_succ,Array.replicate_zero,List.push_toArray,List.append_toArray,List.nil_append,List.cons_append];go_wp2_with fail;refine HN.out.mono ?_;rintro r w2 ⟨rfl,AO,Ae⟩;have UU:=qK.out.below hJ Ck Ae;have Mn:w2.cell? ⟨bt,0,none⟩=some (π (some ⟨pt,0,none⟩)):=cell_of_row w2 bt 0 _ _ _ ((UU.keep.block bt (.inr (.inl rfl))).trans VT.out);have G0:=zh (zke (show zaw w2 pt (some p0) nn from (UU.keep.block pt (.inr (.inr (.inr rfl)))).trans Cj.out));have M4:=zh UU;have EZ:=zh AO;have GP:=Ae.size;have IK:=AO.lt;unfold zv at G0;clear UU AO Ae;go_wp2_with fail;refine G0.out.mono ?_;rintro r w3 ⟨rfl,rfl⟩;simp only [Option.map_some];have HD:=zh hd;generalize hq:W.heap.size=q at *;have Ej:=zh (show ∀j,(S j\/j=bt\/j=bk\/j=pt)->j < W.heap.size by rw [hq];exact Ck)
 go_wp2_with fail
 go_loopw [5] (fun u5 wr=> ∃(e p:Nat) (t':Tr e) (stk:List (Nat × Nat)) (L:List (Tr 0)),u5=π (some ⟨p,0,none⟩)/\zQ w S p t'/\0 < zH t'/\zH t'<=6/\zax t'/\zac (flatT t')/\zO wr q stk/\zdq w S d stk L/\stk.length+e<=d/\zF t k=zF t' k++L/\zjD J (fun j=> S j\/j=bt\/j=bk\/j=pt) w W D0 [] D0 wr) (fun u5 wr=> d - ((wr.cell? ⟨q,32,none⟩).map fun v=> (intOf v).toNat).getD 0)
 case atStart=> exact ⟨d,p0,t, [], [],rfl,HT.out,HR.out.lo,HR.out.hi,HR.out.kids,A3.out,EZ.out, .nil,by simp,by simp,M4.out⟩
 case round=>
  obtain ⟨e,p,t',stk,L,rfl,hN,Dm,Ls,hK,hr,AO,IJ,BO,ID,hI⟩:=hrel;have JD:=hN.same (w':=wr) (fun j hj=> hI.keep.block j (.inl hj));have JE:∀j,S j->j < wr.heap.size:=fun j hj=> zt (hS j hj) hI.keep.size;obtain ⟨ka,kc,va,vn,vc,ca,cn,cc,AH,-⟩:=JD.box;have y0:=AH.reads.1;have IK:=AO.lt;have IL:W.heap.size<=q:=by omega
  cases e with
  | zero =>
    have y0':wr.cell? ⟨p,0,none⟩=some (.bool true):=y0;have Ez:=zh hN;have HI:=zh hI;have Oz:=zh AO;have Li:=zh IJ;have UB:=zh ID;have HG:=zh (zn Dm Ls);clear hN hI AO IJ ID Dm Ls hr hK JD JE AH y0 M4 G0 HN EZ;go_wp2_with fail;have DD:zeo J (fun j=> S j\/j=bt\/j=bk\/j=pt) W D0 d q (zF t k) (π (some ⟨p,0,none⟩)) wr (L.length+1):=
        ⟨[],D0,HI.out,fun h=> by have:=F7 _ h;omega,IK, .inl ⟨p,t',stk,L,rfl,Ez.out,HG.out.1,HG.out.2,Oz.out,Li.out,by rw [UB.out];rfl,rfl⟩⟩
    have VN:=zh DD;clear DD y0' Ez HI Oz Li UB HG;refine (wpIn_wide (n:=n)).1 ?_
    gi_loopw [5,7,8] (fun u5 u7 u8 wr=> ∃m,zeo J (fun j=> S j\/j=bt\/j=bk\/j=pt) W D0 d q (zF t k) u5 wr m) (fun u5 u7 u8 wr=> zlh (zeo J (fun j=> S j\/j=bt\/j=bk\/j=pt) W D0 d q (zF t k) u5 wr))
    case atStart=> exact ⟨_,VN.out⟩
    case round=>
        obtain ⟨MG,-⟩:=zdo hrel;obtain ⟨pre,D,hI,kV,qd,(⟨p5,lt5,stk5,L5,rfl,hN,Dm,Ls,AO,Fa,OS,hm⟩ | ⟨rfl,OS,hm⟩)⟩:=MG
        ·have Ac:pre.length < (zF t k).length:=by rw [OS,List.length_append,List.length_map];simp
         obtain ⟨fn,tmps,assign,body,hy,OY⟩:=HY.out pre (zoc hN Dm Ls) D wr hI.j hI.lt hI.keep Ac ⟨L5,by rw [OS,List.map_append,List.append_assoc];rfl⟩
         dsimp only [zoc] at hy
         have OK:∀j,D j->¬(S j\/j=bt\/j=bk\/j=pt):=fun j hj hx=> (hI.grew.new j hj).elim (fun h=> Iu j h hx) (fun h=> by have:=Ej.out j hx;omega)
         have HI:=zh hI;have EZ:=zh AO;have Li:=zh Fa;have M8:=zh OS;have HM:=zh hm;have Ez:=zh (zn hN (zn Dm Ls));unfold zv at hy;clear hI AO Fa OS hm hrel Ac
         gi_wp2
         refine OY.mono ?_;rintro e W3 ⟨D',AM,A6,(⟨rfl,MB⟩ | ⟨rfl,MB⟩)⟩
         ·have jp:=HI.out.yielded Ej.out Iu AM A6 MB;have Ie:¬D' q:=fun h=> (AM.new q h).elim kV (fun h=> by omega)
          have P2:q < W3.heap.size:=zt qd A6.size;have Ey:=EZ.out.heap (A6.block q qd kV);have RT:zF t k=(pre++ [zoc hN Dm Ls]).map (·.1.2)++L5:=by rw [M8.out,List.map_append,List.append_assoc];rfl
          generalize pre++ [zoc hN Dm Ls]=pre3 at *;have qQ:=zh jp;have Ol:=zh RT;have Ei:=zh (zka Ey);unfold zv at Ei;clear jp Ey RT AM A6 MB hy OY
          gi_wp2_with (refine ⟨trivial, ?_⟩;gi_at_call 204;refine (callsIn_wide.2 Ei.out).mono ?_;rintro e w4 ⟨op,iv,rfl,DH,Fw⟩)
          have QB:=qQ.out.step hJ Ej.out DH (fun r hr=> by cases hr;exact ⟨IL,Ie⟩)
          have GQ:=DH.size;have RQ:=QB.below hJ Ej.out ((Below.refl _ w4).alloc zl (.cells #[π op,ι iv] 309));have DV:=heap_alloc_new w4 (.cells #[π op,ι iv] 309);have VH:¬D' w4.heap.size:=fun h=> by have:=QB.lt _ h;omega
          have MW:=World.alloc_size w4 (.cells #[π op,ι iv] 309);have NX:PopS J (fun j=> S j\/j=bt\/j=bk\/j=pt) W D0 d q pre3 D' L5 (π none) (π (some ⟨w4.heap.size,0,none⟩)) (.bool (!decide (stk5= []))) (w4.alloc (.cells #[π op,ι iv] 309)):=by
           refine ⟨rfl,w4.heap.size,op,iv,rfl,RQ,by omega,DV,VH,by omega, ?_⟩
           rcases Fw with ⟨h1,h2⟩ | ⟨l',p',i',h1,h2,h3,h4⟩
           ·refine .inl ⟨by rw [h1];rfl,(h1 ▸ Li.out).empty,h2.heap (Below.heap_alloc _ _ _ (by omega))⟩
           exact .inr ⟨l',p',i',by rw [h1,decide_eq_false (by simp)];rfl,h2,h3,h4.heap (Below.heap_alloc _ _ _ (by omega)),by rw [<- h1];exact Li.out⟩
          have Ir:=zh NX;clear QB RQ DV VH MW NX DH Fw Ei;refine wpIn_wide.2 ?_;generalize w4.alloc (.cells #[π op,ι iv] 309)=w5 at *;generalize w4.heap.size=xb0 at *;generalize Value.bool (!decide (stk5= []))=okv at *
          go_loopw [5,7,8] (fun u5 u7 u8 wz=> PopS J (fun j=> S j\/j=bt\/j=bk\/j=pt) W D0 d q pre3 D' L5 u5 u7 u8 wz) (fun u5 u7 u8 wz=> ((wz.cell? ⟨q,32,none⟩).map fun v=> (intOf v).toNat).getD 0+(match u8 with | .bool true=> 1 | _=> 0))
          case atStart=> exact Ir.out
          case round=>
           rename_i wr0 wzz
           obtain ⟨rfl,xb,op,iv,rfl,hI,TY,hx,VH,cw,(⟨rfl,jv,Zn⟩ | ⟨stk,pp,ii,rfl,rfl,rfl,AO,Fa⟩)⟩:=hrel
           ·have Sf:zeo J (fun j=> S j\/j=bt\/j=bk\/j=pt) W D0 d q (zF t k) (π none) wr 0:=
             ⟨pre3,D',hI,Ie,TY, .inr ⟨rfl,by rw [Ol.out,jv,List.append_nil],rfl⟩⟩
            have VM:=zh Sf;clear hI hx jv Zn Sf;go_wp2_with fail;refine wpIn_wide.2 ?_;go_wp2_with fail;refine wp_loop_rounds 1 ?_;rw [rounds_succ];go_wp2_with fail
            go_roundw
            case rel=> exact ⟨0,VM.out⟩
            case measure=>
             have h1:=(zdo ⟨0,VM.out⟩).2 0 VM.out;have h2:=HM.out
             show zlh (zeo J (fun j=> S j\/j=bt\/j=bk\/j=pt) W D0 d q (zF t k) (π none) wr) < _
             rw [show zlh (zeo J (fun j=> S j\/j=bt\/j=bk\/j=pt) W D0 d q (zF t k) (π none) wr)=0 by omega]
             exact Nat.lt_of_lt_of_eq (Nat.succ_pos L5.length) h2.symm
           have GI:=AO.reads.1;obtain ⟨m,u,L',MN,Kc,UV,Zq,kG,K6,UX⟩:=Fa.last rfl;have Cn:zbk S w wr:=fun j hj=> hI.keep.block j (.inl hj);have J0:=zh (zg0 (w:=wr.drew) (zQ.same (S:=S) (w:=wr) (w':=wr.drew) (fun _ _=> rfl) (Kc.same Cn)));have x0:wr.cell? ⟨xb,0,none⟩=some (π (some ⟨pp,0,none⟩)):=cell_of_row wr xb 0 _ _ _ hx;have x1:wr.cell? ⟨xb,1,none⟩=some (ι ii):=cell_of_row wr xb 1 _ _ _ hx;have Cq:wr.drew.cell? ⟨xb,0,none⟩=some (π (some ⟨pp,0,none⟩))/\wr.drew.cell? ⟨xb,1,none⟩=some (ι ii):=⟨x0,x1⟩;have CI:xb < wr.heap.size:=(zg hx).1;have Q6:IntKind.i64.wrap ((ii:Int)+1)=((ii+1:Nat):Int):=by rw [zw _ (by omega)];omega
           have P9:stk.length < 16:=by have:=HD.out;omega
           have Uz:=zh hI;have Oz:=zh AO;have VI:xb≠q:=by omega
           unfold zv at J0
           by_cases Px:ii < zH u
           ·obtain ⟨c, hc⟩ : ∃c,(zx u)[ii]? =some c:=⟨_,ze Px⟩;have hF:=zag.kid UV (zm hc);obtain ⟨cb,co,cc,qc,yk,yc,Iw,Ma,Kf⟩:=Kc.kidAt hc Cn;have jH:zdq w S d (stk++ [(pp,ii+1)]) (((zx u).drop (ii+1)).flatMap zap++L'):= .snoc MN Kc UV Zq Px K6;have jx:zF t k=pre3.map (·.1.2)++(zap c++(((zx u).drop (ii+1)).flatMap zap++L')):=by rw [Ol.out,UX,zhK u ii c hc,List.append_assoc]
            have Ll:=zh (zcg (w:=wr.drew) (AO.heap rfl) P9 pp (ii+1));have AQ:pp < wr.heap.size:=zb _ _ yk;have AN:cb < wr.heap.size:=zb _ _ yc;have Y1:pp≠q:=fun h=> by have:=hS pp Ma;have:=HX.out.size;omega
            have XX:cb≠q:=fun h=> by have:=hS cb Kf;have:=HX.out.size;omega
            have Bb:(ii:Int) < (zH u:Int):=by omega
            have Lj:=zh jH;have M7:=zh jx;have Iq:=zh (zn Iw (zn hF K6));unfold zv at Ll;clear Fa MN Kc UV Zq kG K6 UX Cn hc hF Iw jH jx hI hx AO Ma Kf;generalize zH u=lu at *;go_wp2_with fail
            go_region_held_law (fun W'=> W'.cell? ⟨xb,0,none⟩=some (π (some ⟨pp,0,none⟩))/\W'.cell? ⟨xb,1,none⟩=some (ι ii))
                  (first | exact Cq)
                  (first | (go_at_call 164;refine J0.out.mono ?_;rintro r w7 ⟨rfl,rfl⟩))
            all_goals
                  obtain ⟨g0,g1⟩:=Cq;go_wp2_with fail;refine Ll.out.mono ?_;rintro r w8 ⟨rfl,Ua,GE⟩;have Es:wr.grownBy w8 (some q):=⟨GE.os,GE.tape,GE.output,GE.size,fun j hj Aj=> GE.block j hj Aj⟩;have k0:w8.cell? ⟨xb,0,none⟩=some (π (some ⟨pp,0,none⟩)):=by
                    rw [<- x0];simp only [World.cell?];rw [Es.block xb CI (fun h=> VI (Option.some.inj h))]
                  have k1:w8.cell? ⟨xb,1,none⟩=some (ι ii):=by
                    rw [<- x1];simp only [World.cell?];rw [Es.block xb CI (fun h=> VI (Option.some.inj h))]
                  have k2:w8.cell? ⟨pp,3,none⟩=some (σ (some ⟨cb,co,none⟩) lu cc):=by
                    rw [<- yk];simp only [World.cell?];rw [Es.block pp AQ (fun h=> Y1 (Option.some.inj h))]
                  have k3:w8.cell? ⟨cb,co+ii,none⟩=some (π (some ⟨qc,0,none⟩)):=by
                    rw [<- yc];simp only [World.cell?];rw [Es.block cb AN (fun h=> XX (Option.some.inj h))]
                  have QC:=Uz.out.step hJ Ej.out Es (fun r hr=> by cases hr;exact ⟨IL,Ie⟩)
                  have RR:=QC.step hJ Ej.out (W':=w8.drew) (row:=none) ⟨rfl,rfl,rfl,zl,fun _ _ _=> rfl⟩ (fun r hr=> by cases hr)
                  have Sd:zlU J (fun j=> S j\/j=bt\/j=bk\/j=pt) W D0 d q (zF t k) pre3 D' (π (some ⟨qc,0,none⟩)) w8.drew m:=
                    ⟨RR,zt TY Es.size, .inl ⟨qc,c,stk++ [(pp,ii+1)],_,rfl,Iq.out.1,by have:=Iq.out.2.1.lo;omega,Iq.out.2.1.hi,Iq.out.2.1.kids,Ua.heap rfl,Lj.out,by have:=Iq.out.2.2;simp;omega,M7.out⟩⟩
                  have VL:=zh Sd;clear QC RR Sd Ua GE Es Ll J0;go_wp2_with fail
                  go_region
                  all_goals
                    go_wp2_with fail;refine wpIn_wide.2 ?_;go_wp2_with fail
                    go_loopw [5] (fun u5 wz=> ∃e,zlU J (fun j=> S j\/j=bt\/j=bk\/j=pt) W D0 d q (zF t k) pre3 D' u5 wz e) (fun u5 wz=> d - ((wz.cell? ⟨q,32,none⟩).map fun v=> (intOf v).toNat).getD 0)
                    case atStart=> exact ⟨m,VL.out⟩
                    case round=>
                     obtain ⟨e,LY,Zd,(⟨pz,cz,stkz,Lz,rfl,QG,AG,VK,UW,K5,MO,PH,Gu⟩ | ⟨rfl,rfl,Gu⟩)⟩:=hrel
                     ·have U1:zbk S w wr:=fun j hj=> LY.keep.block j (.inl hj);obtain ⟨kaz,kcz,vaz,vnz,vcz,caz,cnz,ccz,Pf,-⟩:=(QG.same U1).box;have yf:=Pf.reads.1
                      cases e with
                      | zero =>
                        have yf':wr.cell? ⟨pz,0,none⟩=some (.bool true):=yf;have Kj:zeo J (fun j=> S j\/j=bt\/j=bk\/j=pt) W D0 d q (zF t k) (π (some ⟨pz,0,none⟩)) wr (Lz.length+1):=
                             ⟨pre3,D',LY,Ie,Zd, .inl ⟨pz,cz,stkz,Lz,rfl,QG,AG,VK,K5,MO,Gu,rfl⟩⟩
                        have Ks:L5.length=Lz.length+1:=by
                             have h:=List.append_cancel_left (Ol.out.symm.trans Gu);rw [h];rfl
                        have Hd:=zh Kj;have V0:=zh Ks;clear LY QG AG VK UW K5 MO PH Gu U1 Pf yf Kj Ks;go_wp2_with fail
                        go_roundw
                        case rel=> exact ⟨_,Hd.out⟩
                        case measure=>
                             have h1:=(zdo ⟨_,Hd.out⟩).2 _ Hd.out;have h2:=HM.out;have h3:=V0.out;exact Nat.lt_of_lt_of_eq (Nat.lt_of_le_of_lt h1 (show Lz.length+1 < L5.length+1 by omega)) h2.symm
                      | succ e=>
                        have yf':wr.cell? ⟨pz,0,none⟩=some (.bool false):=yf;obtain ⟨c6,Vb⟩:∃c,(zx cz)[0]? =some c:=⟨_,ze (show 0 < (zx cz).length from AG)⟩;have jh:=zag.kid UW (zm Vb);obtain ⟨cb6,co6,cc6,qc6,yk6,yc6,RY,I9,Np⟩:=QG.kidAt Vb U1;simp only [Nat.add_zero] at yc6;have R0:zdq w S d (stkz++ [(pz,1)]) (((zx cz).drop 1).flatMap zap++Lz):= .snoc MO QG UW VK AG PH;have RU:zF t k=pre3.map (·.1.2)++(zap c6++(((zx cz).drop 1).flatMap zap++Lz)):=by rw [Gu,zi7 cz c6 Vb,List.append_assoc]
                        have Zm:stkz.length < 16:=by have:=HD.out;omega
                        have Ov:=zh (zcg K5 Zm pz 1);have ar:=K5.reads.1;have YY:pz < wr.heap.size:=zb _ _ yk6;have XV:cb6 < wr.heap.size:=zb _ _ yc6;have Y2:pz≠q:=fun h=> by have:=hS pz I9;have:=HX.out.size;omega
                        have XY:cb6≠q:=fun h=> by have:=hS cb6 Np;have:=HX.out.size;omega
                        have bZ:(0:Int) < (zH cz:Int):=by omega
                        have b6:0 < zH cz:=AG;have Wz:=zh R0;have Wm:=zh RU;have J1:=zh (zn RY (zn jh PH));have qR:=zh LY;unfold zv at Ov;clear LY QG AG VK UW K5 MO Gu U1 Pf yf Vb jh RY R0 RU I9 Np;generalize zH cz=lz at *;go_wp2_with fail;refine Ov.out.mono ?_;rintro r w10 ⟨rfl,K3,Fp⟩;have k2:w10.cell? ⟨pz,3,none⟩=some (σ (some ⟨cb6,co6,none⟩) lz cc6):=by
                             rw [<- yk6];simp only [World.cell?];rw [Fp.block pz YY (fun h=> Y2 (Option.some.inj h))]
                        have k3:w10.cell? ⟨cb6,co6,none⟩=some (π (some ⟨qc6,0,none⟩)):=by
                             rw [<- yc6];simp only [World.cell?];rw [Fp.block cb6 XV (fun h=> XY (Option.some.inj h))]
                        have RP:=qR.out.step hJ Ej.out Fp (fun r hr=> by cases hr;exact ⟨IL,Ie⟩)
                        have Tt:=K3.reads.1;simp only [List.length_append,List.length_singleton] at Tt;have Se:zlU J (fun j=> S j\/j=bt\/j=bk\/j=pt) W D0 d q (zF t k) pre3 D' (π (some ⟨qc6,0,none⟩)) w10 e:=
                             ⟨RP,zt Zd Fp.size, .inl ⟨qc6,c6,stkz++ [(pz,1)],_,rfl,J1.out.1,by have:=J1.out.2.1.lo;omega,J1.out.2.1.hi,J1.out.2.1.kids,K3,Wz.out,by have:=J1.out.2.2;simp;omega,Wm.out⟩⟩
                        have qB:=zh Se;clear RP K3 Fp Se Ov;go_wp2_with fail
                        go_roundw
                        case rel=> exact ⟨e,qB.out⟩
                        case measure=> rw [Tt,ar];simp [intOf];omega
                     have Kj:zeo J (fun j=> S j\/j=bt\/j=bk\/j=pt) W D0 d q (zF t k) (π none) wr 0:=⟨pre3,D',LY,Ie,Zd, .inr ⟨rfl,Gu,rfl⟩⟩;have Hd:=zh Kj;clear LY Gu Kj;go_wp2_with fail
                     go_roundw
                     case rel=> exact ⟨_,Hd.out⟩
                     case measure=>
                          have h1:=(zdo ⟨_,Hd.out⟩).2 _ Hd.out;have h2:=HM.out;exact Nat.lt_of_lt_of_eq (Nat.lt_of_le_of_lt h1 (Nat.succ_pos L5.length)) h2.symm
           have kE:ii=zH u:=by omega
           have jw:L5=L':=by rw [UX,kE,show zH u=(zx u).length from rfl,List.drop_length];rfl
           have Rs:=zh (show zdq w S d stk L5 by rw [jw];exact MN)
           have Ot:=zh (zka (w:=wr.drew) (AO.heap rfl));have Bb:¬(ii:Int) < (zH u:Int):=by omega
           have Nb:=zh hx;unfold zv at Ot;clear Fa MN Kc UV Zq kG K6 UX Cn hI hx AO kE jw Px;generalize zH u=lu at *;go_wp2_with fail
           go_region_held_law (fun W'=> W'.cell? ⟨xb,0,none⟩=some (π (some ⟨pp,0,none⟩))/\W'.cell? ⟨xb,1,none⟩=some (ι ii))
                 (first | exact Cq)
                 (first | (go_at_call 164;refine J0.out.mono ?_;rintro r w7 ⟨rfl,rfl⟩))
           all_goals
                 go_wp2_with fail;refine Ot.out.mono ?_;rintro r w8 ⟨op8,iv8,rfl,GE,KS⟩;have Es:wr.grownBy w8 (some q):=⟨GE.os,GE.tape,GE.output,GE.size,fun j hj Aj=> GE.block j hj Aj⟩;have GX:w8.heap[xb]? =some (.cells #[π (some ⟨pp,0,none⟩),ι ii] 309):=(Es.block xb CI (fun h=> VI (Option.some.inj h))).trans Nb.out;have k80:=cell_of_row w8 _ 0 _ _ _ GX;have k81:=cell_of_row w8 _ 1 _ _ _ GX;simp at k80 k81;have k8f:∀i,w8.frozen? ⟨xb,i,none⟩=false:=fun i=> by simp [World.frozen?,GX]
                 have hT:=ze0 w8 xb (π op8) (ι iv8);have IQ:=zeU GX (π op8) (ι iv8);have k90:=cell_of_row _ _ 0 _ _ _ IQ;have k91:=cell_of_row _ _ 1 _ _ _ IQ;simp at k90 k91;have QC:=(Uz.out.step hJ Ej.out Es (fun r hr=> by cases hr;exact ⟨IL,Ie⟩)).step hJ Ej.out hT.grown (fun r hr=> by cases hr;exact ⟨by omega,VH⟩)
                 have MX:((w8.setCell ⟨xb,0,none⟩ (π op8)).setCell ⟨xb,1,none⟩ (ι iv8)).heap.size=w8.heap.size:=hT.size;have cB:=Es.size;have RR:=QC.below hJ Ej.out (zr.alloc zl (.cells #[π op8,ι iv8] 309));have B6:=heap_alloc_new ((w8.setCell ⟨xb,0,none⟩ (π op8)).setCell ⟨xb,1,none⟩ (ι iv8)) (.cells #[π op8,ι iv8] 309);rw [MX] at B6;have Ud:=World.alloc_size ((w8.setCell ⟨xb,0,none⟩ (π op8)).setCell ⟨xb,1,none⟩ (ι iv8)) (.cells #[π op8,ι iv8] 309);have K4:∀{l'':List (Nat × Nat)},zO w8 q l''->zO (((w8.setCell ⟨xb,0,none⟩ (π op8)).setCell ⟨xb,1,none⟩ (ι iv8)).alloc (.cells #[π op8,ι iv8] 309)) q l'':=fun h=> (h.heap (hT.block q VI.symm)).heap (Below.heap_alloc _ _ _ (by omega))
                 have NR:PopS J (fun j=> S j\/j=bt\/j=bk\/j=pt) W D0 d q pre3 D' L5 (π none) (π (some ⟨w8.heap.size,0,none⟩)) (.bool (!decide (stk= []))) (((w8.setCell ⟨xb,0,none⟩ (π op8)).setCell ⟨xb,1,none⟩ (ι iv8)).alloc (.cells #[π op8,ι iv8] 309)):=by
                   refine ⟨rfl,w8.heap.size,op8,iv8,rfl,RR,by omega,B6,fun h=> by have:=QC.lt _ h;omega,by omega, ?_⟩
                   rcases KS with ⟨h1,h2⟩ | ⟨l',p',i',h1,h2,h3,h4⟩
                   ·exact .inl ⟨by rw [h1];rfl,(h1 ▸ Rs.out).empty,K4 h2⟩
                   exact .inr ⟨l',p',i',by rw [h1,decide_eq_false (by simp)];rfl,h2,h3,K4 h4,by rw [<- h1];exact Rs.out⟩
                 have Ed:∃c:Nat,(((w8.setCell ⟨xb,0,none⟩ (π op8)).setCell ⟨xb,1,none⟩ (ι iv8)).alloc (.cells #[π op8,ι iv8] 309)).cell? ⟨q,32,none⟩=some (ι c)/\((stk= []/\c=0)\/(stk≠ []/\c+1=stk.length)):=by
                   rcases KS with ⟨h1,h2⟩ | ⟨l',p',i',h1,h2,h3,h4⟩
                   ·exact ⟨0,(K4 h2).reads.1, .inl ⟨h1,rfl⟩⟩
                   exact ⟨l'.length,(K4 h4).reads.1, .inr ⟨by rw [h1];simp,by rw [h1];simp⟩⟩
                 have vt:=zh NR;have qX:=zh Ed;clear NR Ed QC RR B6 Ud K4 KS GE Es GX IQ hT Ot J0 Cq;go_wp2_with fail
                 go_roundw
                 case rel=> exact vt.out
                 case measure=>
                   obtain ⟨cn,h1,h2⟩:=qX.out;rw [GI,h1];rcases h2 with ⟨h3,h4⟩ | ⟨h3,h4⟩
                   ·rw [h3,h4];simp [intOf]
                   rw [decide_eq_false h3];simp [intOf];omega
         have BN:=HI.out.grew.trans AM HI.out.outs.size;have KP:=HI.out.outs.trans A6 HI.out.grew.new;have HF:=zh (zn BN (zn KP MB));clear BN KP MB AM A6 hy OY
         gi_wp2
         go_end0;exact ⟨⟨_,rfl⟩,D',HF.out.1,HF.out.2.1, .inr ⟨_,⟨L5,by rw [M8.out,List.map_append,List.append_assoc];rfl⟩,HF.out.2.2⟩⟩
        have HF:=zh (zn hI.grew (zn hI.outs (zn OS hI.j)));clear hI OS hm hrel
        gi_wp2
        refine ⟨(fun f h=> by cases h), ?_⟩
        gi_wp2
        go_end0;exact ⟨⟨_,rfl⟩,D,HF.out.1,HF.out.2.1, .inl ⟨pre,HF.out.2.2.1.symm,HF.out.2.2.2⟩⟩
  | succ e=>
    have y0':wr.cell? ⟨p,0,none⟩=some (.bool false):=y0;obtain ⟨cb,co,cc,qs,yk,-,Ah,Ec,-,-,-⟩:=JD.inner Dm;obtain ⟨c,hc⟩:=zcA Dm k;have Ce:=zm hc;have hF:=zag.kid hK Ce;have Mr:=(zi hc).1;obtain ⟨qc,k9⟩:∃x,qs[zP (zC t') k]? =some x:=⟨_,ze (by rw [Ec.1];exact Mr)⟩
    obtain ⟨b',o',X1,Bn⟩:=Ah.ptr _ qc k9
    cases X1
    unfold zv at Bn;have Cl:=(hI.keep.block bk (.inr (.inr (.inl rfl)))).trans qC.out;obtain ⟨z0,z1,z2⟩:wr.cell? ⟨bk,0,none⟩=some (τ (zj k))/\wr.cell? ⟨bk,1,none⟩=some (ν (zo k))/\wr.cell? ⟨bk,2,none⟩=some (υ (zp k)):=⟨cell_of_row wr bk 0 _ _ _ Cl,cell_of_row wr bk 1 _ _ _ Cl,cell_of_row wr bk 2 _ _ _ Cl⟩;have Ql:=zh (zmJ JD JE (by omega) (zdP hK hr) k)
    have Iw:zQ w S qc c:=by
        obtain ⟨ka2,kc2,ca2,cc2,ps2,Kp,-,Zk,PZ,Cg⟩:=hN;have AA:=(Kp.same (w':=wr) (fun j hj=> hI.keep.block j (.inl hj))).reads.2.2.2.1;rw [yk] at AA;simp only [Option.some.injEq,Value.slice.injEq] at AA;obtain ⟨rfl,-,-⟩:=AA;have hx:∃x,ps2[zP (zC t') k]? =some x:=⟨_,ze (by rw [PZ];exact Mr)⟩
        obtain ⟨x,hx⟩:=hx;have Zl:=Zk.same (S:=S) (fun b o e=> Kp.kids b o e) (w':=wr) (fun j hj=> hI.keep.block j (.inl hj));obtain ⟨b3,o3,yH,G4⟩:=Zl.2 (zP (zC t') k) (zv x) (by rw [List.getElem?_map,hx];rfl)
        cases yH
        rw [Bn] at G4;unfold zv at G4;simp only [Option.some.injEq,Value.pointer.injEq,Addr.mk.injEq,and_true] at G4;subst G4;exact Cg _ _ _ hx hc
    have kU:zF t' k=zF c k++((zx t').drop (zP (zC t') k+1)).flatMap zap:=by rw [zF,hc];rfl
    have AR:stk.length < 16:=by have:=HD.out;omega
    have Ly:zdq w S d (stk++ [(p,zP (zC t') k+1)]) (((zx t').drop (zP (zC t') k+1)).flatMap zap++L):= .snoc IJ hN hK Ls Mr BO;have Q6:IntKind.i64.wrap (((zP (zC t') k:Nat):Int)+1)=((zP (zC t') k+1:Nat):Int):=by
        have:(zx t').length<=6:=Ls;rw [zw _ (by omega)];omega
    have Bb:((zP (zC t') k:Nat):Int) < ((zH t':Nat):Int):=by have:zH t'=(zx t').length:=rfl;omega
    have GI:=AO.reads.1;have bq:∀W2,θ wr.heap.size wr W2\/wr.grownBy W2 (some q)->True:=fun _ _=> trivial;have AQ:p < wr.heap.size:=JE p AH.self;have Er:cb < wr.heap.size:=zb _ _ Bn;have Y1:p≠q:=fun h=> by have:=hS p AH.self;have:=HX.out.size;omega
    have XX:cb≠q:=fun h=> by
        obtain ⟨ka2,kc2,ca2,cc2,ps2,Kp,-⟩:=JD;have AA:=Kp.reads.2.2.2.1;rw [yk] at AA;simp only [Option.some.injEq,Value.slice.injEq] at AA;obtain ⟨rfl,-,-⟩:=AA;have:=hS cb (Kp.kids cb co rfl);have:=HX.out.size
        omega
    have Iq:=zh (zn Iw (zn hF (zn (zbu hr Ce) Ly)));have UB:=zh (ID.trans (by rw [kU]))
    have HI:=zh hI;have Hl:=zh AO;unfold za2 zv at Ql;clear hN hI AO IJ ID Dm Ls hr hK JD AH y0 M4 G0 HN EZ Ec Ah Cl Iw kU Ly hc Ce hF Mr k9 bq;generalize zP (zC t') k=ki at *;generalize zH t'=lt' at *;go_wp2_with fail;refine Ql.out.mono ?_;rintro r w4 ⟨rfl,Ar⟩;have QB:=HI.out.below hJ Ej.out Ar;have Ll:=zh (zcg (Hl.out.heap (Ar.block q IK)) AR p (ki+1));unfold zv at Ll;have qN:=zh QB;clear QB;go_wp2_with fail;refine Ll.out.mono ?_;rintro r w5 ⟨rfl,EX,Bj⟩;have RQ:=qN.out.step hJ Ej.out Bj (fun r hr=> by cases hr;exact ⟨IL,fun h=> by have:=F7 _ h;omega⟩)
    have yk5:w5.cell? ⟨p,3,none⟩=some (σ (some ⟨cb,co,none⟩) lt' cc):=by
        rw [<- yk];simp only [World.cell?];rw [Bj.block p (by have:=Ar.size;omega) (fun h=> Y1 (Option.some.inj h)),Ar.block p AQ]
    have FG:w5.cell? ⟨cb,co+ki,none⟩=some (π (some ⟨qc,0,none⟩)):=by
        rw [<- Bn];simp only [World.cell?];rw [Bj.block cb (by have:=Ar.size;omega) (fun h=> XX (Option.some.inj h)),Ar.block cb Er]
    have Vp:=EX.reads.1;simp only [List.length_append,List.length_singleton] at Vp;have J5:=zh EX;have qO:=zh RQ;clear EX RQ Bj Ar;go_wp2_with fail
    go_roundw
    case rel=>
        obtain ⟨q1,q2,q3,q4⟩:=Iq.out;exact ⟨e,qc,c,stk++ [(p,ki+1)],_,rfl,q1,by have:=q2.lo;omega,q2.hi,q2.kids,q3,J5.out,q4,by simp;omega,by rw [UB.out,List.append_assoc],qO.out⟩
    case measure=> rw [Vp,GI];simp [intOf];omega
end
end Go.Proofs.YtaoceecfjlkmdaaGreat
