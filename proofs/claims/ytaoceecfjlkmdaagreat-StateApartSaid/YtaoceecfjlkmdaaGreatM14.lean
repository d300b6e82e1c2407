/- Lemmas of the walks, merged and pressed by press.py. Conditions: those of each theorem. -/
import Derived.Test.YtaoceecfjlkmdaaGreatM13
import Derived.Test.YtaoceecfjlkmdaaGreatM11
set_option maxRecDepth 100000
set_option maxHeartbeats 64000000
set_option linter.all false
namespace Go.Proofs.YtaoceecfjlkmdaaGreat
open Tryz
variable {l:List En} {B d i k m pt:Nat} {S X:Nat→Prop} {P:Program} {e:TypeId} {v v':Value} {w w':World}
section
open Go Go.RowKit Go.Shelf
attribute [local go_sem] Oper.semAt_some
theorem zdC {F:Fence} {nF:Nat}   {ops:Array Oper} {rest:List Oper} {o:Oper} {a:Act} {Q:Exit->Act->World->Prop} (Ib:o.guard=none) (x y:Operand) (t:TypeId)
 (ho:o.op= .call {callee:= .builtin .append,args:=#[x,y],argTypes:=#[t,t]})  
 (Be:(Builtin.append_ #[t,t] o.type #[a.eval x,a.eval y]).run P w= .ok v' w') (h:wpListIn F nF P ops Q rest (a.put o.dst v') w'):wpListIn F nF P ops Q (o::rest) a w:=by
 refine wpListIn_plain Ib fun K hK=> ?_;unfold Oper.wpIn;refine ⟨by simp [Oper.about,ho,resolve,Target.leads,Sem.run_pure], ?_⟩
 rw [Oper.semAt_plain F _ _ (by rw [ho];intro c Jc;cases Jc)]
 simp [execOp,ho,resolve,invoke,builtin,Be,Result.andThen];exact hK _ _ h
theorem zK.heap {α:Type} {enc:α->List Value}      {l:List α} (h:zK enc k e w B v l) (hs:∀g,v.ownBlock=some g->w'.heap[g]? =w.heap[g]?):zK enc k e w' B v l:=by
 refine ⟨h.1, ?_⟩;rcases h.2 with h2 | ⟨g,cap,cur,hv,hg,hh,r⟩
 ·exact .inl h2
 exact .inr ⟨g,cap,cur,hv,hg,(hs g (by rw [hv];rfl)).trans hh,r⟩
theorem zK.pushAt (h:zK zaW 4 113 w B v l) (e:En) (hl:l.length<=100000000) (hB:B<=↑w):
 ∃v' w',(Builtin.append_ #[137,137] 137 #[v,σ (some ↑w) 1 1]).run prog (w.alloc (.cells (zaW e).toArray 113))= .ok v' w'/\zK zaW 4 113 w' B v' (l++ [e])/\w.grownBy w' v.ownBlock/\(v'.ownBlock=v.ownBlock\/∃g,v'.ownBlock=some g/\↑w<=g):=by
 obtain ⟨i0,hi,AG,Ai,Ax⟩:=zW zgi;obtain ⟨v',w',hr,ho,hg,-,AF⟩:=run_append_own_at (P:=prog) (w.alloc (.cells (zaW e).toArray 113)) B 137 137 113 i0 _ 4 24 Tryz.underlying137 hi AG Ai Ax rfl uf v l.length _ (h.alloc _) ↑w 1 1 (zB zaW [e]) rfl (zM.cells zN uf (zM.one w e)) (fun u hu=> by
  obtain ⟨x,-,hx⟩:=List.mem_flatMap.1 hu;exact zbs x u hx) ur ud uw
 refine ⟨v',w',hr, ?_,⟨hg.os,hg.tape,hg.output,zs uh hg.size,fun j hj Aj=> ?_⟩, ?_⟩
 ·unfold zK;rw [zaj,List.length_append];exact ho
 ·rw [hg.block j uw Aj,Below.heap_alloc _ _ _ hj]
 rcases AF with h | h
 ·exact .inl h
 exact .inr ⟨_,h,uw⟩
def zoU (ob:Nat) (xs:List En) (D:Nat->Prop) (W:World):Prop:=
 ∃v,(∀j,D j↔j=ob\/v.ownBlock=some j)/\W.heap[ob]? =some (.cells #[v] 137)/\zK zaW 4 113 W (ob+1) v xs
theorem zi8 (ob:Nat):zcL (zoU ob):=fun xs D A B h hk=> by
 obtain ⟨v,hD,h1,h2⟩:=h;exact ⟨v,hD,(hk.block ob ((hD ob).2 (.inl rfl))).trans h1,h2.heap (fun g hg=> hk.block g ((hD g).2 (.inr hg)))⟩
def zoD (ob:Nat) (xs:List En) (x:En) (mk:Nat->Act) (a':Act) (D:Nat->Prop) (W:World):Prop:=
 ∃v eb,(∀j,D j↔j=ob\/v.ownBlock=some j\/j=eb)/\W.heap[ob]? =some (.cells #[v] 137)/\zK zaW 4 113 W (ob+1) v xs/\W.heap[eb]? =some (.cells #[τ (zj x.1),ν (zo x.1),υ (zp x.1),ν x.2] 113)/\ob < eb/\v.ownBlock≠some eb/\a'=mk eb
theorem zh0 (ob:Nat) (xs:List En) (x:En) (mk:Nat->Act) (a':Act):zcL (fun (_:Unit)=> zoD ob xs x mk a'):=fun _ D A B h hk=> by
 obtain ⟨v,eb,hD,h1,h2,h3,h4⟩:=h;exact ⟨v,eb,hD,(hk.block ob ((hD ob).2 (.inl rfl))).trans h1,h2.heap (fun g hg=> hk.block g ((hD g).2 (.inr (.inl hg)))),(hk.block eb ((hD eb).2 (.inr (.inr rfl)))).trans h3,h4⟩
theorem zpn {lb:Array Value}  {R:List En} (Ck:∀j,X j->j < ↑w) (Xo:R.length<=100000)
 (Jr:zdF Fence.wide 5 prog 158 lb (fun x:En=> #[zd1 x]) (fun ys=> ys=R) (fun _=> True) X R.length w):
 χ 115 #[.func (.func 158) #[] lb] w fun e w'=> ∃v,e=ρ v/\zK zaW 4 113 w' ↑w v R/\θ w w w':=by
 have Aa:θ w w (w.alloc (.cells #[σ none 0 0] 137)):=zr.alloc zl _;have kW:=heap_alloc_new w (.cells #[σ none 0 0] 137);have FZ:=World.alloc_size w (.cells #[σ none 0 0] 137);have WG:=zh Jr;refine (callsIn_wide (n:=6)).1 ?_;refine callsIn_of_wp_marks func115 rfl trivial ?_ rfl;refine wpIn_wide.2 ?_;simp only [ntmps115,List.size_toArray,List.length_cons,List.length_nil,Nat.reduceAdd,Nat.reduceSub,Array.replicate_succ,Array.replicate_zero,List.push_toArray,List.append_toArray,List.nil_append,List.cons_append];have vk:=zh kW;have Ak:=zh Aa;go_wp2_with fail;generalize w.alloc (.cells #[σ none 0 0] 137)=w1 at *;refine (wpIn_wide (n:=6)).1 (zb6 (n:=6) (F:=Fence.wide) rfl ud (gf:=158) (lb:=lb) rfl trivial (enters_of func158 ue rfl)
  WG.out (zbD.of_below Ak.out Ck) (fun j hj=> by have:=Ck j hj;omega) (fun _=> rfl)
  (zoU ↑w) (fun _ _ _ _=> False)
  (fun pre x=> zoD ↑w pre x (fun eb=> {tmps:=#[.func (.func 158) #[] lb,undef,σ none 0 0,π (some ↑w),π (some ↑eb), .func (.func 158) #[] lb,zd1 x,undef,undef,undef,undef,undef],defers:= []}))
  (zi8 _) (fun c s D A B h hk=> h) (fun pre x a'=> zh0 _ _ _ _ _)
  (fun j=> j=↑w) (fun j hj=> by omega) (fun j hj hx=> by have:=Ck j hx;omega) ⟨σ none 0 0,fun j=> ⟨.inl,fun h=> h.elim id (fun h=> by cases h)⟩,vk.out,World.ownsRow_nil _ _ _ _⟩
  ?assign ?body ?done ?stop)
 case assign=>
  intro l2 pre x D Wr K hI hlt _ hK;obtain ⟨v,hD,h1,h2⟩:=hI;have MI:↑w < Wr.heap.size:=(zg h1).1;unfold zd1
  gi_wp2
  refine hK _ (fun j=> D j\/j=↑Wr) _ ⟨fun j hj=> hj.elim .inl (fun h=> .inr ud),fun j hj=> ?_⟩ (zD.of_below (zr.alloc zl _)) ⟨v,↑Wr,fun j=> ?_,(Below.heap_alloc _ _ _ MI).trans h1,h2.alloc _,heap_alloc_new Wr _,MI,fun h=> by have:=(h2.lt _ h).2;omega, ?_⟩
  ·rw [World.alloc_size];exact hj.elim (fun h=> by have:=hlt j h;omega) (fun h=> by omega)
  ·show (D j\/j=↑Wr)↔_
   rw [hD]
   constructor
   ·rintro ((h | h) | h)
    ·exact .inl h
    ·exact .inr (.inl h)
    exact .inr (.inr h)
   rintro (h | h | h)
   ·exact .inl (.inl h)
   ·exact .inl (.inr h)
   exact .inr h
  rfl
 case body=>
  rintro l2 pre x a' D Wr CC ⟨r0,Ze⟩ Vt DB OK PA ⟨v,eb,hD,h1,h2,h3,aJ,cE,rfl⟩ Ac -;have q0:=cell_of_row _ _ 0 _ _ _ h1;obtain ⟨z0,z1,z2,z3⟩:=rd4 h3;simp at q0 z0 z1 z2 z3;have MI:↑w < Wr.heap.size:=(zg h1).1;obtain ⟨v',w',BE,FJ,IB,AF⟩:=h2.pushAt x ud ud;unfold zaW at BE;have Du:=h2.lt;have PU:w'.heap[w.heap.size]? =some (.cells #[v] 137):=(IB.block _ MI (fun h=> by have:=(Du _ h.symm).1;omega)).trans h1
  have q9:=cell_of_row _ _ 0 _ _ _ PU;simp at q9;have f9:∀i,w'.frozen? ⟨↑w,i,none⟩=false:=fun i=> by simp [World.frozen?,PU]
  obtain ⟨a0,n0,c0,rfl⟩:=h2.form;obtain ⟨a1,n1,c1,rfl⟩:=FJ.form;have qg:=heap_setCell_same w' ↑w 0 _ _ (σ a1 n1 c1) PU;have R6:zcN ↑w w' (w'.setCell ↑w (σ a1 n1 c1)):=⟨rfl,rfl,rfl,uh,fun j hj=> by rw [heap_setCell_other _ _ j _ hj]⟩
  have PI:=FJ.lt;have hF:znh (zoU ↑w) (fun _ _ _ _=> False) (pre++ [x]) D Wr .normal {tmps:=#[],defers:= []} (w'.setCell ↑w (σ a1 n1 c1)):=by
   refine ⟨fun j=> j=↑w\/(Value.slice a1 n1 c1).ownBlock=some j,⟨fun j hj=> ?_,fun j hj=> ?_⟩,⟨IB.os,IB.tape,IB.output,by rw [R6.size];exact IB.size,fun j hj hn=> ?_⟩,_,fun j=> Iff.rfl,qg,FJ.heap (fun g FI=> R6.block g (fun e=> by have:=(PI g FI).1;omega))⟩
   ·rcases hj with h | h
    ·exact .inl ((hD j).2 (.inl h))
    rcases AF with h5 | ⟨g,h5,h6⟩
    ·exact .inl ((hD j).2 (.inr (.inl (h5.symm.trans h))))
    rw [h] at h5
    cases h5
    exact .inr h6
   ·rw [R6.size];rcases hj with h | h
    ·have:=IB.size;omega
    exact (PI j h).2
   rw [R6.block j (fun e=> hn ((hD j).2 (.inl e))),IB.block j hj (fun e=> hn ((hD j).2 (.inr (.inl e.symm))))]
  have HF:=zh hF;unfold zd1
  gi_wp2_with (gi_at_builtin;refine zdC rfl _ _ _ rfl BE ?_)
  exact HF.out
 case done=>
  rintro Dd xs D Wr Qz rfl ⟨v,hD,h1,h2⟩ hg ho Tz hK;have q0:=cell_of_row _ _ 0 _ _ _ h1;simp at q0;obtain ⟨a0,n0,c0,rfl⟩:=h2.form;have FO:θ w w Wr:=⟨ho.os.trans Ak.out.os,ho.tape.trans Ak.out.tape,ho.output.trans Ak.out.output,zs Ak.out.size ho.size,fun j hj=> (ho.block j ud ud).trans (Ak.out.block j hj)⟩;have Jg:=grownBy_putObj' Wr Dd (.deferred none);have Af:zK zaW 4 113 (Wr.putObj Dd (.deferred none)) ↑w (σ a0 n0 c0) xs:=(h2.base ud).heap (fun g GF=> Jg.block g (h2.lt g GF).2 (fun e=> by cases e;exact Tz ((hD _).2 (.inr GF))))
  have Dk:=FO.grown Jg (by have:=FO.size;omega) (fun j hj=> by cases hj;omega)
  have HF:=zh (zn Af Dk);go_wp2_with fail;refine ⟨uh, .inl ⟨_,_,rfl,run_takeDeferred hK, ?_⟩⟩;exact ⟨_,results_tmp (t:=2) rfl _ _ _,σ a0 n0 c0,rfl,HF.out.1,HF.out.2⟩
 case stop=>
  rintro Dd c pre D Wr Qz Ma OP;exact OP.elim
end
section
open Go Go.RowKit Go.Shelf
theorem zlw (h:za5 w S pt l) (hl:l.length<=2000) (k1 k2:Nat):
 zdF Fence.wide 5 prog 158 #[π (some ↑w),π (some ⟨↑w+1,0,none⟩),π (some ⟨↑w+1+1,0,none⟩)] (fun x:En=> #[zd1 x]) (fun ys=> ys=zak l k1 k2) (fun _=> True)
  (fun j=> S j\/j=↑w\/j=w.heap.size+1\/j=w.heap.size+1+1\/j=pt) (zak l k1 k2).length (((w.alloc (.cells #[zv pt] 102)).alloc (.cells #[τ (zj k1),ν (zo k1),υ (zp k1)] 111)).alloc (.cells #[τ (zj k2),ν (zo k2),υ (zp k2)] 111)):=by
 have s1:=World.alloc_size w (.cells #[zv pt] 102);have s2:=World.alloc_size (w.alloc (.cells #[zv pt] 102)) (.cells #[τ (zj k1),ν (zo k1),υ (zp k1)] 111);have s3:=World.alloc_size ((w.alloc (.cells #[zv pt] 102)).alloc (.cells #[τ (zj k1),ν (zo k1),υ (zp k1)] 111)) (.cells #[τ (zj k2),ν (zo k2),υ (zp k2)] 111);have hb:θ w w (((w.alloc (.cells #[zv pt] 102)).alloc (.cells #[τ (zj k1),ν (zo k1),υ (zp k1)] 111)).alloc (.cells #[τ (zj k2),ν (zo k2),υ (zp k2)] 111)):=((zr.alloc zl _).alloc ud _).alloc ud _;have h1:(((w.alloc (.cells #[zv pt] 102)).alloc (.cells #[τ (zj k1),ν (zo k1),υ (zp k1)] 111)).alloc (.cells #[τ (zj k2),ν (zo k2),υ (zp k2)] 111)).heap[w.heap.size]? =some (.cells #[zv pt] 102):=by
  rw [Below.heap_alloc _ _ _ ud,Below.heap_alloc _ _ _ ud];exact heap_alloc_new w _
 have h2:(((w.alloc (.cells #[zv pt] 102)).alloc (.cells #[τ (zj k1),ν (zo k1),υ (zp k1)] 111)).alloc (.cells #[τ (zj k2),ν (zo k2),υ (zp k2)] 111)).heap[w.heap.size+1]? =some (.cells #[τ (zj k1),ν (zo k1),υ (zp k1)] 111):=by
  rw [Below.heap_alloc _ _ _ ud];have:=heap_alloc_new (w.alloc (.cells #[zv pt] 102)) (.cells #[τ (zj k1),ν (zo k1),υ (zp k1)] 111);rw [s1] at this;exact this
 have h3:(((w.alloc (.cells #[zv pt] 102)).alloc (.cells #[τ (zj k1),ν (zo k1),υ (zp k1)] 111)).alloc (.cells #[τ (zj k2),ν (zo k2),υ (zp k2)] 111)).heap[w.heap.size+1+1]? =some (.cells #[τ (zj k2),ν (zo k2),υ (zp k2)] 111):=by
  have:=heap_alloc_new ((w.alloc (.cells #[zv pt] 102)).alloc (.cells #[τ (zj k1),ν (zo k1),υ (zp k1)] 111)) (.cells #[τ (zj k2),ν (zo k2),υ (zp k2)] 111);rw [s2,s1] at this;exact this
 have BZ:=h.ptlt;have Lp:=h.same (zbk.of_below hb h.lt) (hb.block pt BZ) hb.size;have AH:∀j,(j=↑w\/j=w.heap.size+1\/j=w.heap.size+1+1)->¬S j/\j≠pt:=fun j hj=> ⟨fun hs=> by have:=h.lt j hs;omega,ud⟩
 rcases Lp.has with ⟨rfl,AF⟩ | ⟨d,p,t,AF,hN,hR,rfl⟩
 ·exact zm5 5 ud AF Lp.lt k1 k2 h1 h2 h3 AH
 exact zm6 5 ud AF hN hR Lp.rise (by have:=hR.depth hl;omega) Lp.lt k1 k2 h1 h2 h3 AH
theorem zlt (l:List En) (a b:Nat):(zak l a b).length<=l.length:=List.length_filter_le _ _
theorem zlg (h:za5 w S pt l) (hl:l.length<=2000) (k1 k2:Nat):
 χ 115 #[.func (.func 158) #[] #[π (some ↑w),π (some ⟨↑w+1,0,none⟩),π (some ⟨↑w+1+1,0,none⟩)]] (((w.alloc (.cells #[zv pt] 102)).alloc (.cells #[τ (zj k1),ν (zo k1),υ (zp k1)] 111)).alloc (.cells #[τ (zj k2),ν (zo k2),υ (zp k2)] 111))
  fun e w'=> ∃v,e=ρ v/\zK zaW 4 113 w' ↑w v (zak l k1 k2)/\θ w w w':=by
 have s1:=World.alloc_size w (.cells #[zv pt] 102);have s2:=World.alloc_size (w.alloc (.cells #[zv pt] 102)) (.cells #[τ (zj k1),ν (zo k1),υ (zp k1)] 111);have s3:=World.alloc_size ((w.alloc (.cells #[zv pt] 102)).alloc (.cells #[τ (zj k1),ν (zo k1),υ (zp k1)] 111)) (.cells #[τ (zj k2),ν (zo k2),υ (zp k2)] 111);have hb:θ w w (((w.alloc (.cells #[zv pt] 102)).alloc (.cells #[τ (zj k1),ν (zo k1),υ (zp k1)] 111)).alloc (.cells #[τ (zj k2),ν (zo k2),υ (zp k2)] 111)):=((zr.alloc zl _).alloc ud _).alloc ud _;have BZ:=h.ptlt;refine (zpn (fun j hj=> ?_) (by have:=zlt l k1 k2;omega) (zlw h hl k1 k2)).mono ?_
 ·rcases hj with hs | rfl | rfl | rfl | rfl
  ·have:=h.lt j hs;omega
  ·omega
  ·omega
  ·omega
  omega
 rintro e w' ⟨v,rfl,ho,Ae⟩;exact ⟨v,rfl,ho.base ud,hb.trans (Ae.mono ud)⟩
def zdE (l:List En) (v:Nat):List En:=l.filter fun x=> decide (zj x.1=v)
theorem zlv (l:List En) (v:Nat):zak l (v * 79228162514264337593543950336) (v * 79228162514264337593543950336+79228162514264337593543950335)=zdE l v:=by
 unfold zak zdE;refine List.filter_congr fun x _=> ?_;rw [<- Bool.decide_and,decide_eq_decide];unfold zj
 omega
theorem znx (h:za5 w S pt l) (hl:l.length<=2000) (v k1 k2:Nat)
 (h1:za2 k1= .agg #[τ v,ν 0,υ 0]) (h2:za2 k2= .agg #[τ v,ν 4294967295,υ 18446744073709551615]):
 χ 70 #[zv pt,τ v] w fun e w'=> ∃r,e=ρ r/\zK zaW 4 113 w' ↑w r (zak l k1 k2)/\θ w w w':=by
 have HC:=zh (zg8 pt k1 k2 w);have HL:=zh (zlg h hl k1 k2);rw [h1,h2] at HC;unfold zv at HC HL ⊢;go_in;go_wp2_with fail;refine HC.out.mono ?_;rintro e w3 ⟨rfl,rfl⟩;go_wp2_with fail;refine HL.out.mono ?_;rintro e w4 ⟨r,rfl,ho,Ar⟩;have HF:=zh (zn ho Ar);go_wp2;go_ret;exact ⟨r,rfl,HF.out.1,HF.out.2⟩
theorem zgx (h:za5 w S pt l) (hl:l.length<=2000) (v:Nat) (hv:v < 65536):
 χ 70 #[zv pt,τ v] w fun e w'=> ∃r,e=ρ r/\zK zaW 4 113 w' ↑w r (zdE l v)/\θ w w w':=by
 rw [<- zlv l v];refine znx h hl v _ _ ?_ ?_
 ·unfold za2;rw [show zj (v * 79228162514264337593543950336)=v by unfold zj;omega,show zo (v * 79228162514264337593543950336)=0 by unfold zo;omega,show zp (v * 79228162514264337593543950336)=0 by unfold zp;omega]
  rfl
 unfold za2;rw [show zj (v * 79228162514264337593543950336+79228162514264337593543950335)=v by unfold zj;omega,show zo (v * 79228162514264337593543950336+79228162514264337593543950335)=4294967295 by unfold zo;omega,show zp (v * 79228162514264337593543950336+79228162514264337593543950335)=18446744073709551615 by unfold zp;omega]
 rfl
end
section
open Go.RowKit
theorem UpT.full {t:Tr d} (hR:zcM t) (hr:zac (flatT t)) {l:List (Nat × Nat)}  {s:Tr m} (h:UpT w S k t l m s) (hl:l≠ []):zag s:=by
 cases h with
 | top=> exact absurd rfl hl
 | step h1 h2 h3=>
   obtain ⟨-,-,g3,-,-⟩:=h1.good hR.lo hR.hi hR.kids hr;exact zag.kid g3 (zm h3)
theorem UpT.two {t:Tr d} (hR:zcM t) (hr:zac (flatT t)) {l:List (Nat × Nat)}  {u:Tr (m+1)} (h:UpT w S k t l (m+1) u):2<=zH u:=by
 by_cases hl:l= []
 ·have he:=h.end hl;obtain ⟨rfl,h2⟩:=Sigma.mk.inj he;obtain rfl:=eq_of_heq h2;rcases hR.two with h3 | h3
  ·omega
  exact h3
 have:=(h.full hR hr hl).lo
 omega
theorem zma (hr:zac l)  (h:k ∉ l.map (·.1)):zaJ l k=l:=((zfC hr (k,0)).2 h).2.2
theorem zmd {u:Tr (m+1)} {s:Tr m}  (hK:zax u) (h6:zH u<=6) (h2:2<=zH u) (hs:(zx u)[i]? =some s) (hF:zag s) (hr:zac (flatT s)) (hg:(zdi (flatT s) k).isSome=true):
 ∃ a,zir s k= [a]/\(∀c ∈ (zx u).take i++([a]++(zx u).drop (i+1)),2<=zH c/\zH c<=6/\zax c)/\((zx u).take i++([a]++(zx u).drop (i+1))).length=zH u/\
   (∀c ∈ zaA ((zx u).take i++([a]++(zx u).drop (i+1))) i,0 < zH c)/\0 < (zaA ((zx u).take i++([a]++(zx u).drop (i+1))) i).length/\(zaA ((zx u).take i++([a]++(zx u).drop (i+1))) i).length<=6:=by
 have Gd:=hF.lo;obtain ⟨a,ea,l1,l2,l3,-⟩:=zgN ud hF.hi hF.kids hr k hg;have JI:=hF.hi;have hlt:i < (zx u).length:=(zi hs).1;have hu:zH u=(zx u).length:=rfl;have Ci:((zx u).take i).length=i:=by rw [List.length_take];omega
 have Ac:((zx u).take i++([a]++(zx u).drop (i+1))).length=zH u:=by
  rw [List.length_append,List.length_append,Ci,List.length_drop];simp;omega
 have G7:((zx u).take i++([a]++(zx u).drop (i+1)))[i]? =some a:=by
  rw [List.getElem?_append_right ud,Ci,Nat.sub_self];rfl
 have TQ:∀j c,j≠i->((zx u).take i++([a]++(zx u).drop (i+1)))[j]? =some c->zag c:=fun j c hj hc=> by
  rcases Nat.lt_or_ge j i with h | h
  ·rw [List.getElem?_append_left ud] at hc;exact zag.kid hK (List.mem_of_mem_take (zm hc))
  rw [List.getElem?_append_right ud,Ci] at hc;obtain ⟨q,hq⟩:∃q,j - i=q+1:=⟨j - i - 1,ud⟩;rw [hq] at hc;exact zag.kid hK (List.mem_of_mem_drop (zm (show ((zx u).drop (i+1))[q]? =some c from hc)))
 obtain ⟨j1,-,j3,j4⟩:=zfp _ i a G7 (by rw [Ac];exact h2) ud ud l3 TQ
 rw [Ac] at j3 j4;refine ⟨a,ea,fun c hc=> ?_,Ac,fun c hc=> by have:=(j1 c hc).lo;omega,ud,ud⟩
 obtain ⟨j,hj⟩:=List.getElem?_of_mem hc
 by_cases Et:j=i
 ·subst Et;rw [G7] at hj
  cases hj
  exact ⟨ud,ud,l3⟩
 have JA:=TQ j c Et hj;exact ⟨by have:=JA.lo;omega,JA.hi,JA.kids⟩
theorem zne {t:Tr 0} (h:zcM t) (hr:zac (flatT t))  (hg:(zdi (flatT t) k).isSome=true):(zir t k= []/\zaJ (flatT t) k= [])\/∃a,zir t k= [a]/\zcM a/\flatT a=zaJ (flatT t) k:=by
 have hl:=zgL (k:=k) hr;rw [if_pos hg] at hl;have h0:0 < (zS t).length:=h.lo;have h6:(zS t).length<=6:=h.hi;have e0:flatT t=zS t:=rfl;rw [e0] at hl ⊢
 by_cases h1:(zaJ (zS t) k).length=0
 ·have h2:=List.eq_nil_of_length_eq_zero h1;refine .inl ⟨?_,h2⟩;rw [zir,h2];rfl
 refine .inr ⟨zbM (zaJ (zS t) k),by rw [zir,zbO zbM ud ud],⟨by show 0 < (zaJ (zS t) k).length;omega,by show (zaJ (zS t) k).length<=6;omega,trivial, .inl rfl⟩,rfl⟩
theorem znf {t:Tr (d+1)} (h:zcM t) (hr:zac (flatT t))  (hg:(zdi (flatT t) k).isSome=true):∃a,zir t k= [a]/\flatT a=zaJ (flatT t) k/\zH a<=6/\zax a/\(2<=zH a\/∃c,zx a= [c]/\zag c):=by
 have h2:2<=zH t:=by
  rcases h.two with h3 | h3
  ·omega
  exact h3
 obtain ⟨a,ea,l1,l2,l3,l4⟩:=zgN h2 h.hi h.kids hr k hg;have:=h.hi;refine ⟨a,ea,l4,ud,l3, ?_⟩
 by_cases h3:2<=zH a
 ·exact .inl h3
 right
 have h4:(zx a).length=1:=by
  have:zH a=(zx a).length:=rfl
  omega
 obtain ⟨c,hc⟩:=List.length_eq_one_iff.1 h4;exact ⟨c,hc,zag.kid l3 (by rw [hc];simp)⟩
end
end Go.Proofs.YtaoceecfjlkmdaaGreat
