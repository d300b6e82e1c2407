/- Lemmas of the walks, merged and pressed by press.py. Conditions: those of each theorem. -/
import Derived.Test.YtaoceecfjlkmdaaGreatM32
import Derived.Test.YtaoceecfjlkmdaaGreatM21
import Derived.Test.YtaoceecfjlkmdaaGreatM24
import Derived.Test.YtaoceecfjlkmdaaGreatM19
set_option maxRecDepth 100000
set_option maxHeartbeats 64000000
set_option linter.all false
namespace Go.Proofs.YtaoceecfjlkmdaaGreat
open Tryz
section
open Go.RowKit
theorem zpx {W:World} {B:Nat} {o0 o1 o2 o3 o4 o5 o6 o7 o8 o9 o10 o11 o12 o13 o14 o15 o16 o17 o18 o19:Value} {t:TypeId} (h:W.heap[B]? =some (.cells #[o0,o1,o2,o3,o4,o5,o6,o7,o8,o9,o10,o11,o12,o13,o14,o15,o16,o17,o18,o19] t (0,0))) (v0 v1 v2 v3 v4 v5 v6 v7 v8:Value):(((((((((W.setCell ⟨B,0,none⟩ v0).setCell ⟨B,1,none⟩ v1).setCell ⟨B,2,none⟩ v2).setCell ⟨B,3,none⟩ v3).setCell ⟨B,4,none⟩ v4).setCell ⟨B,5,none⟩ v5).setCell ⟨B,6,none⟩ v6).setCell ⟨B,7,none⟩ v7).setCell ⟨B,8,none⟩ v8).heap[B]? =some (.cells #[v0,v1,v2,v3,v4,v5,v6,v7,v8,o9,o10,o11,o12,o13,o14,o15,o16,o17,o18,o19] t (0,0)):=by
 have q:=heap_setCell_same _ B 8 _ _ v8 (heap_setCell_same _ B 7 _ _ v7 (heap_setCell_same _ B 6 _ _ v6 (heap_setCell_same _ B 5 _ _ v5 (heap_setCell_same _ B 4 _ _ v4 (heap_setCell_same _ B 3 _ _ v3 (heap_setCell_same _ B 2 _ _ v2 (heap_setCell_same _ B 1 _ _ v1 (heap_setCell_same _ B 0 _ _ v0 h))))))));simp only [zSs] at q;exact q
section
variable {w:World} {p:Nat} {h:Ch} {a:StA} {cf:Cfg} {st:PS} {nb k:Nat} {Q:Nat→Prop} {F:List Nat} {L:List Uc} {E:Nat→Prop} {s:Nat} {lv:Value} {xs:List Sh} {ys:List Wh} {D:Nat→Prop}
theorem StM.histed {w':World} {l':List En} {F':List Nat} {L':List Uc} (H:StM w p h a cf st nb k F L E s lv xs ys D Q) (hT:HT a.ph a.pt a.pa nb E w l' F' L' w') (hI:zcR nb l' F' L') (hl:∀e ∈ l',e ∈ st.l):
 ∃E' Q',StM w' p h a cf {st with l:=l'} nb k F' L' E' s lv xs ys D Q'/\StG w Q w' Q':=by
 obtain ⟨E',Q',hN,hG⟩:=H.n.histed hT;exact ⟨E',Q',hN.m hI (fun e he h0=> H.pages e (hl e he) h0) H.room H.many,hG⟩
theorem StM.turned {w':World} (H:StM w p h a cf st nb k F L E s lv xs ys D Q) (ho:zD (fun j=> j=p) w w') {h':Ch} {c':Ct} {sq:Nat} (hb:w'.heap[p]? =some (.cells (zcH h' a cf {st with c:=c',seq:=sq}) 60 (0,0))) (hc:zaV Q w' h' c'):
 StM w' p h' a cf {st with c:=c',seq:=sq} nb k F L E s lv xs ys D Q:=by
 have RL:=H.hist.lt;have W8:=H.disk.lt;have Vx:Q p:=(H.dom p).2 (.inl rfl);exact ⟨hb,hc,H.hist.kept (ho.kept RL fun j hj e=> H.ne.1 uba),H.hinv,H.disk.outs (fun j hj=> ho.block j (W8 j hj) fun e=> H.ne.2.1 uba) (ho.more fun j hj=> by rw [hj];exact Vx) (fun _ h=> .inl h),H.dom,H.ne,H.pages,H.room,H.many⟩
theorem StM.more {m:Nat} (H:StM w p h a cf st nb k F L E s lv xs ys D Q) (hm:k<=m):StM w p h a cf st nb m F L E s lv xs ys D Q:=⟨H.box,H.cat,H.hist,H.hinv,H.disk,H.dom,H.ne,H.pages,H.room,zs H.many hm⟩
end
theorem zh4 {ps qs:List Nat} (h:∀x,x ∈ ps↔x ∈ qs) (fl f n:Nat):zaC ps fl f n=zaC qs fl f n:=by
 unfold zaC;have:(ps.any fun p=> decide (f<=p) && decide (p < n))=(qs.any fun p=> decide (f<=p) && decide (p < n)):=by
  rw [Bool.eq_iff_iff,List.any_eq_true,List.any_eq_true];exact ⟨fun ⟨x,hx,hp⟩=> ⟨x,(h x).1 hx,hp⟩,fun ⟨x,hx,hp⟩=> ⟨x,(h x).2 hx,hp⟩⟩
 rw [this]
theorem zk0 {ps qs:List Nat} (h:∀x,x ∈ ps↔x ∈ qs) (l:List En) (v fl:Nat):zcQ l v ps fl=zcQ l v qs fl:=by
 unfold zcQ zb4;simp only [zh4 h]
theorem zls (l:List En) (v s x:Nat) (ps:List Pu) (y:Pu):zaP l v s x (ps++ [y])=zaR (zaP l v s x ps) (za9 v y.b s,puA x y):=by
 unfold zaP puA;rw [List.foldl_append]
 rfl
theorem zcq (bl:Nat->List UInt8) (x:Nat) {y:Pu} (hy:y.d=none):∀ps:List Pu,blP bl x (ps++ [y])=blP bl x ps
 | []=> funext fun a=> by
   show (match y.d with | none=> blP bl x [] a | some d=> if a=x then d else bl a)=_
   rw [hy]
 | q::ps=> funext fun a=> by
   rw [List.cons_append];unfold blP
   cases q.d with
   | none=> exact congrFun (zcq bl x hy ps) a
   | some d=> rfl
theorem zkb {v s x:Nat} (hs:s < 18446744073709551616):∀(ps:List Pu) {l:List En} {e:En},e ∈ l->zp e.1 < s->e ∈ zaP l v s x ps
 | [],_,_,he,_=> he
 | p::ps,l,e,he,hk=> by
   rw [zei];refine zkb hs ps (zoo he fun e2=> ?_) hk;have:zp e.1=s:=by rw [e2];exact zdm hs
   omega
def znD (ps:List Pu):Nat:=(ps.filter fun p=> p.d.isSome).length
theorem zl7 (ps:List Pu) (y:Pu):znD (ps++ [y])=znD ps+if y.d=none then 0 else 1:=by
 unfold znD;rw [List.filter_append,List.length_append]
 cases hd:y.d <;> simp [hd]
theorem zo1 {l:List En} {g:Chg} {s k:Nat} (h:zfJ l g s k):znD g.puts<=1:=by
 unfold znD
 by_cases hc:g.puts.filter (fun p=> p.d.isSome)= []
 ·rw [hc];simp
 obtain ⟨y,hy⟩:=List.exists_mem_of_ne_nil _ hc;obtain ⟨h1,h2⟩:=List.mem_filter.1 hy;obtain ⟨d,hd⟩:=Option.isSome_iff_exists.1 h2;rw [(h.data y h1 d hd).2];exact zs (List.length_filter_le _ _) uh
def ApL (w:World) (p:Nat) (h:Ch) (a:StA) (cf:Cfg) (st:PS) (nb k:Nat) (Q:Nat->Prop) (s:Nat) (xs:List Sh) (g:Chg) (i:Nat) (wr:World):Prop:=
 ∃xb F L E lv ys D Q',zcn nb st.l xb/\StM wr p h a cf {st with l:=zaP st.l g.vol g.seq xb (g.puts.take i),bl:=blP st.bl xb (g.puts.take i)} nb (k+znD (g.puts.take i)) F L E s lv xs ys D Q'/\StG w Q wr Q'
theorem ApL.grew {w:World} {p:Nat} {h:Ch} {a:StA} {cf:Cfg} {st:PS} {nb k:Nat} {Q:Nat->Prop} {s:Nat} {xs:List Sh} {g:Chg} {i:Nat} {wr:World} (H:ApL w p h a cf st nb k Q s xs g i wr):∃Q',StG w Q wr Q':=by
 obtain ⟨xb,F,L,E,lv,ys,D,Q',-,-,hG⟩:=H;exact ⟨Q',hG⟩
theorem ApL.start {w:World} {p:Nat} {h:Ch} {a:StA} {cf:Cfg} {st:PS} {nb k:Nat} {Q:Nat->Prop} {F:List Nat} {L:List Uc} {E:Nat->Prop} {s:Nat} {lv:Value} {xs:List Sh} {ys:List Wh} {D:Nat->Prop} (H:StM w p h a cf st nb k F L E s lv xs ys D Q) (hf:∃x,zcn nb st.l x) (g:Chg):ApL w p h a cf st nb k Q s xs g 0 w:=by
 obtain ⟨xb,GY⟩:=hf;exact ⟨xb,F,L,E,lv,ys,D,Q,GY,H,StG.refl _ _⟩
theorem zo3 (d:Option (Nat × List UInt8)):∃a n c,dV d= .slice a n c:=by
 cases d with
 | none=> exact ⟨none,0,0,rfl⟩
 | some z=> exact ⟨_,_,_,rfl⟩
theorem ApL.call {w:World} {p:Nat} {h:Ch} {a:StA} {cf:Cfg} {st:PS} {nb k:Nat} {Q:Nat->Prop} {B x:Nat} {hc:Ch} {g:Chg} {pv:Value} {pl:List Ph} {s:Nat} {xs:List Sh} (H:StW w p h a cf st nb k Q) (X:ChM Q B w x hc g pv pl) (QH:∀j,Q j->j < B) (hg:zfJ st.l g (st.seq+1) st.clock) (AE:st.seq≠18446744073709551615) (hk:k<=61) {i:Nat} {wr:World} (hO:ApL w p h a cf st nb k Q s xs g i wr) {y:Ph} (hy:pl[i]? =some y):
 Calls Tryz.prog 30 #[.pointer (some ⟨p,0,none⟩), .pointer (some ⟨x,0,none⟩), .agg (zaT y).toArray] (wr.alloc (.cells (zaT y).toArray 91)) fun e w'=> e= .returned (.int .i64 0)/\ApL w p h a cf st nb k Q s xs g (i+1) w':=by
 have De:i < pl.length:=(zi hy).1;have Ac:g.puts.length=pl.length:=by rw [<- X.map,List.length_map]
 have Yj:g.puts[i]? =some y.pu:=by rw [<- X.map,List.getElem?_map,hy];rfl
 have Vr:y.pu ∈ g.puts:=zm Yj;have CY:g.puts.take (i+1)=g.puts.take i++ [y.pu]:=by rw [List.take_add_one,Yj];rfl
 have Fc:=H.inv.seq;have BF:=hg.seq;have Lr:=hg.vol;have k6:=hg.len;have IR:¬Q x:=fun e=> by have:=QH x e;have:=X.lo;omega
 obtain ⟨xb,F,L,E,lv,ys,D,Q',GY,hM,hG⟩:=hO;have FE:Below wr.heap.size wr (wr.alloc (.cells (zaT y).toArray 91)):=zr.alloc zl _;have JB:=hM.below FE;have OM:=hG.trans (StG.below Q' FE);generalize wr.alloc (.cells (zaT y).toArray 91)=wa at *;have Ur:wa.heap[x]? =w.heap[x]? :=OM.block X.xlt IR;have CI:x < wa.heap.size:=zt X.xlt OM.outs.size;have Qe:¬Q' x:=OM.far X.xlt IR;have y10:wa.cell? ⟨x,10,none⟩=some (.int .i64 (g.vol:Int)):=cell_of_row wa _ 10 _ _ _ (Ur.trans X.box);have y14:wa.cell? ⟨x,14,none⟩=some (.int .u64 (g.seq:Int)):=cell_of_row wa _ 14 _ _ _ (Ur.trans X.box);have Mj:=hg.blk y.pu Vr;have Mj:y.b < 32:=Mj;have GH:(zaP st.l g.vol g.seq xb (g.puts.take i)).length<=1999:=by
  have h1:=zeX (v:=g.vol) (s:=g.seq) (x:=xb) (g.puts.take i) H.inv.rise;have h2:=H.inv.len;have h3:(g.puts.take i).length<=31:=by rw [List.length_take];omega
  omega
 have B6:za9 g.vol y.b g.seq ∉ (zaP st.l g.vol g.seq xb (g.puts.take i)).map (·.1):=fun hm=> by
  obtain ⟨e,he,Pm⟩:=List.mem_map.1 hm;rcases zeY _ he with h1 | ⟨q,hq,rfl⟩
  ·have h2:=(H.inv.keys e h1).1;rw [Pm,zdm ud] at h2
   omega
  have h2:q.b=y.b:=by
       have Yb:za9 g.vol q.b g.seq=za9 g.vol y.b g.seq:=Pm;have h3:zo (za9 g.vol q.b g.seq)=zo (za9 g.vol y.b g.seq):=by rw [Yb]
       have h4:=hg.blk q (List.mem_of_mem_take hq)
       rwa [zdl ud ud,zdl ud ud] at h3
  have GK:=hg.nodup;rw [<- List.take_append_drop i g.puts,List.map_append,List.nodup_append] at GK;have VJ:y.pu ∈ g.puts.drop i:=zm (i:=0) (by rw [List.getElem?_drop];exact Yj)
  exact GK.2.2 _ (List.mem_map.2 ⟨q,hq,rfl⟩) _ (List.mem_map.2 ⟨y.pu,VJ,rfl⟩) h2
 have PQ:=H.nbl;have aE:y.pu.b=y.b:=rfl;have AL:∀w',(∃x' F L E lv ys D Q2,(y.pu.d≠none->zcn nb (zaP st.l g.vol g.seq xb (g.puts.take i)) x')/\StM w' p h a cf {st with l:=zaR (zaP st.l g.vol g.seq xb (g.puts.take i)) (za9 g.vol y.pu.b g.seq,puA x' y.pu),bl:=blP (blP st.bl xb (g.puts.take i)) x' [y.pu]} nb (k+znD (g.puts.take i)+if y.pu.d=none then 0 else 1) F L E s lv xs ys D Q2/\StG wa Q' w' Q2)->ApL w p h a cf st nb k Q s xs g (i+1) w':=by
  rintro w' ⟨x',F2,L2,E2,lv2,ys2,D2,Q2,Mw,CE,Hp⟩;have DR:znD (g.puts.take (i+1))=znD (g.puts.take i)+if y.pu.d=none then 0 else 1:=by rw [CY];exact zl7 _ _
  cases hd:y.pu.d with
  | none=>
    refine ⟨xb,F2,L2,E2,lv2,ys2,D2,Q2,GY, ?_,OM.trans Hp⟩;rw [DR,CY,zls,zcq _ _ hd];rw [<- Nat.add_assoc];have e1:puA x' y.pu=puA xb y.pu:=by unfold puA;rw [hd]
    have e2:blP (blP st.bl xb (g.puts.take i)) x' [y.pu]=blP st.bl xb (g.puts.take i):=zcq _ _ hd [];rw [e1,e2] at CE;exact CE
  | some d=>
    have h1:=(hg.data y.pu Vr d hd).2;have AD:i=0:=by
        rw [h1] at Ac;simp at Ac
        omega
    subst AD;refine ⟨x',F2,L2,E2,lv2,ys2,D2,Q2,Mw (by rw [hd];exact fun h=> by cases h), ?_,OM.trans Hp⟩
    rw [DR,CY,<- Nat.add_assoc];exact CE
 cases hd:y.d with
 | some z=>
   have h1:=(hg.data y.pu Vr z.2 (by unfold Ph.pu;simp [hd])).2
   have AD:i=0:=by
    rw [h1] at Ac;simp at Ac
    omega
   subst AD;obtain ⟨Ai,Ax⟩:=X.dat y (zm hy) z hd;have F5:=X.blk (zm hy) hd;have qA:¬Q z.1:=fun e=> Ax (.inl e);have Vy:y.pu=⟨y.b,y.a,some z.2⟩:=by unfold Ph.pu;rw [hd];rfl
   rw [Vy] at AL;have Pn:zaT y= [.int .i64 (y.b:Int), .int .u32 (y.a:Int), .slice (some ⟨z.1,0,none⟩) 64 64]:=by unfold zaT;rw [hd];rfl
   rw [Pn];refine (zin (st:={st with l:=zaP st.l g.vol g.seq xb (g.puts.take 0),bl:=blP st.bl xb (g.puts.take 0)}) (at0:=y.a) JB GH PQ CI Qe y10 y14 ud ud ud B6 (Bs.heap Ai (OM.block F5 qA)) (OM.far F5 qA) (by have h9:=JB.many;have h8:=H.kl;simp [znD] at h9;omega) ⟨xb,GY⟩).mono ?_
   rintro e w' ⟨rfl,hE⟩;exact ⟨rfl,AL w' hE⟩
 | none=>
   have Vy:y.pu=⟨y.b,y.a,none⟩:=by unfold Ph.pu;rw [hd];rfl
   have Pn:zaT y= [.int .i64 (y.b:Int), .int .u32 (y.a:Int), .slice none 0 0]:=by unfold zaT;rw [hd];rfl
   have CQ:=hg.held y.pu Vr (by rw [Vy])
   rw [Vy] at AL CQ;rw [Pn];simp only at CQ
   by_cases Mf:y.a=0
   ·rw [Mf] at AL ⊢;refine (zio (st:={st with l:=zaP st.l g.vol g.seq xb (g.puts.take i),bl:=blP st.bl xb (g.puts.take i)}) JB GH PQ CI Qe y10 y14 ud ud ud B6).mono ?_
    rintro e w' ⟨rfl,hE⟩;exact ⟨rfl,AL w' hE⟩
   obtain ⟨e0,Ms,Ny⟩:=CQ.resolve_left Mf;have BX:=(H.inv.keys e0 Ms);refine (zhj (st:={st with l:=zaP st.l g.vol g.seq xb (g.puts.take i),bl:=blP st.bl xb (g.puts.take i)}) JB GH PQ CI Qe y10 y14 ud ud ud B6 (at0:=y.a) ud ud ⟨e0,zkb ud _ Ms ud,Ny⟩).mono ?_
   rintro e w' ⟨rfl,hE⟩;exact ⟨rfl,AL w' hE⟩
def ApP (wI:World) (QI:Nat->Prop) (p:Nat) (h:Ch) (a:StA) (cf:Cfg) (st:PS) (nb k:Nat) (s:Nat) (lv:Value) (xs:List Sh) (ys:List Wh) (D:Nat->Prop) (i:Nat) (wr:World):Prop:=
 ∃F L E Q',StM wr p h a cf {st with l:=zaO st.c (st.c.vols.take i) st.l} nb k F L E s lv xs ys D Q'/\StG wI QI wr Q'
theorem zg6 (c:Ct) (vs:List Vl) (v:Vl) (l:List En):zaO c (vs++ [v]) l=zao (zaO c vs l) (zcQ (zaO c vs l) v.id (c.ofL v.id) c.fl):=by
 unfold zaO;rw [List.foldl_append]
 rfl
theorem zbd:∀(es:List En) (l:List En),(zao l es).Sublist l
 | [],l=> List.Sublist.refl l
 | e::es,l=> (zbd es _).trans (zgM l e.1)
theorem zez (c:Ct):∀(vs:List Vl) (l:List En),(zaO c vs l).Sublist l
 | [],l=> List.Sublist.refl l
 | v::vs,l=> (zez c vs _).trans (zbd _ l)
theorem ApP.call {wI:World} {QI:Nat->Prop} {p:Nat} {h:Ch} {a:StA} {cf:Cfg} {st:PS} {nb k:Nat} {s:Nat} {lv:Value} {xs:List Sh} {ys:List Wh} {D:Nat->Prop} {i:Nat} {wr:World} (hO:ApP wI QI p h a cf st nb k s lv xs ys D i wr) (hf:Fit st.l) (hl:st.l.length<=2000) (hn:nb<=4096) {v:Vl} (hv:st.c.vols[i]? =some v) (aZ:v.id < 65536) {w3:World} (hb:Below wr.heap.size wr w3) {b':Option Addr} {c':Nat} {ps:List Nat} (hp:zM zb0 1 w3 b' ps.length ps) (AQ:ps.length<=1000000) (hm:∀x,x ∈ ps↔x ∈ st.c.ofL v.id):
 Calls Tryz.prog 33 #[zv a.ph, .int .i64 (v.id:Int), .slice b' ps.length c', .int .u64 (st.c.fl:Int)] w3 fun e w'=> ∃z:Int,e= .returned (.int .i64 z)/\ApP wI QI p h a cf st nb k s lv xs ys D (i+1) w':=by
 obtain ⟨F,L,E,Q',hM,hG⟩:=hO;have EK:=hM.below hb;have AP:=zez st.c (st.c.vols.take i) st.l;have hM3l:(zaO st.c (st.c.vols.take i) st.l).length<=2000:=zs AP.length_le hl;refine (zm3 EK.hist EK.hinv (fun e he=> hf e (AP.subset he)) hM3l hn v.id aZ hp AQ st.c.fl).mono ?_;rintro e w' ⟨rfl,F',L',hT,hI⟩;rw [zk0 hm] at hT hI;have ht:st.c.vols.take (i+1)=st.c.vols.take i++ [v]:=by rw [List.take_add_one,hv];rfl
 obtain ⟨E',Q2,Xi,US⟩:=EK.histed hT hI (fun e he=> (zbd _ _).subset he);refine ⟨_,rfl,F',L',E',Q2, ?_,(hG.trans (StG.below Q' hb)).trans US⟩;rw [ht,zg6];exact Xi
def ApE (w:World) (p:Nat) (a:StA) (cf:Cfg) (st:PS) (nb k:Nat) (Q:Nat->Prop) (hc:Ch) (g:Chg) (e:Ending) (w':World):Prop:=
 e= .returned (.int .i64 0)/\∃x Q',zcn nb st.l x/\StW w' p hc a cf (zcJ st g x) nb (k+1) Q'/\StG w Q w' Q'
end
section
open Go.RowKit
theorem zoy {l:List Mk} {t i:Nat} (h1:∀j x,j < i->l[j]? =some x->x.2<=t) (h2:∀j x,i<=j->l[j]? =some x->t < x.2):l.filter (fun m=> decide (m.2<=t))=l.take i:=by
 have e:l.filter (fun m=> decide (m.2<=t))=(l.take i++l.drop i).filter fun m=> decide (m.2<=t):=by rw [List.take_append_drop]
 rw [e,List.filter_append,List.filter_eq_self.2 (fun m hm=> by
  obtain ⟨j,hj⟩:=List.getElem?_of_mem hm;have Et:j < i:=by
   have:=(zi hj).1;rw [List.length_take] at this
   omega
  rw [List.getElem?_take_of_lt Et] at hj;exact decide_eq_true (h1 j m Et hj)),List.filter_eq_nil_iff.2 (fun m hm=> by
  obtain ⟨j,hj⟩:=List.getElem?_of_mem hm;rw [List.getElem?_drop] at hj;have:=h2 (i+j) m ud hj;simp;omega),List.append_nil]
theorem znu {l:List Mk} {t:Nat} (h:l.filter (fun m=> decide (m.2<=t))=l.take 0):zjz l t=none:=by
 unfold zjz;rw [h];rfl
theorem znt {l:List Mk} {t k:Nat} {x:Mk} (hx:l[k]? =some x) (h:l.filter (fun m=> decide (m.2<=t))=l.take (k+1)):zjz l t=some x.1:=by
 unfold zjz;rw [h,List.take_add_one,hx];simp
def cmpM (m:Mk) (t:Nat):Int:=if m.2<=t then -1 else 1
theorem zjL {m:Mk} {t:Nat} (h:m.2<=t):cmpM m t=-1:=if_pos h
theorem zgD {m:Mk} {t:Nat} (h:¬m.2<=t):cmpM m t=1:=if_neg h
theorem zeH (m:Mk) (t:Nat) (w:World):
 Calls Tryz.prog 188 #[.agg #[.int .u64 (m.1:Int), .int .u64 (m.2:Int)], .int .u64 (t:Int)] w fun e w'=> e= .returned (.int .i64 (cmpM m t))/\Below w.heap.size w w':=by
 have hb:Below w.heap.size w (w.alloc (.cells #[.int .u64 (m.1:Int), .int .u64 (m.2:Int)] 129)):=zr.alloc zl _;have HB:=zh hb;clear hb
 by_cases h:m.2<=t
 ·have z:(m.2:Int)<=(t:Int):=ud;have HF:=zh (zjL h);clear h;go_in;go_wp2_with fail;go_ret;exact ⟨by rw [HF.out];rfl,HB.out⟩
 have z:¬(m.2:Int)<=(t:Int):=ud;have HF:=zh (zgD h);clear h;go_in;go_wp2_with fail;go_ret;exact ⟨by rw [HF.out];rfl,HB.out⟩
theorem zhz {w:World} {a:Option Addr} {n c:Nat} {l:List Mk} (h:zM zbZ 2 w a n l) (hn:n<=1000000) (hs:l.Pairwise fun a b=> a.2 < b.2) (t:Nat):
 Calls Tryz.prog 187 #[.slice a n c, .int .u64 (t:Int), .func (.func 188) #[] #[]] w fun e w'=> (∃i:Nat,e= .returned (.tuple #[.int .i64 (i:Nat), .bool false])/\i<=n/\l.filter (fun m=> decide (m.2<=t))=l.take i)/\Below w.heap.size w w':=by
 have hl:=h.1;have HH:=zh h;have HS:=zh hs;have HL:=zh hl;clear h hs hl;go_in;go_wp2_with fail
 go_loopw [9,10] (fun u9 u10 wr=> ∃i j:Nat,i<=j/\j<=n/\u9= .int .i64 i/\u10= .int .i64 j/\(∀k x,k < i->l[k]? =some x->x.2<=t)/\(∀k x,j<=k->l[k]? =some x->t < x.2)/\Below w.heap.size w wr) (fun u9 u10 _=> (intOf u10 - intOf u9).toNat)
 case atStart=> exact ⟨0,n,ud,ud,rfl,rfl,fun k x hk _=> by omega,fun k x hk hx=> by have:=(zi hx).1;have:=HL.out;omega,Below.refl _ _⟩
 case round=>
  obtain ⟨i,j,Fr,kO,rfl,rfl,Gd,JI,AA⟩:=hrel;have Om:=zh Gd;have Oi:=zh JI;have IV:=zh AA;clear Gd JI AA
  by_cases hlt:i < j
  ·have ME:(i:Int) < (j:Int):=ud;have Ab:IntKind.i64.wrap ((i:Int)+(j:Int))=(i:Int)+(j:Int):=zw _ ud;obtain ⟨m,hm⟩:∃m:Nat,((i:Int)+(j:Int)) / 2=(m:Int):=⟨(i+j) / 2,ud⟩;have CT:i<=m:=ud;have Fs:m < j:=ud;have QV:(m:Int) < (n:Int):=ud;have DT:(0:Int)<=(m:Int):=ud;obtain ⟨x,hx⟩:∃x,l[m]? =some x:=⟨_,ze uj⟩;obtain ⟨b,o,rfl,hc⟩:=(HH.out.below IV.out zl).2 m x hx;have c0:=hc 0 _ rfl;have c1:=hc 1 _ rfl;simp only [Nat.add_zero] at c0;have He:=zh (zeH x t wr);have HX:=zh hx;clear hx hc
   by_cases Il:x.2<=t
   ·have HN:Hid (∀k y,k < m+1->l[k]? =some y->y.2<=t):=zh fun k y hk hy=> by
     rcases Nat.lt_or_ge k m with h1 | h1
     ·have M0:=List.pairwise_iff_getElem.1 HS.out k m (zi hy).1 (zi HX.out).1 h1;rw [(zi hy).2,(zi HX.out).2] at M0
      omega
     have:k=m:=ud;subst this;rw [HX.out] at hy
     cases hy
     exact Il
    rw [zjL Il] at He;clear Il;go_wp2_with fail;refine He.out.mono ?_;rintro e w5 ⟨rfl,Ag⟩;have A8:=zh (IV.out.trans (Ag.mono IV.out.size));clear Ag;go_wp2_with fail
    go_roundw
    case rel=> exact ⟨m+1,j,ud,ud,by go_num,rfl,HN.out,Oi.out,A8.out⟩
    case measure=> simp [intOf];omega
   have HN:Hid (∀k y,m<=k->l[k]? =some y->t < y.2):=zh fun k y hk hy=> by
    rcases Nat.lt_or_ge m k with h1 | h1
    ·have M0:=List.pairwise_iff_getElem.1 HS.out m k (zi HX.out).1 (zi hy).1 h1;rw [(zi hy).2,(zi HX.out).2] at M0
     omega
    have:k=m:=ud;subst this;rw [HX.out] at hy
    cases hy
    omega
   rw [zgD Il] at He;clear Il;go_wp2_with fail;refine He.out.mono ?_;rintro e w5 ⟨rfl,Ag⟩;have A8:=zh (IV.out.trans (Ag.mono IV.out.size));clear Ag;go_wp2_with fail
   go_roundw
   case rel=> exact ⟨i,m,ud,ud,rfl,by go_num,Om.out,HN.out,A8.out⟩
   case measure=> simp [intOf];omega
  obtain rfl:i=j:=ud;have Rh:=zh (zoy Om.out Oi.out)
  by_cases G8:i < n
  ·have Mz:(i:Int) < (n:Int):=ud;have AD:(0:Int)<=(i:Int):=ud;obtain ⟨x,hx⟩:∃x,l[i]? =some x:=⟨_,ze uj⟩;obtain ⟨b,o,rfl,hc⟩:=(HH.out.below IV.out zl).2 i x hx;have bj:=Oi.out i x zl hx;have c0:=hc 0 _ rfl;have c1:=hc 1 _ rfl;simp only [Nat.add_zero] at c0;have He:=zh (zeH x t wr);rw [zgD ud] at He;clear hx hc bj;go_wp2_with fail;refine He.out.mono ?_;rintro e w5 ⟨rfl,Ag⟩;have A8:=zh (IV.out.trans (Ag.mono IV.out.size));clear Ag;go_wp2_with fail;go_ret2;exact ⟨⟨i,rfl,ud,Rh.out⟩,A8.out⟩
  have Mz:¬(i:Int) < (n:Int):=ud;go_wp2_with fail;go_ret2;exact ⟨⟨i,rfl,ud,Rh.out⟩,IV.out⟩
theorem zkm {w:World} {a:Option Addr} {n c:Nat} {l:List Mk} (h:zM zbZ 2 w a n l) (hn:n<=1000000) (hs:l.Pairwise fun a b=> a.2 < b.2) (t:Nat):
 Calls Tryz.prog 140 #[.slice a n c, .int .u64 (t:Int)] w fun e w'=> e= .returned (.tuple #[.int .u64 ((zjz l t).getD 0:Nat), .bool (zjz l t).isSome])/\Below w.heap.size w w':=by
 have HB:=zh (zhz (c:=c) h hn hs t);have H:=zh h;clear h hs;go_in;go_wp2_with fail;refine HB.out.mono ?_;rintro e w1 ⟨⟨i,rfl,hi,Kw⟩,Aa⟩;have Rh:=zh Kw;have Ak:=zh Aa;clear Kw HB
 cases i with
 | zero=>
   have HT:=zh (znu Rh.out);clear Aa;go_wp2_with fail;go_ret2;exact ⟨by rw [HT.out];rfl,Ak.out⟩
 | succ k=>
   obtain ⟨x,hx⟩:∃x,l[k]? =some x:=⟨_,ze (by have:=H.out.1;omega)⟩
   obtain ⟨b,o,rfl,hc⟩:=(H.out.below Aa zl).2 k x hx;have c0:=hc 0 _ rfl;simp only [Nat.add_zero] at c0;have HT:=zh (znt hx Rh.out);have z1:IntKind.i64.wrap (k:Int)=(k:Int):=zw _ ud;have z3:((k:Int)+1==0)=false:=by rw [beq_eq_false_iff_ne];omega
   have z4:(k:Int) < (n:Int):=ud;have z5:(0:Int)<=(k:Int):=ud;clear Aa hc hx;go_wp2_with fail;go_ret2;exact ⟨by rw [HT.out];rfl,Ak.out⟩
end
section
open Go.RowKit
theorem zkt {P:Program} (w:World) (base:Nat) (t ty e:TypeId) (i:TypeInfo) (size:Nat) (ht:P.underlying t=some (.slice e)) (hi:P.info? e=some i)
 (v:Value) (n:Nat) (xs:List Value) (Af:w.ownsRow base e size v n xs) (c:Nat):(Builtin.append_ #[t,t] ty #[v, .slice none 0 c]).run P w= .ok v w:=by
 rcases Af.2 with ⟨rfl,rfl⟩ | ⟨g,cap,cur,rfl,_,_,Ge,_⟩
 ·simp [Builtin.append_,run_underlying ht,sizeOf,typeInfo,hi,Builtin.lenOf,Builtin.firstCells]
 simp [Builtin.append_,run_underlying ht,sizeOf,typeInfo,hi,Builtin.lenOf,Builtin.firstCells,Ge,storeCells]
theorem zK.appG {α:Type} {enc:α->List Value} {k:Nat} (hk:∀x,(enc x).length=k) (BX:0 < k) (BA:∀x,∀u ∈ enc x,u.oneCell'=true) {P:Program} {t e:TypeId} {z:Value} {bytes:Nat} (ht:P.underlying t=some (.slice e)) (hi:(P.info? e).map (fun i=> (i.zero,i.size,i.bytes))=some (some z,k,bytes)) (Gk:z.cells.size=k) (FP:bytes<=1000)
 {w:World} {B:Nat} {v:Value} {l:List α} (h:zK enc k e w B v l) {X:Option Addr} {m:Nat} (c:Nat) {l2:List α} (hs:zM enc k w X m l2) (hl:l.length+m<=1000000) (hB:B<=w.heap.size):
 ∃v' w',(Builtin.append_ #[t,t] t #[v, .slice X m c]).run P w= .ok v' w'/\zK enc k e w' B v' (l++l2)/\w.grownBy w' v.ownBlock:=by
 obtain ⟨i0,AD,AG,Ai,Ax⟩:=zW hi;have PL:(l.length+m) * bytes<=1000000 * 1000:=Nat.mul_le_mul hl FP
 cases X with
 | none=>
   have CC:l2= []:=by
    cases l2 with
    | nil=> rfl
    | cons x l=>
      obtain ⟨b,o,e,-⟩:=hs.2 0 x rfl
      cases e
   have hm:m=0:=by rw [<- hs.1,CC];rfl
   subst CC hm;exact ⟨v,w,zkt w B _ _ _ i0 k ht AD v _ _ h c,by rw [List.append_nil];exact h,World.grownBy.refl w _⟩
 | some x=>
   obtain ⟨v',w',hr,ho,hg,-⟩:=run_append_own (P:=P) w B t t e i0 z k bytes ht AD AG Ai Ax Gk BX v l.length _ h x m c (zB enc l2) (by rw [zU enc k hk,hs.1]) (fun j u hu=> by
    cases l2 with
    | nil=> simp [zB] at hu
    | cons y l2=>
      obtain ⟨b,o,e1,-⟩:=hs.2 0 y rfl;simp only [Option.some.injEq] at e1;subst e1;exact zM.cells hk BX hs j u hu) (fun u hu=> by
    obtain ⟨y,-,hy⟩:=List.mem_flatMap.1 hu;exact BA y u hy) ur ud hB
   refine ⟨v',w',hr, ?_,hg⟩;unfold zK;rw [zaj,List.length_append,hs.1];exact ho
theorem zjx {l:List Mk} {x:Mk} (h:l.getLast? =some x) (s:Nat):zdZ l s=decide (s<=x.1):=by unfold zdZ;rw [h]
theorem zij {w:World} {a:Option Addr} {n c:Nat} {l:List Mk} (h:zM zbZ 2 w a n l) (hn:n<=1000) (hf:∀m ∈ l,m.2<=32) (s m:Nat) (hm:1<=m/\m<=32):
 Calls Tryz.prog 87 #[.slice a n c, .int .u64 (s:Int), .int .i64 (m:Int)] w fun e w'=> ∃v,e= .returned (.tuple #[v, .int .i64 ((zbf l s m).1:Nat)])/\zK zbZ 2 129 w' w.heap.size v (zbf l s m).2/\Below w.heap.size w w':=by
 have hl:=h.1;have z1:¬(m:Int) < 1:=ud;have z2:¬(32:Int) < (m:Int):=ud;have Qq:=zh (zii (c:=c) h ud hf);have CU:zK zbZ 2 129 w w.heap.size (.slice none 0 0) []:=World.ownsRow_nil _ _ _ _;obtain ⟨v1,w1,BK,Bo,Cf⟩:=zK.appG zR uf zcv Tryz.underlying52 zfn rfl uf CU c h uo zl;rw [List.nil_append] at Bo;have Aa:=Below.own (Below.refl w.heap.size w) CU Cf zl zl;obtain ⟨v2,w2,B7,A5,Cy⟩:=zK.pushG zR uf zcv Tryz.underlying52 zfn rfl uf Bo (s,m) ud Aa.size;have Ae:=Below.own Aa Bo Cy zl Aa.size;have H1:=zh (zn Bo Aa);have H2:=zh (zn A5 Ae);unfold zbZ at B7;have z9:IntKind.u64.wrap (m:Int)=(m:Int):=by rw [IntKind.wrap_u64];omega
 have AR:zbf l s m=if zdZ l s=true then (10, []) else if zas l=m then (0,l) else if 16<=l.length then (32, []) else (0,l++ [(s,m)]):=rfl;have HZ:=zh AR;have UE:=zh CU
 -- is the number late?
 have KD:zdZ l s=true\/zdZ l s=false:=by cases zdZ l s <;> simp
 cases n with
 | zero=>
   have Dm:l= []:=List.eq_nil_of_length_eq_zero hl;subst Dm;have HS:Hid (zbf [] s m=(0, [(s,m)])):=zh (by unfold zbf zdZ zas;simp;omega)
   have e0:((0:Int)==(m:Int))=false:=by rw [beq_eq_false_iff_ne];omega
   have e1:zas []=0:=rfl;rw [e1] at Qq;clear h hl hf AR CU Bo A5 Cf Cy Aa Ae KD HZ;go_in;go_wp2_with fail;refine Qq.out.mono ?_;rintro e w5 ⟨rfl,rfl⟩
   go_wp2_with (first | (at_builtin;refine za rfl _ _ _ rfl BK ?_) | (at_builtin;refine za rfl _ _ _ rfl B7 ?_))
   go_ret2;exact ⟨v2,by rw [HS.out];rfl,by rw [HS.out];exact H2.out.1,H2.out.2⟩
 | succ k=>
   obtain ⟨x,hx⟩:∃x,l[k]? =some x:=⟨_,ze ud⟩;obtain ⟨g,o,rfl,hc⟩:=h.2 k x hx;have c0:=hc 0 _ rfl;simp only [Nat.add_zero] at c0;have AY:=(zhi hl hx).2;have hlt:=zjx AY s;have y1:(0:Int) < (k:Int)+1:=ud;have y2:IntKind.i64.wrap (k:Int)=(k:Int):=zw _ ud;have y3:(k:Int) < (k:Int)+1:=ud;have y4:(0:Int)<=(k:Int):=ud
   by_cases Vo:s<=x.1
   ·have y5:(s:Int)<=(x.1:Int):=ud;have HS:Hid (zbf l s m=(10, [])):=zh (by rw [HZ.out,hlt,decide_eq_true Vo];rfl)
    clear h hl hf AR CU Bo A5 Cf Cy Aa Ae KD HZ hc hx AY hlt Vo Qq BK B7;go_in;go_wp2_with fail;go_ret2;exact ⟨_,by rw [HS.out];rfl,by rw [HS.out];exact UE.out,Below.refl _ _⟩
   have y5:¬(s:Int)<=(x.1:Int):=ud;have Dx:Hid (zbf l s m=if zas l=m then (0,l) else if 16<=l.length then (32, []) else (0,l++ [(s,m)])):=zh (by rw [HZ.out,hlt,decide_eq_false Vo];rfl)
   clear AR KD HZ hlt Vo AY
   by_cases PR:zas l=m
   ·have HS:Hid (zbf l s m=(0,l)):=zh (by rw [Dx.out,if_pos PR])
    have e0:((zas l:Int)==(m:Int))=true:=by rw [PR];simp
    generalize zas l=nw at *;clear h hl hf CU Bo A5 Cf Cy Aa Ae hc hx PR B7;go_in;go_wp2_with fail;refine Qq.out.mono ?_;rintro e w5 ⟨rfl,rfl⟩
    go_wp2_with (at_builtin;refine za rfl _ _ _ rfl BK ?_)
    go_ret2;exact ⟨v1,by rw [HS.out];rfl,by rw [HS.out];exact H1.out.1,H1.out.2⟩
   have e0:((zas l:Int)==(m:Int))=false:=by rw [beq_eq_false_iff_ne];omega
   by_cases bI:16<=k+1
   ·have HS:Hid (zbf l s m=(32, [])):=zh (by rw [Dx.out,if_neg PR,if_pos ud])
    have y6:(16:Int)<=(k:Int)+1:=ud;generalize zas l=nw at *;clear h hl hf CU Bo A5 Cf Cy Aa Ae hc hx PR BK B7;go_in;go_wp2_with fail;refine Qq.out.mono ?_;rintro e w5 ⟨rfl,rfl⟩;go_wp2_with fail;go_ret2;exact ⟨_,by rw [HS.out];rfl,by rw [HS.out];exact UE.out,Below.refl _ _⟩
   have HS:Hid (zbf l s m=(0,l++ [(s,m)])):=zh (by rw [Dx.out,if_neg PR,if_neg ud])
   have y6:¬(16:Int)<=(k:Int)+1:=ud;generalize zas l=nw at *;clear h hl hf CU Bo A5 Cf Cy Aa Ae hc hx PR;go_in;go_wp2_with fail;refine Qq.out.mono ?_;rintro e w5 ⟨rfl,rfl⟩
   go_wp2_with (first | (at_builtin;refine za rfl _ _ _ rfl BK ?_) | (at_builtin;refine za rfl _ _ _ rfl B7 ?_))
   go_ret2;exact ⟨v2,by rw [HS.out];rfl,by rw [HS.out];exact H2.out.1,H2.out.2⟩
theorem zf9 {α:Type} {enc:α->List Value} {k:Nat} (hk:∀x,(enc x).length=k) {x y:α} {j:Nat} {v:Value} (hj:j < k) (hy:enc y=(enc x).set j v):∀{l:List α} {i:Nat},l[i]? =some x->zB enc (l.set i y)=(zB enc l).set (i * k+j) v
 | [],_,h=> by simp at h
 | z::l,0,h=> by
   simp at h;subst h;rw [List.set_cons_zero,zay,zay,hy,Nat.zero_mul,Nat.zero_add,List.set_append_left _ _ (by rw [hk];exact hj)]
 | z::l,i+1,h=> by
   simp at h;rw [List.set_cons_succ,zay,zay,zf9 hk hj hy h,List.set_append_right _ _ (by rw [hk,Nat.add_mul];omega),hk,show (i+1) * k+j - k=i * k+j by rw [Nat.add_mul];omega]
theorem zbS.setC {α:Type} {enc:α->List Value} {k:Nat} (hk:∀x,(enc x).length=k) {T:TypeId} {w:World} {g cap:Nat} {l:List α} (h:zbS enc k T w g cap l) {i:Nat} {x y:α} {j:Nat} {v:Value} (hx:l[i]? =some x) (hj:j < k) (hy:enc y=(enc x).set j v):
 zbS enc k T (w.setCell ⟨g,i * k+j,none⟩ v) g cap (l.set i y)/\w.grownBy (w.setCell ⟨g,i * k+j,none⟩ v) (some g)/\w.frozen? ⟨g,i * k+j,none⟩=false/\∃o,w.cell? ⟨g,i * k+j,none⟩=some o:=by
 obtain ⟨cur,h1,h2,h3⟩:=h.ex;have hi:=(zi hx).1;have KH:i * k+j < l.length * k:=by
  have:(i+1) * k<=l.length * k:=Nat.mul_le_mul_right _ hi;rw [Nat.add_mul] at this
  omega
 have Lt:l.length * k<=cap * k:=Nat.mul_le_mul_right _ h.le;refine ⟨⟨⟨_,heap_setCell_same w g (i * k+j) cur T v h1,by rw [Array.size_setIfInBounds];exact h2, ?_⟩,by rw [List.length_set];exact h.le,h.cm⟩,zq w ⟨g,i * k+j,none⟩ v,by simp [World.frozen?,h1], ?_⟩
 ·rw [zf9 hk hj hy hx,<- h3,List.length_set,Array.toList_setIfInBounds,List.take_set]
 have:i * k+j < cur.size:=ud;exact ⟨cur[i * k+j],by simp [World.cell?,h1,this]⟩
theorem zoq {l:List Mk} {k:Nat} (h:l.length=k+1) (y:Mk):l.set k y=l.dropLast++ [y]:=by
 have h0:l≠ []:=fun e=> by rw [e] at h;simp at h
 have e:l=l.dropLast++ [l.getLast h0]:=(List.dropLast_concat_getLast h0).symm;have hd:l.dropLast.length=k:=by rw [List.length_dropLast];omega
 rw [e,List.set_append_right _ _ ud,hd,Nat.sub_self];simp
theorem zlM {w:World} {a:Option Addr} {n c:Nat} {l:List Mk} (h:zM zbZ 2 w a n l) (hn:n<=1000) (s t:Nat):
 Calls Tryz.prog 27 #[.slice a n c, .int .u64 (s:Int), .int .u64 (t:Int)] w fun e w'=> ∃v,e= .returned (.tuple #[v, .int .i64 ((za7 l s t).1:Nat)])/\zK zbZ 2 129 w' w.heap.size v (za7 l s t).2/\Below w.heap.size w w':=by
 have hl:=h.1;have By:=zh (zkz (c:=c) h ud);have H:=zh h
 cases n with
 | zero=>
   have Dm:l= []:=List.eq_nil_of_length_eq_zero hl;subst Dm;have HS:Hid (za7 [] s t=(0, [(s,t)])):=zh rfl;clear h hl;go_in;go_wp2_with fail;refine By.out.mono ?_;rintro e w1 ⟨v1,rfl,Bo,Aa⟩;obtain ⟨v2,w2,B7,A5,Cy⟩:=zK.pushG zR uf zcv Tryz.underlying52 zfn rfl uf Bo (s,t) uh Aa.size;have Ae:=Below.own Aa Bo Cy zl Aa.size;have HF:=zh (zn A5 Ae);unfold zbZ at B7;clear Bo Aa A5 Cy Ae By
   go_wp2_with (at_builtin;refine za rfl _ _ _ rfl B7 ?_)
   go_ret2;exact ⟨v2,by rw [HS.out];rfl,by rw [HS.out];exact HF.out.1,HF.out.2⟩
 | succ k=>
   obtain ⟨x,hx⟩:∃x,l[k]? =some x:=⟨_,ze ud⟩;have AY:=(zhi hl hx).2;have HT:Hid (za7 l s t=if s<=x.1\/t < x.2 then (10, []) else if t=x.2 then (0,l.dropLast++ [(s,t)]) else if 64<=l.length then (32, []) else (0,l++ [(s,t)])):=zh (by unfold za7;rw [AY])
   have HX:=zh (zn hx hl);have y1:(0:Int) < (k:Int)+1:=ud;have y2:IntKind.i64.wrap (k:Int)=(k:Int):=zw _ ud;have y3:(k:Int) < (k:Int)+1:=ud;have y4:(0:Int)<=(k:Int):=ud;clear h hl AY hx;go_in;go_upto_region 2 with fail;refine By.out.mono ?_;rintro e w1 ⟨v1,rfl,Bo,Aa⟩;obtain ⟨g,o,rfl,hc⟩:=(H.out.below Aa zl).2 k x HX.out.1;have c0:=hc 0 _ rfl;have c1:=hc 1 _ rfl;simp only [Nat.add_zero] at c0;have bF:=zh (zn Bo Aa);have Ae:=Aa.alloc Aa.size (.cells #[.int .u64 (x.1:Int), .int .u64 (x.2:Int)] 129);have Ap:=zh Ae;have UF:=zh (Bo.alloc (.cells #[.int .u64 (x.1:Int), .int .u64 (x.2:Int)] 129));clear Bo Aa hc Ae By
   by_cases h1:s<=x.1
   ·have i1:(s:Int)<=(x.1:Int):=ud;have HS:Hid (za7 l s t=(10, [])):=zh (by rw [HT.out,if_pos (.inl h1)])
    clear h1;go_wp2_with fail;go_ret2;exact ⟨_,by rw [HS.out];rfl,by rw [HS.out];exact World.ownsRow_nil _ _ _ _,Ap.out⟩
   have i1:¬(s:Int)<=(x.1:Int):=ud
   by_cases h2:t < x.2
   ·have i2:(t:Int) < (x.2:Int):=ud;have HS:Hid (za7 l s t=(10, [])):=zh (by rw [HT.out,if_pos (.inr h2)])
    clear h1 h2;go_wp2_with fail;go_ret2;exact ⟨_,by rw [HS.out];rfl,by rw [HS.out];exact World.ownsRow_nil _ _ _ _,Ap.out⟩
   have i2:¬(t:Int) < (x.2:Int):=ud;have Jo:¬(s<=x.1\/t < x.2):=ud
   by_cases h3:t=x.2
   ·have i3:((t:Int)==(x.2:Int))=true:=by rw [h3];simp
    have HS:Hid (za7 l s t=(0,l.set k (s,t))):=zh (by rw [HT.out,if_neg Jo,if_pos h3,zoq HX.out.2])
    rcases UF.out.cases with ⟨-,he⟩ | ⟨g2,cap,rfl,Bc,BF,hR⟩
    ·exfalso;have:=HX.out.2;rw [he] at this;simp at this
    obtain ⟨q1,q2,q3,q4,q5⟩:=hR.setC zR (j:=0) (v:= .int .u64 (s:Int)) (y:=(s,t)) HX.out.1 uf (by rw [h3];rfl)
    rw [Nat.add_zero] at q1 q2 q3 q5;have HF:=zh (zn (q1.own zR Bc) (zn (Below.own Ap.out UF.out q2 zl Ap.out.size) (show (l.set k (s,t)).length=k+1 by rw [List.length_set];exact HX.out.2)))
    have EF:=HX.out.2;rw [EF];clear h1 h2 h3 Jo q1 q2 hR Bc BF EF;go_wp2_with fail;go_ret2;have h9:=HF.out.1;rw [HF.out.2.2] at h9;exact ⟨_,by rw [HS.out];rfl,by rw [HS.out];exact h9,HF.out.2.1⟩
   have i3:((t:Int)==(x.2:Int))=false:=by rw [beq_eq_false_iff_ne];omega
   by_cases h4:64<=k+1
   ·have i4:(64:Int)<=(k:Int)+1:=ud;have HS:Hid (za7 l s t=(32, [])):=zh (by rw [HT.out,if_neg Jo,if_neg h3,if_pos (by have:=HX.out.2;omega)])
    clear h1 h2 h3 h4 Jo;go_wp2_with fail;go_ret2;exact ⟨_,by rw [HS.out];rfl,by rw [HS.out];exact World.ownsRow_nil _ _ _ _,Ap.out⟩
   have i4:¬(64:Int)<=(k:Int)+1:=ud;have HS:Hid (za7 l s t=(0,l++ [(s,t)])):=zh (by rw [HT.out,if_neg Jo,if_neg h3,if_neg (by have:=HX.out.2;omega)])
   obtain ⟨v2,w2,B7,A5,Cy⟩:=zK.pushG zR uf zcv Tryz.underlying52 zfn rfl uf UF.out (s,t) (by have:=HX.out.2;omega) Ap.out.size
   have Am:=Below.own Ap.out UF.out Cy zl Ap.out.size;have HF:=zh (zn A5 Am);rw [World.alloc_size] at B7;unfold zbZ at B7;clear h1 h2 h3 h4 Jo A5 Cy Am
   go_wp2_with (at_builtin;refine za rfl _ _ _ rfl B7 ?_)
   go_ret2;exact ⟨v2,by rw [HS.out];rfl,by rw [HS.out];exact HF.out.1,HF.out.2⟩
end
section
open Go.RowKit
theorem ziL {w:World} {B:Nat} {v:Value} {l:List Vh} (h:zK zeK 3 86 w B v l) (i:Nat) (hi:i < l.length) (hl:l.length<=1000):
 Calls Tryz.prog 134 #[v, .int .i64 (i:Int), .int .i64 ((i+1:Nat):Int)] w fun r w'=> ∃v',r= .returned v'/\zK zeK 3 86 w' B v' (l.take i++l.drop (i+1))/\w.grownBy w' v.ownBlock:=by
 obtain ⟨i0,AD,AG,Ai,Ax⟩:=zW zhV;rcases h.cases with ⟨rfl,rfl⟩ | ⟨g,cap,rfl,Bc,BF,hR⟩
 ·simp at hi
 have BO:=hR.le;have Ce:cap<=9223372036854775807:=by have:=hR.cm;unfold maxLen at this;omega
 have BJ:(l.drop (i+1)).length=l.length - (i+1):=List.length_drop;have Ci:(l.take i).length=i:=by rw [List.length_take];omega
 have E6:=hR.row zai;have EG:zM zeK 3 w (some ⟨g,(i+1) * 3,none⟩) (l.length - (i+1)) (l.drop (i+1)):=by simpa using E6.drop (i+1)
 obtain ⟨A,hA,Dq⟩:∃A:Addr,(if cap=i+1 then some (⟨g,0,none⟩:Addr) else some ⟨g,(i+1) * 3,none⟩)=some A/\∀j u,(zB zeK (l.drop (i+1)))[j]? =some u->w.drew.cell? (A.add j)=some u:=by
  by_cases h:cap=i+1
  ·refine ⟨⟨g,0,none⟩,by simp [h],fun j u hu=> ?_⟩
   have:l.drop (i+1)= []:=List.eq_nil_of_length_eq_zero ud;rw [this] at hu;simp [zB] at hu
  exact ⟨⟨g,(i+1) * 3,none⟩,by simp [h],zM.cells zai uf (w:=w.drew) EG⟩
 obtain ⟨w1,BK,C9,BC⟩:=zbn zai zdH (t:=48) Tryz.underlying48 AD Ai (w:=w.drew) (hR.heap rfl) i ud (l.drop (i+1)) A Dq uP;have Bu:(l.take i++l.drop (i+1)).length=l.length - 1:=by rw [List.length_append,Ci,BJ];omega
 obtain ⟨w2,B7,B0,A9⟩:=zbe uf (t:=48) (z:= .agg #[.int .i64 0, .int .u64 0, .slice none 0 0]) Tryz.underlying48 (fun w=> by simp [zeroValue,typeInfo,AD,AG]) rfl (fun u hu=> by simp [Value.cells] at hu;rcases hu with rfl | rfl | rfl <;> rfl) C9 (l.length - 1) 1 ud ud ((l.length - 1) * 3) (.inr rfl)
 have Af:=B0.own zai Bc;rw [Bu] at Af;have hg:w.grownBy w2 (some g):=⟨(A9.os.trans BC.os),(A9.tape.trans BC.tape),(A9.output.trans BC.output),by rw [A9.size,BC.size];exact zl,fun j hj Aj=> by
  have IC:j≠g:=fun e=> Aj uJ;rw [A9.block j IC,BC.block j IC];rfl⟩
 have HR:=zh (zn Af hg);rw [BJ,show i+(l.length - (i+1))=l.length - 1 by omega] at BK
 have CT:l.length - 1+1=l.length:=ud;have Fs:l.length - (l.length - 1)=1:=ud;have Jn:¬cap=l.length - 1:=ud;have BH:¬((i:Int)=((i+1:Nat):Int)):=ud;have PM:i<=cap:=ud;have NM:i+1<=l.length:=ud;have PN:l.length<=cap:=ud;have IF:l.length - 1<=l.length:=ud;clear h hR E6 EG C9 B0 BC A9 Dq Af hg Bu AD AG Ai Ax BJ Ci BF Bc;generalize hj:i+1=j at *;have Fr:i<=j:=ud;generalize hn:l.length=n at *;generalize hq:n - 1=q at *;go_in;go_wp2_with fail;have Ii:∀c,(Builtin.append_ #[48,48] 48 #[.slice (some ⟨g,0,none⟩) i cap, .slice (some A) (n - j) c]).run Tryz.prog w.drew= .ok (.slice (some ⟨g,0,none⟩) q cap) w1:=fun c=> BK _ c
 go_region_law (first | (refine zL (o:=⟨some 26,_,_,_,_,_⟩) rfl _ _ 48 48 rfl (.slice (some ⟨g,0,none⟩) i cap) (.slice (some A) (n - j) (cap - j)) ut ut (Ii _) ?_))
 go_wp2_with fail;go_ret;exact ⟨_,rfl,HR.out.1,HR.out.2⟩
theorem ziK {w:World} {B:Nat} {v:Value} {l:List Gh} (h:zK zgQ 2 180 w B v l) (i:Nat) (hi:i < l.length) (hl:l.length<=1000):
 Calls Tryz.prog 96 #[v, .int .i64 (i:Int), .int .i64 ((i+1:Nat):Int)] w fun r w'=> ∃v',r= .returned v'/\zK zgQ 2 180 w' B v' (l.take i++l.drop (i+1))/\w.grownBy w' v.ownBlock:=by
 obtain ⟨i0,AD,AG,Ai,Ax⟩:=zW zj0;rcases h.cases with ⟨rfl,rfl⟩ | ⟨g,cap,rfl,Bc,BF,hR⟩
 ·simp at hi
 have BO:=hR.le;have Ce:cap<=9223372036854775807:=by have:=hR.cm;unfold maxLen at this;omega
 have BJ:(l.drop (i+1)).length=l.length - (i+1):=List.length_drop;have Ci:(l.take i).length=i:=by rw [List.length_take];omega
 have E6:=hR.row zaH;have EG:zM zgQ 2 w (some ⟨g,(i+1) * 2,none⟩) (l.length - (i+1)) (l.drop (i+1)):=by simpa using E6.drop (i+1)
 obtain ⟨A,hA,Dq⟩:∃A:Addr,(if cap=i+1 then some (⟨g,0,none⟩:Addr) else some ⟨g,(i+1) * 2,none⟩)=some A/\∀j u,(zB zgQ (l.drop (i+1)))[j]? =some u->w.drew.cell? (A.add j)=some u:=by
  by_cases h:cap=i+1
  ·refine ⟨⟨g,0,none⟩,by simp [h],fun j u hu=> ?_⟩
   have:l.drop (i+1)= []:=List.eq_nil_of_length_eq_zero ud;rw [this] at hu;simp [zB] at hu
  exact ⟨⟨g,(i+1) * 2,none⟩,by simp [h],zM.cells zaH uf (w:=w.drew) EG⟩
 obtain ⟨w1,BK,C9,BC⟩:=zbn zaH zeS (t:=49) Tryz.underlying49 AD Ai (w:=w.drew) (hR.heap rfl) i ud (l.drop (i+1)) A Dq uP;have Bu:(l.take i++l.drop (i+1)).length=l.length - 1:=by rw [List.length_append,Ci,BJ];omega
 obtain ⟨w2,B7,B0,A9⟩:=zbe uf (t:=49) (z:= .agg #[.int .i64 0, .slice none 0 0]) Tryz.underlying49 (fun w=> by simp [zeroValue,typeInfo,AD,AG]) rfl (fun u hu=> by simp [Value.cells] at hu;rcases hu with rfl | rfl <;> rfl) C9 (l.length - 1) 1 ud ud ((l.length - 1) * 2) (.inr rfl)
 have Af:=B0.own zaH Bc;rw [Bu] at Af;have hg:w.grownBy w2 (some g):=⟨(A9.os.trans BC.os),(A9.tape.trans BC.tape),(A9.output.trans BC.output),by rw [A9.size,BC.size];exact zl,fun j hj Aj=> by
  have IC:j≠g:=fun e=> Aj uJ;rw [A9.block j IC,BC.block j IC];rfl⟩
 have HR:=zh (zn Af hg);rw [BJ,show i+(l.length - (i+1))=l.length - 1 by omega] at BK
 have CT:l.length - 1+1=l.length:=ud;have Fs:l.length - (l.length - 1)=1:=ud;have Jn:¬cap=l.length - 1:=ud;have BH:¬((i:Int)=((i+1:Nat):Int)):=ud;have PM:i<=cap:=ud;have NM:i+1<=l.length:=ud;have PN:l.length<=cap:=ud;have IF:l.length - 1<=l.length:=ud;clear h hR E6 EG C9 B0 BC A9 Dq Af hg Bu AD AG Ai Ax BJ Ci BF Bc;generalize hj:i+1=j at *;have Fr:i<=j:=ud;generalize hn:l.length=n at *;generalize hq:n - 1=q at *;go_in;go_wp2_with fail;have Ii:∀c,(Builtin.append_ #[49,49] 49 #[.slice (some ⟨g,0,none⟩) i cap, .slice (some A) (n - j) c]).run Tryz.prog w.drew= .ok (.slice (some ⟨g,0,none⟩) q cap) w1:=fun c=> BK _ c
 go_region_law (first | (refine zL (o:=⟨some 26,_,_,_,_,_⟩) rfl _ _ 49 49 rfl (.slice (some ⟨g,0,none⟩) i cap) (.slice (some A) (n - j) (cap - j)) ut ut (Ii _) ?_))
 go_wp2_with fail;go_ret;exact ⟨_,rfl,HR.out.1,HR.out.2⟩
theorem ziJ {w:World} {B:Nat} {v:Value} {l:List Bh} (h:zK zgP 3 132 w B v l) (i:Nat) (hi:i < l.length) (hl:l.length<=1000):
 Calls Tryz.prog 99 #[v, .int .i64 (i:Int), .int .i64 ((i+1:Nat):Int)] w fun r w'=> ∃v',r= .returned v'/\zK zgP 3 132 w' B v' (l.take i++l.drop (i+1))/\w.grownBy w' v.ownBlock:=by
 obtain ⟨i0,AD,AG,Ai,Ax⟩:=zW zjZ;rcases h.cases with ⟨rfl,rfl⟩ | ⟨g,cap,rfl,Bc,BF,hR⟩
 ·simp at hi
 have BO:=hR.le;have Ce:cap<=9223372036854775807:=by have:=hR.cm;unfold maxLen at this;omega
 have BJ:(l.drop (i+1)).length=l.length - (i+1):=List.length_drop;have Ci:(l.take i).length=i:=by rw [List.length_take];omega
 have E6:=hR.row zaG;have EG:zM zgP 3 w (some ⟨g,(i+1) * 3,none⟩) (l.length - (i+1)) (l.drop (i+1)):=by simpa using E6.drop (i+1)
 obtain ⟨A,hA,Dq⟩:∃A:Addr,(if cap=i+1 then some (⟨g,0,none⟩:Addr) else some ⟨g,(i+1) * 3,none⟩)=some A/\∀j u,(zB zgP (l.drop (i+1)))[j]? =some u->w.drew.cell? (A.add j)=some u:=by
  by_cases h:cap=i+1
  ·refine ⟨⟨g,0,none⟩,by simp [h],fun j u hu=> ?_⟩
   have:l.drop (i+1)= []:=List.eq_nil_of_length_eq_zero ud;rw [this] at hu;simp [zB] at hu
  exact ⟨⟨g,(i+1) * 3,none⟩,by simp [h],zM.cells zaG uf (w:=w.drew) EG⟩
 obtain ⟨w1,BK,C9,BC⟩:=zbn zaG zeR (t:=50) Tryz.underlying50 AD Ai (w:=w.drew) (hR.heap rfl) i ud (l.drop (i+1)) A Dq uP;have Bu:(l.take i++l.drop (i+1)).length=l.length - 1:=by rw [List.length_append,Ci,BJ];omega
 obtain ⟨w2,B7,B0,A9⟩:=zbe uf (t:=50) (z:= .agg #[.int .i64 0, .int .u64 0, .slice none 0 0]) Tryz.underlying50 (fun w=> by simp [zeroValue,typeInfo,AD,AG]) rfl (fun u hu=> by simp [Value.cells] at hu;rcases hu with rfl | rfl | rfl <;> rfl) C9 (l.length - 1) 1 ud ud ((l.length - 1) * 3) (.inr rfl)
 have Af:=B0.own zaG Bc;rw [Bu] at Af;have hg:w.grownBy w2 (some g):=⟨(A9.os.trans BC.os),(A9.tape.trans BC.tape),(A9.output.trans BC.output),by rw [A9.size,BC.size];exact zl,fun j hj Aj=> by
  have IC:j≠g:=fun e=> Aj uJ;rw [A9.block j IC,BC.block j IC];rfl⟩
 have HR:=zh (zn Af hg);rw [BJ,show i+(l.length - (i+1))=l.length - 1 by omega] at BK
 have CT:l.length - 1+1=l.length:=ud;have Fs:l.length - (l.length - 1)=1:=ud;have Jn:¬cap=l.length - 1:=ud;have BH:¬((i:Int)=((i+1:Nat):Int)):=ud;have PM:i<=cap:=ud;have NM:i+1<=l.length:=ud;have PN:l.length<=cap:=ud;have IF:l.length - 1<=l.length:=ud;clear h hR E6 EG C9 B0 BC A9 Dq Af hg Bu AD AG Ai Ax BJ Ci BF Bc;generalize hj:i+1=j at *;have Fr:i<=j:=ud;generalize hn:l.length=n at *;generalize hq:n - 1=q at *;go_in;go_wp2_with fail;have Ii:∀c,(Builtin.append_ #[50,50] 50 #[.slice (some ⟨g,0,none⟩) i cap, .slice (some A) (n - j) c]).run Tryz.prog w.drew= .ok (.slice (some ⟨g,0,none⟩) q cap) w1:=fun c=> BK _ c
 go_region_law (first | (refine zL (o:=⟨some 26,_,_,_,_,_⟩) rfl _ _ 50 50 rfl (.slice (some ⟨g,0,none⟩) i cap) (.slice (some A) (n - j) (cap - j)) ut ut (Ii _) ?_))
 go_wp2_with fail;go_ret;exact ⟨_,rfl,HR.out.1,HR.out.2⟩
end
end Go.Proofs.YtaoceecfjlkmdaaGreat
