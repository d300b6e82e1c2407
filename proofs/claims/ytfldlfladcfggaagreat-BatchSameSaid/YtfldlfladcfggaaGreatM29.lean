/- Lemmas of the walks, merged and pressed by press.py. Conditions: those of each theorem. -/
import Derived.Test.YtfldlfladcfggaaGreatM28
import Derived.Test.YtfldlfladcfggaaGreatM23
import Derived.Test.YtfldlfladcfggaaGreatM25
import Derived.Test.YtfldlfladcfggaaGreatM21
set_option maxRecDepth 100000
set_option maxHeartbeats 64000000
set_option linter.all false
namespace Go.Proofs.YtfldlfladcfggaaGreat
section
open Go.RowKit
theorem zpx {W:World} {B:Nat} {o0 o1 o2 o3 o4 o5 o6 o7 o8 o9 o10 o11 o12 o13 o14 o15 o16 o17 o18 o19:Value} {t:TypeId} (h:W.heap[B]? =some (.cells #[o0,o1,o2,o3,o4,o5,o6,o7,o8,o9,o10,o11,o12,o13,o14,o15,o16,o17,o18,o19] t (0,0))) (v0 v1 v2 v3 v4 v5 v6 v7 v8:Value):(((((((((W.setCell ⟨B,0,none⟩ v0).setCell ⟨B,1,none⟩ v1).setCell ⟨B,2,none⟩ v2).setCell ⟨B,3,none⟩ v3).setCell ⟨B,4,none⟩ v4).setCell ⟨B,5,none⟩ v5).setCell ⟨B,6,none⟩ v6).setCell ⟨B,7,none⟩ v7).setCell ⟨B,8,none⟩ v8).heap[B]? =some (.cells #[v0,v1,v2,v3,v4,v5,v6,v7,v8,o9,o10,o11,o12,o13,o14,o15,o16,o17,o18,o19] t (0,0)):=by
 have q:=heap_setCell_same _ B 8 _ _ v8 (heap_setCell_same _ B 7 _ _ v7 (heap_setCell_same _ B 6 _ _ v6 (heap_setCell_same _ B 5 _ _ v5 (heap_setCell_same _ B 4 _ _ v4 (heap_setCell_same _ B 3 _ _ v3 (heap_setCell_same _ B 2 _ _ v2 (heap_setCell_same _ B 1 _ _ v1 (heap_setCell_same _ B 0 _ _ v0 h))))))));simp only [List.setIfInBounds_toArray,List.set_cons_zero,List.set_cons_succ] at q;exact q
section
variable {w:World} {p:Nat} {h:Ch} {a:StA} {cf:Cfg} {st:PS} {nb k:Nat} {Q:Nat→Prop} {F:List Nat} {L:List Uc} {E:Nat→Prop} {s:Nat} {lv:Value} {xs:List Sh} {ys:List Wh} {D:Nat→Prop}
theorem StM.turned {w':World} (H:StM w p h a cf st nb k F L E s lv xs ys D Q) (ho:zD (fun j=> j=p) w w') {h':Ch} {c':Ct} {sq:Nat} (hb:w'.heap[p]? =some (.cells (zcH h' a cf {st with c:=c',seq:=sq}) 60 (0,0))) (hc:zaV Q w' h' c'):
 StM w' p h' a cf {st with c:=c',seq:=sq} nb k F L E s lv xs ys D Q:=by
 have RL:=H.hist.lt;have W8:=H.disk.lt;have Vx:Q p:=(H.dom p).2 (.inl rfl);exact ⟨hb,hc,H.hist.kept (ho.kept RL fun j hj e=> H.ne.1 (by rw [← e];exact hj)),H.hinv,H.disk.outs (fun j hj=> ho.block j (W8 j hj) fun e=> H.ne.2.1 (by rw [← e];exact hj)) (ho.more fun j hj=> by rw [hj];exact Vx) (fun _ h=> .inl h),H.dom,H.ne,H.pages,H.room,H.many⟩
theorem StM.more {m:Nat} (H:StM w p h a cf st nb k F L E s lv xs ys D Q) (hm:k≤m):StM w p h a cf st nb m F L E s lv xs ys D Q:=⟨H.box,H.cat,H.hist,H.hinv,H.disk,H.dom,H.ne,H.pages,H.room,zs H.many hm⟩
end
theorem zls (l:List En) (v s x:Nat) (ps:List Pu) (y:Pu):zaP l v s x (ps++ [y])=zaR (zaP l v s x ps) (za9 v y.b s,puA x y):=by
 unfold zaP puA;rw [List.foldl_append]
 rfl
theorem zcq (bl:Nat→List UInt8) (x:Nat) {y:Pu} (hy:y.d=none):∀ps:List Pu,blP bl x (ps++ [y])=blP bl x ps
 | []=> funext fun a=> by
   show (match y.d with | none=> blP bl x [] a | some d=> if a=x then d else bl a)=_
   rw [hy]
 | q::ps=> funext fun a=> by
   rw [List.cons_append];unfold blP
   cases q.d with
   | none=> exact congrFun (zcq bl x hy ps) a
   | some d=> rfl
theorem zkb {v s x:Nat} (hs:s < 18446744073709551616):∀(ps:List Pu) {l:List En} {e:En},e ∈ l→zp e.1 < s→e ∈ zaP l v s x ps
 | [],_,_,he,_=> he
 | p::ps,l,e,he,hk=> by
   rw [zei];refine zkb hs ps (zoo he fun e2=> ?_) hk;have:zp e.1=s:=by rw [e2];exact zdm hs
   omega
def znD (ps:List Pu):Nat:=(ps.filter fun p=> p.d.isSome).length
theorem zl7 (ps:List Pu) (y:Pu):znD (ps++ [y])=znD ps+if y.d=none then 0 else 1:=by
 unfold znD;rw [List.filter_append,List.length_append]
 cases hd:y.d <;> simp [hd]
theorem zo1 {l:List En} {g:Chg} {s k:Nat} (h:zfJ l g s k):znD g.puts≤1:=by
 unfold znD
 by_cases hc:g.puts.filter (fun p=> p.d.isSome)= []
 ·rw [hc];simp
 ·obtain ⟨y,hy⟩:=List.exists_mem_of_ne_nil _ hc;obtain ⟨h1,h2⟩:=List.mem_filter.1 hy;obtain ⟨d,hd⟩:=Option.isSome_iff_exists.1 h2;rw [(h.data y h1 d hd).2];exact zs (List.length_filter_le _ _) (by simp)
def ApL (w:World) (p:Nat) (h:Ch) (a:StA) (cf:Cfg) (st:PS) (nb k:Nat) (Q:Nat→Prop) (s:Nat) (xs:List Sh) (g:Chg) (i:Nat) (wr:World):Prop:=
 ∃xb F L E lv ys D Q',zcn nb st.l xb∧StM wr p h a cf {st with l:=zaP st.l g.vol g.seq xb (g.puts.take i),bl:=blP st.bl xb (g.puts.take i)} nb (k+znD (g.puts.take i)) F L E s lv xs ys D Q'∧StG w Q wr Q'
theorem ApL.grew {w:World} {p:Nat} {h:Ch} {a:StA} {cf:Cfg} {st:PS} {nb k:Nat} {Q:Nat→Prop} {s:Nat} {xs:List Sh} {g:Chg} {i:Nat} {wr:World} (H:ApL w p h a cf st nb k Q s xs g i wr):∃Q',StG w Q wr Q':=by
 obtain ⟨xb,F,L,E,lv,ys,D,Q',-,-,hG⟩:=H;exact ⟨Q',hG⟩
theorem ApL.start {w:World} {p:Nat} {h:Ch} {a:StA} {cf:Cfg} {st:PS} {nb k:Nat} {Q:Nat→Prop} {F:List Nat} {L:List Uc} {E:Nat→Prop} {s:Nat} {lv:Value} {xs:List Sh} {ys:List Wh} {D:Nat→Prop} (H:StM w p h a cf st nb k F L E s lv xs ys D Q) (hf:∃x,zcn nb st.l x) (g:Chg):ApL w p h a cf st nb k Q s xs g 0 w:=by
 obtain ⟨xb,GY⟩:=hf;exact ⟨xb,F,L,E,lv,ys,D,Q,GY,H,StG.refl _ _⟩
theorem zo3 (d:Option (Nat × List UInt8)):∃a n c,dV d= .slice a n c:=by
 cases d with
 | none=> exact ⟨none,0,0,rfl⟩
 | some z=> exact ⟨_,_,_,rfl⟩
theorem ApL.call {w:World} {p:Nat} {h:Ch} {a:StA} {cf:Cfg} {st:PS} {nb k:Nat} {Q:Nat→Prop} {B x:Nat} {hc:Ch} {g:Chg} {pv:Value} {pl:List Ph} {s:Nat} {xs:List Sh} (H:StW w p h a cf st nb k Q) (X:ChM Q B w x hc g pv pl) (QH:∀j,Q j→j < B) (hg:zfJ st.l g (st.seq+1) st.clock) (AE:st.seq≠18446744073709551615) (hk:k≤61) {i:Nat} {wr:World} (hO:ApL w p h a cf st nb k Q s xs g i wr) {y:Ph} (hy:pl[i]? =some y):
 Calls Tryz.prog 28 #[.pointer (some ⟨p,0,none⟩), .pointer (some ⟨x,0,none⟩), .agg (zaT y).toArray] (wr.alloc (.cells (zaT y).toArray 88)) fun e w'=> e= .returned (.int .i64 0)∧ApL w p h a cf st nb k Q s xs g (i+1) w':=by
 have De:i < pl.length:=(zi hy).1;have Ac:g.puts.length=pl.length:=by rw [← X.map,List.length_map]
 have Yj:g.puts[i]? =some y.pu:=by rw [← X.map,List.getElem?_map,hy];rfl
 have Vr:y.pu ∈ g.puts:=zm Yj;have CY:g.puts.take (i+1)=g.puts.take i++ [y.pu]:=by rw [List.take_add_one,Yj];rfl
 have Fc:=H.inv.seq;have BF:=hg.seq;have Lr:=hg.vol;have k6:=hg.len;have IR:¬Q x:=fun e=> by have:=QH x e;have:=X.lo;omega
 obtain ⟨xb,F,L,E,lv,ys,D,Q',GY,hM,hG⟩:=hO;have FE:Below wr.heap.size wr (wr.alloc (.cells (zaT y).toArray 88)):=zr.alloc zl _;have JB:=hM.below FE;have OM:=hG.trans (StG.below Q' FE);generalize wr.alloc (.cells (zaT y).toArray 88)=wa at *;have Ur:wa.heap[x]? =w.heap[x]? :=OM.block X.xlt IR;have CI:x < wa.heap.size:=zt X.xlt OM.outs.size;have Qe:¬Q' x:=OM.far X.xlt IR;have y10:wa.cell? ⟨x,10,none⟩=some (.int .i64 (g.vol:Int)):=cell_of_row wa _ 10 _ _ _ (Ur.trans X.box);have y14:wa.cell? ⟨x,14,none⟩=some (.int .u64 (g.seq:Int)):=cell_of_row wa _ 14 _ _ _ (Ur.trans X.box);have Mj:=hg.blk y.pu Vr;have Mj:y.b < 32:=Mj;have GH:(zaP st.l g.vol g.seq xb (g.puts.take i)).length≤1999:=by
  have h1:=zeX (v:=g.vol) (s:=g.seq) (x:=xb) (g.puts.take i) H.inv.rise;have h2:=H.inv.len;have h3:(g.puts.take i).length≤31:=by rw [List.length_take];omega
  omega
 have B6:za9 g.vol y.b g.seq ∉ (zaP st.l g.vol g.seq xb (g.puts.take i)).map (·.1):=fun hm=> by
  obtain ⟨e,he,Pm⟩:=List.mem_map.1 hm;rcases zeY _ he with h1 | ⟨q,hq,rfl⟩
  ·have h2:=(H.inv.keys e h1).1;rw [Pm,zdm (by omega)] at h2
   omega
  ·have h2:q.b=y.b:=by
        have Yb:za9 g.vol q.b g.seq=za9 g.vol y.b g.seq:=Pm;have h3:zo (za9 g.vol q.b g.seq)=zo (za9 g.vol y.b g.seq):=by rw [Yb]
        have h4:=hg.blk q (List.mem_of_mem_take hq)
        rwa [zdl (by omega) (by omega),zdl (by omega) (by omega)] at h3
   have GK:=hg.nodup;rw [← List.take_append_drop i g.puts,List.map_append,List.nodup_append] at GK;have VJ:y.pu ∈ g.puts.drop i:=zm (i:=0) (by rw [List.getElem?_drop];exact Yj)
   exact GK.2.2 _ (List.mem_map.2 ⟨q,hq,rfl⟩) _ (List.mem_map.2 ⟨y.pu,VJ,rfl⟩) h2
 have PQ:=H.nbl;have aE:y.pu.b=y.b:=rfl;have AL:∀w',(∃x' F L E lv ys D Q2,(y.pu.d≠none→zcn nb (zaP st.l g.vol g.seq xb (g.puts.take i)) x')∧StM w' p h a cf {st with l:=zaR (zaP st.l g.vol g.seq xb (g.puts.take i)) (za9 g.vol y.pu.b g.seq,puA x' y.pu),bl:=blP (blP st.bl xb (g.puts.take i)) x' [y.pu]} nb (k+znD (g.puts.take i)+if y.pu.d=none then 0 else 1) F L E s lv xs ys D Q2∧StG wa Q' w' Q2)→ApL w p h a cf st nb k Q s xs g (i+1) w':=by
  rintro w' ⟨x',F2,L2,E2,lv2,ys2,D2,Q2,Mw,CE,Hp⟩;have DR:znD (g.puts.take (i+1))=znD (g.puts.take i)+if y.pu.d=none then 0 else 1:=by rw [CY];exact zl7 _ _
  cases hd:y.pu.d with
  | none=>
    refine ⟨xb,F2,L2,E2,lv2,ys2,D2,Q2,GY, ?_,OM.trans Hp⟩;rw [DR,CY,zls,zcq _ _ hd];rw [← Nat.add_assoc];have e1:puA x' y.pu=puA xb y.pu:=by unfold puA;rw [hd]
    have e2:blP (blP st.bl xb (g.puts.take i)) x' [y.pu]=blP st.bl xb (g.puts.take i):=zcq _ _ hd [];rw [e1,e2] at CE;exact CE
  | some d=>
    have h1:=(hg.data y.pu Vr d hd).2;have AD:i=0:=by
        rw [h1] at Ac;simp at Ac
        omega
    subst AD;refine ⟨x',F2,L2,E2,lv2,ys2,D2,Q2,Mw (by rw [hd];exact fun h=> by cases h), ?_,OM.trans Hp⟩
    rw [DR,CY,← Nat.add_assoc];exact CE
 cases hd:y.d with
 | some z=>
   have h1:=(hg.data y.pu Vr z.2 (by unfold Ph.pu;simp [hd])).2
   have AD:i=0:=by
    rw [h1] at Ac;simp at Ac
    omega
   subst AD;obtain ⟨Ai,Ax⟩:=X.dat y (zm hy) z hd;have F5:=X.blk (zm hy) hd;have qA:¬Q z.1:=fun e=> Ax (.inl e);have Vy:y.pu=⟨y.b,y.a,some z.2⟩:=by unfold Ph.pu;rw [hd];rfl
   rw [Vy] at AL;have Pn:zaT y= [.int .i64 (y.b:Int), .int .u32 (y.a:Int), .slice (some ⟨z.1,0,none⟩) 64 64]:=by unfold zaT;rw [hd];rfl
   rw [Pn];refine (zin (st:={st with l:=zaP st.l g.vol g.seq xb (g.puts.take 0),bl:=blP st.bl xb (g.puts.take 0)}) (at0:=y.a) JB GH PQ CI Qe y10 y14 (by omega) (by omega) (by omega) B6 (Bs.heap Ai (OM.block F5 qA)) (OM.far F5 qA) (by have h9:=JB.many;have h8:=H.kl;simp [znD] at h9;omega) ⟨xb,GY⟩).mono ?_
   rintro e w' ⟨rfl,hE⟩;exact ⟨rfl,AL w' hE⟩
 | none=>
   have Vy:y.pu=⟨y.b,y.a,none⟩:=by unfold Ph.pu;rw [hd];rfl
   have Pn:zaT y= [.int .i64 (y.b:Int), .int .u32 (y.a:Int), .slice none 0 0]:=by unfold zaT;rw [hd];rfl
   have CQ:=hg.held y.pu Vr (by rw [Vy])
   rw [Vy] at AL CQ;rw [Pn];simp only at CQ;refine (zrY (st:={st with l:=zaP st.l g.vol g.seq xb (g.puts.take i),bl:=blP st.bl xb (g.puts.take i)}) JB GH PQ CI Qe y10 y14 (by omega) (by omega) (by omega) B6 (at0:=y.a) (by
    rcases CQ with h0 | ⟨e0,Ms,Ny⟩
    ·omega
    ·have:=H.inv.keys e0 Ms;omega) (CQ.imp id fun ⟨e0,Ms,Ny⟩=> ⟨e0,zkb (by omega) _ Ms (by have:=H.inv.keys e0 Ms;omega),Ny⟩) fun W=> Lib.run_eql_slice_nil W _ _ none 0 0 0 0 Tryz.underlying25).mono ?_
   rintro e w' ⟨rfl,hE⟩;exact ⟨rfl,AL w' hE⟩
theorem zbd:∀(es:List En) (l:List En),(zao l es).Sublist l
 | [],l=> List.Sublist.refl l
 | e::es,l=> (zbd es _).trans (zgM l e.1)
def ApE (w:World) (p:Nat) (a:StA) (cf:Cfg) (st:PS) (nb k:Nat) (Q:Nat→Prop) (hc:Ch) (g:Chg) (e:Ending) (w':World):Prop:=
 e= .returned (.int .i64 0)∧∃x Q',zcn nb st.l x∧StW w' p hc a cf (zcJ st g x) nb (k+1) Q'∧StG w Q w' Q'
end
section
open Go.RowKit
theorem zkt {P:Program} (w:World) (base:Nat) (t ty e:TypeId) (i:TypeInfo) (size:Nat) (ht:P.underlying t=some (.slice e)) (hi:P.info? e=some i)
 (v:Value) (n:Nat) (xs:List Value) (Af:w.ownsRow base e size v n xs) (c:Nat):(Builtin.append_ #[t,t] ty #[v, .slice none 0 c]).run P w= .ok v w:=by
 rcases Af.2 with ⟨rfl,rfl⟩ | ⟨g,cap,cur,rfl,_,_,Ge,_⟩
 ·simp [Builtin.append_,run_underlying ht,sizeOf,typeInfo,hi,Builtin.lenOf,Builtin.firstCells]
 ·simp [Builtin.append_,run_underlying ht,sizeOf,typeInfo,hi,Builtin.lenOf,Builtin.firstCells,Ge,storeCells]
theorem zK.appG {α:Type} {enc:α→List Value} {k:Nat} (hk:∀x,(enc x).length=k) (BX:0 < k) (BA:∀x,∀u ∈ enc x,u.oneCell'=true) {P:Program} {t e:TypeId} {z:Value} {bytes:Nat} (ht:P.underlying t=some (.slice e)) (hi:(P.info? e).map (fun i=> (i.zero,i.size,i.bytes))=some (some z,k,bytes)) (Gk:z.cells.size=k) (FP:bytes≤1000)
 {w:World} {B:Nat} {v:Value} {l:List α} (h:zK enc k e w B v l) {X:Option Addr} {m:Nat} (c:Nat) {l2:List α} (hs:zM enc k w X m l2) (hl:l.length+m≤1000000) (hB:B≤w.heap.size):
 ∃v' w',(Builtin.append_ #[t,t] t #[v, .slice X m c]).run P w= .ok v' w'∧zK enc k e w' B v' (l++l2)∧w.grownBy w' v.ownBlock:=by
 obtain ⟨i0,AD,AG,Ai,Ax⟩:=zW hi;have PL:(l.length+m) * bytes≤1000000 * 1000:=Nat.mul_le_mul hl FP
 cases X with
 | none=>
   have CC:l2= []:=by
    cases l2 with
    | nil=> rfl
    | cons x l=>
      obtain ⟨b,o,e,-⟩:=hs.2 0 x rfl
      cases e
   have hm:m=0:=by rw [← hs.1,CC];rfl
   subst CC hm;exact ⟨v,w,zkt w B _ _ _ i0 k ht AD v _ _ h c,by rw [List.append_nil];exact h,World.grownBy.refl w _⟩
 | some x=>
   obtain ⟨v',w',hr,ho,hg,-⟩:=run_append_own (P:=P) w B t t e i0 z k bytes ht AD AG Ai Ax Gk BX v l.length _ h x m c (zB enc l2) (by rw [zU enc k hk,hs.1]) (fun j u hu=> by
    cases l2 with
    | nil=> simp [zB] at hu
    | cons y l2=>
      obtain ⟨b,o,e1,-⟩:=hs.2 0 y rfl;simp only [Option.some.injEq] at e1;subst e1;exact zM.cells hk BX hs j u hu) (fun u hu=> by
    obtain ⟨y,-,hy⟩:=List.mem_flatMap.1 hu;exact BA y u hy) (by unfold maxLen;omega) (by omega) hB
   refine ⟨v',w',hr, ?_,hg⟩;unfold zK;rw [zaj,List.length_append,hs.1];exact ho
theorem zjx {l:List Mk} {x:Mk} (h:l.getLast? =some x) (s:Nat):zdZ l s=decide (s≤x.1):=by unfold zdZ;rw [h]
theorem zij {w:World} {a:Option Addr} {n c:Nat} {l:List Mk} (h:zM zbZ 2 w a n l) (hn:n≤1000) (hf:∀m ∈ l,m.2≤32) (s m:Nat) (hm:1≤m∧m≤32):
 Calls Tryz.prog 78 #[.slice a n c, .int .u64 (s:Int), .int .i64 (m:Int)] w fun e w'=> ∃v,e= .returned (.tuple #[v, .int .i64 ((zbf l s m).1:Nat)])∧zK zbZ 2 129 w' w.heap.size v (zbf l s m).2∧Below w.heap.size w w':=by
 have hl:=h.1;have z1:¬(m:Int) < 1:=by omega
 have z2:¬(32:Int) < (m:Int):=by omega
 have Qq:=zh (zii (c:=c) h (by omega) hf)
 have CU:zK zbZ 2 129 w w.heap.size (.slice none 0 0) []:=World.ownsRow_nil _ _ _ _;obtain ⟨v1,w1,BK,Bo,Cf⟩:=zK.appG zR (by decide) zcv Tryz.underlying52 zfn rfl (by decide) CU c h (by simp;omega) zl
 rw [List.nil_append] at Bo;have Aa:=Below.own (Below.refl w.heap.size w) CU Cf zl zl;obtain ⟨v2,w2,B7,A5,Cy⟩:=zK.pushG zR (by decide) zcv Tryz.underlying52 zfn rfl (by decide) Bo (s,m) (by omega) Aa.size
 have Ae:=Below.own Aa Bo Cy zl Aa.size;have H1:=zh (zn Bo Aa);have H2:=zh (zn A5 Ae);unfold zbZ at B7;have z9:IntKind.u64.wrap (m:Int)=(m:Int):=by rw [IntKind.wrap_u64];omega
 have AR:zbf l s m=if zdZ l s=true then (10, []) else if zas l=m then (0,l) else if 16≤l.length then (32, []) else (0,l++ [(s,m)]):=rfl;have HZ:=zh AR;have UE:=zh CU
 -- is the number late?
 have KD:zdZ l s=true∨zdZ l s=false:=by cases zdZ l s <;> simp
 cases n with
 | zero=>
   have Dm:l= []:=List.eq_nil_of_length_eq_zero hl;subst Dm;have HS:Hid (zbf [] s m=(0, [(s,m)])):=zh (by unfold zbf zdZ zas;simp;omega)
   have e0:((0:Int)==(m:Int))=false:=by rw [beq_eq_false_iff_ne];omega
   have e1:zas []=0:=rfl;rw [e1] at Qq;clear h hl hf AR CU Bo A5 Cf Cy Aa Ae KD HZ;go_enter Tryz.func78,Tryz.ntmps78;go_wp2_with fail;refine Qq.out.mono ?_;rintro e w5 ⟨rfl,rfl⟩
   go_wp2_with (first | (at_builtin;refine za rfl _ _ _ rfl BK ?_) | (at_builtin;refine za rfl _ _ _ rfl B7 ?_))
   go_ret2;exact ⟨v2,by rw [HS.out];rfl,by rw [HS.out];exact H2.out.1,H2.out.2⟩
 | succ k=>
   obtain ⟨x,hx⟩:∃x,l[k]? =some x:=⟨_,ze (by omega)⟩
   obtain ⟨g,o,rfl,hc⟩:=h.2 k x hx;have c0:=hc 0 _ rfl;simp only [Nat.add_zero] at c0;have AY:=(zhi hl hx).2;have hlt:=zjx AY s;have y1:(0:Int) < (k:Int)+1:=by omega
   have y2:IntKind.i64.wrap (k:Int)=(k:Int):=zw _ (by omega)
   have y3:(k:Int) < (k:Int)+1:=by omega
   have y4:(0:Int)≤(k:Int):=by omega
   by_cases Vo:s≤x.1
   ·have y5:(s:Int)≤(x.1:Int):=by omega
    have HS:Hid (zbf l s m=(10, [])):=zh (by rw [HZ.out,hlt,decide_eq_true Vo];rfl)
    clear h hl hf AR CU Bo A5 Cf Cy Aa Ae KD HZ hc hx AY hlt Vo Qq BK B7;go_enter Tryz.func78,Tryz.ntmps78;go_wp2_with fail;go_ret2;exact ⟨_,by rw [HS.out];rfl,by rw [HS.out];exact UE.out,Below.refl _ _⟩
   ·have y5:¬(s:Int)≤(x.1:Int):=by omega
    have Dx:Hid (zbf l s m=if zas l=m then (0,l) else if 16≤l.length then (32, []) else (0,l++ [(s,m)])):=zh (by rw [HZ.out,hlt,decide_eq_false Vo];rfl)
    clear AR KD HZ hlt Vo AY
    by_cases PR:zas l=m
    ·have HS:Hid (zbf l s m=(0,l)):=zh (by rw [Dx.out,if_pos PR])
     have e0:((zas l:Int)==(m:Int))=true:=by rw [PR];simp
     generalize zas l=nw at *;clear h hl hf CU Bo A5 Cf Cy Aa Ae hc hx PR B7;go_enter Tryz.func78,Tryz.ntmps78;go_wp2_with fail;refine Qq.out.mono ?_;rintro e w5 ⟨rfl,rfl⟩
     go_wp2_with (at_builtin;refine za rfl _ _ _ rfl BK ?_)
     go_ret2;exact ⟨v1,by rw [HS.out];rfl,by rw [HS.out];exact H1.out.1,H1.out.2⟩
    ·have e0:((zas l:Int)==(m:Int))=false:=by rw [beq_eq_false_iff_ne];omega
     by_cases bI:16≤k+1
     ·have HS:Hid (zbf l s m=(32, [])):=zh (by rw [Dx.out,if_neg PR,if_pos (by omega)])
      have y6:(16:Int)≤(k:Int)+1:=by omega
      generalize zas l=nw at *;clear h hl hf CU Bo A5 Cf Cy Aa Ae hc hx PR BK B7;go_enter Tryz.func78,Tryz.ntmps78;go_wp2_with fail;refine Qq.out.mono ?_;rintro e w5 ⟨rfl,rfl⟩;go_wp2_with fail;go_ret2;exact ⟨_,by rw [HS.out];rfl,by rw [HS.out];exact UE.out,Below.refl _ _⟩
     ·have HS:Hid (zbf l s m=(0,l++ [(s,m)])):=zh (by rw [Dx.out,if_neg PR,if_neg (by omega)])
      have y6:¬(16:Int)≤(k:Int)+1:=by omega
      generalize zas l=nw at *;clear h hl hf CU Bo A5 Cf Cy Aa Ae hc hx PR;go_enter Tryz.func78,Tryz.ntmps78;go_wp2_with fail;refine Qq.out.mono ?_;rintro e w5 ⟨rfl,rfl⟩
      go_wp2_with (first | (at_builtin;refine za rfl _ _ _ rfl BK ?_) | (at_builtin;refine za rfl _ _ _ rfl B7 ?_))
      go_ret2;exact ⟨v2,by rw [HS.out];rfl,by rw [HS.out];exact H2.out.1,H2.out.2⟩
theorem zf9 {α:Type} {enc:α→List Value} {k:Nat} (hk:∀x,(enc x).length=k) {x y:α} {j:Nat} {v:Value} (hj:j < k) (hy:enc y=(enc x).set j v):∀{l:List α} {i:Nat},l[i]? =some x→zB enc (l.set i y)=(zB enc l).set (i * k+j) v
 | [],_,h=> by simp at h
 | z::l,0,h=> by
   simp at h;subst h;rw [List.set_cons_zero,zay,zay,hy,Nat.zero_mul,Nat.zero_add,List.set_append_left _ _ (by rw [hk];exact hj)]
 | z::l,i+1,h=> by
   simp at h;rw [List.set_cons_succ,zay,zay,zf9 hk hj hy h,List.set_append_right _ _ (by rw [hk,Nat.add_mul];omega),hk,show (i+1) * k+j - k=i * k+j by rw [Nat.add_mul];omega]
theorem zbS.setC {α:Type} {enc:α→List Value} {k:Nat} (hk:∀x,(enc x).length=k) {T:TypeId} {w:World} {g cap:Nat} {l:List α} (h:zbS enc k T w g cap l) {i:Nat} {x y:α} {j:Nat} {v:Value} (hx:l[i]? =some x) (hj:j < k) (hy:enc y=(enc x).set j v):
 zbS enc k T (w.setCell ⟨g,i * k+j,none⟩ v) g cap (l.set i y)∧w.grownBy (w.setCell ⟨g,i * k+j,none⟩ v) (some g)∧w.frozen? ⟨g,i * k+j,none⟩=false∧∃o,w.cell? ⟨g,i * k+j,none⟩=some o:=by
 obtain ⟨cur,h1,h2,h3⟩:=h.ex;have hi:=(zi hx).1;have KH:i * k+j < l.length * k:=by
  have:(i+1) * k≤l.length * k:=Nat.mul_le_mul_right _ hi;rw [Nat.add_mul] at this
  omega
 have Lt:l.length * k≤cap * k:=Nat.mul_le_mul_right _ h.le;refine ⟨⟨⟨_,heap_setCell_same w g (i * k+j) cur T v h1,by rw [Array.size_setIfInBounds];exact h2, ?_⟩,by rw [List.length_set];exact h.le,h.cm⟩,zq w ⟨g,i * k+j,none⟩ v,by simp [World.frozen?,h1], ?_⟩
 ·rw [zf9 hk hj hy hx,← h3,List.length_set,Array.toList_setIfInBounds,List.take_set]
 ·have:i * k+j < cur.size:=by omega
  exact ⟨cur[i * k+j],by simp [World.cell?,h1,this]⟩
theorem zoq {l:List Mk} {k:Nat} (h:l.length=k+1) (y:Mk):l.set k y=l.dropLast++ [y]:=by
 have h0:l≠ []:=fun e=> by rw [e] at h;simp at h
 have e:l=l.dropLast++ [l.getLast h0]:=(List.dropLast_concat_getLast h0).symm;have hd:l.dropLast.length=k:=by rw [List.length_dropLast];omega
 rw [e,List.set_append_right _ _ (by omega),hd,Nat.sub_self]
 simp
theorem zlM {w:World} {a:Option Addr} {n c:Nat} {l:List Mk} (h:zM zbZ 2 w a n l) (hn:n≤1000) (s t:Nat):
 Calls Tryz.prog 27 #[.slice a n c, .int .u64 (s:Int), .int .u64 (t:Int)] w fun e w'=> ∃v,e= .returned (.tuple #[v, .int .i64 ((za7 l s t).1:Nat)])∧zK zbZ 2 129 w' w.heap.size v (za7 l s t).2∧Below w.heap.size w w':=by
 have hl:=h.1;have By:=zh (zkz (c:=c) h (by omega))
 have H:=zh h
 cases n with
 | zero=>
   have Dm:l= []:=List.eq_nil_of_length_eq_zero hl;subst Dm;have HS:Hid (za7 [] s t=(0, [(s,t)])):=zh rfl;clear h hl;go_enter Tryz.func27,Tryz.ntmps27;go_wp2_with fail;refine By.out.mono ?_;rintro e w1 ⟨v1,rfl,Bo,Aa⟩;obtain ⟨v2,w2,B7,A5,Cy⟩:=zK.pushG zR (by decide) zcv Tryz.underlying52 zfn rfl (by decide) Bo (s,t) (by simp) Aa.size
   have Ae:=Below.own Aa Bo Cy zl Aa.size;have HF:=zh (zn A5 Ae);unfold zbZ at B7;clear Bo Aa A5 Cy Ae By
   go_wp2_with (at_builtin;refine za rfl _ _ _ rfl B7 ?_)
   go_ret2;exact ⟨v2,by rw [HS.out];rfl,by rw [HS.out];exact HF.out.1,HF.out.2⟩
 | succ k=>
   obtain ⟨x,hx⟩:∃x,l[k]? =some x:=⟨_,ze (by omega)⟩
   have AY:=(zhi hl hx).2;have HT:Hid (za7 l s t=if s≤x.1∨t < x.2 then (10, []) else if t=x.2 then (0,l.dropLast++ [(s,t)]) else if 64≤l.length then (32, []) else (0,l++ [(s,t)])):=zh (by unfold za7;rw [AY])
   have HX:=zh (zn hx hl);have y1:(0:Int) < (k:Int)+1:=by omega
   have y2:IntKind.i64.wrap (k:Int)=(k:Int):=zw _ (by omega)
   have y3:(k:Int) < (k:Int)+1:=by omega
   have y4:(0:Int)≤(k:Int):=by omega
   clear h hl AY hx;go_enter Tryz.func27,Tryz.ntmps27;go_upto_region 2 with fail;refine By.out.mono ?_;rintro e w1 ⟨v1,rfl,Bo,Aa⟩;obtain ⟨g,o,rfl,hc⟩:=(H.out.below Aa zl).2 k x HX.out.1;have c0:=hc 0 _ rfl;have c1:=hc 1 _ rfl;simp only [Nat.add_zero] at c0;have bF:=zh (zn Bo Aa);have Ae:=Aa.alloc Aa.size (.cells #[.int .u64 (x.1:Int), .int .u64 (x.2:Int)] 129);have Ap:=zh Ae;have UF:=zh (Bo.alloc (.cells #[.int .u64 (x.1:Int), .int .u64 (x.2:Int)] 129));clear Bo Aa hc Ae By
   by_cases h1:s≤x.1
   ·have i1:(s:Int)≤(x.1:Int):=by omega
    have HS:Hid (za7 l s t=(10, [])):=zh (by rw [HT.out,if_pos (.inl h1)])
    clear h1;go_wp2_with fail;go_ret2;exact ⟨_,by rw [HS.out];rfl,by rw [HS.out];exact World.ownsRow_nil _ _ _ _,Ap.out⟩
   ·have i1:¬(s:Int)≤(x.1:Int):=by omega
    by_cases h2:t < x.2
    ·have i2:(t:Int) < (x.2:Int):=by omega
     have HS:Hid (za7 l s t=(10, [])):=zh (by rw [HT.out,if_pos (.inr h2)])
     clear h1 h2;go_wp2_with fail;go_ret2;exact ⟨_,by rw [HS.out];rfl,by rw [HS.out];exact World.ownsRow_nil _ _ _ _,Ap.out⟩
    ·have i2:¬(t:Int) < (x.2:Int):=by omega
     have Jo:¬(s≤x.1∨t < x.2):=by omega
     by_cases h3:t=x.2
     ·have i3:((t:Int)==(x.2:Int))=true:=by rw [h3];simp
      have HS:Hid (za7 l s t=(0,l.set k (s,t))):=zh (by rw [HT.out,if_neg Jo,if_pos h3,zoq HX.out.2])
      rcases UF.out.cases with ⟨-,he⟩ | ⟨g2,cap,rfl,Bc,BF,hR⟩
      ·exfalso;have:=HX.out.2;rw [he] at this;simp at this
      ·obtain ⟨q1,q2,q3,q4,q5⟩:=hR.setC zR (j:=0) (v:= .int .u64 (s:Int)) (y:=(s,t)) HX.out.1 (by decide) (by rw [h3];rfl)
       rw [Nat.add_zero] at q1 q2 q3 q5;have HF:=zh (zn (q1.own zR Bc) (zn (Below.own Ap.out UF.out q2 zl Ap.out.size) (show (l.set k (s,t)).length=k+1 by rw [List.length_set];exact HX.out.2)))
       have EF:=HX.out.2;rw [EF];clear h1 h2 h3 Jo q1 q2 hR Bc BF EF;go_wp2_with fail;go_ret2;have h9:=HF.out.1;rw [HF.out.2.2] at h9;exact ⟨_,by rw [HS.out];rfl,by rw [HS.out];exact h9,HF.out.2.1⟩
     ·have i3:((t:Int)==(x.2:Int))=false:=by rw [beq_eq_false_iff_ne];omega
      by_cases h4:64≤k+1
      ·have i4:(64:Int)≤(k:Int)+1:=by omega
       have HS:Hid (za7 l s t=(32, [])):=zh (by rw [HT.out,if_neg Jo,if_neg h3,if_pos (by have:=HX.out.2;omega)])
       clear h1 h2 h3 h4 Jo;go_wp2_with fail;go_ret2;exact ⟨_,by rw [HS.out];rfl,by rw [HS.out];exact World.ownsRow_nil _ _ _ _,Ap.out⟩
      ·have i4:¬(64:Int)≤(k:Int)+1:=by omega
       have HS:Hid (za7 l s t=(0,l++ [(s,t)])):=zh (by rw [HT.out,if_neg Jo,if_neg h3,if_neg (by have:=HX.out.2;omega)])
       obtain ⟨v2,w2,B7,A5,Cy⟩:=zK.pushG zR (by decide) zcv Tryz.underlying52 zfn rfl (by decide) UF.out (s,t) (by have:=HX.out.2;omega) Ap.out.size
       have Am:=Below.own Ap.out UF.out Cy zl Ap.out.size;have HF:=zh (zn A5 Am);rw [World.alloc_size] at B7;unfold zbZ at B7;clear h1 h2 h3 h4 Jo A5 Cy Am
       go_wp2_with (at_builtin;refine za rfl _ _ _ rfl B7 ?_)
       go_ret2;exact ⟨v2,by rw [HS.out];rfl,by rw [HS.out];exact HF.out.1,HF.out.2⟩
end
section
open Go.RowKit
theorem zb9 (tmps:Array Value) (B:Nat) (e5 e6:Value) (cs:Array Value) (v0 v1 v2 v3 v4 v5 v6 v7 v8:Value) (W:World) (h:tmps[6]? =some (.pointer (some ⟨B,0,none⟩))) (h7:tmps[7]? =some e5) (h8:tmps[8]? =some e6)
 (q:W.cell? ⟨B,0,none⟩=some v0∧W.cell? ⟨B,1,none⟩=some v1∧W.cell? ⟨B,2,none⟩=some v2∧W.cell? ⟨B,3,none⟩=some v3∧W.cell? ⟨B,4,none⟩=some v4∧W.cell? ⟨B,5,none⟩=some v5∧W.cell? ⟨B,6,none⟩=some v6∧W.cell? ⟨B,7,none⟩=some v7∧W.cell? ⟨B,8,none⟩=some v8):
 (results Tryz.f45 tmps).run Tryz.prog W= .ok (.tuple #[.agg #[v0,v1,v2,v3,v4,v5,v6,v7,v8],e5,e6]) W:=by
 obtain ⟨q0,q1,q2,q3,q4,q5,q6,q7,q8⟩:=q;simp [results,Tryz.results45,go_sem,h,h7,h8,q0,q1,q2,q3,q4,q5,q6,q7,q8]
theorem zae {w W:World} {B:Nat} (h:zD (fun j=> j=B) w W) (hs:W.heap.size=w.heap.size) (v0 v1 v2 v3 v4 v5 v6 v7 v8:Value):zD (fun j=> j=B) w (((((((((W.setCell ⟨B,0,none⟩ v0).setCell ⟨B,1,none⟩ v1).setCell ⟨B,2,none⟩ v2).setCell ⟨B,3,none⟩ v3).setCell ⟨B,4,none⟩ v4).setCell ⟨B,5,none⟩ v5).setCell ⟨B,6,none⟩ v6).setCell ⟨B,7,none⟩ v7).setCell ⟨B,8,none⟩ v8):=by
 have t:∀{X:World} (i:Nat) (v:Value),zD (fun j=> j=B) w X→zD (fun j=> j=B) w (X.setCell ⟨B,i,none⟩ v):=fun i v hX=> hX.trans (zD.turn (D:=fun j=> j=B) (g:=B) (zq _ ⟨B,i,none⟩ v) rfl) (fun _ h=> .inl h);exact t 8 v8 (t 7 v7 (t 6 v6 (t 5 v5 (t 4 v4 (t 3 v3 (t 2 v2 (t 1 v1 (t 0 v0 h))))))))
def zp3 {w W:World} {B:Nat} (H:zD (fun j=> j=B) w W) (hs:W.heap.size=w.heap.size) (h:Ch) (c:Ct):=zae H hs (.int .i64 (c.nv:Int)) (.int .i64 (c.ng:Int)) (.int .i64 (c.nb:Int)) (.int .u64 (c.fl:Int)) (.slice h.va c.vols.length h.vc) (.slice h.ga c.groups.length h.gc) (.slice h.ba c.books.length h.bc) (.slice h.ka c.kept.length h.kc) (.slice h.ta c.times.length h.tc)
def zcr:Array Value:=#[.int .i64 0, .int .i64 0, .int .i64 0, .int .u64 0, .slice none 0 0, .slice none 0 0, .slice none 0 0, .slice none 0 0, .slice none 0 0]
def znA (Q:Nat→Prop) (w:World) (v:Value) (e:Nat) (c:Ct):Prop:=(e≠0∧∃cs:Array Value,v= .agg cs∧cs=zcr)∨(e=0∧∃h:Ch,v=h.val c∧zaV Q w h c)
theorem zgd {Q:Nat→Prop} {w:World} {h:Ch} {c:Ct} {s0 k:Nat} (hc:zaV Q w h c) (hi:CtI c s0 k) (hQ:∀j,Q j→j < w.heap.size) (n s:Nat) (hn:1≤n∧n≤32):
 Calls Tryz.prog 45 #[h.val c, .int .i64 (n:Int), .int .u64 (s:Int)] w fun e w'=> ∃v,e= .returned (.tuple #[v, .int .i64 ((c.create n s).2.2:Nat), .int .i64 ((c.create n s).1:Nat)])∧znA Q w' v (c.create n s).1 (c.create n s).2.1∧Below w.heap.size w w':=by
 obtain ⟨w1,Ab⟩:∃w1,w1=(w.alloc (.cells (h.cells c) 54)).alloc (.cells zcr 54):=⟨_,rfl⟩;have Aa:Below w.heap.size w w1:=by rw [Ab];exact (zr.alloc zl _).alloc (by simp) _
 have Ai:w1.heap.size=w.heap.size+2:=by rw [Ab,World.alloc_size,World.alloc_size]
 have hX:w1.heap[w.heap.size]? =some (.cells (h.cells c) 54 (0,0)):=by rw [Ab,Below.heap_alloc _ _ _ (by simp)];exact heap_alloc_new w _
 have hY:w1.heap[w.heap.size+1]? =some (.cells zcr 54 (0,0)):=by
  have:=heap_alloc_new (w.alloc (.cells (h.cells c) 54)) (.cells zcr 54);rw [World.alloc_size] at this;rw [Ab];exact this
 have Ln:=zh (zij (w:=w1) (c:=0) (zM.nil zbZ 2 w1 none) (by omega) (fun m hm=> by cases hm) s n hn)
 have AR:zbf [] s n=(0, [(s,n)]):=by unfold zbf zdZ zas;simp;omega
 rw [AR] at Ln;have HC:=zh (zn hc (zn hi hQ));have Ak:=zh (zn Aa (zn Ai (zn hX hY)));obtain ⟨x0,x1,x2,x3,x4,x5,x6,x7,x8,-⟩:=zaf hX;clear hc hi hQ Aa Ai hX hY AR;unfold Ch.val;unfold Ch.cells zcr at *;go_enter Tryz.func45,Tryz.ntmps45;go_upto_region 1 with fail;rw [← Ab];clear Ab;go_wp2_with fail;refine Ln.out.mono ?_;rintro e w2 ⟨v2,rfl,A5,Ae⟩;have A7:=(Ae.block w.heap.size (by have:=Ak.out.2.1;omega)).trans Ak.out.2.2.1
 have BD:=(Ae.block (w.heap.size+1) (by have:=Ak.out.2.1;omega)).trans Ak.out.2.2.2
 obtain ⟨sa,sc,rfl,IO,-,IN⟩:=A5.row zR;simp only [List.length_cons,List.length_nil,Nat.zero_add] at IO ⊢;obtain ⟨x0,x1,x2,x3,x4,x5,x6,x7,x8,xf⟩:=zaf (h:=h) (c:=c) A7;obtain ⟨y0,y1,y2,y3,y4,y5,y6,y7,y8,yf⟩:=zJ BD;have Ap:=zh (zn (Ak.out.1.trans (Ae.mono Ak.out.1.size)) (zn A7 (zn BD Ae)));have Bl:=zh (zn IO IN);have BM:c.create n s=if 8≤c.vols.length∨65535≤c.nv then (32,c,0) else (0,{c with nv:=c.nv+1,vols:=c.vols++ [⟨c.nv+1,s, [(s,n)]⟩]},c.nv+1):=rfl
 have f0:=yf 0;have f1:=yf 1;have f2:=yf 2;have f3:=yf 3;have f4:=yf 4;have f5:=yf 5;have f6:=yf 6;have f7:=yf 7;have f8:=yf 8
 by_cases B5:8≤c.vols.length∨65535≤c.nv
 ·rw [if_pos B5] at BM;have Ds:=zh BM;have Rf:∀(W:World),Below w.heap.size w W→∃v,v= .agg zcr∧znA Q W v 32 c∧Below w.heap.size w W:=fun W hW=> ⟨_,rfl, .inl ⟨show (32:Nat)≠0 by decide,_,rfl,rfl⟩,hW⟩
  have bz:=zh Rf;have Ad:=zeE BD (.int .i64 0) (.int .i64 0) (.int .i64 0) (.int .u64 0) (.slice none 0 0) (.slice none 0 0) (.slice none 0 0) (.slice none 0 0) (.slice none 0 0);have Dn:=zJ Ad;have Au:=zG Ap.out.1 (show w.heap.size≤w.heap.size+1 by omega) (.int .i64 0) (.int .i64 0) (.int .i64 0) (.int .u64 0) (.slice none 0 0) (.slice none 0 0) (.slice none 0 0) (.slice none 0 0) (.slice none 0 0)
  have BU:=zh (zn Dn Au);clear BM Rf A7 BD xf yf Ad Dn Au A5 Ae IO IN
  by_cases h8:8≤c.vols.length
  ·have i8:(8:Int)≤(c.vols.length:Int):=by omega
   clear B5 h8;go_wp2_with fail;obtain ⟨⟨r0,r1,r2,r3,r4,r5,r6,r7,r8,-⟩,Au⟩:=BU.out;refine bodyPost_ret (zb9 _ (w.heap.size+1) _ _ #[] _ _ _ _ _ _ _ _ _ _ rfl rfl rfl ⟨r0,r1,r2,r3,r4,r5,r6,r7,r8⟩) rfl ?_;exact ⟨_,by rw [Ds.out];rfl,by rw [Ds.out];exact .inl ⟨show (32:Nat)≠0 by decide,_,rfl,rfl⟩,Au⟩
  ·have i8:¬(8:Int)≤(c.vols.length:Int):=by omega
   have i9:(65535:Int)≤(c.nv:Int):=by omega
   clear B5 h8;go_wp2_with fail;obtain ⟨⟨r0,r1,r2,r3,r4,r5,r6,r7,r8,-⟩,Au⟩:=BU.out;refine bodyPost_ret (zb9 _ (w.heap.size+1) _ _ #[] _ _ _ _ _ _ _ _ _ _ rfl rfl rfl ⟨r0,r1,r2,r3,r4,r5,r6,r7,r8⟩) rfl ?_;exact ⟨_,by rw [Ds.out];rfl,by rw [Ds.out];exact .inl ⟨show (32:Nat)≠0 by decide,_,rfl,rfl⟩,Au⟩
 ·rw [if_neg B5] at BM;have i8:¬(8:Int)≤(c.vols.length:Int):=by omega
  have i9:¬(65535:Int)≤(c.nv:Int):=by omega
  obtain ⟨nv1,TL⟩:∃m,m=c.nv+1:=⟨_,rfl⟩;have i10:IntKind.i64.wrap ((c.nv:Int)+1)=(nv1:Int):=by rw [zw _ (by omega)];omega
  have g0:=xf 0;have Ds:=zh (zn BM (zn B5 TL))
  -- the world behind the new number
  obtain ⟨w3,Dv⟩:∃w3,w3=w2.setCell ⟨w.heap.size,0,none⟩ (.int .i64 (nv1:Int)):=⟨_,rfl⟩;have C0:w3.heap[w.heap.size]? =some (.cells #[.int .i64 (nv1:Int), .int .i64 (c.ng:Int), .int .i64 (c.nb:Int), .int .u64 (c.fl:Int), .slice h.va c.vols.length h.vc, .slice h.ga c.groups.length h.gc, .slice h.ba c.books.length h.bc, .slice h.ka c.kept.length h.kc, .slice h.ta c.times.length h.tc] 54 (0,0)):=by
   rw [Dv];exact heap_setCell_same _ _ 0 _ _ _ A7
  have AM:w2.grownBy w3 (some w.heap.size):=by rw [Dv];exact zq w2 ⟨w.heap.size,0,none⟩ _
  have AI:=zh (zn C0 AM);clear BM B5 TL A7 BD xf yf A5 Ae IO IN;go_upto_region 7 with fail;rw [← Dv];clear Dv;have A4:Below w.heap.size w w3:=⟨AI.out.2.os.trans Ap.out.1.os,AI.out.2.tape.trans Ap.out.1.tape,AI.out.2.output.trans Ap.out.1.output,zs Ap.out.1.size AI.out.2.size,fun j hj=> (AI.out.2.block j (zt hj Ap.out.1.size) (by simp;omega)).trans (Ap.out.1.block j hj)⟩
  have Ac:h.vl.length=c.vols.length:=by rw [← HC.out.1.volsE,List.length_map]
  have Ah:=HC.out.1.vols.row.row;rw [Ac] at Ah;have DQ:=zh (zn A4 Ac);have By:=zh (fun (W:World) (hW:Below w3.heap.size w3 W)=> zd7 (c:=h.vc) ((Ah.below A4 zl).below hW zl) (by have:=Ds.out.2.1;omega))
  have EO:Below w3.heap.size w3 w3.drew:=zr.drew;have Cs:Below w3.heap.size w3 (w3.alloc (.cells #[.int .i64 (nv1:Int), .int .u64 (s:Int), .slice sa 1 sc] 144)).drew:=(zr.alloc zl _).drew;have PJ:w.heap.size < w3.heap.size:=(zg C0).1;have Ts:w.heap.size+2≤w3.heap.size:=by have:=Ak.out.2.1;have:=Ap.out.2.2.2.size;have:=AI.out.2.size;omega
  have HX:=zh (fun (W:World) (hW:Below w3.heap.size w3 W)=> (hW.block w.heap.size PJ).trans C0);have a0:=cell_of_row _ _ 0 _ _ _ (HX.out _ EO);have a4:=cell_of_row _ _ 4 _ _ _ (HX.out _ EO);have b0:=cell_of_row _ _ 0 _ _ _ (HX.out _ Cs);have b4:=cell_of_row _ _ 4 _ _ _ (HX.out _ Cs);have BA:zM zeK 3 (w3.alloc (.cells #[.int .i64 (nv1:Int), .int .u64 (s:Int), .slice sa 1 sc] 144)).drew (some ⟨w3.heap.size,0,none⟩) 1 [⟨⟨nv1,s, [(s,n)]⟩,sa,sc⟩]:=zM.new (enc:=zeK) w3 ⟨⟨nv1,s, [(s,n)]⟩,sa,sc⟩ 144;have LM:=zh BA;clear A4 Ac Ah C0 AM x0 x1 x2 x3 x4 x5 x6 x7 x8 y0 y1 y2 y3 y4 y5 y6 y7 y8 f0 f1 f2 f3 f4 f5 f6 f7 f8 g0 BA i8 i9 i10
  go_cut [44] from 35 to 45 (fun u44 wx=> zK zeK 3 144 wx (w.heap.size+2) u44 (h.vl++ [⟨⟨nv1,s, [(s,n)]⟩,sa,sc⟩])∧wx.heap[w.heap.size]? =some (.cells #[.int .i64 (nv1:Int), .int .i64 (c.ng:Int), .int .i64 (c.nb:Int), .int .u64 (c.fl:Int),u44, .slice h.ga c.groups.length h.gc, .slice h.ba c.books.length h.bc, .slice h.ka c.kept.length h.kc, .slice h.ta c.times.length h.tc] 54 (0,0))∧zD (fun j=> j=w.heap.size) w3 wx)
  case first=>
   go_region_law (first
        | (have hq:=P5
           refine zL (o:=⟨some 44,_,_,_,_,_⟩) rfl _ _ 48 48 rfl _ _ (by first | rfl | (simp [Act.eval,Act.put];done)) (by first | rfl | (simp [Act.eval,Act.put];done)) hq ?_)
        | (refine zA (o:=⟨some 37,_,_,_,_,_⟩) (by kernel_rfl) 79 Tryz.func79 (by kernel_rfl) rfl _ _ rfl #[.slice h.va c.vols.length h.vc] (by first | (simp [Act.eval];done) | (simp [Act.eval,Act.put];done)) (By.out _ (by with_reducible exact EO)) ?_
           rintro r w4 ⟨v4,rfl,Bf,Ar⟩;refine ⟨v4,rfl, ?_⟩;have Bt:Below w3.heap.size w3 w4:=EO.trans Ar;have c0:=cell_of_row _ _ 0 _ _ _ (HX.out _ Bt);obtain ⟨v5,w5,P5,AV,Bj⟩:=zK.pushG zai (by decide) zdH Tryz.underlying48 zhV rfl (by decide) Bf ⟨⟨nv1,s, [(s,n)]⟩,sa,sc⟩ (by have:=Ds.out.2.1;have:=DQ.out.2;omega) Bt.size
           have Ag:Below w3.heap.size w3 w5:=Below.own Bt Bf Bj zl Bt.size;have Qj:=zh (zn (AV.base (show w.heap.size+2≤w3.drew.heap.size by show w.heap.size+2≤w3.heap.size;omega)) Ag)
           obtain ⟨a5,n5,k5,rfl⟩:=AV.form;have e4:=cell_of_row _ _ 4 _ _ _ (HX.out _ Ag);have e5:w5.frozen? ⟨w.heap.size,4,none⟩=false:=by simp [World.frozen?,HX.out _ Ag]
           unfold zeK at P5;clear Bf Ar Bj AV Ag)
        | (refine zA (o:=⟨some 37,_,_,_,_,_⟩) (by kernel_rfl) 79 Tryz.func79 (by kernel_rfl) rfl _ _ rfl #[.slice h.va c.vols.length h.vc] (by first | (simp [Act.eval];done) | (simp [Act.eval,Act.put];done)) (By.out _ (by with_reducible exact Cs)) ?_
           rintro r w4 ⟨v4,rfl,Bf,Ar⟩;refine ⟨v4,rfl, ?_⟩;have Bt:Below w3.heap.size w3 w4:=Cs.trans (Ar.mono Cs.size);have c0:=cell_of_row _ _ 0 _ _ _ (HX.out _ Bt);obtain ⟨v5,w5,P5,AV,Bj⟩:=zK.appG zai (by decide) zdH Tryz.underlying48 zhV rfl (by decide) Bf 1 (LM.out.below Ar zl) (by have:=Ds.out.2.1;have:=DQ.out.2;omega) Ar.size
           have Ag:Below w3.heap.size w3 w5:=Below.own Bt Bf Bj Cs.size Bt.size;have Qj:=zh (zn (AV.base (show w.heap.size+2≤(w3.alloc (.cells #[.int .i64 (nv1:Int), .int .u64 (s:Int), .slice sa 1 sc] 144)).drew.heap.size by have:=Cs.size;omega)) Ag)
           obtain ⟨a5,n5,k5,rfl⟩:=AV.form;have e4:=cell_of_row _ _ 4 _ _ _ (HX.out _ Ag);have e5:w5.frozen? ⟨w.heap.size,4,none⟩=false:=by simp [World.frozen?,HX.out _ Ag]
           clear Bf Ar Bj AV Ag))
   all_goals
        have AL:zK zeK 3 144 (w5.setCell ⟨w.heap.size,4,none⟩ (.slice a5 n5 k5)) (w.heap.size+2) (.slice a5 n5 k5) (h.vl++ [⟨⟨nv1,s, [(s,n)]⟩,sa,sc⟩])∧(w5.setCell ⟨w.heap.size,4,none⟩ (.slice a5 n5 k5)).heap[w.heap.size]? =some (.cells #[.int .i64 (nv1:Int), .int .i64 (c.ng:Int), .int .i64 (c.nb:Int), .int .u64 (c.fl:Int), .slice a5 n5 k5, .slice h.ga c.groups.length h.gc, .slice h.ba c.books.length h.bc, .slice h.ka c.kept.length h.kc, .slice h.ta c.times.length h.tc] 54 (0,0))∧zD (fun j=> j=w.heap.size) w3 (w5.setCell ⟨w.heap.size,4,none⟩ (.slice a5 n5 k5)):=by
         have BN:=zq w5 ⟨w.heap.size,4,none⟩ (.slice a5 n5 k5);exact ⟨Qj.out.1.heap fun g hg=> BN.block g (Qj.out.1.lt g hg).2 (fun e=> by have:=(Qj.out.1.lt g hg).1;simp at e;omega),heap_setCell_same _ _ 4 _ _ _ (HX.out _ Qj.out.2),(zD.of_below Qj.out.2).trans (zD.turn (D:=fun j=> j=w.heap.size) (g:=w.heap.size) BN rfl) (fun j hj=> .inl hj)⟩
        have AJ:=zh AL;clear AL;go_wp2_with fail
        go_meet
        case rel=> exact AJ.out
  case rest=>
   obtain ⟨Af,AH,Cv⟩:=hcut;obtain ⟨ra,rc,rfl,JL,-,Ex⟩:=Af.row zai;have hY:wc.heap[w.heap.size+1]? =some (.cells #[.int .i64 0, .int .i64 0, .int .i64 0, .int .u64 0, .slice none 0 0, .slice none 0 0, .slice none 0 0, .slice none 0 0, .slice none 0 0] 54 (0,0)):=
        (Cv.block (w.heap.size+1) (zt (zg Ap.out.2.2.1).1 AI.out.2.size) (by omega)).trans ((AI.out.2.block (w.heap.size+1) (zg Ap.out.2.2.1).1 (by simp)).trans Ap.out.2.2.1)
   obtain ⟨x0,x1,x2,x3,x4,x5,x6,x7,x8,xf⟩:=zJ AH;obtain ⟨y0,y1,y2,y3,y4,y5,y6,y7,y8,yf⟩:=zJ hY;have f0:=yf 0;have f1:=yf 1;have f2:=yf 2;have f3:=yf 3;have f4:=yf 4;have f5:=yf 5;have f6:=yf 6;have f7:=yf 7;have f8:=yf 8;have HY:=zh hY;have Ux:=zh AH;have HR:=zh (zn JL (zn Ex Cv));clear Af AH Cv JL Ex hY xf yf a0 a4 b0 b4;go_upto_region 8 with fail
   go_region_law (fail)
   all_goals
        go_wp2_with fail;have Ad:=zeE HY.out (.int .i64 (nv1:Int)) (.int .i64 (c.ng:Int)) (.int .i64 (c.nb:Int)) (.int .u64 (c.fl:Int)) (.slice ra (h.vl.length+1) rc) (.slice h.ga c.groups.length h.gc) (.slice h.ba c.books.length h.bc) (.slice h.ka c.kept.length h.kc) (.slice h.ta c.times.length h.tc);have BL:=zae (B:=w.heap.size+1) (zD.refl _ wc) rfl (.int .i64 (nv1:Int)) (.int .i64 (c.ng:Int)) (.int .i64 (c.nb:Int)) (.int .u64 (c.fl:Int)) (.slice ra (h.vl.length+1) rc) (.slice h.ga c.groups.length h.gc) (.slice h.ba c.books.length h.bc) (.slice h.ka c.kept.length h.kc) (.slice h.ta c.times.length h.tc);generalize World.setCell _ (⟨w.heap.size+1,8,none⟩:Addr) _=W at *;obtain ⟨r0,r1,r2,r3,r4,r5,r6,r7,r8,-⟩:=zJ (W:=W.drew) (show W.drew.heap[w.heap.size+1]? =_ from Ad);have CK:zD (fun j=> j=w.heap.size+1) wc W.drew:=⟨BL.os,BL.tape,BL.output,BL.size,BL.block⟩;simp only [Act.put,List.getElem_toArray,List.getElem_cons_zero,List.getElem_cons_succ,List.setIfInBounds_toArray,List.set_cons_zero,List.set_cons_succ];refine bodyPost_ret (zb9 _ (w.heap.size+1) _ _ #[] _ _ _ _ _ _ _ _ _ _ rfl rfl rfl ⟨r0,r1,r2,r3,r4,r5,r6,r7,r8⟩) rfl ?_;clear Ad r0 r1 r2 r3 r4 r5 r6 r7 r8 BL;generalize W.drew=W at *;have CF:Below w.heap.size w W:=by
         have h1:=DQ.out.1;have h2:=HR.out.2.2;exact ⟨CK.os.trans (h2.os.trans h1.os),CK.tape.trans (h2.tape.trans h1.tape),CK.output.trans (h2.output.trans h1.output),zs h1.size (zs h2.size CK.size),fun j hj=> (CK.block j (zt (zt hj h1.size) h2.size) (by omega)).trans ((h2.block j (zt hj h1.size) (by omega)).trans (h1.block j hj))⟩
        have A0:=HC.out.1.below CF;have Ac:=DQ.out.2;have CZ:zaM Q zeK 3 W ra (h.vl++ [⟨⟨nv1,s, [(s,n)]⟩,sa,sc⟩]):=by
         have h0:zaM (fun j=> j=w.heap.size+1) zeK 3 wc ra (h.vl++ [⟨⟨nv1,s, [(s,n)]⟩,sa,sc⟩]):=⟨HR.out.1,fun b o hb _ hq=> by have:=(HR.out.2.1 b o hb).1;omega⟩
         have h1:=h0.outs zai (by decide) CK (Q':=fun j=> j=w.heap.size+1) (fun _ h=> .inl h)
         exact ⟨h1.row,fun b o hb hl hq=> by have:=(HR.out.2.1 b o hb).1;have:=HC.out.2.2 b hq;omega⟩
        have GJ:zaM Q zbZ 2 W sa [(s,n)]:=by
         have h0:zaM (fun j=> j=w.heap.size∨j=w.heap.size+1) zbZ 2 w2 sa [(s,n)]:=⟨Bl.out.1,fun b o hb _ hq=> by have:=(Bl.out.2 b o hb).1;have:=Ak.out.2.1;omega⟩
         have ho:zD (fun j=> j=w.heap.size∨j=w.heap.size+1) w2 W:=((zD.turn (D:=fun j=> j=w.heap.size∨j=w.heap.size+1) AI.out.2 (.inl rfl)).trans (HR.out.2.2.more (D':=fun j=> j=w.heap.size∨j=w.heap.size+1) (fun _ h=> .inl h)) (fun _ h=> .inl h)).trans (CK.more (D':=fun j=> j=w.heap.size∨j=w.heap.size+1) (fun _ h=> .inr h)) (fun _ h=> .inl h);have h1:=h0.outs zR (by decide) ho (Q':=fun j=> j=w.heap.size∨j=w.heap.size+1) (fun _ h=> .inl h)
         exact ⟨h1.row,fun b o hb hl hq=> by have:=(Bl.out.2 b o hb).1;have:=Ak.out.2.1;have:=HC.out.2.2 b hq;omega⟩
        rw [Ds.out.1];refine ⟨_,by rw [Ds.out.2.2];rfl, .inr ⟨rfl,{h with va:=ra,vc:=rc,vl:=h.vl++ [⟨⟨nv1,s, [(s,n)]⟩,sa,sc⟩]}, ?_, ?_⟩,CF⟩
        ·unfold Ch.val Ch.cells;simp only [List.length_append,List.length_cons,List.length_nil,Nat.zero_add]
         first | rw [Ac,Ds.out.2.2] | rw [Ac]
        ·refine ⟨⟨CZ,fun x hx=> ?_⟩, ?_,A0.groups,A0.groupsE,A0.books,A0.booksE,A0.kept,A0.times⟩
         ·rcases List.mem_append.1 hx with hx | hx
          ·exact A0.vols.sub x hx
          ·simp at hx;subst hx;exact GJ
         ·show (h.vl++ [(⟨⟨nv1,s, [(s,n)]⟩,sa,sc⟩:Vh)]).map Vh.v=c.vols++ [⟨c.nv+1,s, [(s,n)]⟩]
          rw [List.map_append,← Ds.out.2.2];exact congrArg (· ++ [(⟨nv1,s, [(s,n)]⟩:Vl)]) A0.volsE
end
section
open Go.RowKit
structure Oq where
 o:PO
 da:Option Addr
 dc:Nat
 ma:Option Addr
 mc:Nat
def Oq.val (z:Oq):Array Value:=opA z.o z.da z.o.d.length z.dc z.ma z.o.m.length z.mc
def zp6 (z:Oq):List Value:= [.int .i64 z.o.k, .int .i64 z.o.v, .int .i64 z.o.i, .int .i64 z.o.b, .int .i64 z.o.n, .int .u64 z.o.pt, .slice z.da z.o.d.length z.dc, .slice z.ma z.o.m.length z.mc]
theorem zp7 (z:Oq):(zp6 z).length=8:=rfl
structure zpD (w:World) (z:Oq):Prop where
 bs:Bs w z.da z.o.d.length z.o.d
 ms:zM zcm 1 w z.ma z.o.m.length z.o.m
 fit:z.o.v≤9223372036854775807∧z.o.i≤9223372036854775807∧z.o.b≤9223372036854775807∧z.o.n≤9223372036854775807
 pt:0≤z.o.pt∧z.o.pt < 18446744073709551616
theorem zpD.below {w w':World} {z:Oq} (h:zpD w z) (hb:Below w.heap.size w w'):zpD w' z:=⟨h.bs.below hb zl,h.ms.below hb zl,h.fit,h.pt⟩
def zfl (o:PO):Bool:=decide (300 < o.d.length) || decide (100 < o.m.length)
structure zoW (w:World) (a:Option Addr) (n:Nat) (l:List Oq):Prop where
 row:zM zp6 8 w a n l
 ok:∀z ∈ l,zpD w z
theorem zoW.below {w w':World} {a:Option Addr} {n:Nat} {l:List Oq} (h:zoW w a n l) (hb:Below w.heap.size w w'):zoW w' a n l:=⟨h.row.below hb zl,fun z hz=> (h.ok z hz).below hb⟩
def znE (l:List Oq) (most:Int):Bool:=decide ((l.length:Int)≤most) && l.all fun z=> !zfl z.o
theorem zmv (w:World) (z:Oq):
 Calls Tryz.prog 14 #[.agg z.val] w fun e w'=> e= .returned (.bool (zfl z.o))∧Below w.heap.size w w':=by
 obtain ⟨w1,Ab⟩:∃w1,w1=w.alloc (.cells z.val 28):=⟨_,rfl⟩;have Aa:Below w.heap.size w w1:=by rw [Ab];exact zr.alloc zl _
 have hX:w1.heap[w.heap.size]? =some (.cells z.val 28 (0,0)):=by rw [Ab];exact heap_alloc_new w _
 have HB:=zh Aa;have o6:=cell_of_row w1 _ 6 _ _ _ hX;have o7:=cell_of_row w1 _ 7 _ _ _ hX;obtain ⟨⟨k,v,i,b,n,pt,d,m⟩,da,dc,ma,mc⟩:=z;have hG:zfl ⟨k,v,i,b,n,pt,d,m⟩=(decide (300 < d.length) || decide (100 < m.length)):=rfl
 simp only [hG];unfold Oq.val opA at *;simp only at Ab o6 o7;generalize d.length=dn at *;generalize m.length=mn at *;clear Aa hX hG
 by_cases h1:300 < dn
 ·have e1:decide ((dn:Int) > 300)=true:=decide_eq_true (by omega)
  have e3:decide (300 < dn)=true:=decide_eq_true h1;have HE:=zh e3;clear e3;go_enter Tryz.func14,Tryz.ntmps14;go_upto_region 1 with fail;rw [← Ab];clear Ab;go_wp2_with fail;go_ret;exact ⟨by rw [HE.out];rfl,HB.out⟩
 ·have e1:decide ((dn:Int) > 300)=false:=decide_eq_false (by omega)
  have e3:decide (300 < dn)=false:=decide_eq_false h1;have HE:=zh e3;obtain ⟨bm,Ml⟩:∃bm,decide ((mn:Int) > 100)=bm:=⟨_,rfl⟩;have So:decide (100 < mn)=bm:=by rw [← Ml];exact decide_eq_decide.2 (by omega)
  have HM:=zh So;clear e3 So;go_enter Tryz.func14,Tryz.ntmps14;go_upto_region 1 with fail;rw [← Ab];clear Ab;go_wp2_with fail;go_ret;exact ⟨by rw [HE.out,HM.out];rfl,HB.out⟩
theorem ziU {w:World} {a:Option Addr} {n:Nat} (c:Nat) {l:List Oq} (h:zoW w a n l) (most:Int) (hm:most≤1000):
 Calls Tryz.prog 4 #[.slice a n c, .int .i64 most] w fun e w'=> e= .returned (.bool (znE l most))∧Below w.heap.size w w':=by
 have hn:=h.row.1;have H:=zh h
 by_cases h1:(n:Int)≤most
 ·have e1 :decide ((n:Int) > most)=false:=decide_eq_false (by omega)
  have HF:=zh (show znE l most=l.all fun z=> !zfl z.o from by unfold znE;rw [hn,decide_eq_true h1];rfl)
  have C5:n≤1000:=by omega
  clear h h1;go_enter Tryz.func4,Tryz.ntmps4;go_wp2_with fail
  go_loopw [5] (fun u5 wr=> ∃i:Nat,i≤n∧u5= .int .i64 i∧((l.take i).all fun z=> !zfl z.o)=true∧Below w.heap.size w wr) (fun u5 _=> n - (intOf u5).toNat)
  case atStart=> exact ⟨0,Nat.zero_le _,rfl,rfl,Below.refl _ _⟩
  case round=>
   obtain ⟨i,hi,rfl,Bq,AA⟩:=hrel;have HA:=zh (zn Bq AA)
   by_cases hlt:i < n
   ·have AD:(0:Int)≤(i:Int):=by omega
    have Bb:(i:Int) < (n:Int):=by omega
    obtain ⟨z,hz⟩:∃z,l[i]? =some z:=⟨_,ze (by omega)⟩
    obtain ⟨g,o,Gy,hcells⟩:=(H.out.below AA).row.2 i z hz;have HZ:=zh (zn hz Gy);have HG:=zh (zmv wr z);obtain ⟨⟨k,v,i2,b,n2,pt,d,m⟩,da,dc,ma,mc⟩:=z;subst Gy;have c0:=hcells 0 _ rfl;have c1:=hcells 1 _ rfl;have c2:=hcells 2 _ rfl;have c3:=hcells 3 _ rfl;have c4:=hcells 4 _ rfl;have c5:=hcells 5 _ rfl;have c6:=hcells 6 _ rfl;have c7:=hcells 7 _ rfl;simp only [Nat.add_zero] at c0;obtain ⟨gb,G6⟩:∃gb,zfl ⟨k,v,i2,b,n2,pt,d,m⟩=gb:=⟨_,rfl⟩;have ZH:=zh G6;unfold Oq.val opA at HG;simp only [G6] at HG;simp only at c0 c1 c2 c3 c4 c5 c6 c7;clear hcells hz G6 Bq AA hn;generalize BJ:d.length=dn at *;generalize FW:m.length=mn at *;clear BJ FW;go_wp2_with fail;refine HG.out.mono ?_;rintro e w5 ⟨rfl,Ag⟩;have A8:=zh (HA.out.2.trans (Ag.mono HA.out.2.size));clear Ag HG c0 c1 c2 c3 c4 c5 c6 c7
    cases gb with
    | true=>
      go_wp2_with fail;go_ret;refine ⟨?_,A8.out⟩;rw [HF.out];have:(l.all fun z=> !zfl z.o)=false:=by
          rw [List.all_eq_false];exact ⟨_,zm HZ.out.1,by simp [ZH.out]⟩
      rw [this]
      rfl
    | false=>
      go_wp2_with fail
      go_roundw
      case rel=>
          refine ⟨i+1,by omega,by go_num, ?_,A8.out⟩
          rw [List.take_add_one,HZ.out.1,List.all_append,HA.out.1];simp [ZH.out]
      case measure=> simp [intOf];omega
   ·have Bb:decide ((i:Int) < (n:Int))=false:=decide_eq_false (by omega)
    have G8:i=l.length:=by have:=H.out.row.1;omega
    clear Bq AA;go_wp2_with fail;go_ret;refine ⟨?_,HA.out.2⟩;have:=HA.out.1;rw [G8,zk zl] at this;rw [HF.out,this]
    rfl
 ·have e1:decide ((n:Int) > most)=true:=decide_eq_true (by omega)
  have HF:=zh (show znE l most=false from by unfold znE;rw [hn,decide_eq_false h1];rfl)
  clear h h1;go_enter Tryz.func4,Tryz.ntmps4;go_wp2_with fail;go_ret;exact ⟨by rw [HF.out];rfl,Below.refl _ _⟩
end
end Go.Proofs.YtfldlfladcfggaaGreat
