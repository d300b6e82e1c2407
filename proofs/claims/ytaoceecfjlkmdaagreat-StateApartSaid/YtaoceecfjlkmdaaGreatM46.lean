/- Lemmas of the walks, merged and pressed by press.py. Conditions: those of each theorem. -/
import Derived.Test.YtaoceecfjlkmdaaGreatM45
set_option maxRecDepth 100000
set_option maxHeartbeats 64000000
set_option linter.all false
namespace Go.Proofs.YtaoceecfjlkmdaaGreat
open Tryz
section
open Go.RowKit
def cfA (cf:Cfg):Array Value:=#[.int .i64 cf.sectors, .int .i64 cf.log, .int .u64 (cf.seq:Int), .int .u64 (cf.clock:Int), .int .u64 (cf.win:Int), .int .u64 (cf.every:Int)]
structure zpH (cf:Cfg):Prop where
 seq:cf.seq < 18446744073709551616
 clock:cf.clock < 18446744073709551616
 win:cf.win < 18446744073709551616
 every:cf.every < 18446744073709551616
def st0 (cf:Cfg):PS:=⟨⟨0,0,0,cf.seq, [], [], [], [], []⟩, [],fun _=> [],cf.seq,cf.clock⟩
theorem zpA (cf:Cfg) (h:zpH cf) (nb:Nat):StI nb (st0 cf) 0:=
 ⟨CtI.nil zl,List.Pairwise.nil,h.seq,h.clock,fun e he=> (by cases he),zl,⟨[],zl,fun e he=> (by cases he)⟩⟩
theorem zqZ (cf:Cfg):StV (st0 cf):=fun e he=> by cases he
def zpO:Ch:=⟨none,0, [],none,0, [],none,0, [],none,0,none,0⟩
theorem zl2 (Q:Nat->Prop) (w:World) (fl:Nat):zaV Q w zpO ⟨0,0,0,fl, [], [], [], [], []⟩:=
 ⟨⟨zaM.nil none,fun x hx=> by cases hx⟩,rfl,⟨zaM.nil none,fun x hx=> by cases hx⟩,rfl,⟨zaM.nil none,fun x hx=> by cases hx⟩,rfl,zaM.nil none,zaM.nil none⟩
theorem zbr {C:Nat} {w w1 w2:World} {Q:Nat->Prop} (h:Below C w w1) (ho:zD Q w1 w2) (hQ:∀j,Q j->C<=j) (hC:C<=w1.heap.size):Below C w w2:=
 h.trans ⟨ho.os,ho.tape,ho.output,ho.size,fun j hj=> ho.block j (zt hj hC) fun e=> by have:=hQ j e;omega⟩
theorem zgj (w:World) (cf:Cfg) (Mq:zpH cf):
 Calls Tryz.prog 18 #[.agg (cfA cf)] w fun e w'=> ∃p h a Q,e= .returned (.tuple #[.pointer (some ⟨p,0,none⟩), .bool true])/\StW w' p h a cf (st0 cf) 200 0 Q/\(∀j,Q j->w.heap.size<=j)/\Below w.heap.size w w':=by
 obtain ⟨w1,Ab⟩:∃w1,w1=w.alloc (.cells (cfA cf) 24):=⟨_,rfl⟩;have Aa:Below w.heap.size w w1:=by rw [Ab];exact zr.alloc zl _
 have Ai:w1.heap.size=w.heap.size+1:=by rw [Ab,World.alloc_size]
 have hX:w1.heap[w.heap.size]? =some (.cells (cfA cf) 24 (0,0)):=by rw [Ab];exact heap_alloc_new w _
 have HX:=zh (fun (W:World) (hW:Below w1.heap.size w1 W)=> (hW.block w.heap.size ud).trans hX);have HB:=zh (zn Aa Mq);have ZD:=zh (ziM 300 w1 ud ud);unfold cfA at *;clear Aa Ai hX Mq;go_in;go_upto_region 1 with fail;rw [<- Ab];clear Ab;go_wp2_with fail;refine ZD.out.mono ?_;rintro e w2 ⟨pd,s,xs,rfl,CI,C6,Gg,kC,Ae⟩;have H2:=zh (zn CI (zn C6 (zn Gg (zn kC Ae))));have JO:=zh (zhs 200 w2 ud);unfold zv at JO;clear CI C6 Gg kC Ae ZD;go_wp2_with fail;refine JO.out.mono ?_;rintro e w3 ⟨pa,DA,rfl,hA,jc,Am⟩;have We:=zh (zfQ hA);have H3:=zh (zn jc Am);unfold zv at We;clear hA jc Am JO;go_wp2_with fail;refine We.out.mono ?_;rintro e w4 ⟨ph,pt,E,rfl,hW,hE,Ar⟩;obtain ⟨r0,r1⟩:=hW.reads;unfold zv at r0 r1;have CB:=H3.out.2.trans (Ar.mono H3.out.2.size);have Aw:=H2.out.2.2.2.2.trans (CB.mono H2.out.2.2.2.2.size);have Ek:=HX.out w4 Aw;obtain ⟨c0,c1,c2,c3,c4,c5⟩:=rd6 (w:=w4) Ek;have H4:=zh (zn hW (zn hE (zn Ar (zn CB Aw))));clear hW hE Ar CB Aw Ek We;go_wp2_with fail;go_ret2;have Ka:∀j,E j->w2.heap.size<=j:=fun j hj=> by
  rcases H4.out.2.1 j hj with h | h
  ·exact H3.out.1 j h
  exact zs H3.out.2.size h
 have O8:Below w4.heap.size w4 (w4.alloc (.cells #[.int .i64 0, .int .i64 0, .int .i64 0, .int .u64 (cf.seq:Int), .slice none 0 0, .slice none 0 0, .slice none 0 0, .slice none 0 0, .slice none 0 0, .pointer (some ⟨ph,0,none⟩), .pointer (some ⟨pd,0,none⟩), .int .i64 4, .int .i64 cf.sectors, .int .i64 cf.log, .int .u64 (cf.seq:Int), .int .u64 (cf.clock:Int), .int .u64 (cf.win:Int), .int .u64 (cf.every:Int), .int .u64 (cf.seq:Int), .int .u64 (cf.clock:Int)] 60)):=zr.alloc zl _;have CO:=heap_alloc_new w4 (.cells #[.int .i64 0, .int .i64 0, .int .i64 0, .int .u64 (cf.seq:Int), .slice none 0 0, .slice none 0 0, .slice none 0 0, .slice none 0 0, .slice none 0 0, .pointer (some ⟨ph,0,none⟩), .pointer (some ⟨pd,0,none⟩), .int .i64 4, .int .i64 cf.sectors, .int .i64 cf.log, .int .u64 (cf.seq:Int), .int .u64 (cf.clock:Int), .int .u64 (cf.win:Int), .int .u64 (cf.every:Int), .int .u64 (cf.seq:Int), .int .u64 (cf.clock:Int)] 60);generalize w4.alloc (.cells #[.int .i64 0, .int .i64 0, .int .i64 0, .int .u64 (cf.seq:Int), .slice none 0 0, .slice none 0 0, .slice none 0 0, .slice none 0 0, .slice none 0 0, .pointer (some ⟨ph,0,none⟩), .pointer (some ⟨pd,0,none⟩), .int .i64 4, .int .i64 cf.sectors, .int .i64 cf.log, .int .u64 (cf.seq:Int), .int .u64 (cf.clock:Int), .int .u64 (cf.win:Int), .int .u64 (cf.every:Int), .int .u64 (cf.seq:Int), .int .u64 (cf.clock:Int)] 60)=w5 at *;have yF:=(H2.out.2.2.2.1.full H2.out.1 ud (fun _=> False) (fun _ h=> h.elim)).1;have Si:Below w2.heap.size w2 w5:=H4.out.2.2.2.1.trans (O8.mono H4.out.2.2.2.1.size);have AQ:pd < w2.heap.size:=H2.out.2.2.2.1.plt;have Fc:s < w2.heap.size:=H2.out.2.2.2.1.slt;have a6:=H4.out.2.2.2.1.size;have Ab:=HB.out.1.size;have RL:=H4.out.1.lt;refine ⟨w4.heap.size,zpO,⟨ph,pt,pa,pd,4⟩,fun j=> j=w4.heap.size\/E j\/(j=pd\/j=s),rfl,⟨zpA cf HB.out.2 200,ud,ud,znG 200, [],E,s, .slice none 0 0,xs, [],fun j=> j=pd\/j=s,⟨CO,zl2 _ _ _,H4.out.1.below O8,zcR.empty 200 _ (fun x=> zg2), ?_,fun j=> Iff.rfl,⟨fun e=> ?_,fun e=> ?_,fun j hj e=> ?_⟩,fun e he=> (by cases he),⟨?_, ?_⟩,Nat.zero_le _⟩⟩,fun j hj=> ?_, ?_⟩
 ·refine yF.outs (fun j hj=> Si.block j (by rcases hj with rfl | rfl <;> assumption)) (zD.of_below Si) fun j hj=> ?_
  rcases hj with rfl | hj | hj
  ·exact .inr ud
  ·exact .inr (Ka j hj)
  exact .inl (.inr hj)
 ·have:=RL _ e;omega
 ·rcases e with e | e <;> omega
 ·have:=Ka j hj;rcases e with e | e <;> omega
 ·show 4+200+1 < xs.length
  rw [H2.out.1];omega
 ·rw [H2.out.1];omega
 ·have h1:=H2.out.2.1;have h2:=H2.out.2.2.1;rcases hj with rfl | hj | rfl | rfl
  ·have:=H2.out.2.2.2.2.size;omega
  ·have:=Ka j hj;have:=H2.out.2.2.2.2.size;omega
  ·omega
  omega
 exact HB.out.1.trans ((H4.out.2.2.2.2.trans (O8.mono H4.out.2.2.2.2.size)).mono HB.out.1.size)
theorem zln {w:World} (cf:Cfg) (Mq:zpH cf) {a0:Option Addr} {n:Nat} (c:Nat) {l:List Oq} (h:zoW w a0 n l) (hf:znE l 40=true):
 Calls Tryz.prog 7 #[.agg (cfA cf), .slice a0 n c] w fun e w'=> ∃p h a Q st,e= .returned (.tuple #[.pointer (some ⟨p,0,none⟩), .bool true])/\zdr cf.win cf.every 200 (st0 cf) (l.map (·.o)) st/\StW w' p h a cf st 200 n Q/\(∀j,Q j->w.heap.size<=j)/\Below w.heap.size w w':=by
 obtain ⟨w1,Ab⟩:∃w1,w1=w.alloc (.cells (cfA cf) 24):=⟨_,rfl⟩;have Aa:Below w.heap.size w w1:=by rw [Ab];exact zr.alloc zl _
 have Ai:w1.heap.size=w.heap.size+1:=by rw [Ab,World.alloc_size]
 have hX:w1.heap[w.heap.size]? =some (.cells (cfA cf) 24 (0,0)):=by rw [Ab];exact heap_alloc_new w _
 have HX:=zh (fun (W:World) (hW:Below w1.heap.size w1 W)=> (hW.block w.heap.size ud).trans hX);have Dg:=zh h;have H1:=h.below Aa;have E9:=h.row.1;have Bq:n<=40/\∀z ∈ l,zfl z.o=false:=by
  unfold znE at hf;rw [Bool.and_eq_true] at hf;refine ⟨by have:=of_decide_eq_true hf.1;omega,fun z hz=> ?_⟩
  have:=List.all_eq_true.1 hf.2 z hz
  simpa using this
 have HF:=zh (ziU (w:=w1) c H1 40 ud);rw [hf] at HF;have HH:=zh (zn Aa (zn Mq (zn E9 Bq)));have MH:=Bq.1;have HM:=zh (fun (W:World)=> zgj W cf Mq);unfold cfA at *;clear Aa Ai hX Mq h hf H1 E9 Bq;go_in;go_upto_region 1 with fail;rw [<- Ab];clear Ab;go_wp2_with fail;refine HF.out.mono ?_;rintro e w2 ⟨rfl,Ae⟩;have A7:=HX.out w2 Ae;obtain ⟨c0,c1,c2,c3,c4,c5⟩:=rd6 (w:=w2) A7;have ZO:=zh (HM.out w2);have Ap:=zh Ae;clear A7 Ae HF HM HX;go_wp2_with fail;refine ZO.out.mono ?_;rintro e w3 ⟨p,h,a,Q,rfl,hW,hQ,Am⟩;have EL:=Ap.out.trans (Am.mono Ap.out.size);have WO:=zh (zn hW (zn (fun j (hj:Q j)=> zs HH.out.1.size (zs Ap.out.size (hQ j hj))) (HH.out.1.trans (EL.mono HH.out.1.size))));clear hW hQ Am EL ZO c0 c1 c2 c3 c4 c5;go_wp2_with fail
 go_loopw [8] (fun u8 wr=> ∃(i:Nat) (h':Ch) (Q':Nat->Prop) (st:PS),i<=n/\u8= .int .i64 i/\zdr cf.win cf.every 200 (st0 cf) ((l.take i).map (·.o)) st/\StW wr p h' a cf st 200 i Q'/\(∀j,Q' j->w.heap.size<=j)/\Below w.heap.size w wr) (fun u8 _=> n - (intOf u8).toNat)
 case atStart=> exact ⟨0,h,Q,st0 cf,Nat.zero_le _,rfl,zdr.nil _,WO.out.1,WO.out.2.1,WO.out.2.2⟩
 case round=>
  obtain ⟨i,h',Q',st,hi,rfl,Be,Fj,L7,AA⟩:=hrel;have HR:=zh (zn Be (zn Fj (zn L7 AA)))
  by_cases hlt:i < n
  ·have AD:(0:Int)<=(i:Int):=ud;have Bb:(i:Int) < (n:Int):=ud;obtain ⟨z,hz⟩:∃z,l[i]? =some z:=⟨_,ze (by have:=HH.out.2.2.1;omega)⟩
   have Qf:=zm hz;have Ig:=Dg.out.below AA;obtain ⟨g,o,Gy,hcells⟩:=Ig.row.2 i z hz;have IX:=zh (zoH (dc:=z.dc) (mc:=z.mc) Fj ((Ig.ok z Qf).op (HH.out.2.2.2.2 z Qf)) HH.out.2.1.every (by have:=HH.out.2.2.2.1;omega) (by have:=HH.out.2.2.2.1;omega))
   have HZ:=zh hz;subst Gy;have c0:=hcells 0 _ rfl;have c1:=hcells 1 _ rfl;have c2:=hcells 2 _ rfl;have c3:=hcells 3 _ rfl;have c4:=hcells 4 _ rfl;have c5:=hcells 5 _ rfl;have c6:=hcells 6 _ rfl;have c7:=hcells 7 _ rfl;simp only [Nat.add_zero] at c0;unfold opA at IX;clear hcells Ig Qf hz Be Fj L7 AA;obtain ⟨⟨k,v,i2,b,n2,pt,d,m⟩,da,dc,ma,mc⟩:=z;simp only at c0 c1 c2 c3 c4 c5 c6 c7 IX;generalize BJ:d.length=dn at c6 IX;generalize FW:m.length=mn at c7 IX;clear BJ FW;go_wp2_with fail;refine IX.out.mono ?_;rintro e w5 ⟨rfl,Cw⟩;have EA:=zh Cw;clear Cw IX c0 c1 c2 c3 c4 c5 c6 c7;go_wp2_with fail
   go_roundw
   case rel=>
        obtain ⟨x5,h5,Q5,Mw,Xv,UT⟩:=EA.out;refine ⟨i+1,h5,Q5,_,ud,by go_num, ?_,Xv,fun j hj=> ?_,zbr HR.out.2.2.2 UT.outs HR.out.2.2.1 HR.out.2.2.2.size⟩
        ·rw [List.take_add_one,HZ.out,List.map_append];exact zdr.snoc HR.out.1 Mw
        rcases UT.new j hj with h1 | h1
        ·exact HR.out.2.2.1 j h1
        exact zs HR.out.2.2.2.size h1
   case measure=> simp [intOf];omega
  have Bb:decide ((i:Int) < (n:Int))=false:=decide_eq_false ud;have G8:i=n:=ud;clear Be Fj L7 AA;go_wp2_with fail;go_ret2;have hr:=HR.out.1;rw [G8,zk (by have:=HH.out.2.2.1;omega)] at hr
  exact ⟨p,h',a,Q',st,rfl,hr,by rw [<- G8];exact HR.out.2.1,HR.out.2.2.1,HR.out.2.2.2⟩
end
section
open Go.RowKit
def cf0:Cfg:=⟨0,0,0,0,0,0⟩
theorem zpN:zpH cf0:=⟨uf,uf,uf,uf⟩
def ao1:PO:=⟨1,0,0,0,4,0, [], []⟩
def ao2:PO:=⟨4,1,0,0,0,0, [255], []⟩
theorem zdr.nil_inv {win ev nb:Nat} {st st':PS} (h:zdr win ev nb st [] st'):st'=st:=by
 generalize hl:([]:List PO)=l at h
 cases h with
 | nil=> rfl
 | snoc h1 hx=> simp at hl
theorem zdr.snoc_inv {win ev nb:Nat} {st st':PS} {l:List PO} {o:PO} (h:zdr win ev nb st (l++ [o]) st'):∃st1 x,zdr win ev nb st l st1/\zcn nb st1.l x/\st'=zal win ev st1 o x:=by
 generalize hl:l++ [o]=l' at h
 cases h with
 | nil=> simp at hl
 | snoc h1 hx=>
   obtain ⟨rfl,rfl⟩:=List.append_inj' hl rfl |>.imp id (fun h=> by simpa using h)
   exact ⟨_,_,h1,hx,rfl⟩
theorem zd2:(zc9 0 0 (st0 cf0).c (st0 cf0).l (st0 cf0).seq (st0 cf0).clock ao1).1=0:=ue
theorem zdc (x:Nat):(zc9 0 0 (zal 0 0 (st0 cf0) ao1 x).c (zal 0 0 (st0 cf0) ao1 x).l (zal 0 0 (st0 cf0) ao1 x).seq (zal 0 0 (st0 cf0) ao1 x).clock ao2).1=0:=ue
theorem zhr (x y:Nat):(zal 0 0 (zal 0 0 (st0 cf0) ao1 x) ao2 y).seq=2:=ue
theorem znM (x y:Nat):zly (zal 0 0 (zal 0 0 (st0 cf0) ao1 x) ao2 y) 1 0=(0,zbX (zal 0 0 (zal 0 0 (st0 cf0) ao1 x) ao2 y).bl y):=ue
theorem znN (x y:Nat):(zal 0 0 (zal 0 0 (st0 cf0) ao1 x) ao2 y).bl=blP (fun _=> []) y [⟨0,0,some (zdy [255])⟩]:=ue
theorem zks (x y:Nat) (hy:0 < y):zly (zal 0 0 (zal 0 0 (st0 cf0) ao1 x) ao2 y) 1 0=(0,zdy [255]):=by
 rw [znM,znN];unfold zbX;rw [if_neg ud];unfold blP;simp
theorem zps (w:World) (k v i b n pt:Int) (h:v<=9223372036854775807/\i<=9223372036854775807/\b<=9223372036854775807/\n<=9223372036854775807) (hp:0<=pt/\pt < 18446744073709551616):OpM w ⟨k,v,i,b,n,pt, [], []⟩ none 0 none 0:=
 ⟨Bs.none' none,zM.nil zcm 1 w none,ud,h,hp⟩
theorem ziv (w:World):
 Calls Tryz.prog 10 #[] w fun e w'=> e= .returned (.bool true)/\Below w.heap.size w w':=by
 have HM:=zh (zgj w cf0 zpN);have e0:cfA cf0=#[.int .i64 0, .int .i64 0, .int .u64 0, .int .u64 0, .int .u64 0, .int .u64 0]:=rfl;rw [e0] at HM;clear e0;have yU:∀(g:Addr) (w:World),(Instr.index 75 (.agg #[.int .i64 1, .int .i64 0, .int .i64 0, .int .i64 0, .int .i64 4, .int .u64 0, .slice none 0 0, .slice none 0 0, .int .i64 4, .int .i64 1, .int .i64 0, .int .i64 0, .int .i64 0, .int .u64 0, .slice (some g) 1 1, .slice none 0 0]) (.int .i64 0)).run Tryz.prog w= .ok (.agg #[.int .i64 1, .int .i64 0, .int .i64 0, .int .i64 0, .int .i64 4, .int .u64 0, .slice none 0 0, .slice none 0 0]) w:=fun _ _=> by kernel_rfl
 have yV:∀(g:Addr) (w:World),(Instr.index 75 (.agg #[.int .i64 1, .int .i64 0, .int .i64 0, .int .i64 0, .int .i64 4, .int .u64 0, .slice none 0 0, .slice none 0 0, .int .i64 4, .int .i64 1, .int .i64 0, .int .i64 0, .int .i64 0, .int .u64 0, .slice (some g) 1 1, .slice none 0 0]) (.int .i64 1)).run Tryz.prog w= .ok (.agg #[.int .i64 4, .int .i64 1, .int .i64 0, .int .i64 0, .int .i64 0, .int .u64 0, .slice (some g) 1 1, .slice none 0 0]) w:=fun _ _=> by kernel_rfl
 go_in;go_wp2_with fail;refine HM.out.mono ?_;rintro e w1 ⟨p,h,a,Q,rfl,hW,hQ,Aa⟩;have HW:=zh (zn hW (zn hQ Aa));clear hW hQ Aa HM;go_wp2_with fail
 go_loopw [3] (fun u3 wr=> ∃(i:Nat) (h':Ch) (Q':Nat->Prop) (st:PS),i<=2/\u3= .int .i64 i/\zdr 0 0 200 (st0 cf0) ([ao1,ao2].take i) st/\StW wr p h' a cf0 st 200 i Q'/\(∀j,Q' j->w.heap.size<=j)/\Below w.heap.size w wr) (fun u3 _=> 2 - (intOf u3).toNat)
 case atStart=> exact ⟨0,h,Q,st0 cf0,ud,rfl,zdr.nil _,HW.out.1,HW.out.2.1,HW.out.2.2⟩
 case round=>
  obtain ⟨i,h',Q',st,hi,rfl,Be,Fj,L7,AA⟩:=hrel
  match i,hi with
  | 0,_=>
    have hs:=zdr.nil_inv Be;subst hs;have GL:=zps (wr.alloc (.cells #[.int .u8 255] 5)) 1 0 0 0 4 0 ud ud;have FE:Below wr.heap.size wr (wr.alloc (.cells #[.int .u8 255] 5)):=zr.alloc zl _;have HT:=zh (zjB (dc:=0) (mc:=0) (Fj.below FE) GL uf);have HR:=zh (zn Fj (zn L7 (zn AA FE)));unfold opA at HT;simp only at HT;clear GL FE Fj L7 AA Be;go_wp2_with fail;refine HT.out.mono ?_;rintro e w2 ⟨v,rfl,Ae,-,Ij⟩;obtain ⟨x,hc,pv,pl,rfl,hX⟩:=Ij zd2;obtain ⟨-,AE,G7⟩:=zem (window:=0) (every:=0) (c:=(st0 cf0).c) (l:=(st0 cf0).l) (s:=(st0 cf0).seq) (clock:=(st0 cf0).clock) (o:=ao1) (g:=(zc9 0 0 (st0 cf0).c (st0 cf0).l (st0 cf0).seq (st0 cf0).clock ao1).2) HR.out.1.inv.ct (Prod.ext zd2 rfl);have Hc:=zh (ze3 ((HR.out.1.below HR.out.2.2.2).below Ae) hX (fun j hj=> zt (HR.out.1.qlt j hj) HR.out.2.2.2.size) G7 AE ud ud);have Ap:=zh Ae;rw [show (zc9 cf0.win cf0.every (st0 cf0).c (st0 cf0).l (st0 cf0).seq (st0 cf0).clock ⟨1,0,0,0,4,0, [], []⟩).1=0 from zd2];clear Ij hX AE G7 Ae HT;go_wp2_with fail;refine Hc.out.mono ?_;rintro e w3 ⟨rfl,x3,Q3,LB,Fi,Fh⟩;have BW:Below wr.heap.size wr w2:=HR.out.2.2.2.trans (Ap.out.mono HR.out.2.2.2.size);have hb2w:Below w.heap.size w w2:=HR.out.2.2.1.trans (BW.mono HR.out.2.2.1.size);have Ir:=zh (zn LB (zn Fi (zn (show ∀j,Q3 j->w.heap.size<=j from fun j hj=> by
        rcases Fh.new j hj with h1 | h1
        ·exact HR.out.2.1 j h1
        exact zs hb2w.size h1) (zbr hb2w Fh.outs HR.out.2.1 hb2w.size))))
    clear LB Fi Fh BW hb2w Hc;go_wp2_with fail
    go_roundw
    case rel=> exact ⟨1,_,Q3,_,ud,by go_num,zdr.cons_nil Ir.out.1,Ir.out.2.1,Ir.out.2.2.1,Ir.out.2.2.2⟩
    case measure=> simp [intOf]
  | 1,_=>
    obtain ⟨st1,x1,BK,BB,hs⟩:=zdr.snoc_inv (l:= []) (o:=ao1) Be;have C6:=zdr.nil_inv BK;subst C6 hs;have Ku:(wr.alloc (.cells #[.int .u8 255] 5)).heap[wr.heap.size]? =some (.cells #[.int .u8 255] 5 (0,0)):=heap_alloc_new wr _;have FE:Below wr.heap.size wr (wr.alloc (.cells #[.int .u8 255] 5)):=zr.alloc zl _;have Au:Bs (wr.alloc (.cells #[.int .u8 255] 5)) (some ⟨wr.heap.size,0,none⟩) 1 [255]:=by
        refine Is.mk' uh fun i hi=> ?_;obtain rfl:i=0:=ud;rw [Nat.zero_add,cell_of_row _ _ 0 _ _ _ Ku]
        rfl
    have GL:OpM (wr.alloc (.cells #[.int .u8 255] 5)) ao2 (some ⟨wr.heap.size,0,none⟩) 1 none 0:=⟨Au,zM.nil zcm 1 _ none,ud,by simp [ao2],by simp [ao2]⟩
    have HT:=zh (zjB (dc:=1) (mc:=0) (Fj.below FE) GL uf);have HR:=zh (zn Fj (zn L7 (zn AA (zn FE (zn BB Be)))));have e2:opA ao2 (some ⟨wr.heap.size,0,none⟩) 1 1 none 0 0=#[.int .i64 4, .int .i64 1, .int .i64 0, .int .i64 0, .int .i64 0, .int .u64 0, .slice (some ⟨wr.heap.size,0,none⟩) 1 1, .slice none 0 0]:=rfl;rw [e2] at HT;clear GL FE Fj L7 AA Be Au Ku BK BB e2;go_wp2_with fail;refine HT.out.mono ?_;rintro e w2 ⟨v,rfl,Ae,-,Ij⟩;obtain ⟨x,hc,pv,pl,rfl,hX⟩:=Ij (zdc x1);obtain ⟨-,AE,G7⟩:=zem (window:=0) (every:=0) (o:=ao2) (g:=(zc9 0 0 (zal 0 0 (st0 cf0) ao1 x1).c (zal 0 0 (st0 cf0) ao1 x1).l (zal 0 0 (st0 cf0) ao1 x1).seq (zal 0 0 (st0 cf0) ao1 x1).clock ao2).2) HR.out.1.inv.ct (Prod.ext (zdc x1) rfl);have Hc:=zh (ze3 ((HR.out.1.below HR.out.2.2.2.1).below Ae) hX (fun j hj=> zt (HR.out.1.qlt j hj) HR.out.2.2.2.1.size) G7 AE ud ud);have Ap:=zh Ae;rw [show (zc9 cf0.win cf0.every (zal 0 0 (st0 cf0) ao1 x1).c (zal 0 0 (st0 cf0) ao1 x1).l (zal 0 0 (st0 cf0) ao1 x1).seq (zal 0 0 (st0 cf0) ao1 x1).clock ao2).1=0 from zdc x1];clear Ij hX AE G7 Ae HT;go_wp2_with fail;refine Hc.out.mono ?_;rintro e w3 ⟨rfl,x3,Q3,LB,Fi,Fh⟩;have BW:Below wr.heap.size wr w2:=HR.out.2.2.2.1.trans (Ap.out.mono HR.out.2.2.2.1.size);have hb2w:Below w.heap.size w w2:=HR.out.2.2.1.trans (BW.mono HR.out.2.2.1.size);have Ir:=zh (zn LB (zn Fi (zn (show ∀j,Q3 j->w.heap.size<=j from fun j hj=> by
        rcases Fh.new j hj with h1 | h1
        ·exact HR.out.2.1 j h1
        exact zs hb2w.size h1) (zbr hb2w Fh.outs HR.out.2.1 hb2w.size))))
    have T8:zal 0 0 (zal 0 0 (st0 cf0) ao1 x1) ao2 x3=zcJ (zal 0 0 (st0 cf0) ao1 x1) (zc9 0 0 (zal 0 0 (st0 cf0) ao1 x1).c (zal 0 0 (st0 cf0) ao1 x1).l (zal 0 0 (st0 cf0) ao1 x1).seq (zal 0 0 (st0 cf0) ao1 x1).clock ao2).2 x3:=by
        rw [zal,if_neg uf,if_neg (fun h=> h (zdc x1))]
    have Bl:=zh T8;clear LB Fi Fh BW hb2w Hc T8;go_wp2_with fail
    go_roundw
    case rel=>
        refine ⟨2,hc,Q3,_,ud,by go_num,zdr.snoc (l:= [ao1]) HR.out.2.2.2.2.2 Ir.out.1, ?_,Ir.out.2.2.1,Ir.out.2.2.2⟩
        rw [Bl.out];exact Ir.out.2.1
    case measure=> simp [intOf]
  | 2,_=>
    obtain ⟨st1,x2,BK,Dw,hs⟩:=zdr.snoc_inv (l:= [ao1]) (o:=ao2) Be;obtain ⟨st2,x1,B7,BB,C6⟩:=zdr.snoc_inv (l:= []) (o:=ao1) BK;have GP:=zdr.nil_inv B7;subst GP C6 hs;have Dn:=zm9 Fj 1 0 ud;have vA:=zh (zks x1 x2 Dw.1);have p18:=Fj.reads.2.2.2.2.2.2.2.2.2.2.2.2.2.2.2.2.2.2.1;rw [zhr] at p18;have BU:=zh Dn;have HR:=zh (zn Fj AA);have HP:=zh p18;clear Dn Fj L7 AA Be BK B7 BB Dw p18;go_wp2_with fail;refine BU.out.mono ?_;intro e w2 hE;unfold zfL at hE;rw [vA.out] at hE;obtain ⟨hE,Ae⟩:=hE;rcases hE with ⟨h0,-⟩ | ⟨-,-,v,rfl,ho⟩
    ·exact absurd rfl h0
    obtain ⟨g,c,rfl⟩:=zdp ho (by rw [zaK];decide)
    have Au:=zfw ho;rw [zaK] at Au ⊢;obtain ⟨b',o',c',e',Jc,FU,-⟩:=Bs.cell Au 0 uf
    cases e'
    have Bd:c'=255:=by
     have:(zdy [255])[0]? =some 255:=rfl;rw [this] at Jc;exact (Option.some.inj Jc).symm
    subst Bd;have Cg:w2.cell? ⟨g,0,none⟩=some (.int .u8 255):=by simpa using FU
    have p18:w2.cell? ⟨p,18,none⟩=some (.int .u64 2):=by
     have:=(HR.out.1.below Ae).reads.2.2.2.2.2.2.2.2.2.2.2.2.2.2.2.2.2.2.1;rw [zhr] at this;exact this
    have Ap:=zh Ae;clear Ae ho Au Jc FU BU;go_wp2_with fail;go_ret;exact ⟨rfl,HR.out.2.trans (Ap.out.mono HR.out.2.size)⟩
end
end Go.Proofs.YtaoceecfjlkmdaaGreat
