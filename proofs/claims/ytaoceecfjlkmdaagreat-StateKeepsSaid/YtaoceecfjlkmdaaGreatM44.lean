/- Lemmas of the walks, merged and pressed by press.py. Conditions: those of each theorem. -/
import Derived.Test.YtaoceecfjlkmdaaGreatM43
import Derived.ProofKit
import Derived.OpenShut
import Derived.Lib.SmallJoins
import Derived.Deep.Slices
import Derived.Deep.Fields
import Derived.ChangeSame
set_option maxRecDepth 100000
set_option maxHeartbeats 64000000
set_option linter.all false
namespace Go.Proofs.YtaoceecfjlkmdaaGreat
open Tryz
section
open Go.RowKit
def cfA (cf:Cfg):Array Value:=#[.int .i64 cf.sectors, .int .i64 cf.log, .int .u64 (cf.seq:Int), .int .u64 (cf.clock:Int), .int .u64 (cf.win:Int), .int .u64 (cf.every:Int)]
structure zpH (cf:Cfg):Prop where
 seq:cf.seq < 18446744073709551616
 clock:cf.clock < 18446744073709551616
 win:cf.win < 18446744073709551616
 every:cf.every < 18446744073709551616
def st0 (cf:Cfg):PS:=⟨⟨0,0,0,cf.seq, [], [], [], [], []⟩, [],fun _=> [],cf.seq,cf.clock⟩
theorem zpA (cf:Cfg) (h:zpH cf) (nb:Nat):StI nb (st0 cf) 0:=
 ⟨CtI.nil zl,List.Pairwise.nil,h.seq,h.clock,fun e he=> (by cases he),zl,⟨[],zl,fun e he=> (by cases he)⟩⟩
def zpO:Ch:=⟨none,0, [],none,0, [],none,0, [],none,0,none,0⟩
theorem zl2 (Q:Nat->Prop) (w:World) (fl:Nat):zaV Q w zpO ⟨0,0,0,fl, [], [], [], [], []⟩:=
 ⟨⟨zaM.nil none,fun x hx=> by cases hx⟩,rfl,⟨zaM.nil none,fun x hx=> by cases hx⟩,rfl,⟨zaM.nil none,fun x hx=> by cases hx⟩,rfl,zaM.nil none,zaM.nil none⟩
theorem zbr {C:Nat} {w w1 w2:World} {Q:Nat->Prop} (h:Below C w w1) (ho:zD Q w1 w2) (hQ:∀j,Q j->C<=j) (hC:C<=w1.heap.size):Below C w w2:=
 h.trans ⟨ho.os,ho.tape,ho.output,ho.size,fun j hj=> ho.block j (zt hj hC) fun e=> by have:=hQ j e;omega⟩
theorem zgj (w:World) (cf:Cfg) (Mq:zpH cf):
 Calls Tryz.prog 18 #[.agg (cfA cf)] w fun e w'=> ∃p h a Q,e= .returned (.tuple #[.pointer (some ⟨p,0,none⟩), .bool true])/\StW w' p h a cf (st0 cf) 200 0 Q/\(∀j,Q j->w.heap.size<=j)/\Below w.heap.size w w':=by
 obtain ⟨w1,Ab⟩:∃w1,w1=w.alloc (.cells (cfA cf) 24):=⟨_,rfl⟩;have Aa:Below w.heap.size w w1:=by rw [Ab];exact zr.alloc zl _
 have Ai:w1.heap.size=w.heap.size+1:=by rw [Ab,World.alloc_size]
 have hX:w1.heap[w.heap.size]? =some (.cells (cfA cf) 24 (0,0)):=by rw [Ab];exact heap_alloc_new w _
 have HX:=zh (fun (W:World) (hW:Below w1.heap.size w1 W)=> (hW.block w.heap.size ud).trans hX);have HB:=zh (zn Aa Mq);have ZD:=zh (ziM 300 w1 ud ud);unfold cfA at *;clear Aa Ai hX Mq;go_in;go_upto_region 1 with fail;rw [<- Ab];clear Ab;go_wp2_with fail;refine ZD.out.mono ?_;rintro e w2 ⟨pd,s,xs,rfl,CI,C6,Gg,kC,Ae⟩;have H2:=zh (zn CI (zn C6 (zn Gg (zn kC Ae))));have JO:=zh (zhs 200 w2 ud);unfold zv at JO;clear CI C6 Gg kC Ae ZD;go_wp2_with fail;refine JO.out.mono ?_;rintro e w3 ⟨pa,DA,rfl,hA,jc,Am⟩;have We:=zh (zfQ hA);have H3:=zh (zn jc Am);unfold zv at We;clear hA jc Am JO;go_wp2_with fail;refine We.out.mono ?_;rintro e w4 ⟨ph,pt,E,rfl,hW,hE,Ar⟩;obtain ⟨r0,r1⟩:=hW.reads;unfold zv at r0 r1;have CB:=H3.out.2.trans (Ar.mono H3.out.2.size);have Aw:=H2.out.2.2.2.2.trans (CB.mono H2.out.2.2.2.2.size);have Ek:=HX.out w4 Aw;obtain ⟨c0,c1,c2,c3,c4,c5⟩:=rd6 (w:=w4) Ek;have H4:=zh (zn hW (zn hE (zn Ar (zn CB Aw))));clear hW hE Ar CB Aw Ek We;go_wp2_with fail;go_ret2;have Ka:∀j,E j->w2.heap.size<=j:=fun j hj=> by
  rcases H4.out.2.1 j hj with h | h
  ·exact H3.out.1 j h
  exact zs H3.out.2.size h
 have O8:Below w4.heap.size w4 (w4.alloc (.cells #[.int .i64 0, .int .i64 0, .int .i64 0, .int .u64 (cf.seq:Int), .slice none 0 0, .slice none 0 0, .slice none 0 0, .slice none 0 0, .slice none 0 0, .pointer (some ⟨ph,0,none⟩), .pointer (some ⟨pd,0,none⟩), .int .i64 4, .int .i64 cf.sectors, .int .i64 cf.log, .int .u64 (cf.seq:Int), .int .u64 (cf.clock:Int), .int .u64 (cf.win:Int), .int .u64 (cf.every:Int), .int .u64 (cf.seq:Int), .int .u64 (cf.clock:Int)] 60)):=zr.alloc zl _;have CO:=heap_alloc_new w4 (.cells #[.int .i64 0, .int .i64 0, .int .i64 0, .int .u64 (cf.seq:Int), .slice none 0 0, .slice none 0 0, .slice none 0 0, .slice none 0 0, .slice none 0 0, .pointer (some ⟨ph,0,none⟩), .pointer (some ⟨pd,0,none⟩), .int .i64 4, .int .i64 cf.sectors, .int .i64 cf.log, .int .u64 (cf.seq:Int), .int .u64 (cf.clock:Int), .int .u64 (cf.win:Int), .int .u64 (cf.every:Int), .int .u64 (cf.seq:Int), .int .u64 (cf.clock:Int)] 60);generalize w4.alloc (.cells #[.int .i64 0, .int .i64 0, .int .i64 0, .int .u64 (cf.seq:Int), .slice none 0 0, .slice none 0 0, .slice none 0 0, .slice none 0 0, .slice none 0 0, .pointer (some ⟨ph,0,none⟩), .pointer (some ⟨pd,0,none⟩), .int .i64 4, .int .i64 cf.sectors, .int .i64 cf.log, .int .u64 (cf.seq:Int), .int .u64 (cf.clock:Int), .int .u64 (cf.win:Int), .int .u64 (cf.every:Int), .int .u64 (cf.seq:Int), .int .u64 (cf.clock:Int)] 60)=w5 at *;have yF:=(H2.out.2.2.2.1.full H2.out.1 ud (fun _=> False) (fun _ h=> h.elim)).1;have Si:Below w2.heap.size w2 w5:=H4.out.2.2.2.1.trans (O8.mono H4.out.2.2.2.1.size);have AQ:pd < w2.heap.size:=H2.out.2.2.2.1.plt;have Fc:s < w2.heap.size:=H2.out.2.2.2.1.slt;have a6:=H4.out.2.2.2.1.size;have Ab:=HB.out.1.size;have RL:=H4.out.1.lt;refine ⟨w4.heap.size,zpO,⟨ph,pt,pa,pd,4⟩,fun j=> j=w4.heap.size\/E j\/(j=pd\/j=s),rfl,⟨zpA cf HB.out.2 200,ud,ud,znG 200, [],E,s, .slice none 0 0,xs, [],fun j=> j=pd\/j=s,⟨CO,zl2 _ _ _,H4.out.1.below O8,zcR.empty 200 _ (fun x=> zg2), ?_,fun j=> Iff.rfl,⟨fun e=> ?_,fun e=> ?_,fun j hj e=> ?_⟩,fun e he=> (by cases he),⟨?_, ?_⟩,Nat.zero_le _⟩⟩,fun j hj=> ?_, ?_⟩
 ·refine yF.outs (fun j hj=> Si.block j (by rcases hj with rfl | rfl <;> assumption)) (zD.of_below Si) fun j hj=> ?_
  rcases hj with rfl | hj | hj
  ·exact .inr ud
  ·exact .inr (Ka j hj)
  exact .inl (.inr hj)
 ·have:=RL _ e;omega
 ·rcases e with e | e <;> omega
 ·have:=Ka j hj;rcases e with e | e <;> omega
 ·show 4+200+1 < xs.length
  rw [H2.out.1];omega
 ·rw [H2.out.1];omega
 ·have h1:=H2.out.2.1;have h2:=H2.out.2.2.1;rcases hj with rfl | hj | rfl | rfl
  ·have:=H2.out.2.2.2.2.size;omega
  ·have:=Ka j hj;have:=H2.out.2.2.2.2.size;omega
  ·omega
  omega
 exact HB.out.1.trans ((H4.out.2.2.2.2.trans (O8.mono H4.out.2.2.2.2.size)).mono HB.out.1.size)
theorem zln {w:World} (cf:Cfg) (Mq:zpH cf) {a0:Option Addr} {n:Nat} (c:Nat) {l:List Oq} (h:zoW w a0 n l) (hf:znE l 40=true):
 Calls Tryz.prog 7 #[.agg (cfA cf), .slice a0 n c] w fun e w'=> ∃p h a Q st,e= .returned (.tuple #[.pointer (some ⟨p,0,none⟩), .bool true])/\zdr cf.win cf.every 200 (st0 cf) (l.map (·.o)) st/\StW w' p h a cf st 200 n Q/\(∀j,Q j->w.heap.size<=j)/\Below w.heap.size w w':=by
 obtain ⟨w1,Ab⟩:∃w1,w1=w.alloc (.cells (cfA cf) 24):=⟨_,rfl⟩;have Aa:Below w.heap.size w w1:=by rw [Ab];exact zr.alloc zl _
 have Ai:w1.heap.size=w.heap.size+1:=by rw [Ab,World.alloc_size]
 have hX:w1.heap[w.heap.size]? =some (.cells (cfA cf) 24 (0,0)):=by rw [Ab];exact heap_alloc_new w _
 have HX:=zh (fun (W:World) (hW:Below w1.heap.size w1 W)=> (hW.block w.heap.size ud).trans hX);have Dg:=zh h;have H1:=h.below Aa;have E9:=h.row.1;have Bq:n<=40/\∀z ∈ l,zfl z.o=false:=by
  unfold znE at hf;rw [Bool.and_eq_true] at hf;refine ⟨by have:=of_decide_eq_true hf.1;omega,fun z hz=> ?_⟩
  have:=List.all_eq_true.1 hf.2 z hz
  simpa using this
 have HF:=zh (ziU (w:=w1) c H1 40 ud);rw [hf] at HF;have HH:=zh (zn Aa (zn Mq (zn E9 Bq)));have MH:=Bq.1;have HM:=zh (fun (W:World)=> zgj W cf Mq);unfold cfA at *;clear Aa Ai hX Mq h hf H1 E9 Bq;go_in;go_upto_region 1 with fail;rw [<- Ab];clear Ab;go_wp2_with fail;refine HF.out.mono ?_;rintro e w2 ⟨rfl,Ae⟩;have A7:=HX.out w2 Ae;obtain ⟨c0,c1,c2,c3,c4,c5⟩:=rd6 (w:=w2) A7;have ZO:=zh (HM.out w2);have Ap:=zh Ae;clear A7 Ae HF HM HX;go_wp2_with fail;refine ZO.out.mono ?_;rintro e w3 ⟨p,h,a,Q,rfl,hW,hQ,Am⟩;have EL:=Ap.out.trans (Am.mono Ap.out.size);have WO:=zh (zn hW (zn (fun j (hj:Q j)=> zs HH.out.1.size (zs Ap.out.size (hQ j hj))) (HH.out.1.trans (EL.mono HH.out.1.size))));clear hW hQ Am EL ZO c0 c1 c2 c3 c4 c5;go_wp2_with fail
 go_loopw [8] (fun u8 wr=> ∃(i:Nat) (h':Ch) (Q':Nat->Prop) (st:PS),i<=n/\u8= .int .i64 i/\zdr cf.win cf.every 200 (st0 cf) ((l.take i).map (·.o)) st/\StW wr p h' a cf st 200 i Q'/\(∀j,Q' j->w.heap.size<=j)/\Below w.heap.size w wr) (fun u8 _=> n - (intOf u8).toNat)
 case atStart=> exact ⟨0,h,Q,st0 cf,Nat.zero_le _,rfl,zdr.nil _,WO.out.1,WO.out.2.1,WO.out.2.2⟩
 case round=>
  obtain ⟨i,h',Q',st,hi,rfl,Be,Fj,L7,AA⟩:=hrel;have HR:=zh (zn Be (zn Fj (zn L7 AA)))
  by_cases hlt:i < n
  ·have AD:(0:Int)<=(i:Int):=ud;have Bb:(i:Int) < (n:Int):=ud;obtain ⟨z,hz⟩:∃z,l[i]? =some z:=⟨_,ze (by have:=HH.out.2.2.1;omega)⟩
   have Qf:=zm hz;have Ig:=Dg.out.below AA;obtain ⟨g,o,Gy,hcells⟩:=Ig.row.2 i z hz;have IX:=zh (zoH (dc:=z.dc) (mc:=z.mc) Fj ((Ig.ok z Qf).op (HH.out.2.2.2.2 z Qf)) HH.out.2.1.every (by have:=HH.out.2.2.2.1;omega) (by have:=HH.out.2.2.2.1;omega))
   have HZ:=zh hz;subst Gy;have c0:=hcells 0 _ rfl;have c1:=hcells 1 _ rfl;have c2:=hcells 2 _ rfl;have c3:=hcells 3 _ rfl;have c4:=hcells 4 _ rfl;have c5:=hcells 5 _ rfl;have c6:=hcells 6 _ rfl;have c7:=hcells 7 _ rfl;simp only [Nat.add_zero] at c0;unfold opA at IX;clear hcells Ig Qf hz Be Fj L7 AA;obtain ⟨⟨k,v,i2,b,n2,pt,d,m⟩,da,dc,ma,mc⟩:=z;simp only at c0 c1 c2 c3 c4 c5 c6 c7 IX;generalize BJ:d.length=dn at c6 IX;generalize FW:m.length=mn at c7 IX;clear BJ FW;go_wp2_with fail;refine IX.out.mono ?_;rintro e w5 ⟨rfl,Cw⟩;have EA:=zh Cw;clear Cw IX c0 c1 c2 c3 c4 c5 c6 c7;go_wp2_with fail
   go_roundw
   case rel=>
        obtain ⟨x5,h5,Q5,Mw,Xv,UT⟩:=EA.out;refine ⟨i+1,h5,Q5,_,ud,by go_num, ?_,Xv,fun j hj=> ?_,zbr HR.out.2.2.2 UT.outs HR.out.2.2.1 HR.out.2.2.2.size⟩
        ·rw [List.take_add_one,HZ.out,List.map_append];exact zdr.snoc HR.out.1 Mw
        rcases UT.new j hj with h1 | h1
        ·exact HR.out.2.2.1 j h1
        exact zs HR.out.2.2.2.size h1
   case measure=> simp [intOf];omega
  have Bb:decide ((i:Int) < (n:Int))=false:=decide_eq_false ud;have G8:i=n:=ud;clear Be Fj L7 AA;go_wp2_with fail;go_ret2;have hr:=HR.out.1;rw [G8,zk (by have:=HH.out.2.2.1;omega)] at hr
  exact ⟨p,h',a,Q',st,rfl,hr,by rw [<- G8];exact HR.out.2.1,HR.out.2.2.1,HR.out.2.2.2⟩
end
section
open Go.RowKit
def cf0:Cfg:=⟨0,0,0,0,0,0⟩
theorem zpN:zpH cf0:=⟨uf,uf,uf,uf⟩
def ao1:PO:=⟨1,0,0,0,4,0, [], []⟩
def ao2:PO:=⟨4,1,0,0,0,0, [255], []⟩
theorem zdr.nil_inv {win ev nb:Nat} {st st':PS} (h:zdr win ev nb st [] st'):st'=st:=by
 generalize hl:([]:List PO)=l at h
 cases h with
 | nil=> rfl
 | snoc h1 hx=> simp at hl
theorem zdr.snoc_inv {win ev nb:Nat} {st st':PS} {l:List PO} {o:PO} (h:zdr win ev nb st (l++ [o]) st'):∃st1 x,zdr win ev nb st l st1/\zcn nb st1.l x/\st'=zal win ev st1 o x:=by
 generalize hl:l++ [o]=l' at h
 cases h with
 | nil=> simp at hl
 | snoc h1 hx=>
   obtain ⟨rfl,rfl⟩:=List.append_inj' hl rfl |>.imp id (fun h=> by simpa using h)
   exact ⟨_,_,h1,hx,rfl⟩
theorem zd2:(zc9 0 0 (st0 cf0).c (st0 cf0).l (st0 cf0).seq (st0 cf0).clock ao1).1=0:=ue
theorem zdc (x:Nat):(zc9 0 0 (zal 0 0 (st0 cf0) ao1 x).c (zal 0 0 (st0 cf0) ao1 x).l (zal 0 0 (st0 cf0) ao1 x).seq (zal 0 0 (st0 cf0) ao1 x).clock ao2).1=0:=ue
theorem zhr (x y:Nat):(zal 0 0 (zal 0 0 (st0 cf0) ao1 x) ao2 y).seq=2:=ue
theorem znM (x y:Nat):zly (zal 0 0 (zal 0 0 (st0 cf0) ao1 x) ao2 y) 1 0=(0,zbX (zal 0 0 (zal 0 0 (st0 cf0) ao1 x) ao2 y).bl y):=ue
theorem znN (x y:Nat):(zal 0 0 (zal 0 0 (st0 cf0) ao1 x) ao2 y).bl=blP (fun _=> []) y [⟨0,0,some (zdy [255])⟩]:=ue
theorem zks (x y:Nat) (hy:0 < y):zly (zal 0 0 (zal 0 0 (st0 cf0) ao1 x) ao2 y) 1 0=(0,zdy [255]):=by
 rw [znM,znN];unfold zbX;rw [if_neg ud];unfold blP;simp
theorem zps (w:World) (k v i b n pt:Int) (h:v<=9223372036854775807/\i<=9223372036854775807/\b<=9223372036854775807/\n<=9223372036854775807) (hp:0<=pt/\pt < 18446744073709551616):OpM w ⟨k,v,i,b,n,pt, [], []⟩ none 0 none 0:=
 ⟨Bs.none' none,zM.nil zcm 1 w none,ud,h,hp⟩
theorem ziv (w:World):
 Calls Tryz.prog 10 #[] w fun e w'=> e= .returned (.bool true)/\Below w.heap.size w w':=by
 have HM:=zh (zgj w cf0 zpN);have e0:cfA cf0=#[.int .i64 0, .int .i64 0, .int .u64 0, .int .u64 0, .int .u64 0, .int .u64 0]:=rfl;rw [e0] at HM;clear e0;have yU:∀(g:Addr) (w:World),(Instr.index 75 (.agg #[.int .i64 1, .int .i64 0, .int .i64 0, .int .i64 0, .int .i64 4, .int .u64 0, .slice none 0 0, .slice none 0 0, .int .i64 4, .int .i64 1, .int .i64 0, .int .i64 0, .int .i64 0, .int .u64 0, .slice (some g) 1 1, .slice none 0 0]) (.int .i64 0)).run Tryz.prog w= .ok (.agg #[.int .i64 1, .int .i64 0, .int .i64 0, .int .i64 0, .int .i64 4, .int .u64 0, .slice none 0 0, .slice none 0 0]) w:=fun _ _=> by kernel_rfl
 have yV:∀(g:Addr) (w:World),(Instr.index 75 (.agg #[.int .i64 1, .int .i64 0, .int .i64 0, .int .i64 0, .int .i64 4, .int .u64 0, .slice none 0 0, .slice none 0 0, .int .i64 4, .int .i64 1, .int .i64 0, .int .i64 0, .int .i64 0, .int .u64 0, .slice (some g) 1 1, .slice none 0 0]) (.int .i64 1)).run Tryz.prog w= .ok (.agg #[.int .i64 4, .int .i64 1, .int .i64 0, .int .i64 0, .int .i64 0, .int .u64 0, .slice (some g) 1 1, .slice none 0 0]) w:=fun _ _=> by kernel_rfl
 go_in;go_wp2_with fail;refine HM.out.mono ?_;rintro e w1 ⟨p,h,a,Q,rfl,hW,hQ,Aa⟩;have HW:=zh (zn hW (zn hQ Aa));clear hW hQ Aa HM;go_wp2_with fail
 go_loopw [3] (fun u3 wr=> ∃(i:Nat) (h':Ch) (Q':Nat->Prop) (st:PS),i<=2/\u3= .int .i64 i/\zdr 0 0 200 (st0 cf0) ([ao1,ao2].take i) st/\StW wr p h' a cf0 st 200 i Q'/\(∀j,Q' j->w.heap.size<=j)/\Below w.heap.size w wr) (fun u3 _=> 2 - (intOf u3).toNat)
 case atStart=> exact ⟨0,h,Q,st0 cf0,ud,rfl,zdr.nil _,HW.out.1,HW.out.2.1,HW.out.2.2⟩
 case round=>
  obtain ⟨i,h',Q',st,hi,rfl,Be,Fj,L7,AA⟩:=hrel
  match i,hi with
  | 0,_=>
    have hs:=zdr.nil_inv Be;subst hs;have GL:=zps (wr.alloc (.cells #[.int .u8 255] 5)) 1 0 0 0 4 0 ud ud;have FE:Below wr.heap.size wr (wr.alloc (.cells #[.int .u8 255] 5)):=zr.alloc zl _;have HT:=zh (zjB (dc:=0) (mc:=0) (Fj.below FE) GL uf);have HR:=zh (zn Fj (zn L7 (zn AA FE)));unfold opA at HT;simp only at HT;clear GL FE Fj L7 AA Be;go_wp2_with fail;refine HT.out.mono ?_;rintro e w2 ⟨v,rfl,Ae,-,Ij⟩;obtain ⟨x,hc,pv,pl,rfl,hX⟩:=Ij zd2;obtain ⟨-,AE,G7⟩:=zem (window:=0) (every:=0) (c:=(st0 cf0).c) (l:=(st0 cf0).l) (s:=(st0 cf0).seq) (clock:=(st0 cf0).clock) (o:=ao1) (g:=(zc9 0 0 (st0 cf0).c (st0 cf0).l (st0 cf0).seq (st0 cf0).clock ao1).2) HR.out.1.inv.ct (Prod.ext zd2 rfl);have Hc:=zh (ze3 ((HR.out.1.below HR.out.2.2.2).below Ae) hX (fun j hj=> zt (HR.out.1.qlt j hj) HR.out.2.2.2.size) G7 AE ud ud);have Ap:=zh Ae;rw [show (zc9 cf0.win cf0.every (st0 cf0).c (st0 cf0).l (st0 cf0).seq (st0 cf0).clock ⟨1,0,0,0,4,0, [], []⟩).1=0 from zd2];clear Ij hX AE G7 Ae HT;go_wp2_with fail;refine Hc.out.mono ?_;rintro e w3 ⟨rfl,x3,Q3,LB,Fi,Fh⟩;have BW:Below wr.heap.size wr w2:=HR.out.2.2.2.trans (Ap.out.mono HR.out.2.2.2.size);have hb2w:Below w.heap.size w w2:=HR.out.2.2.1.trans (BW.mono HR.out.2.2.1.size);have Ir:=zh (zn LB (zn Fi (zn (show ∀j,Q3 j->w.heap.size<=j from fun j hj=> by
        rcases Fh.new j hj with h1 | h1
        ·exact HR.out.2.1 j h1
        exact zs hb2w.size h1) (zbr hb2w Fh.outs HR.out.2.1 hb2w.size))))
    clear LB Fi Fh BW hb2w Hc;go_wp2_with fail
    go_roundw
    case rel=> exact ⟨1,_,Q3,_,ud,by go_num,zdr.cons_nil Ir.out.1,Ir.out.2.1,Ir.out.2.2.1,Ir.out.2.2.2⟩
    case measure=> simp [intOf]
  | 1,_=>
    obtain ⟨st1,x1,BK,BB,hs⟩:=zdr.snoc_inv (l:= []) (o:=ao1) Be;have C6:=zdr.nil_inv BK;subst C6 hs;have Ku:(wr.alloc (.cells #[.int .u8 255] 5)).heap[wr.heap.size]? =some (.cells #[.int .u8 255] 5 (0,0)):=heap_alloc_new wr _;have FE:Below wr.heap.size wr (wr.alloc (.cells #[.int .u8 255] 5)):=zr.alloc zl _;have Au:Bs (wr.alloc (.cells #[.int .u8 255] 5)) (some ⟨wr.heap.size,0,none⟩) 1 [255]:=by
        refine Is.mk' uh fun i hi=> ?_;obtain rfl:i=0:=ud;rw [Nat.zero_add,cell_of_row _ _ 0 _ _ _ Ku]
        rfl
    have GL:OpM (wr.alloc (.cells #[.int .u8 255] 5)) ao2 (some ⟨wr.heap.size,0,none⟩) 1 none 0:=⟨Au,zM.nil zcm 1 _ none,ud,by simp [ao2],by simp [ao2]⟩
    have HT:=zh (zjB (dc:=1) (mc:=0) (Fj.below FE) GL uf);have HR:=zh (zn Fj (zn L7 (zn AA (zn FE (zn BB Be)))));have e2:opA ao2 (some ⟨wr.heap.size,0,none⟩) 1 1 none 0 0=#[.int .i64 4, .int .i64 1, .int .i64 0, .int .i64 0, .int .i64 0, .int .u64 0, .slice (some ⟨wr.heap.size,0,none⟩) 1 1, .slice none 0 0]:=rfl;rw [e2] at HT;clear GL FE Fj L7 AA Be Au Ku BK BB e2;go_wp2_with fail;refine HT.out.mono ?_;rintro e w2 ⟨v,rfl,Ae,-,Ij⟩;obtain ⟨x,hc,pv,pl,rfl,hX⟩:=Ij (zdc x1);obtain ⟨-,AE,G7⟩:=zem (window:=0) (every:=0) (o:=ao2) (g:=(zc9 0 0 (zal 0 0 (st0 cf0) ao1 x1).c (zal 0 0 (st0 cf0) ao1 x1).l (zal 0 0 (st0 cf0) ao1 x1).seq (zal 0 0 (st0 cf0) ao1 x1).clock ao2).2) HR.out.1.inv.ct (Prod.ext (zdc x1) rfl);have Hc:=zh (ze3 ((HR.out.1.below HR.out.2.2.2.1).below Ae) hX (fun j hj=> zt (HR.out.1.qlt j hj) HR.out.2.2.2.1.size) G7 AE ud ud);have Ap:=zh Ae;rw [show (zc9 cf0.win cf0.every (zal 0 0 (st0 cf0) ao1 x1).c (zal 0 0 (st0 cf0) ao1 x1).l (zal 0 0 (st0 cf0) ao1 x1).seq (zal 0 0 (st0 cf0) ao1 x1).clock ao2).1=0 from zdc x1];clear Ij hX AE G7 Ae HT;go_wp2_with fail;refine Hc.out.mono ?_;rintro e w3 ⟨rfl,x3,Q3,LB,Fi,Fh⟩;have BW:Below wr.heap.size wr w2:=HR.out.2.2.2.1.trans (Ap.out.mono HR.out.2.2.2.1.size);have hb2w:Below w.heap.size w w2:=HR.out.2.2.1.trans (BW.mono HR.out.2.2.1.size);have Ir:=zh (zn LB (zn Fi (zn (show ∀j,Q3 j->w.heap.size<=j from fun j hj=> by
        rcases Fh.new j hj with h1 | h1
        ·exact HR.out.2.1 j h1
        exact zs hb2w.size h1) (zbr hb2w Fh.outs HR.out.2.1 hb2w.size))))
    have T8:zal 0 0 (zal 0 0 (st0 cf0) ao1 x1) ao2 x3=zcJ (zal 0 0 (st0 cf0) ao1 x1) (zc9 0 0 (zal 0 0 (st0 cf0) ao1 x1).c (zal 0 0 (st0 cf0) ao1 x1).l (zal 0 0 (st0 cf0) ao1 x1).seq (zal 0 0 (st0 cf0) ao1 x1).clock ao2).2 x3:=by
        rw [zal,if_neg uf,if_neg (fun h=> h (zdc x1))]
    have Bl:=zh T8;clear LB Fi Fh BW hb2w Hc T8;go_wp2_with fail
    go_roundw
    case rel=>
        refine ⟨2,hc,Q3,_,ud,by go_num,zdr.snoc (l:= [ao1]) HR.out.2.2.2.2.2 Ir.out.1, ?_,Ir.out.2.2.1,Ir.out.2.2.2⟩
        rw [Bl.out];exact Ir.out.2.1
    case measure=> simp [intOf]
  | 2,_=>
    obtain ⟨st1,x2,BK,Dw,hs⟩:=zdr.snoc_inv (l:= [ao1]) (o:=ao2) Be;obtain ⟨st2,x1,B7,BB,C6⟩:=zdr.snoc_inv (l:= []) (o:=ao1) BK;have GP:=zdr.nil_inv B7;subst GP C6 hs;have Dn:=zm9 Fj 1 0 ud;have vA:=zh (zks x1 x2 Dw.1);have p18:=Fj.reads.2.2.2.2.2.2.2.2.2.2.2.2.2.2.2.2.2.2.1;rw [zhr] at p18;have BU:=zh Dn;have HR:=zh (zn Fj AA);have HP:=zh p18;clear Dn Fj L7 AA Be BK B7 BB Dw p18;go_wp2_with fail;refine BU.out.mono ?_;intro e w2 hE;unfold zfL at hE;rw [vA.out] at hE;obtain ⟨hE,Ae⟩:=hE;rcases hE with ⟨h0,-⟩ | ⟨-,-,v,rfl,ho⟩
    ·exact absurd rfl h0
    obtain ⟨g,c,rfl⟩:=zdp ho (by rw [zaK];decide)
    have Au:=zfw ho;rw [zaK] at Au ⊢;obtain ⟨b',o',c',e',Jc,FU,-⟩:=Bs.cell Au 0 uf
    cases e'
    have Bd:c'=255:=by
     have:(zdy [255])[0]? =some 255:=rfl;rw [this] at Jc;exact (Option.some.inj Jc).symm
    subst Bd;have Cg:w2.cell? ⟨g,0,none⟩=some (.int .u8 255):=by simpa using FU
    have p18:w2.cell? ⟨p,18,none⟩=some (.int .u64 2):=by
     have:=(HR.out.1.below Ae).reads.2.2.2.2.2.2.2.2.2.2.2.2.2.2.2.2.2.2.1;rw [zhr] at this;exact this
    have Ap:=zh Ae;clear Ae ho Au Jc FU BU;go_wp2_with fail;go_ret;exact ⟨rfl,HR.out.2.trans (Ap.out.mono HR.out.2.size)⟩
end
section
open Go.RowKit
theorem zfA {w:World} {r:Nat × List UInt8} {e:Ending} {w':World} (h:zfL w r e w'):∃a m k,e= .returned (.tuple #[.slice a m k, .int .i64 (r.1:Int)])/\Below w.heap.size w w'/\(r.1=0->∃g,a=some ⟨g,0,none⟩/\m=64/\Bs w' (some ⟨g,0,none⟩) 64 r.2/\w.heap.size<=g/\g < w'.heap.size):=by
 obtain ⟨h,hb⟩:=h;rcases h with ⟨h0,rfl⟩ | ⟨h0,hl,v,rfl,ho⟩
 ·exact ⟨none,0,0,rfl,hb,fun h=> absurd h h0⟩
 rw [hl] at ho;obtain ⟨g,c,rfl⟩:=zdp ho ud;refine ⟨some ⟨g,0,none⟩,64,c,by rw [h0];rfl,hb,fun _=> ⟨g,rfl,rfl,zfw ho,World.ownsRow.lt ho g rfl⟩⟩
theorem zpX {c:Ct} {v:Int} {t s:Nat} (h:(c.sizeAt v t s).1=0):t<=s:=by
 unfold Ct.sizeAt Ct.may at h
 cases hf:c.find v with
 | none=> rw [hf] at h;cases h
 | some y=>
   rw [hf] at h;simp only at h
   cases hz:zdD y.sizes t with
   | none=> rw [hz] at h;cases h
   | some n=>
     rw [hz] at h;simp only at h
     split at h
     ·rename_i hm
      simp only [Bool.and_eq_true,decide_eq_true_eq] at hm;exact hm.2.1
     cases h
theorem zm7 {st:PS} {v b:Int} {t:Nat} (h:(zbo st v b t).1=0):t<=st.seq:=by
 unfold zbo at h
 split at h
 ·rename_i h1;exact absurd h h1
 rename_i h1
 exact zpX (v:=v) uao
def spA (v b:Int) (t:Nat):Array Value:=#[.int .i64 v, .int .i64 b, .int .u64 (t:Int)]
theorem keeps_any {w:World} (cf:Cfg) (Mq:zpH cf) {a0 a1:Option Addr} {n0 n1:Nat} (c0 c1:Nat) {l0 l1:List Oq} (h0:zoW w a0 n0 l0) (h1:zoW w a1 n1 l1) (v b:Int) (t:Nat) (ht:t < 18446744073709551616):
 Calls Tryz.prog 3 #[.agg (cfA cf), .agg #[.slice a0 n0 c0, .slice a1 n1 c1], .agg (spA v b t)] w fun e w'=> e= .returned (.bool true)/\Below w.heap.size w w':=by
 obtain ⟨w1,Ab⟩:∃w1,w1=w.alloc (.cells (cfA cf) 24):=⟨_,rfl⟩;obtain ⟨w2,GV⟩:∃w2,w2=w1.alloc (.cells #[.slice a0 n0 c0, .slice a1 n1 c1] 26):=⟨_,rfl⟩;obtain ⟨w3,Dv⟩:∃w3,w3=w2.alloc (.cells (spA v b t) 28):=⟨_,rfl⟩;have Ai:w1.heap.size=w.heap.size+1:=by rw [Ab,World.alloc_size]
 have Ax:w2.heap.size=w.heap.size+1+1:=by rw [GV,World.alloc_size,Ai]
 have Aa:Below w.heap.size w w1:=by rw [Ab];exact zr.alloc zl _
 have Cr:Below w1.heap.size w1 w2:=by rw [GV];exact zr.alloc zl _
 have EL:Below w2.heap.size w2 w3:=by rw [Dv];exact zr.alloc zl _
 have Lq:w1.heap[w.heap.size]? =some (.cells (cfA cf) 24 (0,0)):=by rw [Ab];exact heap_alloc_new w _
 have A7:w2.heap[w.heap.size+1]? =some (.cells #[.slice a0 n0 c0, .slice a1 n1 c1] 26 (0,0)):=by rw [GV,<- Ai];exact heap_alloc_new w1 _
 have C0:w3.heap[w.heap.size+1+1]? =some (.cells (spA v b t) 28 (0,0)):=by rw [Dv,<- Ax];exact heap_alloc_new w2 _
 have Ao:=Cr.trans (EL.mono Cr.size);have El:=Aa.trans (Ao.mono Aa.size);have Oa:w3.heap.size=w.heap.size+1+1+1:=by rw [Dv,World.alloc_size,Ax]
 have LT:=zh (fun (W:World) (hW:Below w3.heap.size w3 W)=> ((hW.block w.heap.size ud).trans (Ao.block w.heap.size ud)).trans Lq);have AS:=zh (fun (W:World) (hW:Below w3.heap.size w3 W)=> ((hW.block (w.heap.size+1) ud).trans (EL.block (w.heap.size+1) ud)).trans A7);have Nb:=zh (fun (W:World) (hW:Below w3.heap.size w3 W)=> (hW.block (w.heap.size+1+1) ud).trans C0);have Dg:=zh (zn h0 (zn h1 (zn El (zn Mq ht))));have LJ:=zh (ziU (w:=w3) c1 (h1.below El) 20 ud);have Rg:=zh (fun (W:World) (hW:Below w.heap.size w W)=> ziU (w:=W) c0 (h0.below hW) 40 ud);have JO:=zh (fun (W:World)=> ziv W);have q0:=cell_of_row w3 _ 0 _ _ _ (AS.out w3 zr);have q1:=cell_of_row w3 _ 1 _ _ _ (AS.out w3 zr);obtain ⟨f1,Pp⟩:∃f1,znE l1 20=f1:=⟨_,rfl⟩;obtain ⟨f0,Yc⟩:∃f0,znE l0 40=f0:=⟨_,rfl⟩;have V8:=zh (zn Yc Pp);rw [Pp] at LJ;simp only [Yc] at Rg;unfold cfA spA at *;have HW:=zh (zn Ab (zn GV Dv));clear h0 h1 Mq ht Aa Cr EL Lq A7 C0 Ao El Yc Pp Ai Ax Oa;go_in;go_upto_region 1 with fail;rw [<- Ab];rw [<- GV];rw [<- Dv];clear Ab GV Dv;go_wp2_with fail;refine LJ.out.mono ?_;rintro e w4 ⟨rfl,Ar⟩;have Cz:=zh Ar;have A7:=AS.out w4 Ar;have q0:=cell_of_row w4 _ 0 _ _ _ A7;have q1:=cell_of_row w4 _ 1 _ _ _ A7;have LE:=zh (Dg.out.2.2.1.trans (Ar.mono Dg.out.2.2.1.size));clear Ar A7 LJ
 cases f1 with
 | false=>
   go_wp2_with fail;go_ret;exact ⟨rfl,LE.out⟩
 | true =>
   have ZF:=zh (Rg.out w4 LE.out);clear Rg;go_wp2_with fail;refine ZF.out.mono ?_;rintro e w5 ⟨rfl,Ag⟩;have A8:=zh (Cz.out.trans (Ag.mono Cz.out.size));have IU:=zh (LE.out.trans (Ag.mono LE.out.size));clear Ag q0 q1 ZF
   cases f0 with
   | false=>
     go_wp2_with fail;go_ret;exact ⟨rfl,IU.out⟩
   | true=>
     have Lq:=LT.out w5 A8.out;have A7:=AS.out w5 A8.out;have q0:=cell_of_row w5 _ 0 _ _ _ A7;have c0':=cell_of_row w5 _ 0 _ _ _ Lq;have c1':=cell_of_row w5 _ 1 _ _ _ Lq;have c2':=cell_of_row w5 _ 2 _ _ _ Lq;have c3':=cell_of_row w5 _ 3 _ _ _ Lq;have c4':=cell_of_row w5 _ 4 _ _ _ Lq;have c5':=cell_of_row w5 _ 5 _ _ _ Lq;have Wy:=zh (zln (w:=w5) cf Dg.out.2.2.2.1 c0 (Dg.out.1.below IU.out) V8.out.1);unfold cfA at Wy;clear Lq A7;go_wp2_with fail;refine Wy.out.mono ?_;rintro e w6 ⟨p,h,a,Q,st,rfl,Be,Mc,jI,AT⟩;have OJ:=A8.out.trans (AT.mono A8.out.size);have C0:=Nb.out w6 OJ;obtain ⟨s0,s1,s2⟩:=rd3 (w:=w6) C0;have ZT:=zh (zgs Mc v b t Dg.out.2.2.2.2);have H6:=zh (zn Be (zn Mc (zn (fun j (hj:Q j)=> zs A8.out.size (jI j hj)) (zn OJ (IU.out.trans (AT.mono IU.out.size))))));clear Be Mc jI AT OJ C0 Wy c0' c1' c2' c3' c4' c5' q0;go_wp2_with fail;refine ZT.out.mono ?_;intro e w7 hE;obtain ⟨ga,gm,gk,rfl,B1,QA⟩:=zfA hE;obtain ⟨r1,BK⟩:∃r1,zbo st v b t=r1:=⟨_,rfl⟩;rw [BK] at QA ⊢;have WC:=zh (zn BK (zn QA B1));have jW:=H6.out.2.1.below B1;have vH:=zh jW;have LW:=H6.out.2.2.2.1.trans (B1.mono H6.out.2.2.2.1.size);have Qg:=zh (zn LW (H6.out.2.2.2.2.trans (B1.mono H6.out.2.2.2.2.size)));have A7:=AS.out w7 LW;have vJ:=zh A7;have vK:=zh (Nb.out w7 LW);have MH:n0<=40/\n1<=20/\∀z ∈ l1,zfl z.o=false:=by
        have h1:=V8.out.1;have h2:=V8.out.2;unfold znE at h1 h2;rw [Bool.and_eq_true] at h1 h2;have h3:=of_decide_eq_true h1.1;have h4:=of_decide_eq_true h2.1;have h5:=Dg.out.1.row.1;have h6:=Dg.out.2.1.row.1;refine ⟨ud,ud,fun z hz=> ?_⟩;have:=List.all_eq_true.1 h2.2 z hz
        simpa using this
     have HN:=zh (zn MH Dg.out.2.1.row.1);have aC:=MH.2.1;clear hE QA B1 BK jW LW A7 ZT s0 s1 s2 MH;go_wp2_with fail
     go_loopw [11] (fun u11 wr=> ∃(i:Nat) (h':Ch) (Q':Nat->Prop) (st':PS),i<=n1/\u11= .int .i64 i/\zdr cf.win cf.every 200 st ((l1.take i).map (·.o)) st'/\StW wr p h' a cf st' 200 (n0+i) Q'/\StG w7 Q wr Q') (fun u11 _=> n1 - (intOf u11).toNat)
     case atStart=> exact ⟨0,h,Q,st,Nat.zero_le _,rfl,zdr.nil _,vH.out,StG.refl _ _⟩
     case round=>
        obtain ⟨i,h',Q',st',hi,rfl,Be,Fj,ON⟩:=hrel;have hb3r:Below w3.heap.size w3 wr:=zbr Qg.out.1 ON.outs H6.out.2.2.1 Qg.out.1.size;have AA:Below w.heap.size w wr:=Dg.out.2.2.1.trans (hb3r.mono Dg.out.2.2.1.size);have hX2r:=AS.out wr hb3r;have q1:=cell_of_row wr _ 1 _ _ _ hX2r;have HR:=zh (zn Be (zn Fj (zn ON (zn AA hb3r))))
        by_cases hlt:i < n1
        ·have AD:(0:Int)<=(i:Int):=ud;have Bb:(i:Int) < (n1:Int):=ud;obtain ⟨z,hz⟩:∃z,l1[i]? =some z:=⟨_,ze (by have:=HN.out.2;omega)⟩
         have Qf:=zm hz;have Ig:=Dg.out.2.1.below AA;obtain ⟨g,o,Gy,hcells⟩:=Ig.row.2 i z hz;have IX:=zh (zoH (dc:=z.dc) (mc:=z.mc) Fj ((Ig.ok z Qf).op (HN.out.1.2.2 z Qf)) Dg.out.2.2.2.1.every (by have:=HN.out.1;omega) (by have:=HN.out.1;omega))
         have HZ:=zh (zn hz Gy);subst Gy;have d0:=hcells 0 _ rfl;have d1:=hcells 1 _ rfl;have d2:=hcells 2 _ rfl;have d3:=hcells 3 _ rfl;have d4:=hcells 4 _ rfl;have d5:=hcells 5 _ rfl;have d6:=hcells 6 _ rfl;have d7:=hcells 7 _ rfl;simp only [Nat.add_zero] at d0;unfold opA at IX;clear hcells Ig Qf hz Be Fj ON AA hb3r hX2r;obtain ⟨⟨k,v',i2,b',n2,pt,d,m⟩,da,dc,ma,mc⟩:=z;simp only at d0 d1 d2 d3 d4 d5 d6 d7 IX;generalize BJ:d.length=dn at d6 IX;generalize FW:m.length=mn at d7 IX;clear BJ FW;go_wp2_with fail;refine IX.out.mono ?_;rintro e w8 ⟨rfl,jX⟩;have WQ:=zh jX;clear jX IX d0 d1 d2 d3 d4 d5 d6 d7 q1;go_wp2_with fail
         go_roundw
         case rel=>
          obtain ⟨x5,h5,Q5,Mw,Xv,UT⟩:=WQ.out;refine ⟨i+1,h5,Q5,_,ud,by go_num, ?_,Xv,HR.out.2.2.1.trans UT⟩
          rw [List.take_add_one,HZ.out.1,List.map_append];exact zdr.snoc HR.out.1 Mw
         case measure=> simp [intOf];omega
        have Bb:decide ((i:Int) < (n1:Int))=false:=decide_eq_false ud;have G8:i=n1:=ud;have hX3r:=Nb.out wr hb3r;obtain ⟨s0,s1,s2⟩:=rd3 (w:=wr) hX3r;have ZU:=zh (zgs Fj v b t Dg.out.2.2.2.2);clear Be Fj ON AA hb3r hX2r hX3r;go_wp2_with fail;refine ZU.out.mono ?_;intro e w8 hE;obtain ⟨gb,gn,gl,rfl,Sj,Xb⟩:=zfA hE;obtain ⟨r2,B7⟩:∃r2,zbo st' v b t=r2:=⟨_,rfl⟩;rw [B7] at Xb ⊢;have Hi:=zh (zn B7 (zn Xb Sj));have Qh:=zh (HR.out.2.2.2.1.trans (Sj.mono HR.out.2.2.2.1.size));have IT:=zh (JO.out w8);clear hE Xb Sj B7 ZU s0 s1 s2 q1
        by_cases F9:r1.1=0
        ·have i1:((r1.1:Int) !=0)=false:=by rw [F9];rfl
         by_cases Bd:r2.1=0
         ·have i2:((r2.1:Int) !=0)=false:=by rw [Bd];rfl
          obtain ⟨g1,rfl,rfl,Ss,Cf,Cy⟩:=WC.out.2.1 F9;obtain ⟨g2,rfl,rfl,St,-,-⟩:=Hi.out.2.1 Bd;have AO:=zm7 (by rw [WC.out.1];exact F9:(zbo st v b t).1=0)
          have FV:=HR.out.1.keeps H6.out.2.1.inv AO (d:=r2.2) (v:=v) (b:=b) (t:=t) (by rw [Hi.out.1];exact Prod.ext Bd rfl)
          have km:r1.2=r2.2:=by rw [WC.out.1] at FV;rw [FV]
          have BY:w8.heap[g1]? =w7.heap[g1]? :=(Hi.out.2.2.block g1 (zt Cy HR.out.2.2.1.outs.size)).trans (HR.out.2.2.1.block Cy (fun hq=> by have:=H6.out.2.1.qlt g1 hq;omega))
          have V7:=zh (ziC _ _ _ _ gk gl _ _ w8 (Bs.heap Ss BY) St);rw [km,show (r2.2==r2.2)=true from by simp] at V7
          clear Ss St FV km BY AO Cf Cy F9 Bd;generalize (r1.1:Int)=z1 at *;generalize (r2.1:Int)=z2 at *;go_wp2_with fail;refine V7.out.mono ?_;rintro e w9 ⟨rfl,rfl⟩;clear V7;go_wp2_with fail;refine IT.out.mono ?_;rintro e w9 ⟨rfl,Ja⟩;have Rb:=zh (Qh.out.trans (Ja.mono Qh.out.size));clear Ja IT;go_wp2_with fail;go_ret;exact ⟨rfl,Rb.out⟩
         have i2:((r2.1:Int) !=0)=true:=by rw [bne_iff_ne];omega
         clear F9 Bd;generalize (r1.1:Int)=z1 at *;generalize (r2.1:Int)=z2 at *;go_wp2_with fail;refine IT.out.mono ?_;rintro e w9 ⟨rfl,Ja⟩;have Rb:=zh (Qh.out.trans (Ja.mono Qh.out.size));clear Ja IT;go_wp2_with fail;go_ret;exact ⟨rfl,Rb.out⟩
        have i1:((r1.1:Int) !=0)=true:=by rw [bne_iff_ne];omega
        clear F9;generalize (r1.1:Int)=z1 at *;generalize (r2.1:Int)=z2 at *;go_wp2_with fail;refine IT.out.mono ?_;rintro e w9 ⟨rfl,Ja⟩;have Rb:=zh (Qh.out.trans (Ja.mono Qh.out.size));clear Ja IT;go_wp2_with fail;go_ret;exact ⟨rfl,Rb.out⟩
end
section
open Go.RowKit Go.WideShapes Go.ChangeShapes Go.Joins Go.Deep
theorem zp9 {α:Type} {P:Nat->α->Prop}:∀{n:Nat},(∀i,i < n->∃q,P i q)->∃l:List α,l.length=n/\∀i x,l[i]? =some x->P i x
 | 0,_=> ⟨[],rfl,fun i x h=> by simp at h⟩
 | n + 1,h=> by
   obtain ⟨l,hl,hx⟩:=zp9 (n:=n) (fun i hi=> h i ud);obtain ⟨q,hq⟩:=h n ud;refine ⟨l++ [q],by simp [hl],fun i x hi=> ?_⟩
   rw [List.getElem?_append] at hi
   split at hi
   ·exact hx i x hi
   have G8:i=n:=by
      rcases Nat.lt_or_ge (i - l.length) 1 with h1 | h1
      ·omega
      rw [List.getElem?_eq_none uao] at hi;cases hi
   subst G8;rw [hl,Nat.sub_self] at hi;simp at hi;subst hi;exact hq
theorem zqe {x:Int} (h:(Lit.int .i64 x).wf=true):x<=9223372036854775807:=by
 simp [Lit.wf,IntKind.min,IntKind.max,IntKind.signed,IntKind.bits] at h
 omega
theorem wfu {x:Int} (h:(Lit.int .u64 x).wf=true):0<=x/\x < 18446744073709551616:=by
 simp [Lit.wf,IntKind.min,IntKind.max,IntKind.signed,IntKind.bits] at h
 omega
theorem addO (b o n:Nat):(⟨b,o,none⟩:Addr).add n=⟨b,o+n,none⟩:=by unfold Addr.add;split <;> simp_all
section
variable {H:Type} {enc:TypeId × Value→H} {w:World} {fuel:Nat} {cs:List Value} {x:DataW H × List MemPlace}
theorem zp5 {fs:Array Field} {n:Nat} {ys:List (DataW H × List MemPlace)} (qw:ys.length=fs.size) (EP:∀(j:Nat) (f:Field),fs[j]? =some f->DataW.trod enc Tryz.prog w 0 (fun _=> true) true n f.type ((cs.drop f.offset).take (Tryz.prog.cellsOf f.type))=ys[j]?)
 (j:Nat) (f:Field) (hj:fs[j]? =some f) {k:IntKind} (hk:Tryz.prog.underlying f.type=some (.int k)) (v:Value) (hv:(cs.drop f.offset).take (Tryz.prog.cellsOf f.type)= [v]):∃z,v= .int k z/\(Lit.int k z).wf=true:=by
 have q:=EP j f hj;rw [hv,ze (by rw [qw];exact (zg hj).1)] at q
 obtain ⟨z,e,-,wf⟩:=DataW.trod_int hk q;simp only [List.cons.injEq,and_true] at e;exact ⟨z,e,wf⟩
theorem fany {fs:Array Field} {n:Nat} {ys:List (DataW H × List MemPlace)} (qw:ys.length=fs.size) (EP:∀(j:Nat) (f:Field),fs[j]? =some f->DataW.trod enc Tryz.prog w 0 (fun _=> true) true n f.type ((cs.drop f.offset).take (Tryz.prog.cellsOf f.type))=ys[j]?)
 (j:Nat) (f:Field) (hj:fs[j]? =some f) (v:List Value) (hv:(cs.drop f.offset).take (Tryz.prog.cellsOf f.type)=v):∃y,DataW.trod enc Tryz.prog w 0 (fun _=> true) true n f.type v=some y:=by
 have q:=EP j f hj;rw [hv,ze (by rw [qw];exact (zg hj).1)] at q
 exact ⟨_,q⟩
theorem zp8 {t e:TypeId} {k:IntKind} (ht:Tryz.prog.underlying t=some (.slice e)) (he:Tryz.prog.underlying e=some (.int k)) (F9:Tryz.prog.cellsOf e=1) (h:DataW.trod enc Tryz.prog w 0 (fun _=> true) true fuel t cs=some x):
 ∃(a:Option Addr) (c:Nat) (zs:List Int),cs= [.slice a zs.length c]/\(∀i z,zs[i]? =some z->∃b o,a=some ⟨b,o,none⟩/\w.cell? ⟨b,o+i,none⟩=some (.int k z))/\∀z ∈ zs,(Lit.int k z).wf=true:=by
 rcases open_slice ht h with ⟨Fo,_⟩ | ⟨a,len,cap,m,n,D,Pl,Fo,_,hl,hm,Tw,_,hx⟩
 ·exact ⟨none,0, [],Fo,fun i z hi=> by simp at hi,fun z hz=> by cases hz⟩
 simp only [if_true] at Tw;have hv:∀i,i < len->∃p:Int,w.cell? (a.add i)=some (.int k p)/\(Lit.int k p).wf=true:=fun i hi=> by
  obtain ⟨cs',hc,N5⟩:=hx i ud;rw [F9,Nat.mul_one] at hc;obtain ⟨z,e,-,wf⟩:=DataW.trod_int he N5;obtain ⟨_,AN,AF⟩:=World.cells?_some hc;have:=AF 0 ud;rw [Go.Deep.add_add,Nat.add_zero,e] at this;exact ⟨z,this,wf⟩
 obtain ⟨ps,AQ,cK⟩:=zp9 hv;refine ⟨some a,cap,ps,by rw [AQ];exact Fo,fun i p hi=> ?_,fun z hz=> ?_⟩
 ·have h1:=(cK i p hi).1;have De:=(zi hi).1;have h0:=(cK 0 _ (ze ud)).1;obtain ⟨b,o,spot⟩:=a;have cJ:spot=none:=by simpa [Addr.add] using World.cell?_spot h0
  subst cJ;rw [addO] at h1;exact ⟨b,o,rfl,h1⟩
 obtain ⟨i,hi⟩:=List.getElem?_of_mem hz;exact (cK i z hi).2
theorem zqb:∃f0 f1 f2 f3 f4 f5 f6 f7:Field,Tryz.prog.underlying 40=some (.struct #[f0,f1,f2,f3,f4,f5,f6,f7])/\(f0.offset=0/\f1.offset=1/\f2.offset=2/\f3.offset=3/\f4.offset=4/\f5.offset=5/\f6.offset=6/\f7.offset=7)/\
 f0.type=3/\f1.type=3/\f2.type=3/\f3.type=3/\f4.type=3/\f5.type=22/\f6.type=33/\f7.type=38:=⟨_,_,_,_,_,_,_,_,Tryz.underlying40,⟨rfl,rfl,rfl,rfl,rfl,rfl,rfl,rfl⟩,rfl,rfl,rfl,rfl,rfl,rfl,rfl,rfl⟩
theorem cOp:Tryz.prog.cellsOf 40=8:=ue
theorem cI:Tryz.prog.cellsOf 3=1:=ue
theorem cU:Tryz.prog.cellsOf 22=1:=ue
theorem cB:Tryz.prog.cellsOf 5=1:=ue
theorem cBs:Tryz.prog.cellsOf 33=1:=ue
theorem cIs:Tryz.prog.cellsOf 38=1:=ue
theorem cOps:Tryz.prog.cellsOf 25=1:=ue
theorem op40 (AN:cs.length=8) (h:DataW.trod enc Tryz.prog w 0 (fun _=> true) true fuel 40 cs=some x):∃z:Oq,cs=zp6 z/\zpD w z:=by
 obtain ⟨f0,f1,f2,f3,f4,f5,f6,f7,hs,⟨o0,o1,o2,o3,o4,o5,o6,o7⟩,t0,t1,t2,t3,t4,t5,t6,t7⟩:=zqb;obtain ⟨ys,n',-,-,-,qw,EP⟩:=DataW.trod_struct hs h
 match cs,AN with
 | [c0, c1,c2,c3,c4,c5,c6,c7],_=>
   obtain ⟨k,rfl,-⟩:=zp5 qw EP 0 f0 rfl uas c0 (by rw [o0,t0,cI];rfl)
   obtain ⟨v,rfl,wv⟩:=zp5 qw EP 1 f1 rfl uat c1 (by rw [o1,t1,cI];rfl)
   obtain ⟨i,rfl,wi⟩:=zp5 qw EP 2 f2 rfl (by rw [t2];exact Tryz.underlying3) c2 (by rw [o2,t2,cI];rfl)
   obtain ⟨b,rfl,wb⟩:=zp5 qw EP 3 f3 rfl (by rw [t3];exact Tryz.underlying3) c3 (by rw [o3,t3,cI];rfl)
   obtain ⟨m,rfl,wm⟩:=zp5 qw EP 4 f4 rfl (by rw [t4];exact Tryz.underlying3) c4 (by rw [o4,t4,cI];rfl)
   obtain ⟨p,rfl,wp⟩:=zp5 qw EP 5 f5 rfl (by rw [t5];exact Tryz.underlying22) c5 (by rw [o5,t5,cU];rfl)
   obtain ⟨y6,h6⟩:=fany qw EP 6 f6 rfl [c6] (by rw [o6,t6,cBs];rfl)
   obtain ⟨y7,h7⟩:=fany qw EP 7 f7 rfl [c7] (by rw [o7,t7,cIs];rfl)
   rw [t6] at h6;rw [t7] at h7;obtain ⟨da,dc,zs,e6,hz,wz⟩:=zp8 Tryz.underlying33 Tryz.underlying5 cB h6;obtain ⟨ma,mc,ms,e7,hm,-⟩:=zp8 Tryz.underlying38 Tryz.underlying3 cI h7;simp only [List.cons.injEq,and_true] at e6 e7;subst e6 e7;have Tu:(zs.map fun z=> UInt8.ofNat z.toNat).map (fun c=> (c.toNat:Int))=zs:=by
    rw [List.map_map];refine (List.map_congr_left (g:=id) fun z hz=> ?_).trans (List.map_id zs);have h:=wz z hz;simp [Lit.wf,IntKind.min,IntKind.max,IntKind.signed,IntKind.bits] at h;have h1:z.toNat < 256:=ud;simp only [Function.comp,id,UInt8.toNat_ofNat'];rw [Nat.mod_eq_of_lt uao]
    omega
   refine ⟨⟨⟨k,v,i,b,m,p,zs.map fun z=> UInt8.ofNat z.toNat,ms⟩,da,dc,ma,mc⟩,by simp [zp6], ?_, ?_,⟨zqe wv,zqe wi,zqe wb,zqe wm⟩,wfu wp⟩
   ·show Sl w da _ _
    simp only;rw [Tu];refine ⟨uh,fun j y hy=> ?_⟩;rw [List.getElem?_map] at hy;obtain ⟨z,Ai,rfl⟩:=Option.map_eq_some_iff.1 hy;exact hz j z Ai
   refine ⟨rfl,fun j z hj=> ?_⟩;obtain ⟨g,o,e,hc⟩:=hm j z hj;refine ⟨g,o,e,fun j' y hy=> ?_⟩;have MA:j'=0:=by
       have:=(zi hy).1;simp [zcm] at this;exact this
   subst MA;simp [zcm] at hy;subst hy
   simpa using hc
theorem zqd {v:Value} (h:DataW.trod enc Tryz.prog w 0 (fun _=> true) true fuel 25 [v]=some x):∃a n c l,v= .slice a n c/\zoW w a n l:=by
 rcases open_slice Tryz.underlying25 h with ⟨Fo,_⟩ | ⟨a,len,cap',m,k,D,Pl,Fo,_,hl,hm,Tw,_,hx⟩
 ·simp only [List.cons.injEq,and_true] at Fo;exact ⟨none,0,0, [],Fo,zM.nil zp6 8 _ _,fun o ho=> by cases ho⟩
 simp only [List.cons.injEq,and_true] at Fo;simp only [if_true] at Tw;have hv:∀i,i < len->∃o:Oq,(∀j y,(zp6 o)[j]? =some y->w.cell? (a.add (i * 8+j))=some y)/\zpD w o:=fun i hi=> by
  obtain ⟨cs',hc,N5⟩:=hx i ud;rw [cOp] at hc;obtain ⟨_,AN,AF⟩:=World.cells?_some hc;obtain ⟨o,rfl,Fv⟩:=op40 AN N5;refine ⟨o,fun j y hy=> ?_,Fv⟩;have:=AF j (by have:=(zi hy).1;rw [zp7] at this;exact this)
  rw [Go.Deep.add_add] at this;rw [this];exact hy
 obtain ⟨l,EF,YD⟩:=zp9 hv;refine ⟨some a,len,cap',l,Fo,⟨EF,fun i o hi=> ?_⟩,fun o ho=> ?_⟩
 ·obtain ⟨h1,-⟩:=YD i o hi;have De:=(zi hi).1;have Em:=(YD 0 _ (ze ud)).1 0 _ rfl;obtain ⟨b,of,spot⟩:=a;have cJ:spot=none:=by simpa [Addr.add] using World.cell?_spot Em
  subst cJ;refine ⟨b,of,rfl,fun j y hy=> ?_⟩;have:=h1 j y hy;rw [addO,<- Nat.add_assoc] at this;exact this
 obtain ⟨i,hi⟩:=List.getElem?_of_mem ho;exact (YD i o hi).2
theorem zqc:∃f0 f1 f2:Field,Tryz.prog.underlying 28=some (.struct #[f0,f1,f2])/\(f0.offset=0/\f1.offset=1/\f2.offset=2)/\f0.type=3/\f1.type=3/\f2.type=22:=⟨_,_,_,Tryz.underlying28,⟨rfl,rfl,rfl⟩,rfl,rfl,rfl⟩
theorem zqa:∃f0 f1 f2 f3 f4 f5:Field,Tryz.prog.underlying 24=some (.struct #[f0,f1,f2,f3,f4,f5])/\(f0.offset=0/\f1.offset=1/\f2.offset=2/\f3.offset=3/\f4.offset=4/\f5.offset=5)/\f0.type=3/\f1.type=3/\f2.type=22/\f3.type=22/\f4.type=22/\f5.type=22:=⟨_,_,_,_,_,_,Tryz.underlying24,⟨rfl,rfl,rfl,rfl,rfl,rfl⟩,rfl,rfl,rfl,rfl,rfl,rfl⟩
theorem cSp:Tryz.prog.cellsOf 28=3:=ue
theorem cCf:Tryz.prog.cellsOf 24=6:=ue
variable {base:Nat} {r:Reach} {v:Value} {d:DataW H} {p:List MemPlace}
theorem spot40 (hv:Value.okWide Tryz.prog w r base 28 v) (h:DataW.Trod enc Tryz.prog w 0 (fun _=> true) true 28 v d p):∃(vv b:Int) (t:Nat),v= .agg (spA vv b t)/\b<=9223372036854775807/\t < 18446744073709551616:=by
 obtain ⟨f0,f1,f2,hs,⟨o0,o1,o2⟩,t0,t1,t2⟩:=zqc;obtain ⟨⟨cs⟩,rfl,Fo⟩:=okWide_struct hs hv;obtain ⟨fuel,hf⟩:=h;have AN:cs.length=3:=by rw [cSp] at Fo;simpa using Fo
 have hf:DataW.trod enc Tryz.prog w 0 (fun _=> true) true fuel 28 cs=some (d,p):=by simpa [Value.cells] using hf
 obtain ⟨ys,n',-,-,-,qw,EP⟩:=DataW.trod_struct hs hf
 match cs,AN with
 | [c0,c1,c2],_=>
   obtain ⟨vv,rfl,-⟩:=zp5 qw EP 0 f0 rfl uas c0 (by rw [o0,t0,cI];rfl)
   obtain ⟨b,rfl,wb⟩:=zp5 qw EP 1 f1 rfl uat c1 (by rw [o1,t1,cI];rfl)
   obtain ⟨t,rfl,wt⟩:=zp5 qw EP 2 f2 rfl (by rw [t2];exact Tryz.underlying22) c2 (by rw [o2,t2,cU];rfl)
   have h2:=wfu wt;exact ⟨vv,b,t.toNat,by unfold spA;rw [Int.toNat_of_nonneg h2.1],zqe wb,ud⟩
theorem config40 (hv:Value.okWide Tryz.prog w r base 24 v) (h:DataW.Trod enc Tryz.prog w 0 (fun _=> true) true 24 v d p):∃cf:Cfg,v= .agg (cfA cf)/\zpH cf:=by
 obtain ⟨f0,f1,f2,f3,f4,f5,hs,⟨o0,o1,o2,o3,o4,o5⟩,t0,t1,t2,t3,t4,t5⟩:=zqa;obtain ⟨⟨cs⟩,rfl,Fo⟩:=okWide_struct hs hv;obtain ⟨fuel,hf⟩:=h;have AN:cs.length=6:=by rw [cCf] at Fo;simpa using Fo
 have hf:DataW.trod enc Tryz.prog w 0 (fun _=> true) true fuel 24 cs=some (d,p):=by simpa [Value.cells] using hf
 obtain ⟨ys,n',-,-,-,qw,EP⟩:=DataW.trod_struct hs hf
 match cs,AN with
 | [c0,c1,c2,c3,c4,c5],_=>
   obtain ⟨s,rfl,-⟩:=zp5 qw EP 0 f0 rfl uas c0 (by rw [o0,t0,cI];rfl)
   obtain ⟨l,rfl,-⟩:=zp5 qw EP 1 f1 rfl uat c1 (by rw [o1,t1,cI];rfl)
   obtain ⟨a,rfl,wa⟩:=zp5 qw EP 2 f2 rfl (by rw [t2];exact Tryz.underlying22) c2 (by rw [o2,t2,cU];rfl)
   obtain ⟨b,rfl,wb⟩:=zp5 qw EP 3 f3 rfl (by rw [t3];exact Tryz.underlying22) c3 (by rw [o3,t3,cU];rfl)
   obtain ⟨c,rfl,wc⟩:=zp5 qw EP 4 f4 rfl (by rw [t4];exact Tryz.underlying22) c4 (by rw [o4,t4,cU];rfl)
   obtain ⟨e,rfl,we⟩:=zp5 qw EP 5 f5 rfl (by rw [t5];exact Tryz.underlying22) c5 (by rw [o5,t5,cU];rfl)
   have ha:=wfu wa;have hb:=wfu wb;have hc:=wfu wc;have he:=wfu we;exact ⟨{sectors:=s,log:=l,seq:=a.toNat,clock:=b.toNat,win:=c.toNat,every:=e.toNat},by unfold cfA;simp only [Int.toNat_of_nonneg ha.1,Int.toNat_of_nonneg hb.1,Int.toNat_of_nonneg hc.1,Int.toNat_of_nonneg he.1],⟨uah,uah,uah,uah⟩⟩
theorem pair40 (hv:Value.okWide Tryz.prog w r base 26 v) (h:DataW.Trod enc Tryz.prog w 0 (fun _=> true) true 26 v d p):∃a0 n0 c0 l0 a1 n1 c1 l1,v= .agg #[.slice a0 n0 c0, .slice a1 n1 c1]/\zoW w a0 n0 l0/\zoW w a1 n1 l1:=by
 have hu:Tryz.prog.underlying 26=some (.array 2 25):=Tryz.underlying26;have Bd:Tryz.prog.cellsOf 26=2:=ue;obtain ⟨⟨cs⟩,rfl,Fo⟩:∃cs,v= .agg cs/\cs.size=Tryz.prog.cellsOf 26:=by
  simp only [Value.okWide,hu] at hv;obtain ⟨cs,h1,h2,_⟩:=hv;exact ⟨cs,h1,h2⟩
 obtain ⟨fuel,hf⟩:=h;have AN:cs.length=2:=by rw [Bd] at Fo;simpa using Fo
 have hf:DataW.trod enc Tryz.prog w 0 (fun _=> true) true fuel 26 cs=some (d,p):=by simpa [Value.cells] using hf
 obtain ⟨xs,m,-,-,-,CI,yI⟩:=DataW.trod_array hu hf
 match cs,AN with
 | [v0,v1],_=>
   have q0:=yI 0 uf;have q1:=yI 1 uf;rw [cOps,ze ud] at q0 q1;obtain ⟨a0,n0,c0,l0,rfl,h0⟩:=zqd q0;obtain ⟨a1,n1,c1,l1,rfl,h1⟩:=zqd q1;exact ⟨a0,n0,c0,l0,a1,n1,c1,l1,rfl,h0,h1⟩
end
end
end Go.Proofs.YtaoceecfjlkmdaaGreat
