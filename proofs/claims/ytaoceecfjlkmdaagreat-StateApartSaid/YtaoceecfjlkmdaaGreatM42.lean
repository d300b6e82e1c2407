/- Lemmas of the walks, merged and pressed by press.py. Conditions: those of each theorem. -/
import Derived.Test.YtaoceecfjlkmdaaGreatM35
import Derived.Test.YtaoceecfjlkmdaaGreatM9
import Derived.Test.YtaoceecfjlkmdaaGreatM41
set_option maxRecDepth 100000
set_option maxHeartbeats 64000000
set_option linter.all false
namespace Go.Proofs.YtaoceecfjlkmdaaGreat
open Tryz
section
open Go.RowKit
theorem zco (tmps:Array Value) (B:Nat) (e5 e6:Value) (v0 v1 v2 v3 v4 v5 v6 v7 v8:Value) (W:World) (h:tmps[4]? =some (.pointer (some ⟨B,0,none⟩))) (h5:tmps[5]? =some e5) (h6:tmps[6]? =some e6)
 (q:W.cell? ⟨B,0,none⟩=some v0/\W.cell? ⟨B,1,none⟩=some v1/\W.cell? ⟨B,2,none⟩=some v2/\W.cell? ⟨B,3,none⟩=some v3/\W.cell? ⟨B,4,none⟩=some v4/\W.cell? ⟨B,5,none⟩=some v5/\W.cell? ⟨B,6,none⟩=some v6/\W.cell? ⟨B,7,none⟩=some v7/\W.cell? ⟨B,8,none⟩=some v8):
 (results Tryz.f56 tmps).run Tryz.prog W= .ok (.tuple #[.agg #[v0,v1,v2,v3,v4,v5,v6,v7,v8],e5,e6]) W:=by
 obtain ⟨q0,q1,q2,q3,q4,q5,q6,q7,q8⟩:=q;simp [results,Tryz.results56,go_sem,h,h5,h6,q0,q1,q2,q3,q4,q5,q6,q7,q8]
theorem znL {Q:Nat->Prop} {w:World} {h:Ch} {c:Ct} {s0 k:Nat} (hc:zaV Q w h c) (hi:CtI c s0 k) (hQ:∀j,Q j->j < w.heap.size) {a:Option Addr} {n cc:Nat} {ms:List Int} (hm:zM zcm 1 w a n ms) (hn:n<=100):
 Calls Tryz.prog 56 #[h.val c, .slice a n cc] w fun e w'=> ∃v,e= .returned (.tuple #[v, .int .i64 ((c.add ms).2.2:Nat), .int .i64 ((c.add ms).1:Nat)])/\znA Q w' v (c.add ms).1 (c.add ms).2.1/\Below w.heap.size w w':=by
 obtain ⟨w1,Ab⟩:∃w1,w1=(w.alloc (.cells (h.cells c) 54)).alloc (.cells zcr 54):=⟨_,rfl⟩;have Aa:Below w.heap.size w w1:=by rw [Ab];exact (zr.alloc zl _).alloc uh _
 have Ai:w1.heap.size=w.heap.size+2:=by rw [Ab,World.alloc_size,World.alloc_size]
 have hX:w1.heap[w.heap.size]? =some (.cells (h.cells c) 54 (0,0)):=by rw [Ab,Below.heap_alloc _ _ _ uh];exact heap_alloc_new w _
 have hY:w1.heap[w.heap.size+1]? =some (.cells zcr 54 (0,0)):=by
  have:=heap_alloc_new (w.alloc (.cells (h.cells c) 54)) (.cells zcr 54);rw [World.alloc_size] at this;rw [Ab];exact this
 have HC:=zh (zn hc (zn hi hQ));have Ak:=zh (zn Aa (zn Ai (zn hX hY)));have HM:=zh (zn hm hm.1);have Im:=zh (show c.add ms=if (ms.any fun m=> (c.find m).isNone) then (40,c,0) else if 4<=c.groups.length\/65535<=c.ng then (32,c,0) else (0,{c with ng:=c.ng+1,groups:=c.groups++ [⟨c.ng+1,ms⟩]},c.ng+1) from rfl)
 clear hc hi hQ Aa Ai hX hY hm;unfold Ch.val;unfold Ch.cells zcr at *;go_in;go_upto_region 1 with fail;rw [<- Ab];clear Ab;go_wp2_with fail
 go_loopw [13] (fun u wr=> ∃i:Nat,i<=n/\u= .int .i64 i/\((ms.take i).any fun m=> (c.find m).isNone)=false/\Below w1.heap.size w1 wr) (fun u _=> n - (intOf u).toNat)
 case atStart=> exact ⟨0,ud,rfl,rfl,Below.refl _ _⟩
 case round=>
  obtain ⟨i,hi,rfl,hR,hb⟩:=hrel;have HR:=zh hR;have A7:=(hb.block w.heap.size ui).trans Ak.out.2.2.1;have BD:=(hb.block (w.heap.size+1) ui).trans Ak.out.2.2.2;have HB:=zh (zn (Ak.out.1.trans (hb.mono Ak.out.1.size)) (zn hb (zn A7 BD)));obtain ⟨x0,x1,x2,x3,x4,x5,x6,x7,x8,xf⟩:=zaf (h:=h) (c:=c) A7;obtain ⟨y0,y1,y2,y3,y4,y5,y6,y7,y8,yf⟩:=zJ BD;clear hR hb
  by_cases hlt:i < n
  ·have Bb:(i:Int) < (n:Int):=ud;have AD:(0:Int)<=(i:Int):=ud;obtain ⟨m,hm⟩:∃m,ms[i]? =some m:=⟨_,ze (by have:=HM.out.2;omega)⟩
   obtain ⟨b,o,rfl,YG⟩:=(HM.out.1.below HB.out.1 zl).2 i m hm;have m0:=YG 0 _ rfl;simp only [Nat.mul_one,Nat.add_zero] at m0;have HF:=zh (zc2 (HC.out.1.below HB.out.1) (by have:=HC.out.2.1.vlen;omega) m)
   have Io:=zh (zhC HC.out.1 m);have HS:=zh (zjH (fun m=> (c.find m).isNone) ms hm);have qY:=zh (zm hm);clear hm YG yf xf y0 y1 y2 y3 y4 y5 y6 y7 y8 A7 BD;unfold Ch.val Ch.cells at HF;go_wp2_with fail;refine HF.out.mono ?_;rintro e w2 ⟨⟨x,hx,rfl⟩,Ae⟩;have hx:=hx.symm;have Cr:=HB.out.2.1.trans (Ae.mono HB.out.2.1.size);have Ap:=zh Cr;clear Ae Cr x0 x1 x2 x3 x4 x5 x6 x7 x8
   cases x with
   | none=>
     have G3:=(Ap.out.block (w.heap.size+1) ui).trans Ak.out.2.2.2;obtain ⟨y0,y1,y2,y3,y4,y5,y6,y7,y8,yf⟩:=zJ G3;have f0:=yf 0;have f1:=yf 1;have f2:=yf 2;have f3:=yf 3;have f4:=yf 4;have f5:=yf 5;have f6:=yf 6;have f7:=yf 7;have f8:=yf 8;have ME:w.heap.size+1 < w2.heap.size:=(zg G3).1;have HZ:Hid (c.add ms=(40,c,0)):=zh (by
      rw [Im.out,if_pos];exact List.any_eq_true.2 ⟨m,qY.out,by rw [Io.out,hx];rfl⟩)
     have Ad:=zeE G3 (.int .i64 0) (.int .i64 0) (.int .i64 0) (.int .u64 0) (.slice none 0 0) (.slice none 0 0) (.slice none 0 0) (.slice none 0 0) (.slice none 0 0);have Au:=zG (Ak.out.1.trans (Ap.out.mono Ak.out.1.size)) (show w.heap.size<=w.heap.size+1 by omega) (.int .i64 0) (.int .i64 0) (.int .i64 0) (.int .u64 0) (.slice none 0 0) (.slice none 0 0) (.slice none 0 0) (.slice none 0 0) (.slice none 0 0)
     have AY:=(Below.heap_alloc _ (.cells #[.int .i64 0, .int .u64 0, .slice none 0 0] 86) _ (zg Ad).1).trans Ad;obtain ⟨r0,r1,r2,r3,r4,r5,r6,r7,r8,-⟩:=zJ AY;have BU:=zh (zn (zn r0 (zn r1 (zn r2 (zn r3 (zn r4 (zn r5 (zn r6 (zn r7 r8)))))))) (Au.alloc Au.size (.cells #[.int .i64 0, .int .u64 0, .slice none 0 0] 86)));clear Ad Au AY r0 r1 r2 r3 r4 r5 r6 r7 r8 yf G3 hx
     dsimp only [znH,Option.isSome]
     go_wp2_with fail;refine bodyPost_ret (zco _ (w.heap.size+1) _ _ _ _ _ _ _ _ _ _ _ _ rfl rfl rfl BU.out.1) rfl ?_;exact ⟨_,by rw [HZ.out];rfl,by rw [HZ.out];exact .inl ⟨show (40:Nat)≠0 by decide,_,rfl,rfl⟩,BU.out.2⟩
   | some x=>
     have Bl:Hid (((ms.take (i+1)).any fun m=> (c.find m).isNone)=false):=zh (by rw [HS.out,HR.out,Io.out,hx];rfl)
     clear hx
     dsimp only [znH,Option.isSome]
     go_wp2_with fail
     go_roundw
     case rel=> exact ⟨i+1,ud,by go_num,Bl.out,Ap.out.alloc Ap.out.size _⟩
     case measure=> simp [intOf];omega
  obtain rfl:n=i:=ud;have EH:Hid (c.add ms=if 4<=c.groups.length\/65535<=c.ng then (32,c,0) else (0,{c with ng:=c.ng+1,groups:=c.groups++ [⟨c.ng+1,ms⟩]},c.ng+1)):=zh (by
       have:=HR.out;rw [zk (by have:=HM.out.2;omega)] at this
       rw [Im.out,this]
       rfl)
  have f0:=yf 0;have f1:=yf 1;have f2:=yf 2;have f3:=yf 3;have f4:=yf 4;have f5:=yf 5;have f6:=yf 6;have f7:=yf 7;have f8:=yf 8
  by_cases B5:4<=c.groups.length\/65535<=c.ng
  ·have HZ:Hid (c.add ms=(32,c,0)):=zh (by rw [EH.out,if_pos B5])
   have Ad:=zeE BD (.int .i64 0) (.int .i64 0) (.int .i64 0) (.int .u64 0) (.slice none 0 0) (.slice none 0 0) (.slice none 0 0) (.slice none 0 0) (.slice none 0 0);have Au:=zG HB.out.1 (show w.heap.size<=w.heap.size+1 by omega) (.int .i64 0) (.int .i64 0) (.int .i64 0) (.int .u64 0) (.slice none 0 0) (.slice none 0 0) (.slice none 0 0) (.slice none 0 0) (.slice none 0 0)
   obtain ⟨r0,r1,r2,r3,r4,r5,r6,r7,r8,-⟩:=zJ Ad;have BU:=zh (zn (zn r0 (zn r1 (zn r2 (zn r3 (zn r4 (zn r5 (zn r6 (zn r7 r8)))))))) Au);clear Ad Au r0 r1 r2 r3 r4 r5 r6 r7 r8 yf xf A7 BD
   by_cases h4:4<=c.groups.length
   ·have i8:(4:Int)<=(c.groups.length:Int):=ud;clear B5 h4;go_wp2_with fail;refine bodyPost_ret (zco _ (w.heap.size+1) _ _ _ _ _ _ _ _ _ _ _ _ rfl rfl rfl BU.out.1) rfl ?_;exact ⟨_,by rw [HZ.out];rfl,by rw [HZ.out];exact .inl ⟨show (32:Nat)≠0 by decide,_,rfl,rfl⟩,BU.out.2⟩
   have i8:¬(4:Int)<=(c.groups.length:Int):=ud;have i9:(65535:Int)<=(c.ng:Int):=ud;clear B5 h4;go_wp2_with fail;refine bodyPost_ret (zco _ (w.heap.size+1) _ _ _ _ _ _ _ _ _ _ _ _ rfl rfl rfl BU.out.1) rfl ?_;exact ⟨_,by rw [HZ.out];rfl,by rw [HZ.out];exact .inl ⟨show (32:Nat)≠0 by decide,_,rfl,rfl⟩,BU.out.2⟩
  have i8:¬(4:Int)<=(c.groups.length:Int):=ud;have i9:¬(65535:Int)<=(c.ng:Int):=ud;obtain ⟨ng1,TG⟩:∃m,m=c.ng+1:=⟨_,rfl⟩;have i10:IntKind.i64.wrap ((c.ng:Int)+1)=(ng1:Int):=by rw [zw _ ud];omega
  have Ds:=zh (zn (show c.add ms=(0,{c with ng:=c.ng+1,groups:=c.groups++ [⟨c.ng+1,ms⟩]},c.ng+1) by rw [EH.out,if_neg B5]) (zn B5 TG))
  have g1:=xf 1;obtain ⟨w3,Dv⟩:∃w3,w3=wr.setCell ⟨w.heap.size,1,none⟩ (.int .i64 (ng1:Int)):=⟨_,rfl⟩;have C0:w3.heap[w.heap.size]? =some (.cells #[.int .i64 (c.nv:Int), .int .i64 (ng1:Int), .int .i64 (c.nb:Int), .int .u64 (c.fl:Int), .slice h.va c.vols.length h.vc, .slice h.ga c.groups.length h.gc, .slice h.ba c.books.length h.bc, .slice h.ka c.kept.length h.kc, .slice h.ta c.times.length h.tc] 54 (0,0)):=by
   rw [Dv];exact heap_setCell_same _ _ 1 _ _ _ A7
  have AM:wr.grownBy w3 (some w.heap.size):=by rw [Dv];exact zq wr ⟨w.heap.size,1,none⟩ _
  have G3:=(AM.block (w.heap.size+1) (zg BD).1 uh).trans BD;have A4:Below w.heap.size w w3:=⟨AM.os.trans HB.out.1.os,AM.tape.trans HB.out.1.tape,AM.output.trans HB.out.1.output,zs HB.out.1.size AM.size,fun j hj=> (AM.block j (zt hj HB.out.1.size) uo).trans (HB.out.1.block j hj)⟩;have AI:=zh (zn C0 (zn G3 A4));have Ts:w.heap.size+2<=w3.heap.size:=by have:=Ak.out.2.1;have:=HB.out.2.1.size;have:=AM.size;omega
  clear B5 TG A7 BD xf yf;go_upto_region 11 with fail;rw [<- Dv];clear Dv x0 x1 x2 x3 x4 x5 x6 x7 x8 y0 y1 y2 y3 y4 y5 y6 y7 y8 f0 f1 f2 f3 f4 f5 f6 f7 f8 g1 i8 i9 i10;have Ac:h.gl.length=c.groups.length:=by rw [<- HC.out.1.groupsE,List.length_map]
  have Ah:=HC.out.1.groups.row.row;rw [Ac] at Ah;have EO:Below w3.heap.size w3 w3.drew:=zr.drew;have By:=zh (zgc (w:=w3.drew) (c:=h.gc) ((Ah.below A4 zl).below EO zl) ubi);have VZ:=zh (fun (W:World) (hW:Below w3.heap.size w3 W)=> zd5 (c:=cc) ((HM.out.1.below A4 zl).below hW zl) ud);have HX:=zh (fun (W:World) (hW:Below w3.heap.size w3 W)=> (hW.block w.heap.size (zg C0).1).trans C0);have Rn:=zh Ac;have Av:True/\(w3.drew.cell? ⟨w.heap.size,5,none⟩=some (.slice h.ga c.groups.length h.gc)/\w3.drew.cell? ⟨w.heap.size,1,none⟩=some (.int .i64 (ng1:Int))):=⟨trivial,cell_of_row _ _ 5 _ _ _ (HX.out _ EO),cell_of_row _ _ 1 _ _ _ (HX.out _ EO)⟩;clear Ah Ac C0 AM G3 A4 EO;refine zy ue [8,9,10,11] (fun _=> True) (fun W=> W.cell? ⟨w.heap.size,5,none⟩=some (.slice h.ga c.groups.length h.gc)/\W.cell? ⟨w.heap.size,1,none⟩=some (.int .i64 (ng1:Int))) ?_;refine tS 0 Av ?_;refine tS 1 Av ?_;refine tS 3 Av ?_;refine tS 4 Av ?_;refine tS 5 Av ?_;refine zd (i:=2) ue rfl (fun K hK=> ?_);refine zA (o:=⟨some 43,_,_,_,_,_⟩) ue 93 Tryz.func93 ue rfl _ _ rfl #[.slice h.ga c.groups.length h.gc] uA By.out ?_;rintro r w4 ⟨v4,rfl,Bf,Ar⟩;refine ⟨v4,rfl, ?_⟩;have Bt:Below w3.heap.size w3 w4:=(zr.drew).trans Ar;have OO:True/\(w4.cell? ⟨w.heap.size,5,none⟩=some (.slice h.ga c.groups.length h.gc)/\w4.cell? ⟨w.heap.size,1,none⟩=some (.int .i64 (ng1:Int))):=⟨trivial,cell_of_row _ _ 5 _ _ _ (HX.out _ Bt),cell_of_row _ _ 1 _ _ _ (HX.out _ Bt)⟩;have I3:=zh (zn Bf Bt);refine hK.out _ _ ⟨OO.1,fun _=> OO.2⟩ ?_
  try simp only [Act.put,zSs]
  clear hK K By Bf Ar Av OO;refine zd (i:=6) ue rfl (fun K hK=> ?_);refine zA (o:=⟨some 47,_,_,_,_,_⟩) ue 94 Tryz.func94 ue rfl _ _ rfl #[.slice a n cc] uA (VZ.out _ Bt) ?_;rintro r w5 ⟨v5,rfl,AV,Ag⟩;refine ⟨v5,rfl, ?_⟩;obtain ⟨ma,mc,rfl,Jm,-,JJ⟩:=AV.row zT;have Dj:Below w3.heap.size w3 w5:=Bt.trans (Ag.mono Bt.size);have Hq:True/\(w5.cell? ⟨w.heap.size,5,none⟩=some (.slice h.ga c.groups.length h.gc)/\w5.cell? ⟨w.heap.size,1,none⟩=some (.int .i64 (ng1:Int))):=⟨trivial,cell_of_row _ _ 5 _ _ _ (HX.out _ Dj),cell_of_row _ _ 1 _ _ _ (HX.out _ Dj)⟩;have If:=I3.out.1.below Ag zl;obtain ⟨v6,w6,NU,Bv,AX⟩:=zK.pushG zaH uf zeS Tryz.underlying49 zj0 rfl uf If (⟨⟨ng1,ms⟩,ma,mc⟩:Gh) (by have:=Ds.out.2.1;have:=Rn.out;omega) Dj.size
  have DZ:Below w3.heap.size w3 w6:=Below.own Dj If AX zl Dj.size;have Hf:=zh (zn Jm (zn JJ (zn Dj (zn AX (zn (fun g hg=> (I3.out.1.lt g hg).2) (zn Bv DZ))))));obtain ⟨ra,rn,rc,rfl⟩:=Bv.form;have e4:=cell_of_row _ _ 5 _ _ _ (HX.out _ DZ);have e5:w6.frozen? ⟨w.heap.size,5,none⟩=false:=by simp [World.frozen?,HX.out _ DZ]
  have Nr:=heap_setCell_same w6 w.heap.size 5 _ _ (.slice ra rn rc) (HX.out _ DZ);have EJ:=zh (zn Nr (zn (zq w6 ⟨w.heap.size,5,none⟩ (.slice ra rn rc)) ((DZ.block (w.heap.size+1) (zg AI.out.2.1).1).trans AI.out.2.1)));unfold zgQ at NU;refine hK.out _ _ ⟨Hq.1,fun _=> Hq.2⟩ ?_
  try simp only [Act.put,zSs]
  have Av:=Hq;clear hK K AV Ag Hq If Bv AX DZ Jm JJ Nr;refine tS 7 Av ?_;refine zd (i:=8) ue rfl (fun K hK=> ?_);go_simp;refine hK.out _ _ ⟨trivial,fun h=> absurd h uf⟩ ?_;clear hK K Av;refine zd (i:=9) ue rfl (fun K hK=> ?_);refine zL (o:=⟨some 50,_,_,_,_,_⟩) rfl _ _ 49 49 rfl _ _ us us NU ?_
  try simp only [Act.put,zSs]
  refine hK.out _ _ ⟨trivial,fun h=> absurd h uf⟩ ?_;clear hK K;refine zd (i:=10) ue rfl (fun K hK=> ?_);go_simp;refine hK.out _ _ ⟨trivial,fun h=> absurd h uf⟩ ?_;clear hK K;refine zd (i:=11) ue rfl (fun K hK=> ?_);go_simp;refine hK.out _ _ ⟨trivial,fun h=> absurd h uf⟩ ?_;clear hK K;refine zI ue ?_ _;go_upto_region 12 with fail;obtain ⟨x0,x1,x2,x3,x4,x5,x6,x7,x8,-⟩:=zJ EJ.out.1;obtain ⟨y0,y1,y2,y3,y4,y5,y6,y7,y8,yf⟩:=zJ ((EJ.out.2.1.block (w.heap.size+1) (zg EJ.out.2.2).1 uh).trans EJ.out.2.2);have f0:=yf 0;have f1:=yf 1;have f2:=yf 2;have f3:=yf 3;have f4:=yf 4;have f5:=yf 5;have f6:=yf 6;have f7:=yf 7;have f8:=yf 8;have HY:=zh ((EJ.out.2.1.block (w.heap.size+1) (zg EJ.out.2.2).1 uh).trans EJ.out.2.2);have Wd:=zh EJ.out.2.1;clear EJ yf e4 e5;generalize World.setCell w6 (⟨w.heap.size,5,none⟩:Addr) _=w7 at *
  go_region_law (fail)
  all_goals
   go_wp2_with fail;have Ad:=zeE HY.out (.int .i64 (c.nv:Int)) (.int .i64 (ng1:Int)) (.int .i64 (c.nb:Int)) (.int .u64 (c.fl:Int)) (.slice h.va c.vols.length h.vc) (.slice ra rn rc) (.slice h.ba c.books.length h.bc) (.slice h.ka c.kept.length h.kc) (.slice h.ta c.times.length h.tc);have BL:=zae (B:=w.heap.size+1) (zD.refl _ w7) rfl (.int .i64 (c.nv:Int)) (.int .i64 (ng1:Int)) (.int .i64 (c.nb:Int)) (.int .u64 (c.fl:Int)) (.slice h.va c.vols.length h.vc) (.slice ra rn rc) (.slice h.ba c.books.length h.bc) (.slice h.ka c.kept.length h.kc) (.slice h.ta c.times.length h.tc);generalize World.setCell _ (⟨w.heap.size+1,8,none⟩:Addr) _=W at *;obtain ⟨r0,r1,r2,r3,r4,r5,r6,r7,r8,-⟩:=zJ (W:=W.drew) (show W.drew.heap[w.heap.size+1]? =_ from Ad);have CK:zD (fun j=> j=w.heap.size+1) w7 W.drew:=⟨BL.os,BL.tape,BL.output,BL.size,BL.block⟩
   try simp only [Act.put,List.getElem_toArray,List.getElem_cons_zero,List.getElem_cons_succ,zSs]
   refine bodyPost_ret (zco _ (w.heap.size+1) _ _ _ _ _ _ _ _ _ _ _ _ rfl rfl rfl ⟨r0,r1,r2,r3,r4,r5,r6,r7,r8⟩) rfl ?_;clear Ad r0 r1 r2 r3 r4 r5 r6 r7 r8 BL x0 x1 x2 x3 x4 x5 x6 x7 x8 y0 y1 y2 y3 y4 y5 y6 y7 y8 f0 f1 f2 f3 f4 f5 f6 f7 f8;generalize W.drew=W at *;have I4:=Hf.out.2.2.2.2.2.2;have A4:=AI.out.2.2;have h6W:zD (fun j=> j=w.heap.size\/j=w.heap.size+1) w6 W:=(zD.turn (D:=fun j=> j=w.heap.size\/j=w.heap.size+1) Wd.out (.inl rfl)).trans (CK.more (D':=fun j=> j=w.heap.size\/j=w.heap.size+1) (fun _ h=> .inr h)) (fun _ h=> .inl h);have CF:Below w.heap.size w W:=⟨h6W.os.trans (I4.os.trans A4.os),h6W.tape.trans (I4.tape.trans A4.tape),h6W.output.trans (I4.output.trans A4.output),zs A4.size (zs I4.size h6W.size),fun j hj=> (h6W.block j (zt (zt hj A4.size) I4.size) ud).trans ((I4.block j (zt hj A4.size)).trans (A4.block j hj))⟩;have A0:=HC.out.1.below CF;have Bv:=Hf.out.2.2.2.2.2.1;obtain ⟨ra',rc',hv,JL,-,Ex⟩:=Bv.row zaH;simp only [Value.slice.injEq] at hv;obtain ⟨rfl,rfl,rfl⟩:=hv;have CZ:zaM Q zgQ 2 W ra (h.gl++ [(⟨⟨ng1,ms⟩,ma,mc⟩:Gh)]):=by
    have h0:zaM (fun j=> j=w.heap.size\/j=w.heap.size+1) zgQ 2 w6 ra (h.gl++ [(⟨⟨ng1,ms⟩,ma,mc⟩:Gh)]):=⟨JL,fun b o hb _ hq=> by have:=(Ex b o hb).1;have h9:w3.drew.heap.size=w3.heap.size:=rfl;omega⟩
    have h1:=h0.outs zaH uf h6W (Q':=fun j=> j=w.heap.size\/j=w.heap.size+1) (fun _ h=> .inl h);exact ⟨h1.row,fun b o hb hl hq=> by have:=(Ex b o hb).1;have:=HC.out.2.2 b hq;have h9:w3.drew.heap.size=w3.heap.size:=rfl;omega⟩
   have GJ:zaM Q zcm 1 W ma ms:=by
    have h0:zaM (fun j=> j < w4.heap.size) zcm 1 w5 ma ms:=⟨Hf.out.1,fun b o hb _ hq=> by have:=(Hf.out.2.1 b o hb).1;omega⟩
    have h4s:=I3.out.2.size;have WU:zD (fun j=> j < w4.heap.size) w5 w6:=zD.of_grown Hf.out.2.2.2.1 (fun r hr=> .inl (Hf.out.2.2.2.2.1 r hr));have ho:zD (fun j=> j < w4.heap.size) w5 W:=WU.trans (h6W.more (D':=fun j=> j < w4.heap.size) (fun j hj=> by omega)) (fun _ h=> .inl h)
    have h1:=h0.outs zT uf ho (Q':=fun j=> j < w4.heap.size) (fun _ h=> .inl h);exact ⟨h1.row,fun b o hb hl hq=> by have:=(Hf.out.2.1 b o hb).1;have:=HC.out.2.2 b hq;omega⟩
   rw [Ds.out.1];have Ac:=Rn.out;refine ⟨_,by rw [Ds.out.2.2];rfl, .inr ⟨rfl,{h with ga:=ra,gc:=rc,gl:=h.gl++ [(⟨⟨ng1,ms⟩,ma,mc⟩:Gh)]}, ?_, ?_⟩,CF⟩
   ·unfold Ch.val Ch.cells;simp only [List.length_append,List.length_cons,List.length_nil,Nat.zero_add]
    first | rw [Ac,Ds.out.2.2] | rw [Ac]
   refine ⟨A0.vols,A0.volsE,⟨CZ,fun x hx=> ?_⟩, ?_,A0.books,A0.booksE,A0.kept,A0.times⟩
   ·rcases List.mem_append.1 hx with hx | hx
    ·exact A0.groups.sub x hx
    simp at hx;subst hx;exact GJ
   show (h.gl++ [(⟨⟨ng1,ms⟩,ma,mc⟩:Gh)]).map Gh.v=c.groups++ [⟨c.ng+1,ms⟩]
   rw [List.map_append,<- Ds.out.2.2];exact congrArg (· ++ [(⟨ng1,ms⟩:Gp)]) A0.groupsE
end
section
open Go.RowKit
theorem zb5 (tmps:Array Value) (B:Nat) (e5 e6:Value) (v0 v1 v2 v3 v4 v5 v6 v7 v8:Value) (W:World) (h:tmps[6]? =some (.pointer (some ⟨B,0,none⟩))) (h5:tmps[7]? =some e5) (h6:tmps[8]? =some e6)
 (q:W.cell? ⟨B,0,none⟩=some v0/\W.cell? ⟨B,1,none⟩=some v1/\W.cell? ⟨B,2,none⟩=some v2/\W.cell? ⟨B,3,none⟩=some v3/\W.cell? ⟨B,4,none⟩=some v4/\W.cell? ⟨B,5,none⟩=some v5/\W.cell? ⟨B,6,none⟩=some v6/\W.cell? ⟨B,7,none⟩=some v7/\W.cell? ⟨B,8,none⟩=some v8):
 (results Tryz.f58 tmps).run Tryz.prog W= .ok (.tuple #[.agg #[v0,v1,v2,v3,v4,v5,v6,v7,v8],e5,e6]) W:=by
 obtain ⟨q0,q1,q2,q3,q4,q5,q6,q7,q8⟩:=q;simp [results,Tryz.results58,go_sem,h,h5,h6,q0,q1,q2,q3,q4,q5,q6,q7,q8]
theorem zof {Q:Nat->Prop} {w:World} {h:Ch} {c:Ct} {s0 k:Nat} (hc:zaV Q w h c) (hi:CtI c s0 k) (hQ:∀j,Q j->j < w.heap.size) (id:Int) (s:Nat):
 Calls Tryz.prog 58 #[h.val c, .int .i64 id, .int .u64 (s:Int)] w fun e w'=> ∃v,e= .returned (.tuple #[v, .int .i64 ((c.mark id s).2.2:Nat), .int .i64 ((c.mark id s).1:Nat)])/\znA Q w' v (c.mark id s).1 (c.mark id s).2.1/\Below w.heap.size w w':=by
 obtain ⟨w1,Ab⟩:∃w1,w1=(w.alloc (.cells (h.cells c) 54)).alloc (.cells zcr 54):=⟨_,rfl⟩;have Aa:Below w.heap.size w w1:=by rw [Ab];exact (zr.alloc zl _).alloc uh _
 have Ai:w1.heap.size=w.heap.size+2:=by rw [Ab,World.alloc_size,World.alloc_size]
 have hX:w1.heap[w.heap.size]? =some (.cells (h.cells c) 54 (0,0)):=by rw [Ab,Below.heap_alloc _ _ _ uh];exact heap_alloc_new w _
 have hY:w1.heap[w.heap.size+1]? =some (.cells zcr 54 (0,0)):=by
  have:=heap_alloc_new (w.alloc (.cells (h.cells c) 54)) (.cells zcr 54);rw [World.alloc_size] at this;rw [Ab];exact this
 have HP:=zh (zgp (hc.below Aa) (by have:=hi.glen;omega) id)
 have HC:=zh (zn hc (zn hi hQ));have Ak:=zh (zn Aa (zn Ai (zn hX hY)));have HE:=zh (show (h.gl.findIdx? fun x=> decide ((x.v.id:Int)=id))=c.groups.findIdx? fun x=> decide ((x.id:Int)=id) by rw [<- hc.groupsE,zdA])
 have Im:=zh (show c.mark id s=match c.group id with
  | none=> (42,c,0)
  | some g=> if 8<=c.books.length\/65535<=c.nb then (32,c,0) else (0,{c with nb:=c.nb+1,books:=c.books++ [⟨c.nb+1,s,g.ms⟩]},c.nb+1) from rfl)
 obtain ⟨x0,x1,x2,x3,x4,x5,x6,x7,x8,-⟩:=zaf hX;clear hc hi hQ Aa Ai hX hY;unfold Ch.val at *;unfold Ch.cells zcr at *;go_in;go_upto_region 1 with fail;rw [<- Ab];clear Ab;go_wp2_with fail;refine HP.out.mono ?_;rintro e wr ⟨rfl,hb⟩;have A7:=(hb.block w.heap.size ui).trans Ak.out.2.2.1;have BD:=(hb.block (w.heap.size+1) ui).trans Ak.out.2.2.2;have HB:=zh (zn (Ak.out.1.trans (hb.mono Ak.out.1.size)) (zn hb (zn A7 BD)));obtain ⟨x0,x1,x2,x3,x4,x5,x6,x7,x8,xf⟩:=zaf (h:=h) (c:=c) A7;obtain ⟨y0,y1,y2,y3,y4,y5,y6,y7,y8,yf⟩:=zJ BD;have f0:=yf 0;have f1:=yf 1;have f2:=yf 2;have f3:=yf 3;have f4:=yf 4;have f5:=yf 5;have f6:=yf 6;have f7:=yf 7;have f8:=yf 8;clear hb HP;have Ad:=zeE BD (.int .i64 0) (.int .i64 0) (.int .i64 0) (.int .u64 0) (.slice none 0 0) (.slice none 0 0) (.slice none 0 0) (.slice none 0 0) (.slice none 0 0);have Au:=zG HB.out.1 (show w.heap.size<=w.heap.size+1 by omega) (.int .i64 0) (.int .i64 0) (.int .i64 0) (.int .u64 0) (.slice none 0 0) (.slice none 0 0) (.slice none 0 0) (.slice none 0 0) (.slice none 0 0)
 obtain ⟨r0,r1,r2,r3,r4,r5,r6,r7,r8,-⟩:=zJ Ad;have BU:=zh (zn (zn r0 (zn r1 (zn r2 (zn r3 (zn r4 (zn r5 (zn r6 (zn r7 r8)))))))) Au);clear Ad Au r0 r1 r2 r3 r4 r5 r6 r7 r8
 cases hf:c.groups.findIdx? fun x=> decide ((x.id:Int)=id) with
 | none=>
   have HZ:Hid (c.mark id s=(42,c,0)):=zh (by rw [Im.out,show c.group id=none from zbt hf])
   clear hf yf xf A7 BD
   dsimp only [zf0]
   go_wp2_with fail;refine bodyPost_ret (zb5 _ (w.heap.size+1) _ _ _ _ _ _ _ _ _ _ _ _ rfl rfl rfl BU.out.1) rfl ?_;exact ⟨_,by rw [HZ.out];rfl,by rw [HZ.out];exact .inl ⟨show (42:Nat)≠0 by decide,_,rfl,rfl⟩,BU.out.2⟩
 | some i=>
   have De:=(zbi hf).2;have Tq:h.gl.length=c.groups.length:=by rw [<- HC.out.1.groupsE,List.length_map]
   obtain ⟨x,hx⟩:∃x,h.gl[i]? =some x:=⟨_,ze ud⟩;have NB:c.group id=some x.v:=by
    unfold Ct.group;rw [(zbi hf).1,<- HC.out.1.groupsE,List.getElem?_map,hx]
    rfl
   have EH:Hid (c.mark id s=if 8<=c.books.length\/65535<=c.nb then (32,c,0) else (0,{c with nb:=c.nb+1,books:=c.books++ [⟨c.nb+1,s,x.v.ms⟩]},c.nb+1)):=zh (by rw [Im.out,NB])
   have i0:¬(i:Int) < 0:=ud;have i1:(0:Int)<=(i:Int):=ud;have i2:(i:Int) < (c.groups.length:Int):=ud;have OD:=zh hx;clear hf NB Tq De hx
   dsimp only [zf0]
   by_cases B5:8<=c.books.length\/65535<=c.nb
   ·have HZ:Hid (c.mark id s=(32,c,0)):=zh (by rw [EH.out,if_pos B5])
    clear yf xf A7 BD
    by_cases h4:8<=c.books.length
    ·have i8:(8:Int)<=(c.books.length:Int):=ud;clear B5 h4;go_wp2_with fail;refine bodyPost_ret (zb5 _ (w.heap.size+1) _ _ _ _ _ _ _ _ _ _ _ _ rfl rfl rfl BU.out.1) rfl ?_;exact ⟨_,by rw [HZ.out];rfl,by rw [HZ.out];exact .inl ⟨show (32:Nat)≠0 by decide,_,rfl,rfl⟩,BU.out.2⟩
    have i8:¬(8:Int)<=(c.books.length:Int):=ud;have i9:(65535:Int)<=(c.nb:Int):=ud;clear B5 h4;go_wp2_with fail;refine bodyPost_ret (zb5 _ (w.heap.size+1) _ _ _ _ _ _ _ _ _ _ _ _ rfl rfl rfl BU.out.1) rfl ?_;exact ⟨_,by rw [HZ.out];rfl,by rw [HZ.out];exact .inl ⟨show (32:Nat)≠0 by decide,_,rfl,rfl⟩,BU.out.2⟩
   have AP:=HC.out.1.groups.sub x (zm OD.out);have HM:=zh AP.row;have KJ:x.v.ms.length<=8:=(HC.out.2.1.groups x.v (by rw [<- HC.out.1.groupsE];exact List.mem_map.2 ⟨x,zm OD.out,rfl⟩)).2.len
   clear BU;have i8:¬(8:Int)<=(c.books.length:Int):=ud;have i9:¬(65535:Int)<=(c.nb:Int):=ud;obtain ⟨nb1,TC⟩:∃m,m=c.nb+1:=⟨_,rfl⟩;have i10:IntKind.i64.wrap ((c.nb:Int)+1)=(nb1:Int):=by rw [zw _ ud];omega
   have Ds:=zh (zn (show c.mark id s=(0,{c with nb:=c.nb+1,books:=c.books++ [⟨c.nb+1,s,x.v.ms⟩]},c.nb+1) by rw [EH.out,if_neg B5]) (zn B5 TC))
   have g1:=xf 2;obtain ⟨w3,Dv⟩:∃w3,w3=wr.setCell ⟨w.heap.size,2,none⟩ (.int .i64 (nb1:Int)):=⟨_,rfl⟩;have C0:w3.heap[w.heap.size]? =some (.cells #[.int .i64 (c.nv:Int), .int .i64 (c.ng:Int), .int .i64 (nb1:Int), .int .u64 (c.fl:Int), .slice h.va c.vols.length h.vc, .slice h.ga c.groups.length h.gc, .slice h.ba c.books.length h.bc, .slice h.ka c.kept.length h.kc, .slice h.ta c.times.length h.tc] 54 (0,0)):=by
       rw [Dv];exact heap_setCell_same _ _ 2 _ _ _ A7
   have AM:wr.grownBy w3 (some w.heap.size):=by rw [Dv];exact zq wr ⟨w.heap.size,2,none⟩ _
   have G3:=(AM.block (w.heap.size+1) (zg BD).1 uh).trans BD;have A4:Below w.heap.size w w3:=⟨AM.os.trans HB.out.1.os,AM.tape.trans HB.out.1.tape,AM.output.trans HB.out.1.output,zs HB.out.1.size AM.size,fun j hj=> (AM.block j (zt hj HB.out.1.size) uo).trans (HB.out.1.block j hj)⟩;have AI:=zh (zn C0 (zn G3 A4));have Ts:w.heap.size+2<=w3.heap.size:=by have:=Ak.out.2.1;have:=HB.out.2.1.size;have:=AM.size;omega
   clear B5 TC A7 BD xf yf;go_upto_region 7 with fail;rw [<- Dv];clear Dv x0 x1 x2 x3 x4 x5 x6 x7 x8 y0 y1 y2 y3 y4 y5 y6 y7 y8 f0 f1 f2 f3 f4 f5 f6 f7 f8 g1 i8 i9 i10;have Ac:h.bl.length=c.books.length:=by rw [<- HC.out.1.booksE,List.length_map]
   have Ah:=HC.out.1.books.row.row;rw [Ac] at Ah;have EO:Below w3.heap.size w3 w3.drew:=zr.drew;have By:=zh (zga (w:=w3.drew) (c:=h.bc) ((Ah.below A4 zl).below EO zl) ubi);have VZ:=zh (fun (W:World) (hW:Below w3.heap.size w3 W)=> zd5 (c:=x.c) ((HM.out.below A4 zl).below hW zl) ud);have HX:=zh (fun (W:World) (hW:Below w3.heap.size w3 W)=> (hW.block w.heap.size (zg C0).1).trans C0);have Rn:=zh Ac;obtain ⟨gb,go,DS,SX⟩:=HC.out.1.groups.row.row.2 i x OD.out;have CT:=SX 1 (.slice x.a x.v.ms.length x.c) rfl;have G6:gb < w.heap.size:=zgC CT;have WR:Hid (∀W:World,Below w3.heap.size w3 W->W.cell? ⟨gb,go+i * 2+1,none⟩=some (.slice x.a x.v.ms.length x.c)):=zh fun W hW=> (zY ((hW.block gb (zt G6 A4.size)).trans (A4.block gb G6)) _).trans CT;have EA:Hid (∀W:World,Below w3.heap.size w3 W->W.cell? ⟨w.heap.size,5,none⟩=some (.slice (some ⟨gb,go,none⟩) c.groups.length h.gc)):=zh fun W hW=> by rw [<- DS];exact cell_of_row _ _ 5 _ _ _ (HX.out _ hW)
   have Av:True/\(w3.drew.cell? ⟨w.heap.size,6,none⟩=some (.slice h.ba c.books.length h.bc)/\w3.drew.cell? ⟨w.heap.size,2,none⟩=some (.int .i64 (nb1:Int))/\w3.drew.cell? ⟨w.heap.size,5,none⟩=some (.slice (some ⟨gb,go,none⟩) c.groups.length h.gc)/\w3.drew.cell? ⟨gb,go+i * 2+1,none⟩=some (.slice x.a x.v.ms.length x.c)):=⟨trivial,cell_of_row _ _ 6 _ _ _ (HX.out _ EO),cell_of_row _ _ 2 _ _ _ (HX.out _ EO),EA.out _ EO,WR.out _ EO⟩;clear Ah Ac C0 AM G3 A4 EO DS SX CT G6;refine zy ue [14,15,16,17] (fun _=> True) (fun W=> W.cell? ⟨w.heap.size,6,none⟩=some (.slice h.ba c.books.length h.bc)/\W.cell? ⟨w.heap.size,2,none⟩=some (.int .i64 (nb1:Int))/\W.cell? ⟨w.heap.size,5,none⟩=some (.slice (some ⟨gb,go,none⟩) c.groups.length h.gc)/\W.cell? ⟨gb,go+i * 2+1,none⟩=some (.slice x.a x.v.ms.length x.c)) ?_;refine tS 0 Av ?_;refine tS 1 Av ?_;refine tS 3 Av ?_;refine tS 4 Av ?_;refine tS 5 Av ?_;refine tS 6 Av ?_;refine tS 7 Av ?_;refine tS 8 Av ?_;refine tS 9 Av ?_;refine tS 10 Av ?_;refine tS 11 Av ?_;refine zd (i:=2) ue rfl (fun K hK=> ?_);refine zA (o:=⟨some 32,_,_,_,_,_⟩) ue 97 Tryz.func97 ue rfl _ _ rfl #[.slice h.ba c.books.length h.bc] uA By.out ?_;rintro r w4 ⟨v4,rfl,Bf,Ar⟩;refine ⟨v4,rfl, ?_⟩;have Bt:Below w3.heap.size w3 w4:=(zr.drew).trans Ar;have OO:True/\(w4.cell? ⟨w.heap.size,6,none⟩=some (.slice h.ba c.books.length h.bc)/\w4.cell? ⟨w.heap.size,2,none⟩=some (.int .i64 (nb1:Int))/\w4.cell? ⟨w.heap.size,5,none⟩=some (.slice (some ⟨gb,go,none⟩) c.groups.length h.gc)/\w4.cell? ⟨gb,go+i * 2+1,none⟩=some (.slice x.a x.v.ms.length x.c)):=⟨trivial,cell_of_row _ _ 6 _ _ _ (HX.out _ Bt),cell_of_row _ _ 2 _ _ _ (HX.out _ Bt),EA.out _ Bt,WR.out _ Bt⟩;have I3:=zh (zn Bf Bt);refine hK.out _ _ ⟨OO.1,fun _=> OO.2⟩ ?_
   try simp only [Act.put,zSs]
   clear hK K By Bf Ar Av OO;refine zd (i:=12) ue rfl (fun K hK=> ?_);refine zA (o:=⟨some 42,_,_,_,_,_⟩) ue 94 Tryz.func94 ue rfl _ _ rfl #[.slice x.a x.v.ms.length x.c] uA (VZ.out _ Bt) ?_;rintro r w5 ⟨v5,rfl,AV,Ag⟩;refine ⟨v5,rfl, ?_⟩;obtain ⟨ma,mc,rfl,Jm,-,JJ⟩:=AV.row zT;have Dj:Below w3.heap.size w3 w5:=Bt.trans (Ag.mono Bt.size);have Hq:True/\(w5.cell? ⟨w.heap.size,6,none⟩=some (.slice h.ba c.books.length h.bc)/\w5.cell? ⟨w.heap.size,2,none⟩=some (.int .i64 (nb1:Int))/\w5.cell? ⟨w.heap.size,5,none⟩=some (.slice (some ⟨gb,go,none⟩) c.groups.length h.gc)/\w5.cell? ⟨gb,go+i * 2+1,none⟩=some (.slice x.a x.v.ms.length x.c)):=⟨trivial,cell_of_row _ _ 6 _ _ _ (HX.out _ Dj),cell_of_row _ _ 2 _ _ _ (HX.out _ Dj),EA.out _ Dj,WR.out _ Dj⟩;have If:=I3.out.1.below Ag zl;obtain ⟨v6,w6,NU,Bv,AX⟩:=zK.pushG zaG uf zeR Tryz.underlying50 zjZ rfl uf If (⟨⟨nb1,s,x.v.ms⟩,ma,mc⟩:Bh) (by have:=Ds.out.2.1;have:=Rn.out;omega) Dj.size
   have DZ:Below w3.heap.size w3 w6:=Below.own Dj If AX zl Dj.size;have Hf:=zh (zn Jm (zn JJ (zn Dj (zn AX (zn (fun g hg=> (I3.out.1.lt g hg).2) (zn Bv DZ))))));obtain ⟨ra,rn,rc,rfl⟩:=Bv.form;have e4:=cell_of_row _ _ 6 _ _ _ (HX.out _ DZ);have e5:w6.frozen? ⟨w.heap.size,6,none⟩=false:=by simp [World.frozen?,HX.out _ DZ]
   have Nr:=heap_setCell_same w6 w.heap.size 6 _ _ (.slice ra rn rc) (HX.out _ DZ);have EJ:=zh (zn Nr (zn (zq w6 ⟨w.heap.size,6,none⟩ (.slice ra rn rc)) ((DZ.block (w.heap.size+1) (zg AI.out.2.1).1).trans AI.out.2.1)));unfold zgP at NU;refine hK.out _ _ ⟨Hq.1,fun _=> Hq.2⟩ ?_
   try simp only [Act.put,zSs]
   have Av:=Hq;clear hK K AV Ag Hq If Bv AX DZ Jm JJ Nr;refine tS 13 Av ?_;refine zd (i:=14) ue rfl (fun K hK=> ?_);go_simp;refine hK.out _ _ ⟨trivial,fun h=> absurd h uf⟩ ?_;clear hK K Av;refine zd (i:=15) ue rfl (fun K hK=> ?_);refine zL (o:=⟨some 45,_,_,_,_,_⟩) rfl _ _ 50 50 rfl _ _ us us NU ?_
   try simp only [Act.put,zSs]
   refine hK.out _ _ ⟨trivial,fun h=> absurd h uf⟩ ?_;clear hK K;refine zd (i:=16) ue rfl (fun K hK=> ?_);go_simp;refine hK.out _ _ ⟨trivial,fun h=> absurd h uf⟩ ?_;clear hK K;refine zd (i:=17) ue rfl (fun K hK=> ?_);go_simp;refine hK.out _ _ ⟨trivial,fun h=> absurd h uf⟩ ?_;clear hK K;refine zI ue ?_ _;go_upto_region 8 with fail;obtain ⟨x0,x1,x2,x3,x4,x5,x6,x7,x8,-⟩:=zJ EJ.out.1;obtain ⟨y0,y1,y2,y3,y4,y5,y6,y7,y8,yf⟩:=zJ ((EJ.out.2.1.block (w.heap.size+1) (zg EJ.out.2.2).1 uh).trans EJ.out.2.2);have f0:=yf 0;have f1:=yf 1;have f2:=yf 2;have f3:=yf 3;have f4:=yf 4;have f5:=yf 5;have f6:=yf 6;have f7:=yf 7;have f8:=yf 8;have HY:=zh ((EJ.out.2.1.block (w.heap.size+1) (zg EJ.out.2.2).1 uh).trans EJ.out.2.2);have Wd:=zh EJ.out.2.1;clear EJ yf e4 e5;generalize World.setCell w6 (⟨w.heap.size,6,none⟩:Addr) _=w7 at *
   go_region_law (fail)
   all_goals
       go_wp2_with fail;have Ad:=zeE HY.out (.int .i64 (c.nv:Int)) (.int .i64 (c.ng:Int)) (.int .i64 (nb1:Int)) (.int .u64 (c.fl:Int)) (.slice h.va c.vols.length h.vc) (.slice h.ga c.groups.length h.gc) (.slice ra rn rc) (.slice h.ka c.kept.length h.kc) (.slice h.ta c.times.length h.tc);have BL:=zae (B:=w.heap.size+1) (zD.refl _ w7) rfl (.int .i64 (c.nv:Int)) (.int .i64 (c.ng:Int)) (.int .i64 (nb1:Int)) (.int .u64 (c.fl:Int)) (.slice h.va c.vols.length h.vc) (.slice h.ga c.groups.length h.gc) (.slice ra rn rc) (.slice h.ka c.kept.length h.kc) (.slice h.ta c.times.length h.tc);generalize World.setCell _ (⟨w.heap.size+1,8,none⟩:Addr) _=W at *;obtain ⟨r0,r1,r2,r3,r4,r5,r6,r7,r8,-⟩:=zJ (W:=W.drew) (show W.drew.heap[w.heap.size+1]? =_ from Ad);have CK:zD (fun j=> j=w.heap.size+1) w7 W.drew:=⟨BL.os,BL.tape,BL.output,BL.size,BL.block⟩
       try simp only [Act.put,List.getElem_toArray,List.getElem_cons_zero,List.getElem_cons_succ,zSs]
       refine bodyPost_ret (zb5 _ (w.heap.size+1) _ _ _ _ _ _ _ _ _ _ _ _ rfl rfl rfl ⟨r0,r1,r2,r3,r4,r5,r6,r7,r8⟩) rfl ?_;clear Ad r0 r1 r2 r3 r4 r5 r6 r7 r8 BL x0 x1 x2 x3 x4 x5 x6 x7 x8 y0 y1 y2 y3 y4 y5 y6 y7 y8 f0 f1 f2 f3 f4 f5 f6 f7 f8;generalize W.drew=W at *;have I4:=Hf.out.2.2.2.2.2.2;have A4:=AI.out.2.2;have h6W:zD (fun j=> j=w.heap.size\/j=w.heap.size+1) w6 W:=(zD.turn (D:=fun j=> j=w.heap.size\/j=w.heap.size+1) Wd.out (.inl rfl)).trans (CK.more (D':=fun j=> j=w.heap.size\/j=w.heap.size+1) (fun _ h=> .inr h)) (fun _ h=> .inl h);have CF:Below w.heap.size w W:=⟨h6W.os.trans (I4.os.trans A4.os),h6W.tape.trans (I4.tape.trans A4.tape),h6W.output.trans (I4.output.trans A4.output),zs A4.size (zs I4.size h6W.size),fun j hj=> (h6W.block j (zt (zt hj A4.size) I4.size) ud).trans ((I4.block j (zt hj A4.size)).trans (A4.block j hj))⟩;have A0:=HC.out.1.below CF;have Bv:=Hf.out.2.2.2.2.2.1;obtain ⟨ra',rc',hv,JL,-,Ex⟩:=Bv.row zaG;simp only [Value.slice.injEq] at hv;obtain ⟨rfl,rfl,rfl⟩:=hv;have CZ:zaM Q zgP 3 W ra (h.bl++ [(⟨⟨nb1,s,x.v.ms⟩,ma,mc⟩:Bh)]):=by
        have h0:zaM (fun j=> j=w.heap.size\/j=w.heap.size+1) zgP 3 w6 ra (h.bl++ [(⟨⟨nb1,s,x.v.ms⟩,ma,mc⟩:Bh)]):=⟨JL,fun b o hb _ hq=> by have:=(Ex b o hb).1;have h9:w3.drew.heap.size=w3.heap.size:=rfl;omega⟩
        have h1:=h0.outs zaG uf h6W (Q':=fun j=> j=w.heap.size\/j=w.heap.size+1) (fun _ h=> .inl h);exact ⟨h1.row,fun b o hb hl hq=> by have:=(Ex b o hb).1;have:=HC.out.2.2 b hq;have h9:w3.drew.heap.size=w3.heap.size:=rfl;omega⟩
       have GJ:zaM Q zcm 1 W ma x.v.ms:=by
        have h0:zaM (fun j=> j < w4.heap.size) zcm 1 w5 ma x.v.ms:=⟨Hf.out.1,fun b o hb _ hq=> by have:=(Hf.out.2.1 b o hb).1;omega⟩
        have h4s:=I3.out.2.size;have WU:zD (fun j=> j < w4.heap.size) w5 w6:=zD.of_grown Hf.out.2.2.2.1 (fun r hr=> .inl (Hf.out.2.2.2.2.1 r hr));have ho:zD (fun j=> j < w4.heap.size) w5 W:=WU.trans (h6W.more (D':=fun j=> j < w4.heap.size) (fun j hj=> by omega)) (fun _ h=> .inl h)
        have h1:=h0.outs zT uf ho (Q':=fun j=> j < w4.heap.size) (fun _ h=> .inl h);exact ⟨h1.row,fun b o hb hl hq=> by have:=(Hf.out.2.1 b o hb).1;have:=HC.out.2.2 b hq;omega⟩
       rw [Ds.out.1];have Ac:=Rn.out;refine ⟨_,by rw [Ds.out.2.2];rfl, .inr ⟨rfl,{h with ba:=ra,bc:=rc,bl:=h.bl++ [(⟨⟨nb1,s,x.v.ms⟩,ma,mc⟩:Bh)]}, ?_, ?_⟩,CF⟩
       ·unfold Ch.val Ch.cells;simp only [List.length_append,List.length_cons,List.length_nil,Nat.zero_add]
        first | rw [Ac,Ds.out.2.2] | rw [Ac]
       refine ⟨A0.vols,A0.volsE,A0.groups,A0.groupsE,⟨CZ,fun y hy=> ?_⟩, ?_,A0.kept,A0.times⟩
       ·rcases List.mem_append.1 hy with hy | hy
        ·exact A0.books.sub y hy
        simp at hy;subst hy;exact GJ
       show (h.bl++ [(⟨⟨nb1,s,x.v.ms⟩,ma,mc⟩:Bh)]).map Bh.v=c.books++ [⟨c.nb+1,s,x.v.ms⟩]
       rw [List.map_append,<- Ds.out.2.2];exact congrArg (· ++ [(⟨nb1,s,x.v.ms⟩:Bk)]) A0.booksE
end
end Go.Proofs.YtaoceecfjlkmdaaGreat
