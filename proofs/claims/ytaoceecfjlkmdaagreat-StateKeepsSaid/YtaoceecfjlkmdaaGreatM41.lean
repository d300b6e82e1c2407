/- Lemmas of the walks, merged and pressed by press.py. Conditions: those of each theorem. -/
import Derived.Test.YtaoceecfjlkmdaaGreatM40
import Derived.Test.YtaoceecfjlkmdaaGreatM31
import Derived.Test.YtaoceecfjlkmdaaGreatM24
import Derived.Test.YtaoceecfjlkmdaaGreatM25
import Derived.Test.YtaoceecfjlkmdaaGreatM28
import Derived.Shelf.Spec.BitsCarry
import Derived.Deep.CutBlock
set_option maxRecDepth 100000
set_option maxHeartbeats 64000000
set_option linter.all false
namespace Go.Proofs.YtaoceecfjlkmdaaGreat
open Tryz
section
open Go.RowKit
theorem zb5 (tmps:Array Value) (B:Nat) (e5 e6:Value) (v0 v1 v2 v3 v4 v5 v6 v7 v8:Value) (W:World) (h:tmps[6]? =some (.pointer (some ⟨B,0,none⟩))) (h5:tmps[7]? =some e5) (h6:tmps[8]? =some e6)
 (q:W.cell? ⟨B,0,none⟩=some v0/\W.cell? ⟨B,1,none⟩=some v1/\W.cell? ⟨B,2,none⟩=some v2/\W.cell? ⟨B,3,none⟩=some v3/\W.cell? ⟨B,4,none⟩=some v4/\W.cell? ⟨B,5,none⟩=some v5/\W.cell? ⟨B,6,none⟩=some v6/\W.cell? ⟨B,7,none⟩=some v7/\W.cell? ⟨B,8,none⟩=some v8):
 (results Tryz.f58 tmps).run Tryz.prog W= .ok (.tuple #[.agg #[v0,v1,v2,v3,v4,v5,v6,v7,v8],e5,e6]) W:=by
 obtain ⟨q0,q1,q2,q3,q4,q5,q6,q7,q8⟩:=q;simp [results,Tryz.results58,go_sem,h,h5,h6,q0,q1,q2,q3,q4,q5,q6,q7,q8]
theorem zof {Q:Nat->Prop} {w:World} {h:Ch} {c:Ct} {s0 k:Nat} (hc:zaV Q w h c) (hi:CtI c s0 k) (hQ:∀j,Q j->j < w.heap.size) (id:Int) (s:Nat):
 Calls Tryz.prog 58 #[h.val c, .int .i64 id, .int .u64 (s:Int)] w fun e w'=> ∃v,e= .returned (.tuple #[v, .int .i64 ((c.mark id s).2.2:Nat), .int .i64 ((c.mark id s).1:Nat)])/\znA Q w' v (c.mark id s).1 (c.mark id s).2.1/\Below w.heap.size w w':=by
 obtain ⟨w1,Ab⟩:∃w1,w1=(w.alloc (.cells (h.cells c) 54)).alloc (.cells zcr 54):=⟨_,rfl⟩;have Aa:Below w.heap.size w w1:=by rw [Ab];exact (zr.alloc zl _).alloc uh _
 have Ai:w1.heap.size=w.heap.size+2:=by rw [Ab,World.alloc_size,World.alloc_size]
 have hX:w1.heap[w.heap.size]? =some (.cells (h.cells c) 54 (0,0)):=by rw [Ab,Below.heap_alloc _ _ _ uh];exact heap_alloc_new w _
 have hY:w1.heap[w.heap.size+1]? =some (.cells zcr 54 (0,0)):=by
  have:=heap_alloc_new (w.alloc (.cells (h.cells c) 54)) (.cells zcr 54);rw [World.alloc_size] at this;rw [Ab];exact this
 have HP:=zh (zgp (hc.below Aa) (by have:=hi.glen;omega) id)
 have HC:=zh (zn hc (zn hi hQ));have Ak:=zh (zn Aa (zn Ai (zn hX hY)));have HE:=zh (show (h.gl.findIdx? fun x=> decide ((x.v.id:Int)=id))=c.groups.findIdx? fun x=> decide ((x.id:Int)=id) by rw [<- hc.groupsE,zdA])
 have Im:=zh (show c.mark id s=match c.group id with
  | none=> (42,c,0)
  | some g=> if 8<=c.books.length\/65535<=c.nb then (32,c,0) else (0,{c with nb:=c.nb+1,books:=c.books++ [⟨c.nb+1,s,g.ms⟩]},c.nb+1) from rfl)
 obtain ⟨x0,x1,x2,x3,x4,x5,x6,x7,x8,-⟩:=zaf hX;clear hc hi hQ Aa Ai hX hY;unfold Ch.val at *;unfold Ch.cells zcr at *;go_in;go_upto_region 1 with fail;rw [<- Ab];clear Ab;go_wp2_with fail;refine HP.out.mono ?_;rintro e wr ⟨rfl,hb⟩;have A7:=(hb.block w.heap.size ui).trans Ak.out.2.2.1;have BD:=(hb.block (w.heap.size+1) ui).trans Ak.out.2.2.2;have HB:=zh (zn (Ak.out.1.trans (hb.mono Ak.out.1.size)) (zn hb (zn A7 BD)));obtain ⟨x0,x1,x2,x3,x4,x5,x6,x7,x8,xf⟩:=zaf (h:=h) (c:=c) A7;obtain ⟨y0,y1,y2,y3,y4,y5,y6,y7,y8,yf⟩:=zJ BD;have f0:=yf 0;have f1:=yf 1;have f2:=yf 2;have f3:=yf 3;have f4:=yf 4;have f5:=yf 5;have f6:=yf 6;have f7:=yf 7;have f8:=yf 8;clear hb HP;have Ad:=zeE BD (.int .i64 0) (.int .i64 0) (.int .i64 0) (.int .u64 0) (.slice none 0 0) (.slice none 0 0) (.slice none 0 0) (.slice none 0 0) (.slice none 0 0);have Au:=zG HB.out.1 (show w.heap.size<=w.heap.size+1 by omega) (.int .i64 0) (.int .i64 0) (.int .i64 0) (.int .u64 0) (.slice none 0 0) (.slice none 0 0) (.slice none 0 0) (.slice none 0 0) (.slice none 0 0)
 obtain ⟨r0,r1,r2,r3,r4,r5,r6,r7,r8,-⟩:=zJ Ad;have BU:=zh (zn (zn r0 (zn r1 (zn r2 (zn r3 (zn r4 (zn r5 (zn r6 (zn r7 r8)))))))) Au);clear Ad Au r0 r1 r2 r3 r4 r5 r6 r7 r8
 cases hf:c.groups.findIdx? fun x=> decide ((x.id:Int)=id) with
 | none=>
   have HZ:Hid (c.mark id s=(42,c,0)):=zh (by rw [Im.out,show c.group id=none from zbt hf])
   clear hf yf xf A7 BD
   dsimp only [zf0]
   go_wp2_with fail;refine bodyPost_ret (zb5 _ (w.heap.size+1) _ _ _ _ _ _ _ _ _ _ _ _ rfl rfl rfl BU.out.1) rfl ?_;exact ⟨_,by rw [HZ.out];rfl,by rw [HZ.out];exact .inl ⟨show (42:Nat)≠0 by decide,_,rfl,rfl⟩,BU.out.2⟩
 | some i=>
   have De:=(zbi hf).2;have Tq:h.gl.length=c.groups.length:=by rw [<- HC.out.1.groupsE,List.length_map]
   obtain ⟨x,hx⟩:∃x,h.gl[i]? =some x:=⟨_,ze ud⟩;have NB:c.group id=some x.v:=by
    unfold Ct.group;rw [(zbi hf).1,<- HC.out.1.groupsE,List.getElem?_map,hx]
    rfl
   have EH:Hid (c.mark id s=if 8<=c.books.length\/65535<=c.nb then (32,c,0) else (0,{c with nb:=c.nb+1,books:=c.books++ [⟨c.nb+1,s,x.v.ms⟩]},c.nb+1)):=zh (by rw [Im.out,NB])
   have i0:¬(i:Int) < 0:=ud;have i1:(0:Int)<=(i:Int):=ud;have i2:(i:Int) < (c.groups.length:Int):=ud;have OD:=zh hx;clear hf NB Tq De hx
   dsimp only [zf0]
   by_cases B5:8<=c.books.length\/65535<=c.nb
   ·have HZ:Hid (c.mark id s=(32,c,0)):=zh (by rw [EH.out,if_pos B5])
    clear yf xf A7 BD
    by_cases h4:8<=c.books.length
    ·have i8:(8:Int)<=(c.books.length:Int):=ud;clear B5 h4;go_wp2_with fail;refine bodyPost_ret (zb5 _ (w.heap.size+1) _ _ _ _ _ _ _ _ _ _ _ _ rfl rfl rfl BU.out.1) rfl ?_;exact ⟨_,by rw [HZ.out];rfl,by rw [HZ.out];exact .inl ⟨show (32:Nat)≠0 by decide,_,rfl,rfl⟩,BU.out.2⟩
    have i8:¬(8:Int)<=(c.books.length:Int):=ud;have i9:(65535:Int)<=(c.nb:Int):=ud;clear B5 h4;go_wp2_with fail;refine bodyPost_ret (zb5 _ (w.heap.size+1) _ _ _ _ _ _ _ _ _ _ _ _ rfl rfl rfl BU.out.1) rfl ?_;exact ⟨_,by rw [HZ.out];rfl,by rw [HZ.out];exact .inl ⟨show (32:Nat)≠0 by decide,_,rfl,rfl⟩,BU.out.2⟩
   have AP:=HC.out.1.groups.sub x (zm OD.out);have HM:=zh AP.row;have KJ:x.v.ms.length<=8:=(HC.out.2.1.groups x.v (by rw [<- HC.out.1.groupsE];exact List.mem_map.2 ⟨x,zm OD.out,rfl⟩)).2.len
   clear BU;have i8:¬(8:Int)<=(c.books.length:Int):=ud;have i9:¬(65535:Int)<=(c.nb:Int):=ud;obtain ⟨nb1,TC⟩:∃m,m=c.nb+1:=⟨_,rfl⟩;have i10:IntKind.i64.wrap ((c.nb:Int)+1)=(nb1:Int):=by rw [zw _ ud];omega
   have Ds:=zh (zn (show c.mark id s=(0,{c with nb:=c.nb+1,books:=c.books++ [⟨c.nb+1,s,x.v.ms⟩]},c.nb+1) by rw [EH.out,if_neg B5]) (zn B5 TC))
   have g1:=xf 2;obtain ⟨w3,Dv⟩:∃w3,w3=wr.setCell ⟨w.heap.size,2,none⟩ (.int .i64 (nb1:Int)):=⟨_,rfl⟩;have C0:w3.heap[w.heap.size]? =some (.cells #[.int .i64 (c.nv:Int), .int .i64 (c.ng:Int), .int .i64 (nb1:Int), .int .u64 (c.fl:Int), .slice h.va c.vols.length h.vc, .slice h.ga c.groups.length h.gc, .slice h.ba c.books.length h.bc, .slice h.ka c.kept.length h.kc, .slice h.ta c.times.length h.tc] 54 (0,0)):=by
       rw [Dv];exact heap_setCell_same _ _ 2 _ _ _ A7
   have AM:wr.grownBy w3 (some w.heap.size):=by rw [Dv];exact zq wr ⟨w.heap.size,2,none⟩ _
   have G3:=(AM.block (w.heap.size+1) (zg BD).1 uh).trans BD;have A4:Below w.heap.size w w3:=⟨AM.os.trans HB.out.1.os,AM.tape.trans HB.out.1.tape,AM.output.trans HB.out.1.output,zs HB.out.1.size AM.size,fun j hj=> (AM.block j (zt hj HB.out.1.size) uo).trans (HB.out.1.block j hj)⟩;have AI:=zh (zn C0 (zn G3 A4));have Ts:w.heap.size+2<=w3.heap.size:=by have:=Ak.out.2.1;have:=HB.out.2.1.size;have:=AM.size;omega
   clear B5 TC A7 BD xf yf;go_upto_region 7 with fail;rw [<- Dv];clear Dv x0 x1 x2 x3 x4 x5 x6 x7 x8 y0 y1 y2 y3 y4 y5 y6 y7 y8 f0 f1 f2 f3 f4 f5 f6 f7 f8 g1 i8 i9 i10;have Ac:h.bl.length=c.books.length:=by rw [<- HC.out.1.booksE,List.length_map]
   have Ah:=HC.out.1.books.row.row;rw [Ac] at Ah;have EO:Below w3.heap.size w3 w3.drew:=zr.drew;have By:=zh (zga (w:=w3.drew) (c:=h.bc) ((Ah.below A4 zl).below EO zl) ubi);have VZ:=zh (fun (W:World) (hW:Below w3.heap.size w3 W)=> zd5 (c:=x.c) ((HM.out.below A4 zl).below hW zl) ud);have HX:=zh (fun (W:World) (hW:Below w3.heap.size w3 W)=> (hW.block w.heap.size (zg C0).1).trans C0);have Rn:=zh Ac;obtain ⟨gb,go,DS,SX⟩:=HC.out.1.groups.row.row.2 i x OD.out;have CT:=SX 1 (.slice x.a x.v.ms.length x.c) rfl;have G6:gb < w.heap.size:=zgC CT;have WR:Hid (∀W:World,Below w3.heap.size w3 W->W.cell? ⟨gb,go+i * 2+1,none⟩=some (.slice x.a x.v.ms.length x.c)):=zh fun W hW=> (zY ((hW.block gb (zt G6 A4.size)).trans (A4.block gb G6)) _).trans CT;have EA:Hid (∀W:World,Below w3.heap.size w3 W->W.cell? ⟨w.heap.size,5,none⟩=some (.slice (some ⟨gb,go,none⟩) c.groups.length h.gc)):=zh fun W hW=> by rw [<- DS];exact cell_of_row _ _ 5 _ _ _ (HX.out _ hW)
   have Av:True/\(w3.drew.cell? ⟨w.heap.size,6,none⟩=some (.slice h.ba c.books.length h.bc)/\w3.drew.cell? ⟨w.heap.size,2,none⟩=some (.int .i64 (nb1:Int))/\w3.drew.cell? ⟨w.heap.size,5,none⟩=some (.slice (some ⟨gb,go,none⟩) c.groups.length h.gc)/\w3.drew.cell? ⟨gb,go+i * 2+1,none⟩=some (.slice x.a x.v.ms.length x.c)):=⟨trivial,cell_of_row _ _ 6 _ _ _ (HX.out _ EO),cell_of_row _ _ 2 _ _ _ (HX.out _ EO),EA.out _ EO,WR.out _ EO⟩;clear Ah Ac C0 AM G3 A4 EO DS SX CT G6;refine zy ue [14,15,16,17] (fun _=> True) (fun W=> W.cell? ⟨w.heap.size,6,none⟩=some (.slice h.ba c.books.length h.bc)/\W.cell? ⟨w.heap.size,2,none⟩=some (.int .i64 (nb1:Int))/\W.cell? ⟨w.heap.size,5,none⟩=some (.slice (some ⟨gb,go,none⟩) c.groups.length h.gc)/\W.cell? ⟨gb,go+i * 2+1,none⟩=some (.slice x.a x.v.ms.length x.c)) ?_;refine tS 0 Av ?_;refine tS 1 Av ?_;refine tS 3 Av ?_;refine tS 4 Av ?_;refine tS 5 Av ?_;refine tS 6 Av ?_;refine tS 7 Av ?_;refine tS 8 Av ?_;refine tS 9 Av ?_;refine tS 10 Av ?_;refine tS 11 Av ?_;refine zd (i:=2) ue rfl (fun K hK=> ?_);refine zA (o:=⟨some 32,_,_,_,_,_⟩) ue 97 Tryz.func97 ue rfl _ _ rfl #[.slice h.ba c.books.length h.bc] uA By.out ?_;rintro r w4 ⟨v4,rfl,Bf,Ar⟩;refine ⟨v4,rfl, ?_⟩;have Bt:Below w3.heap.size w3 w4:=(zr.drew).trans Ar;have OO:True/\(w4.cell? ⟨w.heap.size,6,none⟩=some (.slice h.ba c.books.length h.bc)/\w4.cell? ⟨w.heap.size,2,none⟩=some (.int .i64 (nb1:Int))/\w4.cell? ⟨w.heap.size,5,none⟩=some (.slice (some ⟨gb,go,none⟩) c.groups.length h.gc)/\w4.cell? ⟨gb,go+i * 2+1,none⟩=some (.slice x.a x.v.ms.length x.c)):=⟨trivial,cell_of_row _ _ 6 _ _ _ (HX.out _ Bt),cell_of_row _ _ 2 _ _ _ (HX.out _ Bt),EA.out _ Bt,WR.out _ Bt⟩;have I3:=zh (zn Bf Bt);refine hK.out _ _ ⟨OO.1,fun _=> OO.2⟩ ?_
   try simp only [Act.put,zSs]
   clear hK K By Bf Ar Av OO;refine zd (i:=12) ue rfl (fun K hK=> ?_);refine zA (o:=⟨some 42,_,_,_,_,_⟩) ue 94 Tryz.func94 ue rfl _ _ rfl #[.slice x.a x.v.ms.length x.c] uA (VZ.out _ Bt) ?_;rintro r w5 ⟨v5,rfl,AV,Ag⟩;refine ⟨v5,rfl, ?_⟩;obtain ⟨ma,mc,rfl,Jm,-,JJ⟩:=AV.row zT;have Dj:Below w3.heap.size w3 w5:=Bt.trans (Ag.mono Bt.size);have Hq:True/\(w5.cell? ⟨w.heap.size,6,none⟩=some (.slice h.ba c.books.length h.bc)/\w5.cell? ⟨w.heap.size,2,none⟩=some (.int .i64 (nb1:Int))/\w5.cell? ⟨w.heap.size,5,none⟩=some (.slice (some ⟨gb,go,none⟩) c.groups.length h.gc)/\w5.cell? ⟨gb,go+i * 2+1,none⟩=some (.slice x.a x.v.ms.length x.c)):=⟨trivial,cell_of_row _ _ 6 _ _ _ (HX.out _ Dj),cell_of_row _ _ 2 _ _ _ (HX.out _ Dj),EA.out _ Dj,WR.out _ Dj⟩;have If:=I3.out.1.below Ag zl;obtain ⟨v6,w6,NU,Bv,AX⟩:=zK.pushG zaG uf zeR Tryz.underlying50 zjZ rfl uf If (⟨⟨nb1,s,x.v.ms⟩,ma,mc⟩:Bh) (by have:=Ds.out.2.1;have:=Rn.out;omega) Dj.size
   have DZ:Below w3.heap.size w3 w6:=Below.own Dj If AX zl Dj.size;have Hf:=zh (zn Jm (zn JJ (zn Dj (zn AX (zn (fun g hg=> (I3.out.1.lt g hg).2) (zn Bv DZ))))));obtain ⟨ra,rn,rc,rfl⟩:=Bv.form;have e4:=cell_of_row _ _ 6 _ _ _ (HX.out _ DZ);have e5:w6.frozen? ⟨w.heap.size,6,none⟩=false:=by simp [World.frozen?,HX.out _ DZ]
   have Nr:=heap_setCell_same w6 w.heap.size 6 _ _ (.slice ra rn rc) (HX.out _ DZ);have EJ:=zh (zn Nr (zn (zq w6 ⟨w.heap.size,6,none⟩ (.slice ra rn rc)) ((DZ.block (w.heap.size+1) (zg AI.out.2.1).1).trans AI.out.2.1)));unfold zgP at NU;refine hK.out _ _ ⟨Hq.1,fun _=> Hq.2⟩ ?_
   try simp only [Act.put,zSs]
   have Av:=Hq;clear hK K AV Ag Hq If Bv AX DZ Jm JJ Nr;refine tS 13 Av ?_;refine zd (i:=14) ue rfl (fun K hK=> ?_);go_simp;refine hK.out _ _ ⟨trivial,fun h=> absurd h uf⟩ ?_;clear hK K Av;refine zd (i:=15) ue rfl (fun K hK=> ?_);refine zL (o:=⟨some 45,_,_,_,_,_⟩) rfl _ _ 50 50 rfl _ _ us us NU ?_
   try simp only [Act.put,zSs]
   refine hK.out _ _ ⟨trivial,fun h=> absurd h uf⟩ ?_;clear hK K;refine zd (i:=16) ue rfl (fun K hK=> ?_);go_simp;refine hK.out _ _ ⟨trivial,fun h=> absurd h uf⟩ ?_;clear hK K;refine zd (i:=17) ue rfl (fun K hK=> ?_);go_simp;refine hK.out _ _ ⟨trivial,fun h=> absurd h uf⟩ ?_;clear hK K;refine zI ue ?_ _;go_upto_region 8 with fail;obtain ⟨x0,x1,x2,x3,x4,x5,x6,x7,x8,-⟩:=zJ EJ.out.1;obtain ⟨y0,y1,y2,y3,y4,y5,y6,y7,y8,yf⟩:=zJ ((EJ.out.2.1.block (w.heap.size+1) (zg EJ.out.2.2).1 uh).trans EJ.out.2.2);have f0:=yf 0;have f1:=yf 1;have f2:=yf 2;have f3:=yf 3;have f4:=yf 4;have f5:=yf 5;have f6:=yf 6;have f7:=yf 7;have f8:=yf 8;have HY:=zh ((EJ.out.2.1.block (w.heap.size+1) (zg EJ.out.2.2).1 uh).trans EJ.out.2.2);have Wd:=zh EJ.out.2.1;clear EJ yf e4 e5;generalize World.setCell w6 (⟨w.heap.size,6,none⟩:Addr) _=w7 at *
   go_region_law (fail)
   all_goals
       go_wp2_with fail;have Ad:=zeE HY.out (.int .i64 (c.nv:Int)) (.int .i64 (c.ng:Int)) (.int .i64 (nb1:Int)) (.int .u64 (c.fl:Int)) (.slice h.va c.vols.length h.vc) (.slice h.ga c.groups.length h.gc) (.slice ra rn rc) (.slice h.ka c.kept.length h.kc) (.slice h.ta c.times.length h.tc);have BL:=zae (B:=w.heap.size+1) (zD.refl _ w7) rfl (.int .i64 (c.nv:Int)) (.int .i64 (c.ng:Int)) (.int .i64 (nb1:Int)) (.int .u64 (c.fl:Int)) (.slice h.va c.vols.length h.vc) (.slice h.ga c.groups.length h.gc) (.slice ra rn rc) (.slice h.ka c.kept.length h.kc) (.slice h.ta c.times.length h.tc);generalize World.setCell _ (⟨w.heap.size+1,8,none⟩:Addr) _=W at *;obtain ⟨r0,r1,r2,r3,r4,r5,r6,r7,r8,-⟩:=zJ (W:=W.drew) (show W.drew.heap[w.heap.size+1]? =_ from Ad);have CK:zD (fun j=> j=w.heap.size+1) w7 W.drew:=⟨BL.os,BL.tape,BL.output,BL.size,BL.block⟩
       try simp only [Act.put,List.getElem_toArray,List.getElem_cons_zero,List.getElem_cons_succ,zSs]
       refine bodyPost_ret (zb5 _ (w.heap.size+1) _ _ _ _ _ _ _ _ _ _ _ _ rfl rfl rfl ⟨r0,r1,r2,r3,r4,r5,r6,r7,r8⟩) rfl ?_;clear Ad r0 r1 r2 r3 r4 r5 r6 r7 r8 BL x0 x1 x2 x3 x4 x5 x6 x7 x8 y0 y1 y2 y3 y4 y5 y6 y7 y8 f0 f1 f2 f3 f4 f5 f6 f7 f8;generalize W.drew=W at *;have I4:=Hf.out.2.2.2.2.2.2;have A4:=AI.out.2.2;have h6W:zD (fun j=> j=w.heap.size\/j=w.heap.size+1) w6 W:=(zD.turn (D:=fun j=> j=w.heap.size\/j=w.heap.size+1) Wd.out (.inl rfl)).trans (CK.more (D':=fun j=> j=w.heap.size\/j=w.heap.size+1) (fun _ h=> .inr h)) (fun _ h=> .inl h);have CF:Below w.heap.size w W:=⟨h6W.os.trans (I4.os.trans A4.os),h6W.tape.trans (I4.tape.trans A4.tape),h6W.output.trans (I4.output.trans A4.output),zs A4.size (zs I4.size h6W.size),fun j hj=> (h6W.block j (zt (zt hj A4.size) I4.size) ud).trans ((I4.block j (zt hj A4.size)).trans (A4.block j hj))⟩;have A0:=HC.out.1.below CF;have Bv:=Hf.out.2.2.2.2.2.1;obtain ⟨ra',rc',hv,JL,-,Ex⟩:=Bv.row zaG;simp only [Value.slice.injEq] at hv;obtain ⟨rfl,rfl,rfl⟩:=hv;have CZ:zaM Q zgP 3 W ra (h.bl++ [(⟨⟨nb1,s,x.v.ms⟩,ma,mc⟩:Bh)]):=by
        have h0:zaM (fun j=> j=w.heap.size\/j=w.heap.size+1) zgP 3 w6 ra (h.bl++ [(⟨⟨nb1,s,x.v.ms⟩,ma,mc⟩:Bh)]):=⟨JL,fun b o hb _ hq=> by have:=(Ex b o hb).1;have h9:w3.drew.heap.size=w3.heap.size:=rfl;omega⟩
        have h1:=h0.outs zaG uf h6W (Q':=fun j=> j=w.heap.size\/j=w.heap.size+1) (fun _ h=> .inl h);exact ⟨h1.row,fun b o hb hl hq=> by have:=(Ex b o hb).1;have:=HC.out.2.2 b hq;have h9:w3.drew.heap.size=w3.heap.size:=rfl;omega⟩
       have GJ:zaM Q zcm 1 W ma x.v.ms:=by
        have h0:zaM (fun j=> j < w4.heap.size) zcm 1 w5 ma x.v.ms:=⟨Hf.out.1,fun b o hb _ hq=> by have:=(Hf.out.2.1 b o hb).1;omega⟩
        have h4s:=I3.out.2.size;have WU:zD (fun j=> j < w4.heap.size) w5 w6:=zD.of_grown Hf.out.2.2.2.1 (fun r hr=> .inl (Hf.out.2.2.2.2.1 r hr));have ho:zD (fun j=> j < w4.heap.size) w5 W:=WU.trans (h6W.more (D':=fun j=> j < w4.heap.size) (fun j hj=> by omega)) (fun _ h=> .inl h)
        have h1:=h0.outs zT uf ho (Q':=fun j=> j < w4.heap.size) (fun _ h=> .inl h);exact ⟨h1.row,fun b o hb hl hq=> by have:=(Hf.out.2.1 b o hb).1;have:=HC.out.2.2 b hq;omega⟩
       rw [Ds.out.1];have Ac:=Rn.out;refine ⟨_,by rw [Ds.out.2.2];rfl, .inr ⟨rfl,{h with ba:=ra,bc:=rc,bl:=h.bl++ [(⟨⟨nb1,s,x.v.ms⟩,ma,mc⟩:Bh)]}, ?_, ?_⟩,CF⟩
       ·unfold Ch.val Ch.cells;simp only [List.length_append,List.length_cons,List.length_nil,Nat.zero_add]
        first | rw [Ac,Ds.out.2.2] | rw [Ac]
       refine ⟨A0.vols,A0.volsE,A0.groups,A0.groupsE,⟨CZ,fun y hy=> ?_⟩, ?_,A0.kept,A0.times⟩
       ·rcases List.mem_append.1 hy with hy | hy
        ·exact A0.books.sub y hy
        simp at hy;subst hy;exact GJ
       show (h.bl++ [(⟨⟨nb1,s,x.v.ms⟩,ma,mc⟩:Bh)]).map Bh.v=c.books++ [⟨c.nb+1,s,x.v.ms⟩]
       rw [List.map_append,<- Ds.out.2.2];exact congrArg (· ++ [(⟨nb1,s,x.v.ms⟩:Bk)]) A0.booksE
end
section
open Go.RowKit
theorem zng (x y:Nat) (w:World):
 (callFunc 189 #[.int .u64 (x:Int), .int .u64 (y:Int), .int .u64 0]).run Tryz.prog w= .ok (.value (.tuple #[.int .u64 (((x+18446744073709551616 - y) % 18446744073709551616:Nat):Int), .int .u64 ((if x < y then 1 else 0:Nat):Int)])) w:=by
 rw [run_callFunc_extern Tryz.func189 ue ue ue (e:=sub64Entry) ue];have h:=run_sub64 (P:=Tryz.prog) x y 0 ud w;rw [show ((0:Nat):Int)=0 from rfl] at h;rw [h]
 rfl
theorem zov (x:Nat) (hx:x < 18446744073709551616) (w:World):
 Calls Tryz.prog 142 #[.int .u64 (x:Int), .int .u64 1] w fun e w'=> e= .returned (.int .u64 ((x - 1:Nat):Int))/\w=w':=by
 have hr:=zng x 1 w
 by_cases h0:x=0
 ·subst h0;have Ha:(callFunc 189 #[.int .u64 0, .int .u64 1, .int .u64 0]).run Tryz.prog w= .ok (.value (.tuple #[.int .u64 18446744073709551615, .int .u64 1])) w:=hr;clear hr;go_in;go_wp2_with fail;go_ret;exact ⟨rfl,rfl⟩
 have h1:(x+18446744073709551616 - 1) % 18446744073709551616=x - 1:=ud;rw [h1,if_neg ud] at hr;have Ha:(callFunc 189 #[.int .u64 (x:Int), .int .u64 1, .int .u64 0]).run Tryz.prog w= .ok (.value (.tuple #[.int .u64 ((x - 1:Nat):Int), .int .u64 0])) w:=hr;clear hr h1;generalize ((x - 1:Nat):Int)=z at *;go_in;go_wp2_with fail;go_ret;exact ⟨rfl,rfl⟩
theorem zh5 (n b:Nat) (hn:n < 18446744073709551616) (w:World):
 Calls Tryz.prog 141 #[.int .u64 (n:Int), .int .u64 (b:Int)] w fun e w'=> e= .returned (.int .u64 ((n / b * b:Nat):Int))/\w=w':=by
 by_cases h0:b=0
 ·subst h0;go_in;go_wp2_with fail;go_ret;exact ⟨uh,rfl⟩
 have i0:((b:Int)==0)=false:=by rw [beq_eq_false_iff_ne];omega
 have i1:¬(b:Int)=0:=ud;have i2:(0:Int) < (b:Int):=ud;have hd:n % b+b * (n / b)=n:=Nat.mod_add_div n b;have hm:(n:Int) % (b:Int)=((n % b:Nat):Int):=ud;have aw:n % b<=n:=Nat.mod_le _ _;obtain ⟨q,hq⟩:∃q,q=n / b * b:=⟨_,rfl⟩;have VB:(n:Int) - ((n % b:Nat):Int)=(q:Int):=by rw [hq,Nat.mul_comm];omega
 have hw:IntKind.u64.wrap (q:Int)=(q:Int):=by simp only [IntKind.wrap,IntKind.bits,IntKind.signed];simp;omega
 rw [<- hq];clear hd hq h0;generalize n % b=r at *;go_in;go_wp2_with fail;go_ret;exact ⟨zjs ud,rfl⟩
def znJ (xs cur:List Nat) (i:Nat):Prop:=cur.length=xs.length/\∀m,m < xs.length->cur[m]? =if m < i\/xs.length - i<=m then xs[xs.length - 1 - m]? else xs[m]?
theorem znJ.zero (xs:List Nat):znJ xs xs 0:=⟨rfl,fun m hm=> by rw [if_neg ud]⟩
theorem znJ.done {xs cur:List Nat} {i:Nat} (h:znJ xs cur i) (hi:xs.length<=2 * i+1):cur=xs.reverse:=by
 apply List.ext_getElem?
 intro m;rcases Nat.lt_or_ge m xs.length with hm | hm
 ·rw [h.2 m hm,List.getElem?_reverse hm]
  split
  ·rfl
  congr 1;omega
 rw [List.getElem?_eq_none (by rw [h.1];exact hm),List.getElem?_eq_none (by rw [List.length_reverse];exact hm)]
theorem znJ.next {xs cur:List Nat} {i x y:Nat} (h:znJ xs cur i) (hi:i < xs.length - 1 - i) (hx:cur[i]? =some x) (hy:cur[xs.length - 1 - i]? =some y):znJ xs ((cur.set i y).set (xs.length - 1 - i) x) (i+1):=by
 refine ⟨by simp [h.1],fun m hm=> ?_⟩
 rw [h.2 i ud,if_neg ud] at hx;rw [h.2 _ ud,if_neg ud] at hy;rw [List.getElem?_set,List.getElem?_set];simp only [List.length_set,h.1]
 by_cases e1:xs.length - 1 - i=m
 ·rw [if_pos e1,if_pos ud,if_pos ud,<- hx]
  congr 1;omega
 rw [if_neg e1]
 by_cases e2:i=m
 ·rw [if_pos e2,if_pos ud,if_pos ud,<- hy,e2]
 rw [if_neg e2,h.2 m hm]
 by_cases e3:m < i\/xs.length - i<=m
 ·rw [if_pos e3,if_pos ud]
 rw [if_neg e3,if_neg ud]
theorem zbS.num {T:TypeId} {w:World} {g cap:Nat} {l:List Nat} (h:zbS zb0 1 T w g cap l) {i:Nat} {x:Nat} (hx:l[i]? =some x):w.cell? ⟨g,i,none⟩=some (.int .u64 (x:Int))/\w.frozen? ⟨g,i,none⟩=false:=by
 obtain ⟨b,o,e,hc⟩:=(h.row zah).2 i x hx
 cases e
 have h0:=hc 0 _ rfl;obtain ⟨cur,h1,-⟩:=h.ex;exact ⟨uan,by simp [World.frozen?,h1]⟩
theorem zbS.numSet {T:TypeId} {w:World} {g cap:Nat} {l:List Nat} (h:zbS zb0 1 T w g cap l) {i:Nat} (hi:i < l.length) (v:Nat):zbS zb0 1 T (w.setCell ⟨g,i,none⟩ (.int .u64 (v:Int))) g cap (l.set i v)/\w.grownBy (w.setCell ⟨g,i,none⟩ (.int .u64 (v:Int))) (some g):=by
 obtain ⟨h1,h2,-⟩:=zbS.setC zah h (i:=i) (x:=l[i]) (y:=v) (j:=0) (v:= .int .u64 (v:Int)) (ze hi) uf rfl;simp only [Nat.mul_one,Nat.add_zero] at h1 h2;exact ⟨h1,h2⟩
theorem zh9 {w:World} {B:Nat} {v:Value} {xs:List Nat} (h:zK zb0 1 22 w B v xs) (hl:xs.length<=1000):
 Calls Tryz.prog 143 #[v] w fun e w'=> e= .returned (.tuple #[])/\zK zb0 1 22 w' B v xs.reverse/\w.grownBy w' v.ownBlock:=by
 rcases h.cases with ⟨rfl,rfl⟩ | ⟨g,cap,rfl,Bc,BF,hR⟩
 ·go_in;go_wp2_with fail
  go_loopw [2,3] (fun u2 u3 wr=> u2= .int .i64 0/\u3= .int .i64 (-1)/\w=wr) (fun _ _ _=> 0)
  case atStart=> exact ⟨rfl,rfl,rfl⟩
  case round=>
   obtain ⟨rfl,rfl,rfl⟩:=hrel;go_wp2_with fail;go_end0;exact ⟨rfl,h,World.grownBy.refl _ _⟩
 obtain ⟨n,hn⟩:∃n,n=xs.length:=⟨_,rfl⟩;have HN:=zh (zn hn (zn Bc hR));rw [<- hn] at hl ⊢;clear h Bc BF hR hn;have s1:IntKind.i64.wrap ((n:Int) - 1)=(n:Int) - 1:=zw _ ud
 go_in;go_wp2_with fail
 go_loopw [2,3] (fun u2 u3 wr=> ∃(i:Nat) (cur:List Nat),2 * i<=n+1/\u2= .int .i64 i/\u3= .int .i64 ((n:Int) - 1 - i)/\znJ xs cur i/\zbS zb0 1 22 wr g cap cur/\w.grownBy wr (some g)) (fun u2 _ _=> (n+1) - (intOf u2).toNat)
 case atStart=> exact ⟨0,xs,ud,rfl,by congr 1;omega,znJ.zero xs,HN.out.2.2,World.grownBy.refl _ _⟩
 case round=>
  obtain ⟨i,cur,hi,rfl,rfl,hR,hB,hg⟩:=hrel;have HR:=zh (zn hR (zn hB hg));clear hR hB hg
  by_cases hlt:i < n - 1 - i
  ·obtain ⟨j,hj⟩:∃j,j=n - 1 - i:=⟨_,rfl⟩;have Et:(n:Int) - 1 - (i:Int)=(j:Int):=ud;rw [Et];have Lt:=HR.out.1.1;have Q8:=HN.out.1;obtain ⟨x,hx⟩:∃x,cur[i]? =some x:=⟨_,ze ud⟩;obtain ⟨y,hy⟩:∃y,cur[j]? =some y:=⟨_,ze ud⟩;have DU:=HR.out.1.next (i:=i) (x:=x) (y:=y) ud hx (by rw [<- Q8,<- hj];exact hy)
   rw [<- Q8,<- hj] at DU;obtain ⟨e0,f0⟩:=HR.out.2.1.num hx;obtain ⟨e1,f1⟩:=HR.out.2.1.num hy;obtain ⟨r1,g1⟩:=HR.out.2.1.numSet (i:=i) ud y;have qu:(cur.set i y)[j]? =some y:=by rw [List.getElem?_set_ne ud];exact hy
   obtain ⟨e2,f2⟩:=r1.num qu;obtain ⟨r2,g2⟩:=r1.numSet (i:=j) uo x;have HF:=zh (zn DU (zn r2 (HR.out.2.2.trans (g1.trans g2))));have i0:(0:Int)<=(i:Int):=ud;have i1:(i:Int) < (n:Int):=ud;have i2:(0:Int)<=(j:Int):=ud;have i3:(j:Int) < (n:Int):=ud;have g0:(i:Int) < (j:Int):=ud;have s3:IntKind.i64.wrap ((i:Int)+1)=((i+1:Nat):Int):=by rw [zw _ ud];omega
   have s4:IntKind.i64.wrap ((j:Int) - 1)=(n:Int) - 1 - ((i+1:Nat):Int):=by rw [zw _ ud];omega
   have HJ:=zh hj;clear hx hy DU r1 g1 r2 g2 qu Lt Q8 hj Et;go_wp2_with fail
   go_region_law fail
   all_goals
    go_wp2_with fail
    go_roundw
    case rel=> first | exact ⟨i+1,_,ud,rfl,rfl,HF.out.1,HF.out.2.1,HF.out.2.2⟩ | exact ⟨i+1,_,ud,rfl,rfl,HF.out.1,HF.out.2.1.heap rfl,HF.out.2.2.trans ⟨rfl,rfl,rfl,zl,fun _ _ _=> rfl⟩⟩
    case measure=> simp [intOf];omega
  have g0:¬((i:Int) < (n:Int) - 1 - (i:Int)):=ud;have SL:=HR.out.1.done (by have:=HN.out.1;omega)
  have HD:=zh SL;clear SL;go_wp2_with fail;go_end0;have Af:=HR.out.2.1.own zah (B:=B) HN.out.2.1;rw [HD.out,List.length_reverse,<- HN.out.1] at Af;exact ⟨rfl,Af,HR.out.2.2⟩
theorem zkU {Q:Nat->Prop} {w:World} {h:Ch} {c:Ct} {s0 k:Nat} (hc:zaV Q w h c) (hi:CtI c s0 k) (now win:Nat) (KN:now < 18446744073709551616):
 Calls Tryz.prog 100 #[h.val c, .int .u64 (now:Int), .int .u64 (win:Int)] w fun e w'=> e= .returned (.int .u64 ((c.floor now win:Nat):Int))/\Below w.heap.size w w':=by
 have Aa:Below w.heap.size w (w.alloc (.cells (h.cells c) 54)):=zr.alloc zl _;have hX:=heap_alloc_new w (.cells (h.cells c) 54);obtain ⟨w1,Ab⟩:∃w1,w1=w.alloc (.cells (h.cells c) 54):=⟨_,rfl⟩;rw [<- Ab] at Aa hX;have Ai:w.heap.size < w1.heap.size:=by rw [Ab,World.alloc_size];omega
 have HT:=zh (fun t=> zkm (c:=h.tc) ((hc.below Aa).times.row) (by have:=hi.times.len;omega) (hi.times.rise.imp fun h=> h.2) t)
 have Ak:=zh (zn Aa (zn hX Ai));obtain ⟨x0,x1,x2,x3,x4,x5,x6,x7,x8,-⟩:=zaf hX;have EP:c.floor now win=if now < win then c.fl else match zjz c.times (now - win) with
  | none=> c.fl
  | some s=> max c.fl s:=rfl
 have HE:=zh EP;clear hc hi Aa hX Ai EP;unfold Ch.val at *;unfold Ch.cells at *
 by_cases hlt:now < win
 ·have i0:(now:Int) < (win:Int):=ud
  go_in;go_upto_region 1 with fail;rw [<- Ab];clear Ab;go_wp2_with fail;go_ret;exact ⟨by rw [HE.out,if_pos hlt];rfl,Ak.out.1⟩
 have i0:¬(now:Int) < (win:Int):=ud;have i1:IntKind.u64.wrap ((now:Int) - (win:Int))=((now - win:Nat):Int):=by simp only [IntKind.wrap,IntKind.bits,IntKind.signed];simp;omega
 have F9:(now:Int) - (win:Int)=((now - win:Nat):Int):=ud;have Na:=zh (HT.out (now - win));have HE:=zh (HE.out.trans (if_neg hlt));clear HT hlt;generalize now - win=t at *
 cases hm:zjz c.times t with
 | none=>
   rw [hm] at Na HE
   dsimp only [Option.getD,Option.isSome] at Na
   clear hm;go_in;go_upto_region 1 with fail;rw [<- Ab];clear Ab;go_wp2_with fail;refine Na.out.mono ?_;rintro e w2 ⟨rfl,Ae⟩;obtain ⟨x0,x1,x2,x3,x4,x5,x6,x7,x8,-⟩:=zaf (h:=h) (c:=c) ((Ae.block w.heap.size Ak.out.2.2).trans Ak.out.2.1);have Ap:=zh (Ak.out.1.trans (Ae.mono Ak.out.1.size));clear Ae Na;go_wp2_with fail;go_ret;exact ⟨by rw [HE.out];rfl,Ap.out⟩
 | some s=>
   rw [hm] at Na HE
   dsimp only [Option.getD,Option.isSome] at Na
   have UC:Hid (max (c.fl:Int) (s:Int)=((max c.fl s:Nat):Int)):=zh ud;clear hm;go_in;go_upto_region 1 with fail;rw [<- Ab];clear Ab;go_wp2_with fail;refine Na.out.mono ?_;rintro e w2 ⟨rfl,Ae⟩;obtain ⟨x0,x1,x2,x3,x4,x5,x6,x7,x8,-⟩:=zaf (h:=h) (c:=c) ((Ae.block w.heap.size Ak.out.2.2).trans Ak.out.2.1);have Ap:=zh (Ak.out.1.trans (Ae.mono Ak.out.1.size));clear Ae Na;go_wp2_with fail;go_ret;exact ⟨by rw [HE.out];exact zjs UC.out,Ap.out⟩
end
section
open Go.RowKit
theorem zdW {P:Program} (w:World) (base:Nat) (t ty e:TypeId) (i:TypeInfo) (size:Nat) (ht:P.underlying t=some (.slice e)) (hi:P.info? e=some i)
 (v:Value) (n:Nat) (xs:List Value) (Af:w.ownsRow base e size v n xs) (c:Nat):(Builtin.append_ #[t,t] ty #[v, .slice none 0 c]).run P w= .ok v w:=by
 rcases Af.2 with ⟨rfl,rfl⟩ | ⟨g,cap,cur,rfl,_,_,Ge,_⟩
 ·simp [Builtin.append_,run_underlying ht,sizeOf,typeInfo,hi,Builtin.lenOf,Builtin.firstCells]
 simp [Builtin.append_,run_underlying ht,sizeOf,typeInfo,hi,Builtin.lenOf,Builtin.firstCells,Ge,storeCells]
theorem zK.appAnyU {w:World} {B:Nat} {v:Value} {l:List Nat} (h:zK zb0 1 22 w B v l) {X:Option Addr} {m c:Nat} {l2:List Nat} (hs:zM zb0 1 w X m l2) (hX:X≠none->∃b o,X=some ⟨b,o,none⟩) (hl:l.length+m<=1000000) (hB:B<=w.heap.size):
 ∃v' w',(Builtin.append_ #[51,51] 51 #[v, .slice X m c]).run Tryz.prog w= .ok v' w'/\zK zb0 1 22 w' B v' (l++l2)/\w.grownBy w' v.ownBlock:=by
 obtain ⟨i0,hi,AG,Ai,Ax⟩:=zW zfo
 cases X with
 | none=>
   have hm:m=0:=by
    rcases Nat.eq_zero_or_pos m with h0 | h0
    ·exact h0
    obtain ⟨x,hx⟩:∃x,l2[0]? =some x:=⟨_,ze (by have:=hs.1;omega)⟩
    obtain ⟨b,o,e,-⟩:=hs.2 0 x hx
    cases e
   subst hm;have CC:l2= []:=List.eq_nil_of_length_eq_zero hs.1;subst CC;exact ⟨v,w,zdW w B _ _ _ i0 1 Tryz.underlying51 hi v _ _ h c,by rw [List.append_nil];exact h,World.grownBy.refl w _⟩
 | some ad=>
   obtain ⟨b,o,e⟩:=hX uh
   cases e
   exact zK.app zah uf zdG Tryz.underlying51 hi AG Ai Ax rfl h c hs ud ud hB
theorem zh2 (every lo:Nat):∀f n,(zcZ every lo f n).length<=f
 | 0,_=> by simp [zcZ]
 | f+1,n=> by
   unfold zcZ
   split
   ·simp
   split
   ·simp
   have:=zh2 every lo f (n - every);simp;omega
def NumsF (base:Nat) (w:World) (v:Value) (l:List Nat):Prop:=∃a c,v= .slice a l.length c/\zM zb0 1 w a l.length l/\∀b o,a=some ⟨b,o,none⟩->base<=b
theorem zmH {Q:Nat->Prop} {w:World} {h:Ch} {c:Ct} {s0 k:Nat} (hc:zaV Q w h c) (hi:CtI c s0 k) (fl every:Nat) (EP:fl < 18446744073709551616) (CH:every < 18446744073709551616):
 Calls Tryz.prog 101 #[h.val c, .int .u64 (fl:Int), .int .u64 (every:Int)] w fun e w'=> ∃v,e= .returned v/\NumsF w.heap.size w' v (c.keep fl every)/\Below w.heap.size w w':=by
 have Aa:Below w.heap.size w (w.alloc (.cells (h.cells c) 54)):=zr.alloc zl _;have hX:=heap_alloc_new w (.cells (h.cells c) 54);obtain ⟨w1,Ab⟩:∃w1,w1=w.alloc (.cells (h.cells c) 54):=⟨_,rfl⟩;rw [<- Ab] at Aa hX;have Ai:w1.heap.size=w.heap.size+1:=by rw [Ab,World.alloc_size]
 have HC:=zh (zn (hc.below Aa) hi);have Ak:=zh (zn Aa (zn hX Ai));have HS:=zh (zov fl EP w1);have HD:=zh (zh5 (fl - 1) every ud w1);obtain ⟨n0,Ft⟩:∃n0,n0=(fl - 1) / every * every:=⟨_,rfl⟩;obtain ⟨M,hM⟩:∃M,M=if every=0\/fl=0 then [] else zcZ every c.fl 32 n0:=⟨_,rfl⟩;have FV:c.keep fl every=(c.kept++M.reverse).drop ((c.kept++M.reverse).length - 32):=by rw [hM,Ft];rfl
 have jA:M.length<=32:=by
  rw [hM]
  split
  ·simp
  exact zh2 _ _ _ _
 have YI:n0 < 18446744073709551616:=by
  have:=Nat.div_mul_le_self (fl - 1) every
  omega
 rw [<- Ft] at HD;have HM:=zh (zn hM (zn FV jA));obtain ⟨x0,x1,x2,x3,x4,x5,x6,x7,x8,-⟩:=zaf hX;clear hc hi Aa hX Ai hM FV Ft jA;generalize fl - 1=fl1 at *;unfold Ch.val at *;unfold Ch.cells at *;go_in;go_upto_region 1 with fail;rw [<- Ab];clear Ab;go_wp2_with fail;refine HS.out.mono ?_;rintro e w2 ⟨rfl,rfl⟩;go_wp2_with fail;refine HD.out.mono ?_;rintro e w2 ⟨rfl,rfl⟩;clear HS HD
 go_upto_block 0 with fail
 go_cut [7] from 14 to 40 (fun u7 wx=> zK zb0 1 22 wx w1.heap.size u7 M/\Below w1.heap.size w1 wx)
 case first =>
  go_wp2_with fail
  go_loopw [7,8] (fun u7 u8 wr=> ∃(acc:List Nat) (n:Nat),u8= .int .u64 (n:Nat)/\n < 18446744073709551616/\zK zb0 1 22 wr w1.heap.size u7 acc/\Below w1.heap.size w1 wr/\acc.length<=32/\Hid (acc++(if every=0\/fl=0 then [] else zcZ every c.fl (32 - acc.length) n)=M)) (fun _ u8 _=> (intOf u8).toNat)
  case atStart=> exact ⟨[],n0,rfl,YI,World.ownsRow_nil _ _ _ _,Below.refl _ _,uh,zh (by rw [HM.out.1];rfl)⟩
  case round =>
   obtain ⟨acc,n,rfl,hn,Af,FO,U9,HA⟩:=hrel;have HO:=zh (zn Af (zn FO U9));have x3:wr.cell? ⟨w.heap.size,3,none⟩=some (.int .u64 (c.fl:Int)):=(FO.cell (p:=⟨w.heap.size,3,none⟩) (by have:=Ak.out.2.2;show w.heap.size < _;omega)).trans x3
   obtain ⟨a7,n7,c7,rfl⟩:=Af.form;have QW:n7=acc.length:=by
        obtain ⟨a',c',e,-⟩:=Af.row zah
        cases e;rfl
   subst QW;clear Af FO
   by_cases h1:every=0
   ·have i1:¬(0:Int) < (every:Int):=ud;have EH:Hid (acc=M):=zh (by have:=HA.out;rw [if_pos (.inl h1),List.append_nil] at this;exact this)
    clear h1;go_wp2_with fail
    go_meet
    case rel=> rw [<- EH.out];exact ⟨HO.out.1,HO.out.2.1⟩
   have i1 :(0:Int) < (every:Int):=ud
   by_cases h2:fl=0
   ·have i2:¬(0:Int) < (fl:Int):=ud;have EH:Hid (acc=M):=zh (by have:=HA.out;rw [if_pos (.inr h2),List.append_nil] at this;exact this)
    clear h1 h2;go_wp2_with fail
    go_meet
    case rel=> rw [<- EH.out];exact ⟨HO.out.1,HO.out.2.1⟩
   have i2 :(0:Int) < (fl:Int):=ud;have HA:Hid (acc++zcZ every c.fl (32 - acc.length) n=M):=zh (by have:=HA.out;rw [if_neg ud] at this;exact this)
   by_cases h3:n < c.fl
   ·have i3:¬(c.fl:Int)<=(n:Int):=ud;have EH:Hid (acc=M):=zh (by
     have:=HA.out;rw [show zcZ every c.fl (32 - acc.length) n= [] by cases 32 - acc.length <;> simp [zcZ,h3],List.append_nil] at this
     exact this)
    clear h1 h2 h3;go_wp2_with fail
    go_meet
    case rel=> rw [<- EH.out];exact ⟨HO.out.1,HO.out.2.1⟩
   have i3:(c.fl:Int)<=(n:Int):=ud
   by_cases h4:acc.length=32
   ·have i4:¬(acc.length:Int) < 32:=ud;have EH:Hid (acc=M):=zh (by
         have:=HA.out;rw [h4,Nat.sub_self] at this
         simpa [zcZ] using this)
    clear h1 h2 h3 h4;go_wp2_with fail
    go_meet
    case rel=> rw [<- EH.out];exact ⟨HO.out.1,HO.out.2.1⟩
   have i4:(acc.length:Int) < 32:=ud;obtain ⟨v',w',hr,FJ,hg⟩:=zK.pushG zah uf zdG Tryz.underlying51 zfo rfl uf HO.out.1 n ud HO.out.2.1.size;have Gz:=Below.own HO.out.2.1 HO.out.1 hg zl HO.out.2.1.size;have Vj:32 - acc.length=(32 - (acc++ [n]).length)+1:=uo;unfold zb0 at hr
   by_cases h5:n < every
   ·have i5:(n:Int) < (every:Int):=ud;have EH:Hid (acc++ [n]=M):=zh (by
         have:=HA.out;rw [Vj,zcZ,if_neg h3,if_pos h5] at this;exact this)
    have HF:=zh (zn FJ Gz);clear h1 h2 h3 h4 h5 Vj FJ Gz hg
    go_wp2_with (at_builtin;refine za rfl _ _ _ rfl hr ?_)
    go_meet
    case rel=> rw [<- EH.out];exact ⟨HF.out.1,HF.out.2⟩
   have i5:¬(n:Int) < (every:Int):=ud;have EH:Hid ((acc++ [n])++(if every=0\/fl=0 then [] else zcZ every c.fl (32 - (acc++ [n]).length) (n - every))=M):=zh (by
        have:=HA.out;rw [Vj,zcZ,if_neg h3,if_neg h5] at this;rw [if_neg ud,List.append_assoc,List.singleton_append];exact this)
   have i6:IntKind.u64.wrap ((n:Int) - (every:Int))=((n - every:Nat):Int):=by simp only [IntKind.wrap,IntKind.bits,IntKind.signed];simp;omega
   have i7:(n:Int) - (every:Int)=((n - every:Nat):Int):=ud;have HF:=zh (zn FJ (zn Gz (zn h1 h5)));clear h1 h2 h3 h4 h5 Vj FJ Gz hg
   go_wp2_with (at_builtin;refine za rfl _ _ _ rfl hr ?_)
   go_roundw
   case rel=> exact ⟨acc++ [n],n - every,by first | rfl | (congr 1),ud,HF.out.1,HF.out.2.1,uo,EH⟩
   case measure=> have:=HF.out.2.2;simp [intOf];omega
 case rest=>
  obtain ⟨Af,AH⟩:=hcut;have HR:=zh (zh9 Af (by have:=HM.out.2.2;omega))
  have HO:=zh (zn Af AH);clear Af AH;go_wp2_with fail;refine HR.out.mono ?_;rintro e w3 ⟨rfl,A6,AM⟩;obtain ⟨R,Nm⟩:∃R,R=M.reverse:=⟨_,rfl⟩;rw [<- Nm] at A6;have Xo:R.length<=32:=by rw [Nm,List.length_reverse];exact HM.out.2.2
  have Rw:=zh (zn Nm Xo);clear Nm Xo;have Am:=Below.own HO.out.2 HO.out.1 AM zl HO.out.2.size;have x7:w3.cell? ⟨w.heap.size,7,none⟩=some (.slice h.ka c.kept.length h.kc):=(Am.cell (p:=⟨w.heap.size,7,none⟩) (by have:=Ak.out.2.2;show w.heap.size < _;omega)).trans x7
  have By:=zh (zd6 (c:=h.kc) (HC.out.1.kept.row.below Am zl) (by have:=HC.out.2.klen;omega))
  have H3:=zh (zn A6 Am);clear A6 AM Am HR HO;go_wp2_with fail;refine By.out.mono ?_;rintro e w4 ⟨v4,rfl,Bf,Ar⟩;obtain ⟨am,cm,rfl,Zg,-,Ml⟩:=H3.out.1.row zah;obtain ⟨v5,w5,P5,AV,Bj⟩:=zK.appAnyU Bf (X:=am) (c:=cm) (Zg.below Ar zl) (fun Aj=> by
   cases am with
   | none=> exact absurd rfl Aj
   | some ad=>
     rcases H3.out.1.2 with ⟨e,-⟩ | ⟨g,_,_,e,-⟩
     ·cases e
     cases e;exact ⟨_,_,rfl⟩) (by have:=Rw.out.2;have:=HC.out.2.klen;omega) Ar.size
  have Bt:Below w.heap.size w w4:=(Ak.out.1.trans (H3.out.2.mono Ak.out.1.size)).trans (Ar.mono uav);have Ag:Below w.heap.size w w5:=Below.own Bt Bf Bj uav Bt.size;have Ac:(c.kept++R).length<=64:=by have:=Rw.out.2;have:=HC.out.2.klen;rw [List.length_append];omega
  have Dr:w.heap.size<=w3.heap.size:=uav;obtain ⟨X,hX⟩:∃X,X=c.kept++R:=⟨_,rfl⟩;rw [<- hX] at AV Ac;obtain ⟨K,hK⟩:∃K,K=X.length - 32:=⟨_,rfl⟩;have yb:max ((X.length:Int) - 32) 0=(K:Int):=ud;have i1:IntKind.i64.wrap ((X.length:Int) - 32)=(X.length:Int) - 32:=zw _ ud;have i2:(0:Int)<=(K:Int):=ud;have H5:=zh (zn AV (zn Ag (zn Dr (zn hK hX))));rcases AV.cases with ⟨rfl,U3⟩ | ⟨g,cap,rfl,Bc,BF,UY⟩
  ·have vX:K=0:=by rw [U3] at hK;simpa using hK
   have Dm:X.length=0:=by rw [U3];rfl
   have vI:=zh U3;have bD:=zh Dm;subst vX;clear Bf Ar Zg Ml AV Bj Bt Ag hX hK U3 Dm By Ac yb i1
   go_wp2_with (at_builtin;refine za rfl _ _ _ rfl P5 ?_)
   go_ret;refine ⟨_,rfl, ?_,H5.out.2.1⟩;rw [HM.out.2.1,<- Rw.out.1,<- H5.out.2.2.2.2,vI.out];exact ⟨none,0,rfl,zM.nil _ _ _ _,fun b o e=> by cases e⟩
  have BO:=UY.le;have Ce:cap<=9223372036854775807:=by have:=UY.cm;unfold maxLen at this;omega
  have Ah:=UY.row zah;have BJ:(X.drop K).length=X.length - K:=List.length_drop;have hd:=Ah.drop K;rw [Nat.zero_add,Nat.mul_one] at hd;have i3:(K:Int)<=(X.length:Int):=ud;have i4:(K:Int)<=(cap:Int):=ud;have HD:=zh (zn hd (zn BJ (zn Bc BO)));generalize CI:X.length=xl at *;have UL:=zh CI;have i5:K<=xl:=ud;have i6:xl<=cap:=BO;clear Bf Ar Zg Ml AV Bj Bt Ag hX hK By Ac Ah hd BJ Bc BF UY BO CI
  by_cases yy:cap=K
  ·have DP:xl=0:=by have:=H5.out.2.2.2.1;omega
   have BX:K=0:=by have:=H5.out.2.2.2.1;omega
   have Em:cap=0:=ud;have Ws:=zh (List.eq_nil_of_length_eq_zero (UL.out.trans DP));subst DP BX Em;clear yy
   go_wp2_with (at_builtin;refine za rfl _ _ _ rfl P5 ?_)
   go_ret;refine ⟨_,rfl, ?_,H5.out.2.1⟩;rw [HM.out.2.1,<- Rw.out.1,<- H5.out.2.2.2.2,Ws.out];exact ⟨some ⟨g,0,none⟩,_,rfl,⟨rfl,fun i r hr=> by simp at hr⟩,fun b o e=> by cases e;have:=HD.out.2.2.1;have:=H5.out.2.2.1;omega⟩
  go_wp2_with (at_builtin;refine za rfl _ _ _ rfl P5 ?_)
  go_ret;rw [HM.out.2.1,<- Rw.out.1,<- H5.out.2.2.2.2,UL.out,<- H5.out.2.2.2.1];refine ⟨_,rfl,⟨some ⟨g,K,none⟩,cap - K,by rw [HD.out.2.1];rfl,by rw [HD.out.2.1];exact HD.out.1,fun b o e=> by cases e;have:=HD.out.2.2.1;have:=H5.out.2.2.1;omega⟩,H5.out.2.1⟩
end
end Go.Proofs.YtaoceecfjlkmdaaGreat
