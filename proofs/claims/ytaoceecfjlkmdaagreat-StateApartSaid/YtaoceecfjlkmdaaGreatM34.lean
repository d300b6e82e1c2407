/- Lemmas of the walks, merged and pressed by press.py. Conditions: those of each theorem. -/
import Derived.Test.YtaoceecfjlkmdaaGreatM28
import Derived.Test.YtaoceecfjlkmdaaGreatM33
set_option maxRecDepth 100000
set_option maxHeartbeats 64000000
set_option linter.all false
namespace Go.Proofs.YtaoceecfjlkmdaaGreat
open Tryz
section
open Go.RowKit
theorem zb9 (tmps:Array Value) (B:Nat) (e5 e6:Value) (cs:Array Value) (v0 v1 v2 v3 v4 v5 v6 v7 v8:Value) (W:World) (h:tmps[6]? =some (.pointer (some ⟨B,0,none⟩))) (h7:tmps[7]? =some e5) (h8:tmps[8]? =some e6)
 (q:W.cell? ⟨B,0,none⟩=some v0/\W.cell? ⟨B,1,none⟩=some v1/\W.cell? ⟨B,2,none⟩=some v2/\W.cell? ⟨B,3,none⟩=some v3/\W.cell? ⟨B,4,none⟩=some v4/\W.cell? ⟨B,5,none⟩=some v5/\W.cell? ⟨B,6,none⟩=some v6/\W.cell? ⟨B,7,none⟩=some v7/\W.cell? ⟨B,8,none⟩=some v8):
 (results Tryz.f52 tmps).run Tryz.prog W= .ok (.tuple #[.agg #[v0,v1,v2,v3,v4,v5,v6,v7,v8],e5,e6]) W:=by
 obtain ⟨q0,q1,q2,q3,q4,q5,q6,q7,q8⟩:=q;simp [results,Tryz.results52,go_sem,h,h7,h8,q0,q1,q2,q3,q4,q5,q6,q7,q8]
theorem zae {w W:World} {B:Nat} (h:zD (fun j=> j=B) w W) (hs:W.heap.size=w.heap.size) (v0 v1 v2 v3 v4 v5 v6 v7 v8:Value):zD (fun j=> j=B) w (((((((((W.setCell ⟨B,0,none⟩ v0).setCell ⟨B,1,none⟩ v1).setCell ⟨B,2,none⟩ v2).setCell ⟨B,3,none⟩ v3).setCell ⟨B,4,none⟩ v4).setCell ⟨B,5,none⟩ v5).setCell ⟨B,6,none⟩ v6).setCell ⟨B,7,none⟩ v7).setCell ⟨B,8,none⟩ v8):=by
 have t:∀{X:World} (i:Nat) (v:Value),zD (fun j=> j=B) w X->zD (fun j=> j=B) w (X.setCell ⟨B,i,none⟩ v):=fun i v hX=> hX.trans (zD.turn (D:=fun j=> j=B) (g:=B) (zq _ ⟨B,i,none⟩ v) rfl) (fun _ h=> .inl h);exact t 8 v8 (t 7 v7 (t 6 v6 (t 5 v5 (t 4 v4 (t 3 v3 (t 2 v2 (t 1 v1 (t 0 v0 h))))))))
def zp3 {w W:World} {B:Nat} (H:zD (fun j=> j=B) w W) (hs:W.heap.size=w.heap.size) (h:Ch) (c:Ct):=zae H hs (.int .i64 (c.nv:Int)) (.int .i64 (c.ng:Int)) (.int .i64 (c.nb:Int)) (.int .u64 (c.fl:Int)) (.slice h.va c.vols.length h.vc) (.slice h.ga c.groups.length h.gc) (.slice h.ba c.books.length h.bc) (.slice h.ka c.kept.length h.kc) (.slice h.ta c.times.length h.tc)
def zcr:Array Value:=#[.int .i64 0, .int .i64 0, .int .i64 0, .int .u64 0, .slice none 0 0, .slice none 0 0, .slice none 0 0, .slice none 0 0, .slice none 0 0]
def znA (Q:Nat->Prop) (w:World) (v:Value) (e:Nat) (c:Ct):Prop:=(e≠0/\∃cs:Array Value,v= .agg cs/\cs=zcr)\/(e=0/\∃h:Ch,v=h.val c/\zaV Q w h c)
theorem zgd {Q:Nat->Prop} {w:World} {h:Ch} {c:Ct} {s0 k:Nat} (hc:zaV Q w h c) (hi:CtI c s0 k) (hQ:∀j,Q j->j < w.heap.size) (n s:Nat) (hn:1<=n/\n<=32):
 Calls Tryz.prog 52 #[h.val c, .int .i64 (n:Int), .int .u64 (s:Int)] w fun e w'=> ∃v,e= .returned (.tuple #[v, .int .i64 ((c.create n s).2.2:Nat), .int .i64 ((c.create n s).1:Nat)])/\znA Q w' v (c.create n s).1 (c.create n s).2.1/\Below w.heap.size w w':=by
 obtain ⟨w1,Ab⟩:∃w1,w1=(w.alloc (.cells (h.cells c) 54)).alloc (.cells zcr 54):=⟨_,rfl⟩;have Aa:Below w.heap.size w w1:=by rw [Ab];exact (zr.alloc zl _).alloc uh _
 have Ai:w1.heap.size=w.heap.size+2:=by rw [Ab,World.alloc_size,World.alloc_size]
 have hX:w1.heap[w.heap.size]? =some (.cells (h.cells c) 54 (0,0)):=by rw [Ab,Below.heap_alloc _ _ _ uh];exact heap_alloc_new w _
 have hY:w1.heap[w.heap.size+1]? =some (.cells zcr 54 (0,0)):=by
  have:=heap_alloc_new (w.alloc (.cells (h.cells c) 54)) (.cells zcr 54);rw [World.alloc_size] at this;rw [Ab];exact this
 have Ln:=zh (zij (w:=w1) (c:=0) (zM.nil zbZ 2 w1 none) ud (fun m hm=> by cases hm) s n hn)
 have AR:zbf [] s n=(0, [(s,n)]):=by unfold zbf zdZ zas;simp;omega
 rw [AR] at Ln;have HC:=zh (zn hc (zn hi hQ));have Ak:=zh (zn Aa (zn Ai (zn hX hY)));obtain ⟨x0,x1,x2,x3,x4,x5,x6,x7,x8,-⟩:=zaf hX;clear hc hi hQ Aa Ai hX hY AR;unfold Ch.val;unfold Ch.cells zcr at *;go_in;go_upto_region 1 with fail;rw [<- Ab];clear Ab;go_wp2_with fail;refine Ln.out.mono ?_;rintro e w2 ⟨v2,rfl,A5,Ae⟩;have A7:=(Ae.block w.heap.size ui).trans Ak.out.2.2.1;have BD:=(Ae.block (w.heap.size+1) ui).trans Ak.out.2.2.2;obtain ⟨sa,sc,rfl,IO,-,IN⟩:=A5.row zR;simp only [List.length_cons,List.length_nil,Nat.zero_add] at IO ⊢;obtain ⟨x0,x1,x2,x3,x4,x5,x6,x7,x8,xf⟩:=zaf (h:=h) (c:=c) A7;obtain ⟨y0,y1,y2,y3,y4,y5,y6,y7,y8,yf⟩:=zJ BD;have Ap:=zh (zn (Ak.out.1.trans (Ae.mono Ak.out.1.size)) (zn A7 (zn BD Ae)));have Bl:=zh (zn IO IN);have BM:c.create n s=if 8<=c.vols.length\/65535<=c.nv then (32,c,0) else (0,{c with nv:=c.nv+1,vols:=c.vols++ [⟨c.nv+1,s, [(s,n)]⟩]},c.nv+1):=rfl
 have f0:=yf 0;have f1:=yf 1;have f2:=yf 2;have f3:=yf 3;have f4:=yf 4;have f5:=yf 5;have f6:=yf 6;have f7:=yf 7;have f8:=yf 8
 by_cases B5:8<=c.vols.length\/65535<=c.nv
 ·rw [if_pos B5] at BM;have Ds:=zh BM;have Rf:∀(W:World),Below w.heap.size w W->∃v,v= .agg zcr/\znA Q W v 32 c/\Below w.heap.size w W:=fun W hW=> ⟨_,rfl, .inl ⟨show (32:Nat)≠0 by decide,_,rfl,rfl⟩,hW⟩
  have bz:=zh Rf;have Ad:=zeE BD (.int .i64 0) (.int .i64 0) (.int .i64 0) (.int .u64 0) (.slice none 0 0) (.slice none 0 0) (.slice none 0 0) (.slice none 0 0) (.slice none 0 0);have Dn:=zJ Ad;have Au:=zG Ap.out.1 (show w.heap.size<=w.heap.size+1 by omega) (.int .i64 0) (.int .i64 0) (.int .i64 0) (.int .u64 0) (.slice none 0 0) (.slice none 0 0) (.slice none 0 0) (.slice none 0 0) (.slice none 0 0)
  have BU:=zh (zn Dn Au);clear BM Rf A7 BD xf yf Ad Dn Au A5 Ae IO IN
  by_cases h8:8<=c.vols.length
  ·have i8:(8:Int)<=(c.vols.length:Int):=ud;clear B5 h8;go_wp2_with fail;obtain ⟨⟨r0,r1,r2,r3,r4,r5,r6,r7,r8,-⟩,Au⟩:=BU.out;refine bodyPost_ret (zb9 _ (w.heap.size+1) _ _ #[] _ _ _ _ _ _ _ _ _ _ rfl rfl rfl ⟨r0,r1,r2,r3,r4,r5,r6,r7,r8⟩) rfl ?_;exact ⟨_,by rw [Ds.out];rfl,by rw [Ds.out];exact .inl ⟨show (32:Nat)≠0 by decide,_,rfl,rfl⟩,Au⟩
  have i8:¬(8:Int)<=(c.vols.length:Int):=ud;have i9:(65535:Int)<=(c.nv:Int):=ud;clear B5 h8;go_wp2_with fail;obtain ⟨⟨r0,r1,r2,r3,r4,r5,r6,r7,r8,-⟩,Au⟩:=BU.out;refine bodyPost_ret (zb9 _ (w.heap.size+1) _ _ #[] _ _ _ _ _ _ _ _ _ _ rfl rfl rfl ⟨r0,r1,r2,r3,r4,r5,r6,r7,r8⟩) rfl ?_;exact ⟨_,by rw [Ds.out];rfl,by rw [Ds.out];exact .inl ⟨show (32:Nat)≠0 by decide,_,rfl,rfl⟩,Au⟩
 rw [if_neg B5] at BM;have i8:¬(8:Int)<=(c.vols.length:Int):=ud;have i9:¬(65535:Int)<=(c.nv:Int):=ud;obtain ⟨nv1,TL⟩:∃m,m=c.nv+1:=⟨_,rfl⟩;have i10:IntKind.i64.wrap ((c.nv:Int)+1)=(nv1:Int):=by rw [zw _ ud];omega
 have g0:=xf 0;have Ds:=zh (zn BM (zn B5 TL))
 -- the world behind the new number
 obtain ⟨w3,Dv⟩:∃w3,w3=w2.setCell ⟨w.heap.size,0,none⟩ (.int .i64 (nv1:Int)):=⟨_,rfl⟩;have C0:w3.heap[w.heap.size]? =some (.cells #[.int .i64 (nv1:Int), .int .i64 (c.ng:Int), .int .i64 (c.nb:Int), .int .u64 (c.fl:Int), .slice h.va c.vols.length h.vc, .slice h.ga c.groups.length h.gc, .slice h.ba c.books.length h.bc, .slice h.ka c.kept.length h.kc, .slice h.ta c.times.length h.tc] 54 (0,0)):=by
  rw [Dv];exact heap_setCell_same _ _ 0 _ _ _ A7
 have AM:w2.grownBy w3 (some w.heap.size):=by rw [Dv];exact zq w2 ⟨w.heap.size,0,none⟩ _
 have AI:=zh (zn C0 AM);clear BM B5 TL A7 BD xf yf A5 Ae IO IN;go_upto_region 7 with fail;rw [<- Dv];clear Dv;have A4:Below w.heap.size w w3:=⟨AI.out.2.os.trans Ap.out.1.os,AI.out.2.tape.trans Ap.out.1.tape,AI.out.2.output.trans Ap.out.1.output,zs Ap.out.1.size AI.out.2.size,fun j hj=> (AI.out.2.block j (zt hj Ap.out.1.size) uo).trans (Ap.out.1.block j hj)⟩;have Ac:h.vl.length=c.vols.length:=by rw [<- HC.out.1.volsE,List.length_map]
 have Ah:=HC.out.1.vols.row.row;rw [Ac] at Ah;have DQ:=zh (zn A4 Ac);have By:=zh (fun (W:World) (hW:Below w3.heap.size w3 W)=> zd7 (c:=h.vc) ((Ah.below A4 zl).below hW zl) ubi);have EO:Below w3.heap.size w3 w3.drew:=zr.drew;have Cs:Below w3.heap.size w3 (w3.alloc (.cells #[.int .i64 (nv1:Int), .int .u64 (s:Int), .slice sa 1 sc] 86)).drew:=(zr.alloc zl _).drew;have PJ:w.heap.size < w3.heap.size:=(zg C0).1;have Ts:w.heap.size+2<=w3.heap.size:=by have:=Ak.out.2.1;have:=Ap.out.2.2.2.size;have:=AI.out.2.size;omega
 have HX:=zh (fun (W:World) (hW:Below w3.heap.size w3 W)=> (hW.block w.heap.size PJ).trans C0);have a0:=cell_of_row _ _ 0 _ _ _ (HX.out _ EO);have a4:=cell_of_row _ _ 4 _ _ _ (HX.out _ EO);have b0:=cell_of_row _ _ 0 _ _ _ (HX.out _ Cs);have b4:=cell_of_row _ _ 4 _ _ _ (HX.out _ Cs);have BA:zM zeK 3 (w3.alloc (.cells #[.int .i64 (nv1:Int), .int .u64 (s:Int), .slice sa 1 sc] 86)).drew (some ⟨w3.heap.size,0,none⟩) 1 [⟨⟨nv1,s, [(s,n)]⟩,sa,sc⟩]:=zM.new (enc:=zeK) w3 ⟨⟨nv1,s, [(s,n)]⟩,sa,sc⟩ 86;have LM:=zh BA;clear A4 Ac Ah C0 AM x0 x1 x2 x3 x4 x5 x6 x7 x8 y0 y1 y2 y3 y4 y5 y6 y7 y8 f0 f1 f2 f3 f4 f5 f6 f7 f8 g0 BA i8 i9 i10
 go_cut [44] from 35 to 45 (fun u44 wx=> zK zeK 3 86 wx (w.heap.size+2) u44 (h.vl++ [⟨⟨nv1,s, [(s,n)]⟩,sa,sc⟩])/\wx.heap[w.heap.size]? =some (.cells #[.int .i64 (nv1:Int), .int .i64 (c.ng:Int), .int .i64 (c.nb:Int), .int .u64 (c.fl:Int),u44, .slice h.ga c.groups.length h.gc, .slice h.ba c.books.length h.bc, .slice h.ka c.kept.length h.kc, .slice h.ta c.times.length h.tc] 54 (0,0))/\zD (fun j=> j=w.heap.size) w3 wx)
 case first=>
  go_region_law (first
       | (have hq:=P5
          refine zL (o:=⟨some 44,_,_,_,_,_⟩) rfl _ _ 48 48 rfl _ _ us us hq ?_)
       | (refine zA (o:=⟨some 37,_,_,_,_,_⟩) ue 88 Tryz.func88 ue rfl _ _ rfl #[.slice h.va c.vols.length h.vc] ug (By.out _ (by with_reducible exact EO)) ?_
          rintro r w4 ⟨v4,rfl,Bf,Ar⟩;refine ⟨v4,rfl, ?_⟩;have Bt:Below w3.heap.size w3 w4:=EO.trans Ar;have c0:=cell_of_row _ _ 0 _ _ _ (HX.out _ Bt);obtain ⟨v5,w5,P5,AV,Bj⟩:=zK.pushG zai uf zdH Tryz.underlying48 zhV rfl uf Bf ⟨⟨nv1,s, [(s,n)]⟩,sa,sc⟩ (by have:=Ds.out.2.1;have:=DQ.out.2;omega) Bt.size
          have Ag:Below w3.heap.size w3 w5:=Below.own Bt Bf Bj zl Bt.size;have Qj:=zh (zn (AV.base (show w.heap.size+2<=w3.drew.heap.size by show w.heap.size+2<=w3.heap.size;omega)) Ag)
          obtain ⟨a5,n5,k5,rfl⟩:=AV.form;have e4:=cell_of_row _ _ 4 _ _ _ (HX.out _ Ag);have e5:w5.frozen? ⟨w.heap.size,4,none⟩=false:=by simp [World.frozen?,HX.out _ Ag]
          unfold zeK at P5;clear Bf Ar Bj AV Ag)
       | (refine zA (o:=⟨some 37,_,_,_,_,_⟩) ue 88 Tryz.func88 ue rfl _ _ rfl #[.slice h.va c.vols.length h.vc] ug (By.out _ (by with_reducible exact Cs)) ?_
          rintro r w4 ⟨v4,rfl,Bf,Ar⟩;refine ⟨v4,rfl, ?_⟩;have Bt:Below w3.heap.size w3 w4:=Cs.trans (Ar.mono Cs.size);have c0:=cell_of_row _ _ 0 _ _ _ (HX.out _ Bt);obtain ⟨v5,w5,P5,AV,Bj⟩:=zK.appG zai uf zdH Tryz.underlying48 zhV rfl uf Bf 1 (LM.out.below Ar zl) (by have:=Ds.out.2.1;have:=DQ.out.2;omega) Ar.size
          have Ag:Below w3.heap.size w3 w5:=Below.own Bt Bf Bj Cs.size Bt.size;have Qj:=zh (zn (AV.base (show w.heap.size+2<=(w3.alloc (.cells #[.int .i64 (nv1:Int), .int .u64 (s:Int), .slice sa 1 sc] 86)).drew.heap.size by have:=Cs.size;omega)) Ag)
          obtain ⟨a5,n5,k5,rfl⟩:=AV.form;have e4:=cell_of_row _ _ 4 _ _ _ (HX.out _ Ag);have e5:w5.frozen? ⟨w.heap.size,4,none⟩=false:=by simp [World.frozen?,HX.out _ Ag]
          clear Bf Ar Bj AV Ag))
  all_goals
       have AL:zK zeK 3 86 (w5.setCell ⟨w.heap.size,4,none⟩ (.slice a5 n5 k5)) (w.heap.size+2) (.slice a5 n5 k5) (h.vl++ [⟨⟨nv1,s, [(s,n)]⟩,sa,sc⟩])/\(w5.setCell ⟨w.heap.size,4,none⟩ (.slice a5 n5 k5)).heap[w.heap.size]? =some (.cells #[.int .i64 (nv1:Int), .int .i64 (c.ng:Int), .int .i64 (c.nb:Int), .int .u64 (c.fl:Int), .slice a5 n5 k5, .slice h.ga c.groups.length h.gc, .slice h.ba c.books.length h.bc, .slice h.ka c.kept.length h.kc, .slice h.ta c.times.length h.tc] 54 (0,0))/\zD (fun j=> j=w.heap.size) w3 (w5.setCell ⟨w.heap.size,4,none⟩ (.slice a5 n5 k5)):=by
        have BN:=zq w5 ⟨w.heap.size,4,none⟩ (.slice a5 n5 k5);exact ⟨Qj.out.1.heap fun g hg=> BN.block g (Qj.out.1.lt g hg).2 (fun e=> by have:=(Qj.out.1.lt g hg).1;simp at e;omega),heap_setCell_same _ _ 4 _ _ _ (HX.out _ Qj.out.2),(zD.of_below Qj.out.2).trans (zD.turn (D:=fun j=> j=w.heap.size) (g:=w.heap.size) BN rfl) (fun j hj=> .inl hj)⟩
       have AJ:=zh AL;clear AL;go_wp2_with fail
       go_meet
       case rel=> exact AJ.out
 case rest=>
  obtain ⟨Af,AH,Cv⟩:=hcut;obtain ⟨ra,rc,rfl,JL,-,Ex⟩:=Af.row zai;have hY:wc.heap[w.heap.size+1]? =some (.cells #[.int .i64 0, .int .i64 0, .int .i64 0, .int .u64 0, .slice none 0 0, .slice none 0 0, .slice none 0 0, .slice none 0 0, .slice none 0 0] 54 (0,0)):=
       (Cv.block (w.heap.size+1) (zt (zg Ap.out.2.2.1).1 AI.out.2.size) ud).trans ((AI.out.2.block (w.heap.size+1) (zg Ap.out.2.2.1).1 uh).trans Ap.out.2.2.1)
  obtain ⟨x0,x1,x2,x3,x4,x5,x6,x7,x8,xf⟩:=zJ AH;obtain ⟨y0,y1,y2,y3,y4,y5,y6,y7,y8,yf⟩:=zJ hY;have f0:=yf 0;have f1:=yf 1;have f2:=yf 2;have f3:=yf 3;have f4:=yf 4;have f5:=yf 5;have f6:=yf 6;have f7:=yf 7;have f8:=yf 8;have HY:=zh hY;have Ux:=zh AH;have HR:=zh (zn JL (zn Ex Cv));clear Af AH Cv JL Ex hY xf yf a0 a4 b0 b4;go_upto_region 8 with fail
  go_region_law (fail)
  all_goals
       go_wp2_with fail;have Ad:=zeE HY.out (.int .i64 (nv1:Int)) (.int .i64 (c.ng:Int)) (.int .i64 (c.nb:Int)) (.int .u64 (c.fl:Int)) (.slice ra (h.vl.length+1) rc) (.slice h.ga c.groups.length h.gc) (.slice h.ba c.books.length h.bc) (.slice h.ka c.kept.length h.kc) (.slice h.ta c.times.length h.tc);have BL:=zae (B:=w.heap.size+1) (zD.refl _ wc) rfl (.int .i64 (nv1:Int)) (.int .i64 (c.ng:Int)) (.int .i64 (c.nb:Int)) (.int .u64 (c.fl:Int)) (.slice ra (h.vl.length+1) rc) (.slice h.ga c.groups.length h.gc) (.slice h.ba c.books.length h.bc) (.slice h.ka c.kept.length h.kc) (.slice h.ta c.times.length h.tc);generalize World.setCell _ (⟨w.heap.size+1,8,none⟩:Addr) _=W at *;obtain ⟨r0,r1,r2,r3,r4,r5,r6,r7,r8,-⟩:=zJ (W:=W.drew) (show W.drew.heap[w.heap.size+1]? =_ from Ad);have CK:zD (fun j=> j=w.heap.size+1) wc W.drew:=⟨BL.os,BL.tape,BL.output,BL.size,BL.block⟩;simp only [Act.put,List.getElem_toArray,List.getElem_cons_zero,List.getElem_cons_succ,zSs];refine bodyPost_ret (zb9 _ (w.heap.size+1) _ _ #[] _ _ _ _ _ _ _ _ _ _ rfl rfl rfl ⟨r0,r1,r2,r3,r4,r5,r6,r7,r8⟩) rfl ?_;clear Ad r0 r1 r2 r3 r4 r5 r6 r7 r8 BL;generalize W.drew=W at *;have CF:Below w.heap.size w W:=by
        have h1:=DQ.out.1;have h2:=HR.out.2.2;exact ⟨CK.os.trans (h2.os.trans h1.os),CK.tape.trans (h2.tape.trans h1.tape),CK.output.trans (h2.output.trans h1.output),zs h1.size (zs h2.size CK.size),fun j hj=> (CK.block j (zt (zt hj h1.size) h2.size) ud).trans ((h2.block j (zt hj h1.size) ud).trans (h1.block j hj))⟩
       have A0:=HC.out.1.below CF;have Ac:=DQ.out.2;have CZ:zaM Q zeK 3 W ra (h.vl++ [⟨⟨nv1,s, [(s,n)]⟩,sa,sc⟩]):=by
        have h0:zaM (fun j=> j=w.heap.size+1) zeK 3 wc ra (h.vl++ [⟨⟨nv1,s, [(s,n)]⟩,sa,sc⟩]):=⟨HR.out.1,fun b o hb _ hq=> by have:=(HR.out.2.1 b o hb).1;omega⟩
        have h1:=h0.outs zai uf CK (Q':=fun j=> j=w.heap.size+1) (fun _ h=> .inl h);exact ⟨h1.row,fun b o hb hl hq=> by have:=(HR.out.2.1 b o hb).1;have:=HC.out.2.2 b hq;omega⟩
       have GJ:zaM Q zbZ 2 W sa [(s,n)]:=by
        have h0:zaM (fun j=> j=w.heap.size\/j=w.heap.size+1) zbZ 2 w2 sa [(s,n)]:=⟨Bl.out.1,fun b o hb _ hq=> by have:=(Bl.out.2 b o hb).1;have:=Ak.out.2.1;omega⟩
        have ho:zD (fun j=> j=w.heap.size\/j=w.heap.size+1) w2 W:=((zD.turn (D:=fun j=> j=w.heap.size\/j=w.heap.size+1) AI.out.2 (.inl rfl)).trans (HR.out.2.2.more (D':=fun j=> j=w.heap.size\/j=w.heap.size+1) (fun _ h=> .inl h)) (fun _ h=> .inl h)).trans (CK.more (D':=fun j=> j=w.heap.size\/j=w.heap.size+1) (fun _ h=> .inr h)) (fun _ h=> .inl h);have h1:=h0.outs zR uf ho (Q':=fun j=> j=w.heap.size\/j=w.heap.size+1) (fun _ h=> .inl h);exact ⟨h1.row,fun b o hb hl hq=> by have:=(Bl.out.2 b o hb).1;have:=Ak.out.2.1;have:=HC.out.2.2 b hq;omega⟩
       rw [Ds.out.1];refine ⟨_,by rw [Ds.out.2.2];rfl, .inr ⟨rfl,{h with va:=ra,vc:=rc,vl:=h.vl++ [⟨⟨nv1,s, [(s,n)]⟩,sa,sc⟩]}, ?_, ?_⟩,CF⟩
       ·unfold Ch.val Ch.cells;simp only [List.length_append,List.length_cons,List.length_nil,Nat.zero_add]
        first | rw [Ac,Ds.out.2.2] | rw [Ac]
       refine ⟨⟨CZ,fun x hx=> ?_⟩, ?_,A0.groups,A0.groupsE,A0.books,A0.booksE,A0.kept,A0.times⟩
       ·rcases List.mem_append.1 hx with hx | hx
        ·exact A0.vols.sub x hx
        simp at hx;subst hx;exact GJ
       show (h.vl++ [(⟨⟨nv1,s, [(s,n)]⟩,sa,sc⟩:Vh)]).map Vh.v=c.vols++ [⟨c.nv+1,s, [(s,n)]⟩]
       rw [List.map_append,<- Ds.out.2.2];exact congrArg (· ++ [(⟨nv1,s, [(s,n)]⟩:Vl)]) A0.volsE
end
section
open Go.RowKit
theorem ze3 {w:World} {p:Nat} {h:Ch} {a:StA} {cf:Cfg} {st:PS} {nb k:Nat} {Q:Nat->Prop} {B x:Nat} {hc:Ch} {g:Chg} {pv:Value} {pl:List Ph} (H:StW w p h a cf st nb k Q) (X:ChM Q B w x hc g pv pl) (QH:∀j,Q j->j < B) (hg:zfJ st.l g (st.seq+1) st.clock) (AE:st.seq≠18446744073709551615) (hk:k<=61) (G9:k < nb):
 Calls Tryz.prog 16 #[.pointer (some ⟨p,0,none⟩), .pointer (some ⟨x,0,none⟩)] w (ApE w p a cf st nb k Q hc g):=by
 obtain ⟨F0,L0,E0,s,lv0,xs,ys0,D0,Xh⟩:=H.mem;have IR:¬Q x:=fun e=> by have:=QH x e;have:=X.lo;omega
 have Ho:=zh (fun (W:World) (Q':Nat->Prop) (hG:StG w Q W Q')=> show W.heap[x]? =some (.cells (zb8 hc g pv) 81 (0,0)) from (hG.block X.xlt IR).trans X.box);have Hk:=zh (fun (W:World) (Q':Nat->Prop) (hG:StG w Q W Q')=> (zK.heap X.puts fun r hr=> hG.block (X.puts.lt r hr).2 fun e=> by have:=QH r e;have:=(X.puts.lt r hr).1;omega).row zfh)
 have VY:=zh (fun (W:World) (Q':Nat->Prop) (hG:StG w Q W Q')=> show zaV Q' W hc g.c from X.cat.outs (hG.outs.more fun _ h=> .inl h) fun j hj=> (hG.new j hj).imp (fun h=> .inl h) id);have Rd:=zh (fun (i:Nat) (wr:World) (hO:ApL w p h a cf st nb k Q s xs g i wr) (y:Ph) (hy:pl[i]? =some y)=> ApL.call H X QH hg AE hk hO hy);have EZ:=zh (ApL.start Xh (zhS H.inv G9) g);obtain ⟨pa,pc,MR,-⟩:=X.puts.row zfh;have vx:=zh MR;have Ac:g.puts.length=pl.length:=by rw [<- X.map,List.length_map]
 have y11:w.cell? ⟨x,11,none⟩=some (.slice pa pl.length pc):=by rw [<- MR];exact cell_of_row w _ 11 _ _ _ X.box
 have HH:=zh (zn H (zn hg (zn AE (zn hk (zn Ac Xh.qlt)))));obtain ⟨m0,DT⟩:∃m0,pl.length=m0:=⟨_,rfl⟩;rw [DT] at y11;have M9:=zh DT;have GI:m0<=32:=by have:=hg.len;omega
 clear H X QH hg AE hk G9 Xh IR MR Ac DT;go_in;go_wp2_with fail
 go_loopw [15] (fun u15 wr=> ∃i:Nat,i<=m0/\u15= .int .i64 i/\ApL w p h a cf st nb k Q s xs g i wr) (fun u15 _=> m0 - (intOf u15).toNat)
 case atStart=> exact ⟨0,Nat.zero_le _,rfl,EZ.out⟩
 case round=>
  obtain ⟨i,hi,rfl,hO⟩:=hrel
  by_cases hlt:i < m0
  ·have Bb:(i:Int) < (m0:Int):=ud;obtain ⟨y,hy⟩:∃y,pl[i]? =some y:=⟨_,ze (by have:=M9.out;omega)⟩
   have HC:=zh (Rd.out i wr hO y hy);obtain ⟨Q',hG⟩:=hO.grew;obtain ⟨a',cap',DM,Bw,-⟩:=Hk.out wr Q' hG;obtain ⟨g',o',Gy,hcells⟩:=Bw.2 i y hy;have Iy:=vx.out.symm.trans DM;simp only [Value.slice.injEq,true_and] at Iy;obtain ⟨rfl,rfl⟩:=Iy;subst Gy;have c0:=hcells 0 _ rfl;have c1:=hcells 1 _ rfl;have c2:=hcells 2 _ rfl;simp only [Nat.add_zero] at c0;obtain ⟨da,dn,dc,Nx⟩:=zo3 y.d;rw [Nx] at c2;unfold zaT at HC;rw [Nx] at HC;clear hO hG Bw hcells DM hy Nx y11;go_wp2_with fail;refine HC.out.mono ?_;rintro e w5 ⟨rfl,Nj⟩;have LN:=zh Nj;clear Nj HC;go_wp2_with fail
   go_roundw
   case rel=> exact ⟨i+1,ud,by go_num,LN.out⟩
   case measure=> simp [intOf];omega
  obtain rfl:i=m0:=ud;have DT:=M9.out;obtain ⟨xb,F1,L1,E1,lv,ys,D,Q1,GY,LZ,Xc⟩:=hO;rw [zk (by have:=HH.out.2.2.2.2.1;omega)] at LZ
  have LZ:=LZ.more (m:=k+1) (by have:=zo1 HH.out.2.1;omega)
  have Lr:=HH.out.2.1;have Gb:=zeX (v:=g.vol) (s:=g.seq) (x:=xb) g.puts HH.out.1.inv.rise;have Pp:Fit (zaP st.l g.vol g.seq xb g.puts):=fun e he=> by
       have C5:=HH.out.1.nbl;have Fc:=HH.out.1.inv.seq;have BF:=Lr.seq;have FK:=HH.out.2.2.1;rcases zeY _ he with h1 | ⟨q,hq,rfl⟩
       ·exact HH.out.1.inv.fit ud e h1
       have h4:=Lr.blk q hq;have h5:=Lr.vol;refine ⟨by show za9 g.vol q.b g.seq<=_;unfold za9;omega, ?_⟩
       show puA xb q < _
       rcases zg7 (x:=xb) Lr hq with h5 | ⟨e,he,h5⟩ | h5
       ·omega
       ·have:=(HH.out.1.inv.keys e he).2.2.2;omega
       have:=GY.2.1;omega
  have Bu:(zaP st.l g.vol g.seq xb g.puts).length<=2000:=by
       have:=Lr.len;have:=HH.out.1.inv.len;have:=HH.out.2.2.2.1
       omega
  obtain ⟨l1,hl1e⟩:∃l1,l1=zaP st.l g.vol g.seq xb g.puts:=⟨_,rfl⟩;obtain ⟨bl1,Pb⟩:∃bl1,bl1=blP st.bl xb g.puts:=⟨_,rfl⟩;rw [<- hl1e,<- Pb] at LZ;rw [<- hl1e] at Pp Bu;have Re:=zh (zn hl1e (zn Pb GY));have Eh:=zh (zn LZ (zn Xc (zn Pp Bu)));have qp:=Ho.out wr Q1 Xc;have x12:wr.cell? ⟨x,12,none⟩=some (.int .i64 (g.drop:Int)):=cell_of_row wr _ 12 _ _ _ qp;obtain ⟨p9,-,-⟩:=LZ.n.cells;obtain ⟨bd,DF⟩:∃bd,((g.drop:Int) !=0)=bd:=⟨_,rfl⟩;clear LZ Xc Lr Gb Pp Bu hl1e Pb GY qp y11 hlt hi DT
  go_upto_if 31 with fail
  go_cut [] from 32 to 40 (fun wx=> ∃F2 L2 E2 Q2,StM wx p h a cf {st with l:=if g.drop=0 then l1 else zao l1 (zdE l1 g.drop),bl:=bl1} nb (k+1) F2 L2 E2 s lv xs ys D Q2/\StG w Q wx Q2)
  case first=>
       cases bd with
       | false=>
         have EO:g.drop=0:=by simpa using DF
         go_wp2_with fail
         go_meet
         case rel=>
          refine ⟨F1,L1,E1,Q1, ?_,Eh.out.2.1⟩;rw [if_pos EO];exact Eh.out.1
       | true=>
         have EO:g.drop≠0:=by
          rw [bne_iff_ne] at DF
          omega
         have Qi:=zh (zn0 (Eh.out.1.below zr.drew).hist Eh.out.1.hinv Eh.out.2.2.1 Eh.out.2.2.2 (by have:=HH.out.1.nbl;omega) g.drop (by have:=HH.out.2.1.drop;omega))
         unfold zv at Qi;have IZ:=zh (fun (w5:World) (Nj:HO a.ph a.pt a.pa nb E1 wr.drew (zao l1 (zdE l1 g.drop)) w5)=> show w5.cell? ⟨p,9,none⟩=some (.pointer (some ⟨a.ph,0,none⟩))/\w5.cell? ⟨x,12,none⟩=some (.int .i64 (g.drop:Int)) from by
          obtain ⟨F2,L2,hT,hI⟩:=Nj;obtain ⟨E2,Q2,CE,Hp⟩:=(Eh.out.1.below zr.drew).histed hT hI (fun e he=> (zbd _ _).subset he);exact ⟨CE.n.cells.1,cell_of_row w5 _ 12 _ _ _ (Ho.out w5 Q2 ((Eh.out.2.1.trans (StG.below Q1 zr.drew)).trans Hp))⟩)
         go_wp2_with fail
         go_region_held3 (fun W=> W.cell? ⟨p,9,none⟩=some (.pointer (some ⟨a.ph,0,none⟩))/\W.cell? ⟨x,12,none⟩=some (.int .i64 (g.drop:Int))) (first | with_reducible exact CJ | go_keep)
          ((go_at_call 31;((with_reducible refine Qi.out.mono ?_);rintro e w5 ⟨rfl,Nj⟩;have CJ:=IZ.out w5 Nj)))
         have vi:=zh Nj;clear Nj Qi IZ;go_wp2_with fail
         go_meet
         case rel=>
          obtain ⟨F2,L2,hT,hI⟩:=vi.out;obtain ⟨E2,Q2,CE,Hp⟩:=(Eh.out.1.below zr.drew).histed hT hI (fun e he=> (zbd _ _).subset he);refine ⟨F2,L2,E2,Q2, ?_,(Eh.out.2.1.trans (StG.below Q1 zr.drew)).trans Hp⟩;rw [if_neg EO];exact CE
  case rest=>
       rename World=> wc;obtain ⟨F2,L2,E2,Q2,CE,Hp⟩:=hcut;obtain ⟨l2,CC⟩:∃l2,l2=if g.drop=0 then l1 else zao l1 (zdE l1 g.drop):=⟨_,rfl⟩;rw [<- CC] at CE;have Ia:Fit l2/\l2.length<=2000:=by
        rw [CC]
        split
        ·exact ⟨Eh.out.2.2.1,Eh.out.2.2.2⟩
        exact ⟨fun e he=> Eh.out.2.2.1 e ((zbd _ _).subset he),zs (zbd _ _).length_le Eh.out.2.2.2⟩
       have I0:=zh (zn CC Ia);clear x12 p9 DF CC Ia;go_upto_region 10 with fail;obtain ⟨wd,N8⟩:∃wd,wd=wc.drew:=⟨_,rfl⟩;have Xj:=CE.below (show Below wc.heap.size wc wd from by rw [N8];exact zr.drew)
       have Xd:=Hp.trans (StG.below Q2 (show Below wc.heap.size wc wd from by rw [N8];exact zr.drew))
       have Le:=Ho.out wd Q2 Xd;have Av:True/\(wd.cell? ⟨x,0,none⟩=some (.int .i64 (g.c.nv:Int))/\wd.cell? ⟨x,1,none⟩=some (.int .i64 (g.c.ng:Int))/\wd.cell? ⟨x,2,none⟩=some (.int .i64 (g.c.nb:Int))/\wd.cell? ⟨x,3,none⟩=some (.int .u64 (g.c.fl:Int))/\wd.cell? ⟨x,4,none⟩=some (.slice hc.va g.c.vols.length hc.vc)/\wd.cell? ⟨x,5,none⟩=some (.slice hc.ga g.c.groups.length hc.gc)/\wd.cell? ⟨x,6,none⟩=some (.slice hc.ba g.c.books.length hc.bc)/\wd.cell? ⟨x,7,none⟩=some (.slice hc.ka g.c.kept.length hc.kc)/\wd.cell? ⟨x,8,none⟩=some (.slice hc.ta g.c.times.length hc.tc)/\wd.cell? ⟨x,14,none⟩=some (.int .u64 (g.seq:Int))):=⟨trivial,cell_of_row wd _ 0 _ _ _ Le,cell_of_row wd _ 1 _ _ _ Le,cell_of_row wd _ 2 _ _ _ Le,cell_of_row wd _ 3 _ _ _ Le,cell_of_row wd _ 4 _ _ _ Le,cell_of_row wd _ 5 _ _ _ Le,cell_of_row wd _ 6 _ _ _ Le,cell_of_row wd _ 7 _ _ _ Le,cell_of_row wd _ 8 _ _ _ Le,cell_of_row wd _ 14 _ _ _ Le⟩;have CO:=Xj.box;unfold zcH at CO;obtain ⟨p0,p1,p2,p3,p4,p5,p6,p7,p8⟩:=rd9 (w:=wd) CO;have p18:=cell_of_row wd _ 18 _ _ _ CO;have pf0:wd.frozen? ⟨p,0,none⟩=false:=by simp [World.frozen?,CO]
       have pf1:wd.frozen? ⟨p,1,none⟩=false:=by simp [World.frozen?,CO]
       have pf2:wd.frozen? ⟨p,2,none⟩=false:=by simp [World.frozen?,CO]
       have pf3:wd.frozen? ⟨p,3,none⟩=false:=by simp [World.frozen?,CO]
       have pf4:wd.frozen? ⟨p,4,none⟩=false:=by simp [World.frozen?,CO]
       have pf5:wd.frozen? ⟨p,5,none⟩=false:=by simp [World.frozen?,CO]
       have pf6:wd.frozen? ⟨p,6,none⟩=false:=by simp [World.frozen?,CO]
       have pf7:wd.frozen? ⟨p,7,none⟩=false:=by simp [World.frozen?,CO]
       have pf8:wd.frozen? ⟨p,8,none⟩=false:=by simp [World.frozen?,CO]
       have pf18:wd.frozen? ⟨p,18,none⟩=false:=by simp [World.frozen?,CO]
       have Qn:=zh (zn Xj Xd);clear CE Hp Xj Xd Le;refine zy ue [0,1,2,3,4,6,7,8,10,11,12,13,14,15] (fun _=> True) (fun W=> W.cell? ⟨x,0,none⟩=some (.int .i64 (g.c.nv:Int))/\W.cell? ⟨x,1,none⟩=some (.int .i64 (g.c.ng:Int))/\W.cell? ⟨x,2,none⟩=some (.int .i64 (g.c.nb:Int))/\W.cell? ⟨x,3,none⟩=some (.int .u64 (g.c.fl:Int))/\W.cell? ⟨x,4,none⟩=some (.slice hc.va g.c.vols.length hc.vc)/\W.cell? ⟨x,5,none⟩=some (.slice hc.ga g.c.groups.length hc.gc)/\W.cell? ⟨x,6,none⟩=some (.slice hc.ba g.c.books.length hc.bc)/\W.cell? ⟨x,7,none⟩=some (.slice hc.ka g.c.kept.length hc.kc)/\W.cell? ⟨x,8,none⟩=some (.slice hc.ta g.c.times.length hc.tc)/\W.cell? ⟨x,14,none⟩=some (.int .u64 (g.seq:Int))) ?_;rw [<- N8];clear N8;refine tL 0 trivial ?_;refine tL 1 trivial ?_;refine tL 2 trivial ?_;refine tL 3 trivial ?_;refine tL 4 trivial ?_;refine tL 6 trivial ?_;refine tL 7 trivial ?_;refine tL 8 trivial ?_;refine tS 5 Av ?_;refine tS 9 Av ?_;refine tL 10 trivial ?_;refine tL 11 trivial ?_;refine zd (i:=12) ue rfl (fun K' hK=> ?_);go_simp;refine hK.out _ _ ⟨trivial,fun h=> absurd h uf⟩ ?_
       try simp only [Act.put,zSs]
       clear hK K' Av;have Ad:=zpx CO (.int .i64 (g.c.nv:Int)) (.int .i64 (g.c.ng:Int)) (.int .i64 (g.c.nb:Int)) (.int .u64 (g.c.fl:Int)) (.slice hc.va g.c.vols.length hc.vc) (.slice hc.ga g.c.groups.length hc.gc) (.slice hc.ba g.c.books.length hc.bc) (.slice hc.ka g.c.kept.length hc.kc) (.slice hc.ta g.c.times.length hc.tc);have BL:=zp3 (B:=p) (zD.refl _ wd) rfl hc g.c;generalize World.setCell _ (⟨p,8,none⟩:Addr) _=wE at *;clear p0 p1 p2 p3 p4 p5 p6 p7 p8 p18 pf0 pf1 pf2 pf3 pf4 pf5 pf6 pf7 pf8 pf18;have p18:wE.cell? ⟨p,18,none⟩=some (.int .u64 (st.seq:Int)):=cell_of_row wE _ 18 _ _ _ Ad;have pf18:wE.frozen? ⟨p,18,none⟩=false:=by simp [World.frozen?,Ad]
       refine tL 13 trivial ?_;refine tL 14 trivial ?_;refine zd (i:=15) ue rfl (fun K' hK=> ?_);go_simp;refine hK.out _ _ ⟨trivial,fun h=> absurd h uf⟩ ?_
       try simp only [Act.put,zSs]
       clear hK K';have K2:(wE.setCell ⟨p,18,none⟩ (.int .u64 (g.seq:Int))).heap[p]? =some (.cells #[.int .i64 (g.c.nv:Int), .int .i64 (g.c.ng:Int), .int .i64 (g.c.nb:Int), .int .u64 (g.c.fl:Int), .slice hc.va g.c.vols.length hc.vc, .slice hc.ga g.c.groups.length hc.gc, .slice hc.ba g.c.books.length hc.bc, .slice hc.ka g.c.kept.length hc.kc, .slice hc.ta g.c.times.length hc.tc, .pointer (some ⟨a.ph,0,none⟩), .pointer (some ⟨a.pd,0,none⟩), .int .i64 (a.lg:Int), .int .i64 cf.sectors, .int .i64 cf.log, .int .u64 (cf.seq:Int), .int .u64 (cf.clock:Int), .int .u64 (cf.win:Int), .int .u64 (cf.every:Int), .int .u64 (g.seq:Int), .int .u64 (st.clock:Int)] 60 (0,0)):=heap_setCell_same _ p 18 _ _ _ Ad;have MY:zD (fun j=> j=p) wd (wE.setCell ⟨p,18,none⟩ (.int .u64 (g.seq:Int))):=BL.trans (zD.turn (D:=fun j=> j=p) (zq wE ⟨p,18,none⟩ _) rfl) (fun _ h=> .inl h);clear Ad BL p18 pf18;generalize World.setCell _ (⟨p,18,none⟩:Addr) _=wG at *;refine zI ue ?_ _;have EK:=Qn.out.1.turned MY (h':=hc) (c':=g.c) (sq:=g.seq) K2 (VY.out wG Q2 (Qn.out.2.trans ⟨fun _ h=> .inl h,MY.more fun j hj=> by rw [hj];exact (Qn.out.1.dom p).2 (.inl rfl)⟩))
       have Fh:StG w Q wG Q2:=Qn.out.2.trans ⟨fun _ h=> .inl h,MY.more fun j hj=> by rw [hj];exact (Qn.out.1.dom p).2 (.inl rfl)⟩
       have LB:=Ho.out wG Q2 Fh;have x13:wG.cell? ⟨x,13,none⟩=some (.bool g.prune):=cell_of_row wG _ 13 _ _ _ LB;have On:=zh (zn EK Fh);have VS:=zh K2;clear K2 MY CO EK Fh LB;obtain ⟨bp,Fm⟩:∃bp,g.prune=bp:=⟨_,rfl⟩;have AJ:=zh (fun (w':World) (Q':Nat->Prop) (l3:List En) F3 L3 E3 (Gc:l3=zch g xb st.l) (hM:StM w' p hc a cf {st with c:=g.c,l:=l3,bl:=bl1,seq:=g.seq} nb (k+1) F3 L3 E3 s lv xs ys D Q') (hG:StG w Q w' Q')=> show ∃x Q',zcn nb st.l x/\StW w' p hc a cf (zcJ st g x) nb (k+1) Q'/\StG w Q w' Q' from by
        refine ⟨xb,Q',Re.out.2.2,⟨zhu HH.out.1.inv HH.out.2.2.1 HH.out.2.1 Re.out.2.2.2.1,HH.out.1.nbl,by have:=HH.out.2.2.2.1;omega,F3,L3,E3,s,lv,xs,ys,D, ?_⟩,hG⟩
        unfold zcJ;rw [<- Gc,<- Re.out.2.1];exact hM)
       rw [Fm] at x13
       cases bp with
       | false=>
         go_wp2_with fail;go_ret;refine ⟨rfl,AJ.out wG Q2 l2 F2 L2 E2 ?_ On.out.1 On.out.2⟩;unfold zch;simp only;rw [Fm,I0.out.1,Re.out.1]
         rfl
       | true=>
         obtain ⟨p0,p1,p2,p3,p4,p5,p6,p7,p8⟩:=rd9 (w:=wG) VS.out;have M5:=zh (zpd On.out.1.cat (by have:=HH.out.2.1.c.vlen;show g.c.vols.length<=_;omega))
         unfold Ch.val Ch.cells at M5;have XN:=zh Fm;clear Fm;go_wp2_with fail;refine M5.out.mono ?_;rintro e wI ⟨v,rfl,Af,Va⟩;obtain ⟨ia,ic,Ym,S4,-,kD⟩:=Af.row zT;have jy:=On.out.1.below Va;have jk:=On.out.2.trans (StG.below Q2 Va);have qP:=zh (show v= .slice ia g.c.vols.length ic from by rw [Ym,List.length_map])
         have Uz:=zh (fun (W:World) (Q':Nat->Prop) (hG:StG wI Q2 W Q')=> (zK.heap Af fun r hr=> hG.block (Af.lt r hr).2 fun e=> by have:=On.out.1.qlt r e;have:=(Af.lt r hr).1;omega).row zT)
         have ZN:=zh (zn jy (zn jk Va));have Wg:=zh Ym;rw [qP.out];clear Ym S4 kD Af jy jk Va p0 p1 p2 p3 p4 p5 p6 p7 p8 M5;have cD:=HH.out.2.1.c.vlen;clear x13;have Wx:=zh (show ApP wI Q2 p hc a cf {st with c:=g.c,l:=l2,bl:=bl1,seq:=g.seq} nb (k+1) s lv xs ys D 0 wI from ⟨F2,L2,E2,Q2,ZN.out.1,StG.refl _ _⟩)
         go_wp2_with fail
         go_loopw [65] (fun u65 wr=> ∃i:Nat,i<=g.c.vols.length/\u65= .int .i64 i/\ApP wI Q2 p hc a cf {st with c:=g.c,l:=l2,bl:=bl1,seq:=g.seq} nb (k+1) s lv xs ys D i wr) (fun u65 _=> g.c.vols.length - (intOf u65).toNat)
         case atStart=> exact ⟨0,Nat.zero_le _,rfl,Wx.out⟩
         case round =>
          obtain ⟨i,hi,rfl,hO⟩:=hrel
          by_cases hlt:i < g.c.vols.length
          ·have Bb :(i:Int) < (g.c.vols.length:Int):=ud;obtain ⟨v,hv⟩:∃v,g.c.vols[i]? =some v:=⟨_,ze hlt⟩;have Zt:=(HH.out.2.1.c.vols v (zm hv)).id;have Ik:=HH.out.2.1.c.nv;have HO:=zh hO;obtain ⟨F3,L3,E3,Q3,EK,Fh⟩:=hO;obtain ⟨a',cap',DM,Bw,-⟩:=Uz.out wr Q3 Fh;obtain ⟨g',o',Gy,hcells⟩:=Bw.2 i (v.id:Int) (by rw [List.getElem?_map,hv];rfl)
           have Iy:=Wg.out.symm.trans DM;simp only [Value.slice.injEq,true_and] at Iy;obtain ⟨rfl,rfl⟩:=Iy;subst Gy;have c0:=hcells 0 _ rfl;simp only [Nat.mul_one,Nat.add_zero] at c0;have Kn:=EK.box;unfold zcH at Kn;obtain ⟨p0,p1,p2,p3,p4,p5,p6,p7,p8,p9⟩:=rd10 (w:=wr) Kn;have FC:=zh (zh6 (EK.below zr.drew).cat HH.out.2.1.c (v.id:Int));unfold Ch.val Ch.cells at FC;have Rz:=zh (fun (W:World) (hW:Below wr.heap.size wr W)=> show W.cell? ⟨p,0,none⟩=some (.int .i64 (g.c.nv:Int))/\W.cell? ⟨p,1,none⟩=some (.int .i64 (g.c.ng:Int))/\W.cell? ⟨p,2,none⟩=some (.int .i64 (g.c.nb:Int))/\W.cell? ⟨p,3,none⟩=some (.int .u64 (g.c.fl:Int))/\W.cell? ⟨p,4,none⟩=some (.slice hc.va g.c.vols.length hc.vc)/\W.cell? ⟨p,5,none⟩=some (.slice hc.ga g.c.groups.length hc.gc)/\W.cell? ⟨p,6,none⟩=some (.slice hc.ba g.c.books.length hc.bc)/\W.cell? ⟨p,7,none⟩=some (.slice hc.ka g.c.kept.length hc.kc)/\W.cell? ⟨p,8,none⟩=some (.slice hc.ta g.c.times.length hc.tc)/\W.cell? ⟨p,9,none⟩=some (.pointer (some ⟨a.ph,0,none⟩)) from by
            have hW:=(EK.below hW).box;unfold zcH at hW;exact ⟨cell_of_row W _ 0 _ _ _ hW,cell_of_row W _ 1 _ _ _ hW,cell_of_row W _ 2 _ _ _ hW,cell_of_row W _ 3 _ _ _ hW,cell_of_row W _ 4 _ _ _ hW,cell_of_row W _ 5 _ _ _ hW,cell_of_row W _ 6 _ _ _ hW,cell_of_row W _ 7 _ _ _ hW,cell_of_row W _ 8 _ _ _ hW,cell_of_row W _ 9 _ _ _ hW⟩)
           have Lk:=zh (fun (w3:World) (Am:Below wr.heap.size wr w3) (b':Option Addr) (c':Nat) (ps:List Nat) (hp:zM zb0 1 w3 b' ps.length ps) (AQ:ps.length<=1000000) (hm:∀x,x ∈ ps↔x ∈ g.c.ofL v.id)=> ApP.call HO.out I0.out.2.1 I0.out.2.2 (by have:=HH.out.1.nbl;omega) (v:=v) hv ud Am (c':=c') hp AQ hm)
           have vw:=zh (fun (w':World) (hA:ApP wI Q2 p hc a cf {st with c:=g.c,l:=l2,bl:=bl1,seq:=g.seq} nb (k+1) s lv xs ys D (i+1) w')=> show w'.cell? ⟨p,0,none⟩=some (.int .i64 (g.c.nv:Int))/\w'.cell? ⟨p,1,none⟩=some (.int .i64 (g.c.ng:Int))/\w'.cell? ⟨p,2,none⟩=some (.int .i64 (g.c.nb:Int))/\w'.cell? ⟨p,3,none⟩=some (.int .u64 (g.c.fl:Int))/\w'.cell? ⟨p,4,none⟩=some (.slice hc.va g.c.vols.length hc.vc)/\w'.cell? ⟨p,5,none⟩=some (.slice hc.ga g.c.groups.length hc.gc)/\w'.cell? ⟨p,6,none⟩=some (.slice hc.ba g.c.books.length hc.bc)/\w'.cell? ⟨p,7,none⟩=some (.slice hc.ka g.c.kept.length hc.kc)/\w'.cell? ⟨p,8,none⟩=some (.slice hc.ta g.c.times.length hc.tc)/\w'.cell? ⟨p,9,none⟩=some (.pointer (some ⟨a.ph,0,none⟩)) from by
            obtain ⟨F4,L4,E4,Q4,Xi,-⟩:=hA;have hW:=Xi.box;unfold zcH at hW;exact ⟨cell_of_row w' _ 0 _ _ _ hW,cell_of_row w' _ 1 _ _ _ hW,cell_of_row w' _ 2 _ _ _ hW,cell_of_row w' _ 3 _ _ _ hW,cell_of_row w' _ 4 _ _ _ hW,cell_of_row w' _ 5 _ _ _ hW,cell_of_row w' _ 6 _ _ _ hW,cell_of_row w' _ 7 _ _ _ hW,cell_of_row w' _ 8 _ _ _ hW,cell_of_row w' _ 9 _ _ _ hW⟩)
           have vm:=zh (show (g.c.ofL (v.id:Int)).length<=1000000 from by
            unfold Ct.ofL;rw [List.length_append,List.length_map];have h1:=List.length_filter_le (fun b:Bk=> decide ((v.id:Int) ∈ b.ms)) g.c.books;have h2:=HH.out.2.1.c.klen;have h3:=HH.out.2.1.c.blen
            omega)
           unfold zv at Lk;clear EK Fh Bw hcells DM Kn hv Ik Zt;generalize v.id=vid at *;go_wp2_with fail
           go_region_held3 (fun W=> W.cell? ⟨p,0,none⟩=some (.int .i64 (g.c.nv:Int))/\W.cell? ⟨p,1,none⟩=some (.int .i64 (g.c.ng:Int))/\W.cell? ⟨p,2,none⟩=some (.int .i64 (g.c.nb:Int))/\W.cell? ⟨p,3,none⟩=some (.int .u64 (g.c.fl:Int))/\W.cell? ⟨p,4,none⟩=some (.slice hc.va g.c.vols.length hc.vc)/\W.cell? ⟨p,5,none⟩=some (.slice hc.ga g.c.groups.length hc.gc)/\W.cell? ⟨p,6,none⟩=some (.slice hc.ba g.c.books.length hc.bc)/\W.cell? ⟨p,7,none⟩=some (.slice hc.ka g.c.kept.length hc.kc)/\W.cell? ⟨p,8,none⟩=some (.slice hc.ta g.c.times.length hc.tc)/\W.cell? ⟨p,9,none⟩=some (.pointer (some ⟨a.ph,0,none⟩))) (first | with_reducible exact CJ | go_keep)
            (first
                 | (go_at_call 34
                    ((with_reducible refine FC.out.mono ?_);rintro e w3 ⟨u3,rfl,⟨pa3,pc3,ps3,rfl,YW,Y0,Y3,-⟩,Am⟩;have Am:Below wr.heap.size wr w3:=zr.drew.trans Am;have CJ:=Rz.out w3 Am))
                 | (go_at_call 33
                    ((with_reducible refine (Lk.out w3 Am pa3 pc3 ps3 Y3 (zs YW vm.out) Y0).mono ?_);rintro e w4 ⟨z4,rfl,WY⟩;have CJ:=vw.out w4 WY)))
           all_goals
            have VL:=zh WY;clear WY;go_wp2_with fail
            go_roundw
            case rel=> exact ⟨i+1,ud,by go_num,VL.out⟩
            case measure=> simp [intOf];omega
          obtain rfl:i=g.c.vols.length:=ud;obtain ⟨F3,L3,E3,Q3,EK,Fh⟩:=hO;have ZM:=zh (zn EK Fh);clear EK Fh;go_wp2_with fail;go_ret;refine ⟨rfl,AJ.out _ Q3 _ F3 L3 E3 ?_ ZM.out.1 (ZN.out.2.1.trans ZM.out.2)⟩;unfold zch;simp only;rw [XN.out,I0.out.1,Re.out.1,zk zl]
          rfl
end
section
open Go.RowKit
structure Oq where
 o:PO
 da:Option Addr
 dc:Nat
 ma:Option Addr
 mc:Nat
def Oq.val (z:Oq):Array Value:=opA z.o z.da z.o.d.length z.dc z.ma z.o.m.length z.mc
def zp6 (z:Oq):List Value:= [.int .i64 z.o.k, .int .i64 z.o.v, .int .i64 z.o.i, .int .i64 z.o.b, .int .i64 z.o.n, .int .u64 z.o.pt, .slice z.da z.o.d.length z.dc, .slice z.ma z.o.m.length z.mc]
theorem zp7 (z:Oq):(zp6 z).length=8:=rfl
structure zpD (w:World) (z:Oq):Prop where
 bs:Bs w z.da z.o.d.length z.o.d
 ms:zM zcm 1 w z.ma z.o.m.length z.o.m
 fit:z.o.v<=9223372036854775807/\z.o.i<=9223372036854775807/\z.o.b<=9223372036854775807/\z.o.n<=9223372036854775807
 pt:0<=z.o.pt/\z.o.pt < 18446744073709551616
theorem zpD.below {w w':World} {z:Oq} (h:zpD w z) (hb:Below w.heap.size w w'):zpD w' z:=⟨h.bs.below hb zl,h.ms.below hb zl,h.fit,h.pt⟩
def zfl (o:PO):Bool:=decide (300 < o.d.length) || decide (100 < o.m.length)
theorem zpD.op {w:World} {z:Oq} (h:zpD w z) (hg:zfl z.o=false):OpM w z.o z.da z.o.d.length z.ma z.o.m.length:=by
 unfold zfl at hg;rw [Bool.or_eq_false_iff] at hg;have h1:=of_decide_eq_false hg.1;have h2:=of_decide_eq_false hg.2;exact ⟨h.bs,h.ms,ud,h.fit,h.pt⟩
structure zoW (w:World) (a:Option Addr) (n:Nat) (l:List Oq):Prop where
 row:zM zp6 8 w a n l
 ok:∀z ∈ l,zpD w z
theorem zoW.below {w w':World} {a:Option Addr} {n:Nat} {l:List Oq} (h:zoW w a n l) (hb:Below w.heap.size w w'):zoW w' a n l:=⟨h.row.below hb zl,fun z hz=> (h.ok z hz).below hb⟩
def znE (l:List Oq) (most:Int):Bool:=decide ((l.length:Int)<=most) && l.all fun z=> !zfl z.o
theorem zmv (w:World) (z:Oq):
 Calls Tryz.prog 12 #[.agg z.val] w fun e w'=> e= .returned (.bool (zfl z.o))/\Below w.heap.size w w':=by
 obtain ⟨w1,Ab⟩:∃w1,w1=w.alloc (.cells z.val 40):=⟨_,rfl⟩;have Aa:Below w.heap.size w w1:=by rw [Ab];exact zr.alloc zl _
 have hX:w1.heap[w.heap.size]? =some (.cells z.val 40 (0,0)):=by rw [Ab];exact heap_alloc_new w _
 have HB:=zh Aa;have o6:=cell_of_row w1 _ 6 _ _ _ hX;have o7:=cell_of_row w1 _ 7 _ _ _ hX;obtain ⟨⟨k,v,i,b,n,pt,d,m⟩,da,dc,ma,mc⟩:=z;have hG:zfl ⟨k,v,i,b,n,pt,d,m⟩=(decide (300 < d.length) || decide (100 < m.length)):=rfl
 simp only [hG];unfold Oq.val opA at *;simp only at Ab o6 o7;generalize d.length=dn at *;generalize m.length=mn at *;clear Aa hX hG
 by_cases h1:300 < dn
 ·have e1:decide ((dn:Int) > 300)=true:=decide_eq_true ud;have e3:decide (300 < dn)=true:=decide_eq_true h1;have HE:=zh e3;clear e3;go_in;go_upto_region 1 with fail;rw [<- Ab];clear Ab;go_wp2_with fail;go_ret;exact ⟨by rw [HE.out];rfl,HB.out⟩
 have e1:decide ((dn:Int) > 300)=false:=decide_eq_false ud;have e3:decide (300 < dn)=false:=decide_eq_false h1;have HE:=zh e3;obtain ⟨bm,Ml⟩:∃bm,decide ((mn:Int) > 100)=bm:=⟨_,rfl⟩;have So:decide (100 < mn)=bm:=by rw [<- Ml];exact decide_eq_decide.2 ud
 have HM:=zh So;clear e3 So;go_in;go_upto_region 1 with fail;rw [<- Ab];clear Ab;go_wp2_with fail;go_ret;exact ⟨by rw [HE.out,HM.out];rfl,HB.out⟩
theorem ziU {w:World} {a:Option Addr} {n:Nat} (c:Nat) {l:List Oq} (h:zoW w a n l) (most:Int) (hm:most<=1000):
 Calls Tryz.prog 6 #[.slice a n c, .int .i64 most] w fun e w'=> e= .returned (.bool (znE l most))/\Below w.heap.size w w':=by
 have hn:=h.row.1;have H:=zh h
 by_cases h1:(n:Int)<=most
 ·have e1 :decide ((n:Int) > most)=false:=decide_eq_false ud;have HF:=zh (show znE l most=l.all fun z=> !zfl z.o from by unfold znE;rw [hn,decide_eq_true h1];rfl)
  have C5:n<=1000:=ud;clear h h1;go_in;go_wp2_with fail
  go_loopw [5] (fun u5 wr=> ∃i:Nat,i<=n/\u5= .int .i64 i/\((l.take i).all fun z=> !zfl z.o)=true/\Below w.heap.size w wr) (fun u5 _=> n - (intOf u5).toNat)
  case atStart=> exact ⟨0,Nat.zero_le _,rfl,rfl,Below.refl _ _⟩
  case round=>
   obtain ⟨i,hi,rfl,Bq,AA⟩:=hrel;have HA:=zh (zn Bq AA)
   by_cases hlt:i < n
   ·have AD:(0:Int)<=(i:Int):=ud;have Bb:(i:Int) < (n:Int):=ud;obtain ⟨z,hz⟩:∃z,l[i]? =some z:=⟨_,ze ud⟩;obtain ⟨g,o,Gy,hcells⟩:=(H.out.below AA).row.2 i z hz;have HZ:=zh (zn hz Gy);have HG:=zh (zmv wr z);obtain ⟨⟨k,v,i2,b,n2,pt,d,m⟩,da,dc,ma,mc⟩:=z;subst Gy;have c0:=hcells 0 _ rfl;have c1:=hcells 1 _ rfl;have c2:=hcells 2 _ rfl;have c3:=hcells 3 _ rfl;have c4:=hcells 4 _ rfl;have c5:=hcells 5 _ rfl;have c6:=hcells 6 _ rfl;have c7:=hcells 7 _ rfl;simp only [Nat.add_zero] at c0;obtain ⟨gb,G6⟩:∃gb,zfl ⟨k,v,i2,b,n2,pt,d,m⟩=gb:=⟨_,rfl⟩;have ZH:=zh G6;unfold Oq.val opA at HG;simp only [G6] at HG;simp only at c0 c1 c2 c3 c4 c5 c6 c7;clear hcells hz G6 Bq AA hn;generalize BJ:d.length=dn at *;generalize FW:m.length=mn at *;clear BJ FW;go_wp2_with fail;refine HG.out.mono ?_;rintro e w5 ⟨rfl,Ag⟩;have A8:=zh (HA.out.2.trans (Ag.mono HA.out.2.size));clear Ag HG c0 c1 c2 c3 c4 c5 c6 c7
    cases gb with
    | true=>
      go_wp2_with fail;go_ret;refine ⟨?_,A8.out⟩;rw [HF.out];have:(l.all fun z=> !zfl z.o)=false:=by
          rw [List.all_eq_false];exact ⟨_,zm HZ.out.1,by simp [ZH.out]⟩
      rw [this]
      rfl
    | false=>
      go_wp2_with fail
      go_roundw
      case rel=>
          refine ⟨i+1,ud,by go_num, ?_,A8.out⟩
          rw [List.take_add_one,HZ.out.1,List.all_append,HA.out.1];simp [ZH.out]
      case measure=> simp [intOf];omega
   have Bb:decide ((i:Int) < (n:Int))=false:=decide_eq_false ud;have G8:i=l.length:=by have:=H.out.row.1;omega
   clear Bq AA;go_wp2_with fail;go_ret;refine ⟨?_,HA.out.2⟩;have:=HA.out.1;rw [G8,zk zl] at this;rw [HF.out,this]
   rfl
 have e1:decide ((n:Int) > most)=true:=decide_eq_true ud;have HF:=zh (show znE l most=false from by unfold znE;rw [hn,decide_eq_false h1];rfl)
 clear h h1;go_in;go_wp2_with fail;go_ret;exact ⟨by rw [HF.out];rfl,Below.refl _ _⟩
end
end Go.Proofs.YtaoceecfjlkmdaaGreat
