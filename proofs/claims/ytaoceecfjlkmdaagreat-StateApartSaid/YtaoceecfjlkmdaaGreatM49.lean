/- Lemmas of the walks, merged and pressed by press.py. Conditions: those of each theorem. -/
import Derived.Test.YtaoceecfjlkmdaaGreatM47
import Derived.Test.YtaoceecfjlkmdaaGreatM9
set_option maxRecDepth 100000
set_option maxHeartbeats 64000000
set_option linter.all false
namespace Go.Proofs.YtaoceecfjlkmdaaGreat
open Tryz
section
open Go.RowKit
theorem set8 {W:World} {B:Nat} {o0 o1 o2 o3 o4 o5 o6 o7:Value} {t:TypeId} (h:W.heap[B]? =some (.cells #[o0,o1,o2,o3,o4,o5,o6,o7] t (0,0))) (v0 v1 v2 v3 v4 v5 v6 v7:Value):((((((((W.setCell ⟨B,0,none⟩ v0).setCell ⟨B,1,none⟩ v1).setCell ⟨B,2,none⟩ v2).setCell ⟨B,3,none⟩ v3).setCell ⟨B,4,none⟩ v4).setCell ⟨B,5,none⟩ v5).setCell ⟨B,6,none⟩ v6).setCell ⟨B,7,none⟩ v7).heap[B]? =some (.cells #[v0,v1,v2,v3,v4,v5,v6,v7] t (0,0)):=by
 have e0:(W.setCell ⟨B,0,none⟩ v0).heap[B]? =some (.cells #[v0,o1,o2,o3,o4,o5,o6,o7] t (0,0)):=heap_setCell_same _ B 0 _ _ v0 h;have e1:((W.setCell ⟨B,0,none⟩ v0).setCell ⟨B,1,none⟩ v1).heap[B]? =some (.cells #[v0,v1,o2,o3,o4,o5,o6,o7] t (0,0)):=heap_setCell_same _ B 1 _ _ v1 e0;have e2:(((W.setCell ⟨B,0,none⟩ v0).setCell ⟨B,1,none⟩ v1).setCell ⟨B,2,none⟩ v2).heap[B]? =some (.cells #[v0,v1,v2,o3,o4,o5,o6,o7] t (0,0)):=heap_setCell_same _ B 2 _ _ v2 e1;have e3:((((W.setCell ⟨B,0,none⟩ v0).setCell ⟨B,1,none⟩ v1).setCell ⟨B,2,none⟩ v2).setCell ⟨B,3,none⟩ v3).heap[B]? =some (.cells #[v0,v1,v2,v3,o4,o5,o6,o7] t (0,0)):=heap_setCell_same _ B 3 _ _ v3 e2;have e4:(((((W.setCell ⟨B,0,none⟩ v0).setCell ⟨B,1,none⟩ v1).setCell ⟨B,2,none⟩ v2).setCell ⟨B,3,none⟩ v3).setCell ⟨B,4,none⟩ v4).heap[B]? =some (.cells #[v0,v1,v2,v3,v4,o5,o6,o7] t (0,0)):=heap_setCell_same _ B 4 _ _ v4 e3;have e5:((((((W.setCell ⟨B,0,none⟩ v0).setCell ⟨B,1,none⟩ v1).setCell ⟨B,2,none⟩ v2).setCell ⟨B,3,none⟩ v3).setCell ⟨B,4,none⟩ v4).setCell ⟨B,5,none⟩ v5).heap[B]? =some (.cells #[v0,v1,v2,v3,v4,v5,o6,o7] t (0,0)):=heap_setCell_same _ B 5 _ _ v5 e4;have e6:(((((((W.setCell ⟨B,0,none⟩ v0).setCell ⟨B,1,none⟩ v1).setCell ⟨B,2,none⟩ v2).setCell ⟨B,3,none⟩ v3).setCell ⟨B,4,none⟩ v4).setCell ⟨B,5,none⟩ v5).setCell ⟨B,6,none⟩ v6).heap[B]? =some (.cells #[v0,v1,v2,v3,v4,v5,v6,o7] t (0,0)):=heap_setCell_same _ B 6 _ _ v6 e5;have e7:((((((((W.setCell ⟨B,0,none⟩ v0).setCell ⟨B,1,none⟩ v1).setCell ⟨B,2,none⟩ v2).setCell ⟨B,3,none⟩ v3).setCell ⟨B,4,none⟩ v4).setCell ⟨B,5,none⟩ v5).setCell ⟨B,6,none⟩ v6).setCell ⟨B,7,none⟩ v7).heap[B]? =some (.cells #[v0,v1,v2,v3,v4,v5,v6,v7] t (0,0)):=heap_setCell_same _ B 7 _ _ v7 e6;exact e7
theorem zqp {W w:World} {B C:Nat} (h:Below C w W) (hB:C<=B) (v0 v1 v2 v3 v4 v5 v6 v7:Value):Below C w ((((((((W.setCell ⟨B,0,none⟩ v0).setCell ⟨B,1,none⟩ v1).setCell ⟨B,2,none⟩ v2).setCell ⟨B,3,none⟩ v3).setCell ⟨B,4,none⟩ v4).setCell ⟨B,5,none⟩ v5).setCell ⟨B,6,none⟩ v6).setCell ⟨B,7,none⟩ v7):=((((((((h.setCell (p:=⟨B,0,none⟩) hB v0).setCell (p:=⟨B,1,none⟩) hB v1).setCell (p:=⟨B,2,none⟩) hB v2).setCell (p:=⟨B,3,none⟩) hB v3).setCell (p:=⟨B,4,none⟩) hB v4).setCell (p:=⟨B,5,none⟩) hB v5).setCell (p:=⟨B,6,none⟩) hB v6).setCell (p:=⟨B,7,none⟩) hB v7)
theorem apart_any {w:World} (cf:Cfg) (Mq:zpH cf) {a0:Option Addr} {n0:Nat} (c0:Nat) {l0:List Oq} (h0:zoW w a0 n0 l0) {o:PO} {da:Option Addr} {dc:Nat} {ma:Option Addr} {mc:Nat} (hz:zpD w ⟨o,da,dc,ma,mc⟩) (v b:Int) (Ml:b<=9223372036854775807) (t:Nat) (ht:t < 18446744073709551616) {dn mn:Nat} (SL:o.d.length=dn) (QV:o.m.length=mn):
 Calls Tryz.prog 4 #[.agg (cfA cf), .agg #[.slice a0 n0 c0, .int .i64 o.k, .int .i64 o.v, .int .i64 o.i, .int .i64 o.b, .int .i64 o.n, .int .u64 o.pt, .slice da dn dc, .slice ma mn mc], .agg (spA v b t)] w fun e w'=> e= .returned (.bool true)/\Below w.heap.size w w':=by
 obtain ⟨w1,Ab⟩:∃w1,w1=w.alloc (.cells (cfA cf) 24):=⟨_,rfl⟩;obtain ⟨w2,GV⟩:∃w2,w2=w1.alloc (.cells #[.slice a0 n0 c0, .int .i64 o.k, .int .i64 o.v, .int .i64 o.i, .int .i64 o.b, .int .i64 o.n, .int .u64 o.pt, .slice da dn dc, .slice ma mn mc] 45):=⟨_,rfl⟩;obtain ⟨w3,Dv⟩:∃w3,w3=w2.alloc (.cells (spA v b t) 28):=⟨_,rfl⟩;have Ai:w1.heap.size=w.heap.size+1:=by rw [Ab,World.alloc_size]
 have Ax:w2.heap.size=w.heap.size+1+1:=by rw [GV,World.alloc_size,Ai]
 have Aa:Below w.heap.size w w1:=by rw [Ab];exact zr.alloc zl _
 have Cr:Below w1.heap.size w1 w2:=by rw [GV];exact zr.alloc zl _
 have EL:Below w2.heap.size w2 w3:=by rw [Dv];exact zr.alloc zl _
 have Lq:w1.heap[w.heap.size]? =some (.cells (cfA cf) 24 (0,0)):=by rw [Ab];exact heap_alloc_new w _
 have A7:w2.heap[w.heap.size+1]? =some (.cells #[.slice a0 n0 c0, .int .i64 o.k, .int .i64 o.v, .int .i64 o.i, .int .i64 o.b, .int .i64 o.n, .int .u64 o.pt, .slice da dn dc, .slice ma mn mc] 45 (0,0)):=by rw [GV,<- Ai];exact heap_alloc_new w1 _
 have C0:w3.heap[w.heap.size+1+1]? =some (.cells (spA v b t) 28 (0,0)):=by rw [Dv,<- Ax];exact heap_alloc_new w2 _
 have Ao:=Cr.trans (EL.mono Cr.size);have El:=Aa.trans (Ao.mono Aa.size);have Oa:w3.heap.size=w.heap.size+1+1+1:=by rw [Dv,World.alloc_size,Ax]
 have LT:=zh (fun (W:World) (hW:Below w3.heap.size w3 W)=> ((hW.block w.heap.size ud).trans (Ao.block w.heap.size ud)).trans Lq);have AS:=zh (fun (W:World) (hW:Below w3.heap.size w3 W)=> ((hW.block (w.heap.size+1) ud).trans (EL.block (w.heap.size+1) ud)).trans A7);have Nb:=zh (fun (W:World) (hW:Below w3.heap.size w3 W)=> (hW.block (w.heap.size+1+1) ud).trans C0);have Ln:=zh (fun (W:World) (hW:Below w3.heap.size w3 W)=> show W.cell? ⟨w.heap.size+1,0,none⟩=some (.slice a0 n0 c0)/\W.cell? ⟨w.heap.size+1,1,none⟩=some (.int .i64 o.k)/\W.cell? ⟨w.heap.size+1,2,none⟩=some (.int .i64 o.v)/\W.cell? ⟨w.heap.size+1,3,none⟩=some (.int .i64 o.i)/\W.cell? ⟨w.heap.size+1,4,none⟩=some (.int .i64 o.b)/\W.cell? ⟨w.heap.size+1,5,none⟩=some (.int .i64 o.n)/\W.cell? ⟨w.heap.size+1,6,none⟩=some (.int .u64 o.pt)/\W.cell? ⟨w.heap.size+1,7,none⟩=some (.slice da dn dc)/\W.cell? ⟨w.heap.size+1,8,none⟩=some (.slice ma mn mc) from
  ⟨cell_of_row W _ 0 _ _ _ (AS.out W hW),cell_of_row W _ 1 _ _ _ (AS.out W hW),cell_of_row W _ 2 _ _ _ (AS.out W hW),cell_of_row W _ 3 _ _ _ (AS.out W hW),cell_of_row W _ 4 _ _ _ (AS.out W hW),cell_of_row W _ 5 _ _ _ (AS.out W hW),cell_of_row W _ 6 _ _ _ (AS.out W hW),cell_of_row W _ 7 _ _ _ (AS.out W hW),cell_of_row W _ 8 _ _ _ (AS.out W hW)⟩)
 have Oc:=zh (fun (W:World) (hW:Below w3.heap.size w3 W)=> show Below w.heap.size w W from El.trans (hW.mono El.size));have Dg:=zh (zn h0 (zn hz (zn Mq (zn ht (zn Ml (zn SL QV))))));have JO:=zh (fun (W:World)=> ziv W);have dq:=zh (fun (W:World)=> zmv W ⟨o,da,dc,ma,mc⟩);obtain ⟨f0,Yc⟩:∃f0,znE l0 40=f0:=⟨_,rfl⟩;obtain ⟨gr,BN⟩:∃gr,zfl o=gr:=⟨_,rfl⟩;unfold Oq.val opA at dq;simp only [SL,QV,BN] at dq;have V8:=zh (zn Yc BN);have Rg:=zh (fun (W:World) (hW:Below w3.heap.size w3 W)=> ziU (w:=W) c0 (h0.below (Oc.out W hW)) 40 ud);simp only [Yc] at Rg;unfold cfA spA at *;have HZ:=Ln.out w3.drew zr.drew;clear h0 hz Mq ht Ml SL QV Aa Cr EL Lq A7 C0 Ao El Yc BN Ai Ax Oa;go_in;go_upto_region 1 with fail;rw [<- Ab];rw [<- GV];rw [<- Dv];clear Ab GV Dv;refine zy ue [0,1,2,3,5,6] (fun W=> W.cell? ⟨w.heap.size+1,0,none⟩=some (.slice a0 n0 c0)/\W.cell? ⟨w.heap.size+1,1,none⟩=some (.int .i64 o.k)/\W.cell? ⟨w.heap.size+1,2,none⟩=some (.int .i64 o.v)/\W.cell? ⟨w.heap.size+1,3,none⟩=some (.int .i64 o.i)/\W.cell? ⟨w.heap.size+1,4,none⟩=some (.int .i64 o.b)/\W.cell? ⟨w.heap.size+1,5,none⟩=some (.int .i64 o.n)/\W.cell? ⟨w.heap.size+1,6,none⟩=some (.int .u64 o.pt)/\W.cell? ⟨w.heap.size+1,7,none⟩=some (.slice da dn dc)/\W.cell? ⟨w.heap.size+1,8,none⟩=some (.slice ma mn mc)) (fun _=> True) ?_;refine zdd 0 (some 20) (v:= ?_) rfl rfl uf ue (fun _ _ _ h=> h) HZ (Or.inl ⟨by rfl, ?_⟩) ?_
 rotate_left
 ·(intro w' O4;obtain ⟨dU,dW,U5,j6,U6,FD,dX,U7,Me⟩:=O4;go_simp;try with_reducible rfl)
 try simp only [Act.put,zSs]
 refine zdd 2 (some 22) (v:= ?_) rfl rfl uf ue (fun _ _ _ h=> h) HZ (Or.inl ⟨by rfl, ?_⟩) ?_
 rotate_left
 ·(intro w' O4;obtain ⟨dU,dW,U5,j6,U6,FD,dX,U7,Me⟩:=O4;go_simp;try with_reducible rfl)
 try simp only [Act.put,zSs]
 refine zdd 1 (some 21) (v:= ?_) rfl rfl uf ue (fun _ _ _ h=> h) HZ (Or.inl ⟨by rfl, ?_⟩) ?_
 rotate_left
 ·(intro w' O4;obtain ⟨dU,dW,U5,j6,U6,FD,dX,U7,Me⟩:=O4;go_simp;try with_reducible rfl)
 try simp only [Act.put,zSs]
 refine zdd 3 (some 23) (v:= ?_) rfl rfl uf ue (fun _ _ _ h=> h) HZ (Or.inl ⟨by rfl, ?_⟩) ?_
 rotate_left
 ·(intro w' O4;obtain ⟨dU,dW,U5,j6,U6,FD,dX,U7,Me⟩:=O4;go_simp;try with_reducible rfl)
 try simp only [Act.put,zSs]
 refine zd (i:=4) ue rfl (fun K' hK=> ?_);go_simp;obtain ⟨wB,B2⟩:∃wX,wX=(w3.alloc (.cells #[.int .i64 0, .int .i64 0, .int .i64 0, .int .i64 0, .int .i64 0, .int .u64 0, .slice none 0 0, .slice none 0 0] 40)).drew:=⟨_,rfl⟩;rw [<- B2];have B4:Below w3.heap.size w3 wB:=by rw [B2];exact ((Below.refl w3.heap.size w3).alloc zl _).drew
 have Lo:=Ln.out _ B4;obtain ⟨cb,An⟩:∃cb,cb=w3.heap.size:=⟨_,rfl⟩;have Ay:wB.heap[cb]? =some (.cells #[.int .i64 0, .int .i64 0, .int .i64 0, .int .i64 0, .int .i64 0, .int .u64 0, .slice none 0 0, .slice none 0 0] 40 (0,0)):=by rw [B2,An];exact heap_alloc_new w3 _
 have AN:w3.heap.size<=cb:=by rw [An];exact zl
 rw [<- An];refine hK.out _ _ ⟨Lo,fun _=> trivial⟩ ?_
 try simp only [Act.put,zSs]
 clear hK K' B2 An HZ;have z0:=cell_of_row wB _ 0 _ _ _ Ay;have f0:wB.frozen? ⟨cb,0,none⟩=false:=by simp [World.frozen?,Ay]
 have z1:=cell_of_row wB _ 1 _ _ _ Ay;have f1:wB.frozen? ⟨cb,1,none⟩=false:=by simp [World.frozen?,Ay]
 have z2:=cell_of_row wB _ 2 _ _ _ Ay;have f2:wB.frozen? ⟨cb,2,none⟩=false:=by simp [World.frozen?,Ay]
 have z3:=cell_of_row wB _ 3 _ _ _ Ay;have f3:wB.frozen? ⟨cb,3,none⟩=false:=by simp [World.frozen?,Ay]
 have z4:=cell_of_row wB _ 4 _ _ _ Ay;have f4:wB.frozen? ⟨cb,4,none⟩=false:=by simp [World.frozen?,Ay]
 have z5:=cell_of_row wB _ 5 _ _ _ Ay;have f5:wB.frozen? ⟨cb,5,none⟩=false:=by simp [World.frozen?,Ay]
 have z6:=cell_of_row wB _ 6 _ _ _ Ay;have f6:wB.frozen? ⟨cb,6,none⟩=false:=by simp [World.frozen?,Ay]
 have z7:=cell_of_row wB _ 7 _ _ _ Ay;have f7:wB.frozen? ⟨cb,7,none⟩=false:=by simp [World.frozen?,Ay]
 refine zdd 5 (some 7) (v:= ?_) rfl rfl uf ue (fun _ _ _ h=> h) Lo (Or.inl ⟨by rfl, ?_⟩) ?_
 rotate_left
 ·(intro w' O4;obtain ⟨dU,dW,U5,j6,U6,FD,dX,U7,Me⟩:=O4;go_simp;try with_reducible rfl)
 try simp only [Act.put,zSs]
 refine zd (i:=6) ue rfl (fun K' hK=> ?_);go_simp;have Ad:=set8 Ay (.int .i64 o.k) (.int .i64 o.v) (.int .i64 o.i) (.int .i64 o.b) (.int .i64 o.n) (.int .u64 o.pt) (.slice da dn dc) (.slice ma mn mc);have Au:=zqp B4 AN (.int .i64 o.k) (.int .i64 o.v) (.int .i64 o.i) (.int .i64 o.b) (.int .i64 o.n) (.int .u64 o.pt) (.slice da dn dc) (.slice ma mn mc);refine hK.out _ _ ⟨Ln.out _ Au,fun _=> trivial⟩ ?_
 try simp only [Act.put,zSs]
 clear hK K' Lo;generalize World.setCell _ (⟨cb,7,none⟩:Addr) _=wC at *;clear z0 f0 z1 f1 z2 f2 z3 f3 z4 f4 z5 f5 z6 f6 z7 f7;refine zI ue ?_ _;have Gm:=zh Au;have ZC:=zh (zn Ad (zn AN (zg Ad).1));have vk:=zh (fun (W:World) (hW:Below wC.heap.size wC W)=> (hW.block cb (zg Ad).1).trans Ad);obtain ⟨x0,x1,x2,x3,x4,x5,x6,x7⟩:=rd8 (w:=wC) Ad;clear Ad Au B4 AN Ay;obtain ⟨one,BA⟩:∃one,(decide (o.k=4) || decide (o.k=5) || decide (o.k=3) || decide (o.k=2) || decide (o.k=13))=one:=⟨_,rfl⟩
 have LM:=zh BA;clear BA;go_upto_region 2 with fail
 go_cut [9] from 24 to 46 (fun u9 wx=> u9= .bool one/\wx=wC)
 case first=>
  by_cases k4:o.k=4
  ·rw [k4] at x0;obtain rfl:one=true:=by rw [<- LM.out];simp [k4]
   go_wp2_with fail
   go_meet
   case rel=> exact ⟨rfl,rfl⟩
  have i4:(o.k==4)=false:=by rw [beq_eq_false_iff_ne];exact k4
  by_cases k5:o.k=5
  ·rw [k5] at x0;obtain rfl:one=true:=by rw [<- LM.out];simp [k5]
   go_wp2_with fail
   go_meet
   case rel=> exact ⟨rfl,rfl⟩
  have i5:(o.k==5)=false:=by rw [beq_eq_false_iff_ne];exact k5
  by_cases k3:o.k=3
  ·rw [k3] at x0;obtain rfl:one=true:=by rw [<- LM.out];simp [k3]
   go_wp2_with fail
   go_meet
   case rel=> exact ⟨rfl,rfl⟩
  have i3:(o.k==3)=false:=by rw [beq_eq_false_iff_ne];exact k3
  by_cases k2:o.k=2
  ·rw [k2] at x0;obtain rfl:one=true:=by rw [<- LM.out];simp [k2]
   go_wp2_with fail
   go_meet
   case rel=> exact ⟨rfl,rfl⟩
  have i2:(o.k==2)=false:=by rw [beq_eq_false_iff_ne];exact k2
  by_cases k13:o.k=13
  ·rw [k13] at x0;obtain rfl:one=true:=by rw [<- LM.out];simp [k13]
   go_wp2_with fail
   go_meet
   case rel=> exact ⟨rfl,rfl⟩
  have i13:(o.k==13)=false:=by rw [beq_eq_false_iff_ne];exact k13
  obtain rfl:one=false:=by rw [<- LM.out];simp [k4,k5,k3,k2,k13]
  clear k4 k5 k3 k2 k13;go_wp2_with fail
  go_meet
  case rel=> exact ⟨rfl,rfl⟩
 case rest=>
  obtain ⟨rfl,dJ⟩:=hcut;rename World=> wx;subst dJ;have ZF:=zh (Rg.out wx Gm.out);clear Rg x0 x1 x2 x3 x4 x5 x6 x7;go_wp2_with fail;refine ZF.out.mono ?_;rintro e w5 ⟨rfl,Ag⟩;have A8:=zh (zn Ag (Gm.out.trans (Ag.mono Gm.out.size)));clear Ag ZF
  cases f0 with
  | false=>
    go_wp2_with fail;go_ret;exact ⟨rfl,Oc.out _ A8.out.2⟩
  | true=>
  cases one with
  | false=>
    go_wp2_with fail;go_ret;exact ⟨rfl,Oc.out _ A8.out.2⟩
  | true=>
  have DV:=vk.out w5 A8.out.1;obtain ⟨x0,x1,x2,x3,x4,x5,x6,x7⟩:=rd8 (w:=w5) DV;have dE:=zh (dq.out w5);clear DV dq;go_wp2_with fail;refine dE.out.mono ?_;rintro e w6 ⟨rfl,AT⟩;have DW:=zh (zn (A8.out.1.trans (AT.mono A8.out.1.size)) (A8.out.2.trans (AT.mono A8.out.2.size)));clear AT dE x0 x1 x2 x3 x4 x5 x6 x7
  cases gr with
  | true=>
    go_wp2_with fail;go_ret;exact ⟨rfl,Oc.out _ DW.out.2⟩
  | false=>
  have s0:=cell_of_row w6 _ 0 _ _ _ (Nb.out w6 DW.out.2);have x1:=cell_of_row w6 _ 1 _ _ _ (vk.out w6 DW.out.1)
  by_cases dp:v=o.v
  ·have iv:(v==o.v)=true:=by rw [dp];simp
   clear dp;go_wp2_with fail;go_ret;exact ⟨rfl,Oc.out _ DW.out.2⟩
  have iv:(v==o.v)=false:=by rw [beq_eq_false_iff_ne];exact dp
  have Lq:=LT.out w6 DW.out.2;obtain ⟨cc0,cc1,cc2,cc3,cc4,cc5⟩:=rd6 (w:=w6) Lq;have Wy:=zh (zln (w:=w6) cf Dg.out.2.2.1 c0 (Dg.out.1.below (Oc.out w6 DW.out.2)) V8.out.1);have dF:=zh dp;unfold cfA at Wy;clear Lq dp;go_wp2_with fail;refine Wy.out.mono ?_;rintro e w7 ⟨p,h,a,Q,st,rfl,Be,jW,du,B1⟩;have LW:=DW.out.2.trans (B1.mono DW.out.2.size);have dh:=DW.out.1.trans (B1.mono DW.out.1.size);have C0:=Nb.out w7 LW;obtain ⟨s0,s1,s2⟩:=rd3 (w:=w7) C0;have ZT:=zh (zgs jW v b t Dg.out.2.2.2.1);have H7:=zh (zn Be (zn jW (zn (fun j (hj:Q j)=> zs DW.out.2.size (du j hj)) (zn LW (zn dh (fun j (hj:Q j)=> zs DW.out.1.size (du j hj)))))));clear Be jW du B1 LW dh C0 Wy cc0 cc1 cc2 cc3 cc4 cc5 x1 iv;go_wp2_with fail;refine ZT.out.mono ?_;intro e w8 hE;obtain ⟨ga,gm,gk,rfl,Sj,db,kQ⟩:=zqg hE zqi;obtain ⟨r1,BK⟩:∃r1,zbo st v b t=r1:=⟨_,rfl⟩;rw [BK] at db ⊢;have dv:=H7.out.2.1.below Sj;have cV:=H7.out.2.2.2.1.trans (Sj.mono H7.out.2.2.2.1.size);have C0:=Nb.out w8 cV;have s0:=cell_of_row w8 _ 0 _ _ _ C0;have s1:=cell_of_row w8 _ 1 _ _ _ C0;have Al:=zh (zm9 dv v b Dg.out.2.2.2.2.1);have H8:=zh (zn BK (zn db (zn kQ (zn Sj (zn dv (zn cV (H7.out.2.2.2.2.1.trans (Sj.mono H7.out.2.2.2.2.1.size))))))));clear hE db kQ Sj BK dv cV C0 ZT s2;obtain ⟨z1,Ai⟩:∃z1,(r1.1:Int)=z1:=⟨_,rfl⟩;rw [Ai];have dG:=zh Ai;clear Ai;go_wp2_with fail;refine Al.out.mono ?_;intro e w9 hE;obtain ⟨za,zmo,zko,rfl,Ja,dd,ac⟩:=zqg hE zql;obtain ⟨r2,B7⟩:∃r2,zly st v b=r2:=⟨_,rfl⟩;rw [B7] at dd ⊢;have dw:=H8.out.2.2.2.2.1.below Ja;have cW:=H8.out.2.2.2.2.2.1.trans (Ja.mono H8.out.2.2.2.2.2.1.size);have di:=H8.out.2.2.2.2.2.2.trans (Ja.mono H8.out.2.2.2.2.2.2.size);have IQ:=vk.out w9 di;obtain ⟨x0,x1,x2,x3,x4,x5,x6,x7⟩:=rd8 (w:=w9) IQ;have MH:n0<=40:=by
       have h1:=V8.out.1;unfold znE at h1;rw [Bool.and_eq_true] at h1;have h3:=of_decide_eq_true h1.1;have h5:=Dg.out.1.row.1
       omega
  have GL:OpM w9 o da dn ma mn:=by
       have:=(Dg.out.2.1.below (Oc.out w9 cW)).op V8.out.2;rw [Dg.out.2.2.2.2.2.1,Dg.out.2.2.2.2.2.2] at this;exact this
  have IX:=zh (zoH (dc:=dc) (mc:=mc) dw GL Dg.out.2.2.1.every ud ud);unfold opA at IX;have H9:=zh (zn B7 (zn dd (zn ac (zn Ja (zn dw cW)))));clear hE dd ac Ja B7 dw cW di IQ MH GL Al s0 s1;obtain ⟨z2,Ax⟩:∃z2,(r2.1:Int)=z2:=⟨_,rfl⟩;rw [Ax];have Lo:=zh Ax;clear Ax;go_wp2_with fail;refine IX.out.mono ?_;rintro e w10 ⟨rfl,x10,dK,Q10,Mw,cO,cX⟩;have cL:=zbr H9.out.2.2.2.2.2 cX.outs H7.out.2.2.1 H9.out.2.2.2.2.2.size;have C0:=Nb.out w10 cL;obtain ⟨s0,s1,s2⟩:=rd3 (w:=w10) C0;obtain ⟨st',de⟩:∃st',st'=zal cf.win cf.every st o x10:=⟨_,rfl⟩;rw [<- de] at cO;have BE:=zqq (win:=cf.win) (ev:=cf.every) (o:=o) (H7.out.2.1.inv) Mw (by
       have:=LM.out;simp only [Bool.or_eq_true,decide_eq_true_eq] at this
       omega) (v:=v) (b:=b) dF.out
  rw [<- de] at BE;have dg:=zh (zgs cO v b t Dg.out.2.2.2.1);have cR:=zh (zn BE (zn cO (zn cX cL)));clear de BE Mw cO cX cL C0 IX x0 x1 x2 x3 x4 x5 x6 x7;go_wp2_with fail;refine dg.out.mono ?_;intro e w11 hE;obtain ⟨ya,ym,yk,rfl,cP,cN,Tb⟩:=zqg hE zqi;obtain ⟨r3,KV⟩:∃r3,zbo st' v b t=r3:=⟨_,rfl⟩;rw [KV] at cN ⊢;have cY:=cR.out.2.1.below cP;have cM:=cR.out.2.2.2.trans (cP.mono cR.out.2.2.2.size);have C0:=Nb.out w11 cM;have s0:=cell_of_row w11 _ 0 _ _ _ C0;have s1:=cell_of_row w11 _ 1 _ _ _ C0;have cT:=zh (zm9 cY v b Dg.out.2.2.2.2.1);rw [cR.out.1.1,H9.out.1] at cT;have cQ:=zh (zn KV (zn cN (zn Tb (zn cP (zn cY cM)))));clear hE cN Tb cP KV cY cM C0 dg s2;obtain ⟨z3,Oa⟩:∃z3,(r3.1:Int)=z3:=⟨_,rfl⟩;rw [Oa];have dH:=zh Oa;clear Oa;go_wp2_with fail;refine cT.out.mono ?_;intro e wL hE;obtain ⟨ua,um,uk,rfl,dk,dl,dI⟩:=zqg hE (fun h=> by rw [<- H9.out.1] at h ⊢;exact zql h)
  rw [Lo.out];have dy:=cQ.out.2.2.2.2.1.below dk;have hB3L:=cQ.out.2.2.2.2.2.trans (dk.mono cQ.out.2.2.2.2.2.size)
  -- what was read ahead stays
  have BT:∀g,g < w9.heap.size->w7.heap.size<=g->wL.heap[g]? =w9.heap[g]? :=fun g hg FH=> by
       have h1:=cR.out.2.2.1.outs.size;have h2:=cQ.out.2.2.2.1.size;rw [dk.block g ud,cQ.out.2.2.2.1.block g ud];exact cR.out.2.2.1.outs.block g hg fun hq=> by have:=H7.out.2.1.qlt g hq;omega
  have dA:w7.heap.size<=w8.heap.size:=H8.out.2.2.2.1.size;have dB:w8.heap.size<=w9.heap.size:=H9.out.2.2.2.1.size;have hbs2L:Bs wL za zmo r2.2:=H9.out.2.1.keep fun g o e=> BT g (H9.out.2.2.1 g o e).2 (by have:=(H9.out.2.2.1 g o e).1;omega)
  have hbs1L:Bs wL ga gm r1.2:=H8.out.2.1.keep fun g o e=> by
       have h1:=H8.out.2.2.1 g o e;rw [BT g ud ud];exact H9.out.2.2.2.1.block g h1.2
  have hbs3L:Bs wL ya ym r3.2:=cQ.out.2.1.keep fun g o e=> dk.block g (cQ.out.2.2.1 g o e).2;have cS:=zh (ziC za ua zmo um zko uk r2.2 r2.2 wL hbs2L dl);rw [show (r2.2==r2.2)=true from by simp] at cS
  obtain ⟨sq,AE⟩:∃sq,sq=st'.seq:=⟨_,rfl⟩;have dm:=dy.inv.seq;obtain ⟨m,hm⟩:∃m:Nat,m=if sq=0 then 18446744073709551615 else sq - 1:=⟨_,rfl⟩;have iw:IntKind.u64.wrap ((sq:Int) - 1)=(m:Int):=by
       by_cases h0:sq=0
       ·rw [hm,if_pos h0,h0];decide
       rw [hm,if_neg h0,IntWalk.u64_in _ ud];omega
  have N0:¬m < t->r3=r1:=fun BO=> by
       rw [<- cQ.out.1,<- H8.out.1];rcases cR.out.1.2 with h1 | ⟨h1,h2,h3⟩
       ·rw [h1]
       refine h3 t ?_;rw [if_neg ud] at hm
       omega
  have ds:=zh (fun (W:World) (hW:Below wL.heap.size wL W)=> show W.cell? ⟨w.heap.size+1+1,2,none⟩=some (.int .u64 (t:Int))/\W.cell? ⟨p,18,none⟩=some (.int .u64 (sq:Int)) from by
       refine ⟨cell_of_row W _ 2 _ _ _ (Nb.out W (hB3L.trans (hW.mono hB3L.size))), ?_⟩;rw [AE];exact (dy.below hW).reads.2.2.2.2.2.2.2.2.2.2.2.2.2.2.2.2.2.2.1)
  have HL:=zh (zn N0 (zn hbs1L (zn hbs3L hB3L)));have ieq:(z2 !=z2)=false:=uh;clear hE dk dl dI dy hB3L BT dA dB hbs2L hbs1L hbs3L AE dm hm N0 cT s0 s1;go_wp2_with fail;refine cS.out.mono ?_;rintro e w13 ⟨rfl,dC⟩;subst dC;clear cS ieq;go_upto_region 15 with fail;have Av:True/\(wL.drew.cell? ⟨w.heap.size+1+1,2,none⟩=some (.int .u64 (t:Int))/\wL.drew.cell? ⟨p,18,none⟩=some (.int .u64 (sq:Int))):=⟨trivial,ds.out _ zr.drew⟩;refine zy ue [0,2,3,4,6,7,8,9,10,11,12,13,14,16,17,18,20,21] (fun _=> True) (fun W=> W.cell? ⟨w.heap.size+1+1,2,none⟩=some (.int .u64 (t:Int))/\W.cell? ⟨p,18,none⟩=some (.int .u64 (sq:Int))) ?_
  by_cases ay:m < t
  ·skip
   refine zdd 0 (some 125) (v:= ?_) rfl rfl uf ue (fun _ _ _ h=> h) trivial (Or.inl ⟨by rfl, ?_⟩) ?_
   rotate_left
   ·(intro w' O4;go_simp;try with_reducible rfl)
   try simp only [Act.put,zSs]
   refine zdd 2 (some 127) (v:= ?_) rfl rfl uf ue (fun _ _ _ h=> h) trivial (Or.inl ⟨by rfl, ?_⟩) ?_
   rotate_left
   ·(intro w' O4;go_simp;try with_reducible rfl)
   try simp only [Act.put,zSs]
   refine zdd 3 (some 128) (v:= ?_) rfl rfl uf ue (fun _ _ _ h=> h) trivial (Or.inl ⟨by rfl, ?_⟩) ?_
   rotate_left
   ·(intro w' O4;go_simp;try with_reducible rfl)
   try simp only [Act.put,zSs]
   refine zdd 4 (some 129) (v:= ?_) rfl rfl uf ue (fun _ _ _ h=> h) trivial (Or.inl ⟨by rfl, ?_⟩) ?_
   rotate_left
   ·(intro w' O4;go_simp;try with_reducible rfl)
   try simp only [Act.put,zSs]
   refine zaa 5 (some 130) (v:= ?_) rfl rfl uf ue (fun _ _ _ h=> h) Av (Or.inl ⟨by rfl, ?_⟩) ?_
   rotate_left
   ·(intro w' Cn;obtain ⟨-,QJ,DC⟩:=Cn;go_simp;try with_reducible rfl)
   try simp only [Act.put,zSs]
   refine zdd 6 (some 131) (v:= ?_) rfl rfl uf ue (fun _ _ _ h=> h) trivial (Or.inl ⟨by rfl, ?_⟩) ?_
   rotate_left
   ·(intro w' O4;go_simp;try with_reducible rfl)
   try simp only [Act.put,zSs]
   refine zaa 1 (some 126) (v:= ?_) rfl rfl uf ue (fun _ _ _ h=> h) Av (Or.inl ⟨by rfl, ?_⟩) ?_
   rotate_left
   ·(intro w' Cn;obtain ⟨-,QJ,DC⟩:=Cn;go_simp;try with_reducible rfl)
   try simp only [Act.put,zSs]
   refine zdd 7 (some 132) (v:= ?_) rfl rfl uf ue (fun _ _ _ h=> h) trivial (Or.inl ⟨by rfl, ?_⟩) ?_
   rotate_left
   ·(intro w' O4;go_simp;try with_reducible rfl)
   try simp only [Act.put,zSs]
   refine zdd 8 (some 133) (v:= ?_) rfl rfl uf ue (fun _ _ _ h=> h) trivial (Or.inl ⟨by rfl, ?_⟩) ?_
   rotate_left
   ·(intro w' O4;go_simp;try with_reducible rfl)
   try simp only [Act.put,zSs]
   refine zdd 9 (some 134) (v:=undef) rfl rfl uf ue (fun _ _ _ h=> h) trivial (Or.inr ⟨ue,rfl⟩) ?_
   try simp only [Act.put,zSs]
   refine zdd 10 (some 135) (v:=undef) rfl rfl uf ue (fun _ _ _ h=> h) trivial (Or.inr ⟨ue,rfl⟩) ?_
   try simp only [Act.put,zSs]
   refine zdd 11 (some 136) (v:=undef) rfl rfl uf ue (fun _ _ _ h=> h) trivial (Or.inr ⟨ue,rfl⟩) ?_
   try simp only [Act.put,zSs]
   refine zdd 12 (some 137) (v:=undef) rfl rfl uf ue (fun _ _ _ h=> h) trivial (Or.inr ⟨ue,rfl⟩) ?_
   try simp only [Act.put,zSs]
   refine zdd 13 (some 138) (v:=undef) rfl rfl uf ue (fun _ _ _ h=> h) trivial (Or.inr ⟨ue,rfl⟩) ?_
   try simp only [Act.put,zSs]
   refine zdd 14 (some 139) (v:=undef) rfl rfl uf ue (fun _ _ _ h=> h) trivial (Or.inr ⟨ue,rfl⟩) ?_
   try simp only [Act.put,zSs]
   refine zaa 15 (some 140) (v:=undef) rfl rfl uf ue (fun _ _ _ h=> h) Av (Or.inr ⟨ue,rfl⟩) ?_
   try simp only [Act.put,zSs]
   refine zdd 16 (some 141) (v:=undef) rfl rfl uf ue (fun _ _ _ h=> h) trivial (Or.inr ⟨ue,rfl⟩) ?_
   try simp only [Act.put,zSs]
   refine zdd 17 (some 142) (v:= ?_) rfl rfl uf ue (fun _ _ _ h=> h) trivial (Or.inl ⟨by rfl, ?_⟩) ?_
   rotate_left
   ·(intro w' O4;go_simp;try with_reducible rfl)
   try simp only [Act.put,zSs]
   refine zdd 18 (some 143) (v:= ?_) rfl rfl uf ue (fun _ _ _ h=> h) trivial (Or.inl ⟨by rfl, ?_⟩) ?_
   rotate_left
   ·(intro w' O4;go_simp;try with_reducible rfl)
   try simp only [Act.put,zSs]
   refine zd (i:=19) ue rfl (fun K' hK=> ?_);refine zA (o:=⟨some 144,_,_,_,_,_⟩) ue 10 Tryz.func10 ue rfl _ _ rfl #[] ug (JO.out wL.drew) ?_;rintro e wM ⟨rfl,cZ⟩;refine ⟨_,rfl, ?_⟩;have AZ:=ds.out wM (zr.drew.trans cZ);refine hK.out _ _ ⟨trivial,fun _=> AZ⟩ ?_
   try simp only [Act.put,zSs]
   clear hK K';refine zdd 20 (some 145) (v:= ?_) rfl rfl uf ue (fun _ _ _ h=> h) trivial (Or.inl ⟨by rfl, ?_⟩) ?_
   rotate_left
   ·(intro w' O4;go_simp;try with_reducible rfl)
   try simp only [Act.put,zSs]
   refine zdd 21 (some 6) (v:= ?_) rfl rfl uf ue (fun _ _ _ h=> h) trivial (Or.inl ⟨by rfl, ?_⟩) ?_
   rotate_left
   ·(intro w' O4;go_simp;try with_reducible rfl)
   try simp only [Act.put,zSs]
   refine zI ue ?_ _;have dr:=zh cZ;clear cZ Av AZ;go_wp2_with fail;go_ret;exact ⟨rfl,Oc.out _ (HL.out.2.2.2.trans ((zr.drew.trans dr.out).mono HL.out.2.2.2.size))⟩
  obtain rfl:=HL.out.1 ay;obtain rfl:z3=z1:=dH.out.symm.trans dG.out;have ieq:(z3==z3)=true:=uh;have V7:=zh (fun (W:World) (hW:Below wL.heap.size wL W)=> ziC ga ya gm ym gk yk r3.2 r3.2 W (HL.out.2.1.below hW zl) (HL.out.2.2.1.below hW zl));rw [show (r3.2==r3.2)=true from by simp] at V7
  refine zdd 0 (some 125) (v:= ?_) rfl rfl uf ue (fun _ _ _ h=> h) trivial (Or.inl ⟨by rfl, ?_⟩) ?_
  rotate_left
  ·(intro w' O4;go_simp;try with_reducible rfl)
  try simp only [Act.put,zSs]
  refine zdd 2 (some 127) (v:= ?_) rfl rfl uf ue (fun _ _ _ h=> h) trivial (Or.inl ⟨by rfl, ?_⟩) ?_
  rotate_left
  ·(intro w' O4;go_simp;try with_reducible rfl)
  try simp only [Act.put,zSs]
  refine zdd 3 (some 128) (v:= ?_) rfl rfl uf ue (fun _ _ _ h=> h) trivial (Or.inl ⟨by rfl, ?_⟩) ?_
  rotate_left
  ·(intro w' O4;go_simp;try with_reducible rfl)
  try simp only [Act.put,zSs]
  refine zdd 4 (some 129) (v:= ?_) rfl rfl uf ue (fun _ _ _ h=> h) trivial (Or.inl ⟨by rfl, ?_⟩) ?_
  rotate_left
  ·(intro w' O4;go_simp;try with_reducible rfl)
  try simp only [Act.put,zSs]
  refine zaa 5 (some 130) (v:= ?_) rfl rfl uf ue (fun _ _ _ h=> h) Av (Or.inl ⟨by rfl, ?_⟩) ?_
  rotate_left
  ·(intro w' Cn;obtain ⟨-,QJ,DC⟩:=Cn;go_simp;try with_reducible rfl)
  try simp only [Act.put,zSs]
  refine zdd 6 (some 131) (v:= ?_) rfl rfl uf ue (fun _ _ _ h=> h) trivial (Or.inl ⟨by rfl, ?_⟩) ?_
  rotate_left
  ·(intro w' O4;go_simp;try with_reducible rfl)
  try simp only [Act.put,zSs]
  refine zaa 1 (some 126) (v:= ?_) rfl rfl uf ue (fun _ _ _ h=> h) Av (Or.inl ⟨by rfl, ?_⟩) ?_
  rotate_left
  ·(intro w' Cn;obtain ⟨-,QJ,DC⟩:=Cn;go_simp;try with_reducible rfl)
  try simp only [Act.put,zSs]
  refine zdd 7 (some 132) (v:= ?_) rfl rfl uf ue (fun _ _ _ h=> h) trivial (Or.inl ⟨by rfl, ?_⟩) ?_
  rotate_left
  ·(intro w' O4;go_simp;try with_reducible rfl)
  try simp only [Act.put,zSs]
  refine zdd 8 (some 133) (v:= ?_) rfl rfl uf ue (fun _ _ _ h=> h) trivial (Or.inl ⟨by rfl, ?_⟩) ?_
  rotate_left
  ·(intro w' O4;go_simp;try with_reducible rfl)
  try simp only [Act.put,zSs]
  refine zdd 9 (some 134) (v:= ?_) rfl rfl uf ue (fun _ _ _ h=> h) trivial (Or.inl ⟨ue, ?_⟩) ?_;rotate_left
  ·(intro w' O4;go_simp;try with_reducible rfl)
  try simp only [Act.put,zSs]
  refine zdd 10 (some 135) (v:= ?_) rfl rfl uf ue (fun _ _ _ h=> h) trivial (Or.inl ⟨ue, ?_⟩) ?_;rotate_left
  ·(intro w' O4;go_simp;try with_reducible rfl)
  try simp only [Act.put,zSs]
  refine zdd 11 (some 136) (v:= ?_) rfl rfl uf ue (fun _ _ _ h=> h) trivial (Or.inl ⟨ue, ?_⟩) ?_;rotate_left
  ·(intro w' O4;go_simp;try with_reducible rfl)
  try simp only [Act.put,zSs]
  refine zdd 12 (some 137) (v:= ?_) rfl rfl uf ue (fun _ _ _ h=> h) trivial (Or.inl ⟨ue, ?_⟩) ?_;rotate_left
  ·(intro w' O4;go_simp;try with_reducible rfl)
  try simp only [Act.put,zSs]
  refine zdd 13 (some 138) (v:= ?_) rfl rfl uf ue (fun _ _ _ h=> h) trivial (Or.inl ⟨ue, ?_⟩) ?_;rotate_left
  ·(intro w' O4;go_simp;try with_reducible rfl)
  try simp only [Act.put,zSs]
  refine zdd 14 (some 139) (v:= ?_) rfl rfl uf ue (fun _ _ _ h=> h) trivial (Or.inl ⟨ue, ?_⟩) ?_;rotate_left
  ·(intro w' O4;go_simp;try with_reducible rfl)
  try simp only [Act.put,zSs]
  refine zd (i:=15) ue rfl (fun K' hK=> ?_);refine zA (o:=⟨some 140,_,_,_,_,_⟩) ue 11 Tryz.func11 ue rfl _ _ rfl #[.slice ga gm gk, .slice ya ym yk] ug (V7.out wL.drew zr.drew) ?_;rintro e w2 ⟨rfl,rfl⟩;refine ⟨_,rfl, ?_⟩;refine hK.out _ _ ⟨trivial,fun _=> Av.2⟩ ?_
  try simp only [Act.put,zSs]
  clear hK K';refine zdd 16 (some 141) (v:= ?_) rfl rfl uf ue (fun _ _ _ h=> h) trivial (Or.inl ⟨ue, ?_⟩) ?_;rotate_left
  ·(intro w' O4;go_simp;try with_reducible rfl)
  try simp only [Act.put,zSs]
  refine zdd 17 (some 142) (v:= ?_) rfl rfl uf ue (fun _ _ _ h=> h) trivial (Or.inl ⟨by rfl, ?_⟩) ?_
  rotate_left
  ·(intro w' O4;go_simp;try with_reducible rfl)
  try simp only [Act.put,zSs]
  refine zdd 18 (some 143) (v:= ?_) rfl rfl uf ue (fun _ _ _ h=> h) trivial (Or.inl ⟨by rfl, ?_⟩) ?_
  rotate_left
  ·(intro w' O4;go_simp;try with_reducible rfl)
  try simp only [Act.put,zSs]
  refine zd (i:=19) ue rfl (fun K' hK=> ?_);refine zA (o:=⟨some 144,_,_,_,_,_⟩) ue 10 Tryz.func10 ue rfl _ _ rfl #[] ug (JO.out wL.drew) ?_;rintro e wM ⟨rfl,cZ⟩;refine ⟨_,rfl, ?_⟩;have AZ:=ds.out wM (zr.drew.trans cZ);refine hK.out _ _ ⟨trivial,fun _=> AZ⟩ ?_
  try simp only [Act.put,zSs]
  clear hK K';refine zdd 20 (some 145) (v:= ?_) rfl rfl uf ue (fun _ _ _ h=> h) trivial (Or.inl ⟨by rfl, ?_⟩) ?_
  rotate_left
  ·(intro w' O4;go_simp;try with_reducible rfl)
  try simp only [Act.put,zSs]
  refine zdd 21 (some 6) (v:= ?_) rfl rfl uf ue (fun _ _ _ h=> h) trivial (Or.inl ⟨by rfl, ?_⟩) ?_
  rotate_left
  ·(intro w' O4;go_simp;try with_reducible rfl)
  try simp only [Act.put,zSs]
  refine zI ue ?_ _;have dr:=zh cZ;clear cZ Av AZ;go_wp2_with fail;go_ret;exact ⟨rfl,Oc.out _ (HL.out.2.2.2.trans ((zr.drew.trans dr.out).mono HL.out.2.2.2.size))⟩
end
end Go.Proofs.YtaoceecfjlkmdaaGreat
