/- Lemmas of the walks, merged and pressed by press.py. Conditions: those of each theorem. -/
import Derived.Test.YtfldlfladcfggaaGreatM18
import Derived.Deep.CutBlock
import Derived.Test.YtfldlfladcfggaaGreatM13
import Derived.Test.YtfldlfladcfggaaGreatM16
set_option maxRecDepth 100000
set_option maxHeartbeats 64000000
set_option linter.all false
namespace Go.Proofs.YtfldlfladcfggaaGreat
section
open Go.RowKit
theorem znj {S:Nat→Prop} {w:World} {pt:Nat} (h:za5 w S pt []) (AF:zaw w pt none 0) (e:En):
 Calls Tryz.prog 108 #[zv pt,zd1 e] w fun r w'=> ∃v S',r= .returned v∧za5 w' S' pt [e]∧Ext S w.heap.size S' w'∧w.grownBy w' (some pt):=by
 have Aq:Below w.heap.size w (w.alloc (.cells #[.int .u16 (zj e.1:Int), .int .u32 (zo e.1:Int), .int .u64 (zp e.1:Int), .int .u32 (e.2:Int)] 141)):=zr.alloc zl _;have DP:(w.alloc (.cells #[.int .u16 (zj e.1:Int), .int .u32 (zo e.1:Int), .int .u64 (zp e.1:Int), .int .u32 (e.2:Int)] 141)).heap[w.heap.size]? =some (.cells #[.int .u16 (zj e.1:Int), .int .u32 (zo e.1:Int), .int .u64 (zp e.1:Int), .int .u32 (e.2:Int)] 141 (0,0)):=heap_alloc_new w _;have Cd:=World.alloc_size w (.cells #[.int .u16 (zj e.1:Int), .int .u32 (zo e.1:Int), .int .u64 (zp e.1:Int), .int .u32 (e.2:Int)] 141);have BZ:pt < w.heap.size:=h.ptlt;have DD:zaw (w.alloc (.cells #[.int .u16 (zj e.1:Int), .int .u32 (zo e.1:Int), .int .u64 (zp e.1:Int), .int .u32 (e.2:Int)] 141)) pt none 0:=(Aq.block pt BZ).trans AF;have HW:=zh (zhl DD e.1);have HX:=zh DP;have Cj:=zh AF;have HH:=zh h;obtain ⟨z0,z1,z2⟩:=rd3 DP;simp at z0 z1 z2;unfold za2 at HW;unfold zv at HW ⊢;unfold zd1;clear h AF DD;go_enter Tryz.func108,Tryz.ntmps108;go_wp2_with fail;generalize w.alloc (.cells #[.int .u16 (zj e.1:Int), .int .u32 (zo e.1:Int), .int .u64 (zp e.1:Int), .int .u32 (e.2:Int)] 141)=w0 at *;refine HW.out.mono ?_;rintro r w1 ⟨q,rfl,-,-,Aa⟩;have B3:=Aq.trans (Aa.mono Aq.size);have BB:w1.heap[w.heap.size]? =some (.cells #[.int .u16 (zj e.1:Int), .int .u32 (zo e.1:Int), .int .u64 (zp e.1:Int), .int .u32 (e.2:Int)] 141 (0,0)):=(Aa.block _ (by omega)).trans HX.out
 obtain ⟨y0,y1,y2,y3⟩:w1.cell? ⟨w.heap.size,0,none⟩=some (.int .u16 (zj e.1:Int))∧w1.cell? ⟨w.heap.size,1,none⟩=some (.int .u32 (zo e.1:Int))∧w1.cell? ⟨w.heap.size,2,none⟩=some (.int .u64 (zp e.1:Int))∧w1.cell? ⟨w.heap.size,3,none⟩=some (.int .u32 (e.2:Int)):=⟨cell_of_row w1 _ 0 _ _ _ BB,cell_of_row w1 _ 1 _ _ _ BB,cell_of_row w1 _ 2 _ _ _ BB,cell_of_row w1 _ 3 _ _ _ BB⟩;have Ae:=B3.alloc B3.size (.cells (zaW e).toArray 141);have HL:=zh (zeW (c:=1) (zM.one w1 e) (by decide))
 unfold zaW at HL Ae;have Ap:=zh Ae;unfold zv at HL;clear BB z0 z1 z2 Aq Aa B3 DP Ae Cd HW;go_wp2_with fail;refine HL.out.mono ?_;rintro r w2 ⟨p,rfl,hN,Ae⟩;have BW:=Ap.out.trans (Ae.mono Ap.out.size);have CV:w2.heap[pt]? =some (.cells #[.pointer none, .int .i64 0] 100 (0,0)):=(BW.block pt BZ).trans Cj.out;have TR:w2.cell? ⟨pt,0,none⟩=some (.pointer none):=cell_of_row w2 pt 0 _ _ _ CV;have TS:w2.cell? ⟨pt,1,none⟩=some (.int .i64 0):=cell_of_row w2 pt 1 _ _ _ CV;have MP:∀i,w2.frozen? ⟨pt,i,none⟩=false:=fun i=> by simp [World.frozen?,CV]
 have hT:=ze0 w2 pt (.pointer (some ⟨p,0,none⟩)) (.int .i64 1);have Mh:=zeU CV (.pointer (some ⟨p,0,none⟩)) (.int .i64 1);have HF:=zh (zn hN (zn BW (zn hT Mh)));clear hN BW Ae hT Mh CV HL y0 y1 y2 y3;go_wp2_with fail;go_ret2;obtain ⟨hN,BW,hT,Mh⟩:=HF.out;have C6:=Ap.out.size;have GP:=BW.size;generalize (w1.alloc (.cells #[.int .u16 (zj e.1:Int), .int .u32 (zo e.1:Int), .int .u64 (zp e.1:Int), .int .u32 (e.2:Int)] 141)).heap.size=nb at *;have I7:=(hN.same (w':=(w2.setCell ⟨pt,0,none⟩ (.pointer (some ⟨p,0,none⟩))).setCell ⟨pt,1,none⟩ (.int .i64 1)) (fun j hj=> hT.block j (by omega))).more (S':=fun j=> S j∨(nb≤j∧j < w2.heap.size)) (fun j hj=> .inr hj)
 refine ⟨_,fun j=> S j∨(nb≤j∧j < w2.heap.size),rfl,⟨?_, ?_, ?_, .inr ⟨0,p,zbM [e],Mh,I7,⟨by show 0 < 1;omega,by show 1≤6;omega,trivial, .inl rfl⟩,rfl⟩⟩,⟨fun j hj=> .inl hj,fun j hj=> hj.elim .inl (fun h=> .inr (by omega)), ?_⟩,⟨hT.os.trans BW.os,hT.tape.trans BW.tape,hT.output.trans BW.output,by rw [hT.size];exact GP,fun j hj Aj=> ?_⟩⟩
 ·exact List.pairwise_singleton _ _
 ·intro j hj;rw [hT.size];exact hj.elim (fun hj=> zt (HH.out.lt j hj) GP) (fun h=> h.2)
 ·intro hj;rcases hj with hj | hj
  ·exact HH.out.apart hj
  ·omega
 ·intro j hj;rw [hT.size];exact hj.elim (fun hj=> zt (HH.out.lt j hj) GP) (fun h=> h.2)
 ·rw [hT.block j (fun e=> Aj (by rw [e]))]
  exact BW.block j hj
theorem zor {S:Nat→Prop} {w:World} {pt d p:Nat} {t:Tr d} (QY:¬S pt) (AF:zaw w pt (some p) (flatT t).length) (ht:zQ w S p t) (hR:zcM t) (AC:zac (flatT t)) (hS:∀j,S j→j < w.heap.size) (Ac:(flatT t).length≤2000) (e:En):
 Calls Tryz.prog 108 #[zv pt,zd1 e] w fun r w'=> ∃v S',r= .returned v∧za5 w' S' pt (zaR (flatT t) e)∧Ext S w.heap.size S' w'∧w.grownBy w' (some pt):=by
 have Aq:Below w.heap.size w (w.alloc (.cells #[.int .u16 (zj e.1:Int), .int .u32 (zo e.1:Int), .int .u64 (zp e.1:Int), .int .u32 (e.2:Int)] 141)):=zr.alloc zl _;have DP:(w.alloc (.cells #[.int .u16 (zj e.1:Int), .int .u32 (zo e.1:Int), .int .u64 (zp e.1:Int), .int .u32 (e.2:Int)] 141)).heap[w.heap.size]? =some (.cells #[.int .u16 (zj e.1:Int), .int .u32 (zo e.1:Int), .int .u64 (zp e.1:Int), .int .u32 (e.2:Int)] 141 (0,0)):=heap_alloc_new w _;have Cd:=World.alloc_size w (.cells #[.int .u16 (zj e.1:Int), .int .u32 (zo e.1:Int), .int .u64 (zp e.1:Int), .int .u32 (e.2:Int)] 141);have BZ:pt < w.heap.size:=(zg AF).1;have DD:zaw (w.alloc (.cells #[.int .u16 (zj e.1:Int), .int .u32 (zo e.1:Int), .int .u64 (zp e.1:Int), .int .u32 (e.2:Int)] 141)) pt (some p) (flatT t).length:=(Aq.block pt BZ).trans AF;have HW:=zh (zhm DD (ht.same (zbk.of_below Aq hS)) (fun j hj=> by rw [Cd];have:=hS j hj;omega) hR.lo hR.hi hR.kids AC (by have:=hR.depth Ac;omega) e.1)
 have HX:=zh DP;have Cj:=zh AF;have HR:=zh hR;have A3:=zh AC;obtain ⟨z0,z1,z2⟩:=rd3 DP;simp at z0 z1 z2;unfold za2 at HW;unfold zv at HW ⊢;unfold zd1;clear ht AF DD hR AC;go_enter Tryz.func108,Tryz.ntmps108;go_wp2_with fail;generalize w.alloc (.cells #[.int .u16 (zj e.1:Int), .int .u32 (zo e.1:Int), .int .u64 (zp e.1:Int), .int .u32 (e.2:Int)] 141)=w0 at *;refine HW.out.mono ?_;rintro r w1 ⟨q,path,pl,lt,rfl,AO,TW,D9,Aa⟩;have B3:=Aq.trans (Aa.mono Aq.size);have BB:w1.heap[w.heap.size]? =some (.cells #[.int .u16 (zj e.1:Int), .int .u32 (zo e.1:Int), .int .u64 (zp e.1:Int), .int .u32 (e.2:Int)] 141 (0,0)):=(Aa.block _ (by omega)).trans HX.out
 obtain ⟨y0,y1,y2,y3⟩:w1.cell? ⟨w.heap.size,0,none⟩=some (.int .u16 (zj e.1:Int))∧w1.cell? ⟨w.heap.size,1,none⟩=some (.int .u32 (zo e.1:Int))∧w1.cell? ⟨w.heap.size,2,none⟩=some (.int .u64 (zp e.1:Int))∧w1.cell? ⟨w.heap.size,3,none⟩=some (.int .u32 (e.2:Int)):=⟨cell_of_row w1 _ 0 _ _ _ BB,cell_of_row w1 _ 1 _ _ _ BB,cell_of_row w1 _ 2 _ _ _ BB,cell_of_row w1 _ 3 _ _ _ BB⟩;have QJ:∀j,S j→j < w1.heap.size:=fun j hj=> zt (hS j hj) B3.size;obtain ⟨Jt,QF⟩:=zf2.up (UpT.top (w:=w1) (S:=S) (k:=e.1) (t:=t)) D9;rw [List.nil_append] at Jt;obtain ⟨Gb,CC,Gc,QR,Yv⟩:=Jt.good HR.out.lo HR.out.hi HR.out.kids A3.out;have Je:=Jt.get HR.out.lo HR.out.hi HR.out.kids A3.out;rw [show zdi (flatT lt) e.1=zdi (zS lt) e.1 from rfl] at Je;have Ji:(zdi (flatT t) e.1).isSome=decide (e.1 ∈ zC lt):=by rw [Je];exact ziX _ _
 have FX:=zeZ (flatT t) e A3.out;rw [Ji] at FX;have Jz:=zh (zoB QF QJ (by omega) (show zac (zS lt) from QR) e)
 have KX:(zS lt).length≤6:=CC;have Fc:(zaR (zS lt) e).length≤7:=by
  have:=zeZ (zS lt) e QR
  split at this <;> omega
 have WK:=zh Jt;have EZ:=zh AO;have Fd:=zh B3;have Ez:=zh FX;have Jp:=B3.size;have IL:w.heap.size≤q:=by omega
 have IK:=AO.lt;unfold zd1 at Jz;unfold zv at Jz;clear z0 z1 z2 DP BB Aq Aa B3 D9 QF Jt AO Gb CC Gc QR Yv Je Ji FX Cd HW TW;generalize KI:decide (e.1 ∈ zC lt)=md at *;have Qn:=zh KI;clear KI;go_wp2_with fail;refine Jz.out.mono ?_;rintro r w2 ⟨v2,x2,rfl,Ef,Ae⟩;have BW:=Fd.out.trans (Ae.mono Jp);have CV:w2.heap[pt]? =some (.cells #[.pointer (some ⟨p,0,none⟩), .int .i64 ((flatT t).length:Int)] 100 (0,0)):=(BW.block pt BZ).trans Cj.out;have TR:w2.cell? ⟨pt,0,none⟩=some (.pointer (some ⟨p,0,none⟩)):=cell_of_row w2 pt 0 _ _ _ CV;have TS:w2.cell? ⟨pt,1,none⟩=some (.int .i64 ((flatT t).length:Int)):=cell_of_row w2 pt 1 _ _ _ CV;have MP:∀i,w2.frozen? ⟨pt,i,none⟩=false:=fun i=> by simp [World.frozen?,CV]
 have FC:=zh CV;have Gl:=zh BW;have Z0:=zh Ef;have Ap:=zh Ae;have Q8:IntKind.i64.wrap (((flatT t).length:Int)+1)=((flatT t).length:Int)+1:=zw _ (by omega)
 clear CV BW Ef Ae Jz y0 y1 y2 y3
 go_upto_if 40 with fail
 go_cut [10] from 41 to 47 (fun u10 wx=> u10= .bool md∧wx.heap[pt]? =some (.cells #[.pointer (some ⟨p,0,none⟩), .int .i64 ((zaR (flatT t) e).length:Int)] 100 (0,0))∧zcN pt w2 wx)
 case first=>
  cases md with
  | true=>
    have hn:(zaR (flatT t) e).length=(flatT t).length:=Ez.out;have HN:=zh hn;clear hn;go_wp2_with fail
    go_meet
    case rel=> exact ⟨rfl,by rw [HN.out];exact FC.out,zcN.refl _ _⟩
  | false=>
    have hn:(zaR (flatT t) e).length=(flatT t).length+1:=Ez.out;have h1:=heap_setCell_same w2 pt 1 _ _ (.int .i64 (((flatT t).length:Int)+1)) FC.out;have hT:zcN pt w2 (w2.setCell ⟨pt,1,none⟩ (.int .i64 (((flatT t).length:Int)+1))):=⟨rfl,rfl,rfl,by simp,fun j hj=> by rw [heap_setCell_other _ _ j _ hj]⟩
    have HN:=zh hn;have H1:=zh h1;have HT:=zh hT;clear hn h1 hT;go_wp2_with fail
    go_meet
    case rel=> exact ⟨rfl,by rw [HN.out];exact H1.out,HT.out⟩
 case rest=>
  obtain ⟨rfl,KU,CA⟩:=hcut;have GP:=Ap.out.size;have El:∀j,j < w.heap.size→j≠pt→wc.heap[j]? =w.heap[j]? :=fun j hj Aj=> (CA.block j Aj).trans (Gl.out.block j hj);have MR:v2.ownBlock≠some pt:=fun h=> by have:=(Z0.out.lt pt h).1;omega
  have Um:=Z0.out.kept CA.grown (.inr MR);obtain ⟨va,vc,rfl,JN,Un,-⟩:=Um.row zN;have HL:=zh (zee (c:=vc) JN Un (by omega))
  have Ke:zbk S w1 wc:=fun j hj=> (CA.block j (fun h=> QY (h ▸ hj))).trans (Ap.out.block j (zt (hS j hj) Jp));have OC:=zh (WK.out.same Ke);have Ey:zZ wc q path:=EZ.out.heap ((CA.block q (by omega)).trans (Ap.out.block q IK))
  have Hl:=zh Ey;have Dr:w.heap.size≤wc.heap.size:=by rw [CA.size];omega
  have Ou:=zh KU;have Oc:=zh El;have OB:=zh CA;have P2:q < wc.heap.size:=by rw [CA.size];omega
  clear KU CA El MR Um JN Un Ke Ey;generalize (zaR (zS lt) e).length=nr at *;go_wp2_with fail;refine HL.out.mono ?_;rintro r w4 ⟨v4,ps,rfl,Bf,Jk,Ar⟩;have GQ:=Ar.size;have Ei:=zh (zg5 (Hl.out.heap (Ar.block q P2)));have I3:=zh Bf;have Wj:=zh Jk;have Cz:=zh Ar;unfold zv at Ei;clear Bf Jk Ar;go_wp2_with fail;refine Ei.out.mono ?_;rintro r w5 ⟨op,iv,rfl,Bj,Fw⟩;have NZ:=Bj.size;have CS:zlR wc S w.heap.size e.1 t (fun {m} (s:Tr m)=> zho s e) q w5.heap.size v4 (.bool (!decide (path= []))) path (w5.alloc (.cells #[.pointer op, .int .i64 iv] 244)):=by
   refine zlR.laid (W:=w4) OC.out (I3.out.base Dr) (S:=fun j=> S j∨(wc.heap.size≤j∧j < w4.heap.size)) (Wj.out.more (fun j hj=> .inr hj)) ?_ ?_ ?_ ?_ (heap_alloc_new w5 _) ?_ (Cz.out.mono Dr) IL (by omega) (by omega) NZ
   ·exact ⟨fun _ h=> .inl h,fun j hj=> hj.elim .inl (fun h=> .inr (by omega)),fun j hj=> hj.elim (fun h=> by have:=hS j h;omega) (fun h=> h.2)⟩
   ·rintro (h | h)
    ·have:=hS q h;omega
    ·omega
   ·intro h;have:=(I3.out.lt q h).1
    omega
   ·exact ⟨Bj.os,Bj.tape,Bj.output,by rw [World.alloc_size];omega,fun j hj Aj=> by rw [Below.heap_alloc _ _ _ (by omega)];exact Bj.block j hj Aj⟩
   ·rcases Fw with ⟨h,-⟩ | ⟨l',p',i',h1,h2,h3,h4⟩
    ·exact .inl h
    ·exact .inr ⟨l',p',i',h1,h2,h3,h4.heap (Below.heap_alloc _ _ _ h4.lt)⟩
  have RA:=zh CS;clear CS Fw Bj Ei;go_wp2_with fail;generalize w5.alloc (.cells #[.pointer op, .int .i64 iv] 244)=w6 at *;generalize w5.heap.size=xb0 at *
  go_loopw [11,12,13] (fun u11 u12 u13 wr=> ∃(xb:Nat) (pre:List (Nat × Nat)),u12= .pointer (some ⟨xb,0,none⟩)∧zlR wc S w.heap.size e.1 t (fun {m} (s:Tr m)=> zho s e) q xb u11 u13 pre wr) (fun u11 u12 u13 wr=> ((wr.cell? ⟨q,32,none⟩).map fun v=> (intOf v).toNat).getD 0+(match u13 with | .bool true=> 1 | _=> 0))
  case atStart=> exact ⟨xb0,path,rfl,RA.out⟩
  case round=>
   obtain ⟨xb,pre,rfl,GT⟩:=hrel;obtain ⟨m,s,ps5,S5,DO,AV,CR,G5,P3⟩:=GT.at';obtain ⟨op5,iv5,DV,Fx⟩:=GT.cell;have Fv:=GT.ok;have AA:=GT.below;rcases Fx with rfl | ⟨l,p5,i5,rfl,rfl,rfl,EX⟩
   ·obtain rfl:u13= .bool false:=Fv;have C2:=DO.end rfl;obtain ⟨rfl,Gi⟩:=Sigma.mk.inj C2;obtain rfl:=eq_of_heq Gi;have DK:wr.heap[pt]? =some (.cells #[.pointer (some ⟨p,0,none⟩), .int .i64 ((zaR (flatT s) e).length:Int)] 100 (0,0)):=(AA.block pt BZ).trans Ou.out;have TV:wr.cell? ⟨pt,0,none⟩=some (.pointer (some ⟨p,0,none⟩)):=cell_of_row wr pt 0 _ _ _ DK;have Y5:∀i,wr.frozen? ⟨pt,i,none⟩=false:=fun i=> by simp [World.frozen?,DK]
    have Dp:zac (zaR (flatT s) e):=zc8 A3.out;have Ev:¬S5 pt:=fun h=> (G5.new pt h).elim QY (fun h2=> by omega)
    have Zw:w.heap.size≤wr.heap.size:=zs Dr AA.size;have BT:∀j,j < w.heap.size→j≠pt→wr.heap[j]? =w.heap[j]? :=fun j hj Aj=> (AA.block j hj).trans (Oc.out j hj Aj);have KO:wr.os=w.os∧wr.tape=w.tape∧wr.output=w.output:=⟨AA.os.trans (OB.out.os.trans Gl.out.os),AA.tape.trans (OB.out.tape.trans Gl.out.tape),AA.output.trans (OB.out.output.trans Gl.out.output)⟩;have AQ:=CR.1;rcases zon HR.out A3.out e with ⟨a,DL,NW,Gf⟩ | ⟨a,b,DL,NW,Gf,KC,KE⟩
    ·rw [DL] at CR AQ;have DJ:ps5.length=1:=AQ;obtain ⟨pa,rfl⟩:=List.length_eq_one_iff.1 DJ;obtain ⟨g5,cap5,rfl,FN,EQ,C4,Db⟩:=AV.someE (by show 0 < 1;omega)
     have Pg:wr.cell? ⟨g5,0,none⟩=some (.pointer (some ⟨pa,0,none⟩)):=by
           obtain ⟨b',o',he,hc⟩:=(Db.row zE).ptr 0 pa rfl
           cases he
           exact hc
     have I8:=CR.2 0 pa a rfl rfl;have h1:=heap_setCell_same wr pt 0 _ _ (.pointer (some ⟨pa,0,none⟩)) DK;have hT:zcN pt wr (wr.setCell ⟨pt,0,none⟩ (.pointer (some ⟨pa,0,none⟩))):=⟨rfl,rfl,rfl,by simp,fun j hj=> by rw [heap_setCell_other _ _ j _ hj]⟩
     have I7:=I8.same (w':=wr.setCell ⟨pt,0,none⟩ (.pointer (some ⟨pa,0,none⟩))) (fun j hj=> hT.block j (fun h=> Ev (h ▸ hj)));have hF:za5 (wr.setCell ⟨pt,0,none⟩ (.pointer (some ⟨pa,0,none⟩))) S5 pt (zaR (flatT s) e):=⟨Dp,fun j hj=> by rw [hT.size];exact G5.lt j hj,Ev, .inr ⟨_,pa,a,h1,I7,NW,Gf⟩⟩
     have hG:w.grownBy (wr.setCell ⟨pt,0,none⟩ (.pointer (some ⟨pa,0,none⟩))) (some pt):=⟨hT.os.trans KO.1,hT.tape.trans KO.2.1,hT.output.trans KO.2.2,by rw [hT.size];exact Zw,fun j hj Aj=> (hT.block j (fun h=> Aj (by rw [h]))).trans (BT j hj (fun h=> Aj (by rw [h])))⟩
     have HF:=zh (zn hF (zn (G5.later (w2:=wr.setCell ⟨pt,0,none⟩ (.pointer (some ⟨pa,0,none⟩))) (by rw [hT.size];exact zl)) hG))
     clear hF hG I7 hT h1 I8 Db CR AV G5 DK DL Gf NW Dp C2 Gi DO GT DV AA KO BT DJ AQ;go_wp2_with fail;go_ret2;exact ⟨_,S5,rfl,HF.out.1,HF.out.2.1,HF.out.2.2⟩
    ·rw [DL] at CR AQ;have DJ:ps5.length=2:=AQ;obtain ⟨pa,pb,rfl⟩:∃pa pb,ps5= [pa,pb]:=by
           match ps5,DJ with
           | [x,y],_=> exact ⟨x,y,rfl⟩
     obtain ⟨g5,cap5,rfl,FN,EQ,C4,Db⟩:=AV.someE (by show 0 < 2;omega)
     have Pg:wr.cell? ⟨g5,0,none⟩=some (.pointer (some ⟨pa,0,none⟩)):=by
           obtain ⟨b',o',he,hc⟩:=(Db.row zE).ptr 0 pa rfl
           cases he
           exact hc
     have h1:=heap_setCell_same wr pt 0 _ _ (.pointer (some ⟨pa,0,none⟩)) DK;have hT:zcN pt wr (wr.setCell ⟨pt,0,none⟩ (.pointer (some ⟨pa,0,none⟩))):=⟨rfl,rfl,rfl,by simp,fun j hj=> by rw [heap_setCell_other _ _ j _ hj]⟩
     have NE:=CR.same (w':=wr.setCell ⟨pt,0,none⟩ (.pointer (some ⟨pa,0,none⟩))) (fun j hj=> hT.block j (fun h=> Ev (h ▸ hj)));have Jg:g5≠pt:=by omega
     have HI:=zh (zdN (c:=cap5) ((Db.heap (hT.block g5 Jg)).row zE) (show 2≤1000 by omega) rfl NE.2 (fun k' FU=> by
           rcases List.mem_cons.1 FU with rfl | FU
           ·exact KC
           ·obtain rfl:=List.mem_singleton.1 FU;exact KE) (fun j hj=> by rw [hT.size];exact G5.lt j hj))
     have LR:=zh hT;have H1:=zh h1;have C1:=zh G5;have ZV:=zh (zn NW Gf);have Wv:=zh KO;have Wl:=zh BT;have Hi:=zh Dp;unfold zv at HI;clear h1 hT NE Db CR AV G5 DK DL Gf NW Dp C2 Gi DO GT DV AA KO BT DJ AQ;go_wp2_with fail;refine HI.out.mono ?_;rintro r w7 ⟨p7,rfl,jC,B1⟩;have aV:wr.heap.size≤w7.heap.size:=by have:=B1.size;rw [LR.out.size] at this;exact this
     have YZ:pt < wr.heap.size:=by omega
     have MQ:w7.heap[pt]? =some (.cells #[.pointer (some ⟨pa,0,none⟩), .int .i64 ((zaR (flatT s) e).length:Int)] 100 (0,0)):=(B1.block pt (by rw [LR.out.size];exact YZ)).trans H1.out
     have bU:w7.cell? ⟨pt,0,none⟩=some (.pointer (some ⟨pa,0,none⟩)):=cell_of_row w7 pt 0 _ _ _ MQ;have bY:∀i,w7.frozen? ⟨pt,i,none⟩=false:=fun i=> by simp [World.frozen?,MQ]
     have h8:=heap_setCell_same w7 pt 0 _ _ (.pointer (some ⟨p7,0,none⟩)) MQ;have Nq:zcN pt w7 (w7.setCell ⟨pt,0,none⟩ (.pointer (some ⟨p7,0,none⟩))):=⟨rfl,rfl,rfl,by simp,fun j hj=> by rw [heap_setCell_other _ _ j _ hj]⟩
     have Fu:¬(S5 pt∨((wr.setCell ⟨pt,0,none⟩ (.pointer (some ⟨pa,0,none⟩))).heap.size≤pt∧pt < w7.heap.size)):=fun h=> h.elim Ev (fun h=> by have:=LR.out.size;omega)
     have PK:∀j,(S5 j∨((wr.setCell ⟨pt,0,none⟩ (.pointer (some ⟨pa,0,none⟩))).heap.size≤j∧j < w7.heap.size))→j < (w7.setCell ⟨pt,0,none⟩ (.pointer (some ⟨p7,0,none⟩))).heap.size:=fun j hj=> by
           rw [Nq.size];exact hj.elim (fun h=> by have:=C1.out.lt j h;omega) (fun h=> h.2)
     have jD:=jC.same (w':=w7.setCell ⟨pt,0,none⟩ (.pointer (some ⟨p7,0,none⟩))) (S:=fun j=> S5 j∨((wr.setCell ⟨pt,0,none⟩ (.pointer (some ⟨pa,0,none⟩))).heap.size≤j∧j < w7.heap.size)) (fun j hj=> Nq.block j (fun h=> by rw [h] at hj;exact Fu hj))
     have hF:za5 (w7.setCell ⟨pt,0,none⟩ (.pointer (some ⟨p7,0,none⟩))) (fun j=> S5 j∨((wr.setCell ⟨pt,0,none⟩ (.pointer (some ⟨pa,0,none⟩))).heap.size≤j∧j < w7.heap.size)) pt (zaR (flatT s) e):=⟨Hi.out,PK,Fu, .inr ⟨_,p7,_,h8,jD,ZV.out.1,ZV.out.2⟩⟩;have hE:Ext S w.heap.size (fun j=> S5 j∨((wr.setCell ⟨pt,0,none⟩ (.pointer (some ⟨pa,0,none⟩))).heap.size≤j∧j < w7.heap.size)) (w7.setCell ⟨pt,0,none⟩ (.pointer (some ⟨p7,0,none⟩))):=⟨fun j h=> .inl (C1.out.sub j h),fun j hj=> hj.elim (C1.out.new j) (fun h=> .inr (by have:=LR.out.size;omega)),PK⟩
     have hG:w.grownBy (w7.setCell ⟨pt,0,none⟩ (.pointer (some ⟨p7,0,none⟩))) (some pt):=⟨Nq.os.trans (B1.os.trans (LR.out.os.trans Wv.out.1)),Nq.tape.trans (B1.tape.trans (LR.out.tape.trans Wv.out.2.1)),Nq.output.trans (B1.output.trans (LR.out.output.trans Wv.out.2.2)),by rw [Nq.size];omega,fun j hj Aj=> by
           have Yn:j≠pt:=fun h=> Aj (by rw [h])
           rw [Nq.block j Yn,B1.block j (by rw [LR.out.size];omega),LR.out.block j Yn]
           exact Wl.out j hj Yn⟩
     have HF:=zh (zn hF (zn hE hG));clear hF hE hG jD jC B1 MQ h8 Nq Fu PK;go_wp2_with fail;go_ret2;exact ⟨_,_,rfl,HF.out.1,HF.out.2.1,HF.out.2.2⟩
   ·obtain rfl:u13= .bool true:=by rw [Fv,decide_eq_false (by simp)];rfl
    have P4:=GT.ql;obtain ⟨u,hu,Kc,Pw,EE⟩:=DO.last rfl;obtain ⟨gu1,gu2,gu3,gu4,-⟩:=hu.good HR.out.lo HR.out.hi HR.out.kids A3.out;obtain ⟨gs1,gs2,gs3,gs4,-⟩:=DO.good HR.out.lo HR.out.hi HR.out.kids A3.out;have BA:=zhd gs1 gs2 gs3 gs4 e;have Ee:=zpy e (show (zx u)[zP (zC u) e.1]? =some s by rw [← Pw];exact EE)
    rw [← Pw] at Ee;have JE:∀j,S j→j < wr.heap.size:=fun j hj=> zt (hS j hj) (zs Dr AA.size);have JD:=Kc.same (zbk.of_below AA hS);obtain ⟨cb,co,cc,qs,yk,-,Ah,Ec,OZ,-,-⟩:=JD.inner gu1;have IM:qs.length=zH u:=Ah.1;have De:i5 < zH u:=(zi EE).1;have AQ:ps5.length=(zho s e).length:=CR.1;have TP:=BA.len;obtain ⟨g5,cap5,rfl,FN,EQ,C4,Db⟩:=AV.someE (by omega)
    obtain ⟨cur5,FG,EN,-⟩:=Db.ex;have NF:∀k' ∈ (zx u).take i5++(zho s e++(zx u).drop (i5+1)),0 < zH k':=fun k' FU=> by
     rcases List.mem_append.1 FU with h | h
     ·have:=(zag.kid gu3 (List.mem_of_mem_take h)).lo;omega
     ·rcases List.mem_append.1 h with h | h
      ·rcases BA with ⟨a,h1,h2,-⟩ | ⟨a,b,h1,h2,h3⟩
       ·rw [h1] at h;obtain rfl:=List.mem_singleton.1 h;omega
       ·rw [h1] at h;rcases List.mem_cons.1 h with rfl | h
        ·have:=h2.lo;omega
        ·obtain rfl:=List.mem_singleton.1 h;have:=h3.lo;omega
      ·have:=(zag.kid gu3 (List.mem_of_mem_drop h)).lo;omega
    have HC:=zh (zdg (c:=cc) (w:=wr.drew) Ah (by omega))
    obtain ⟨x50,x51⟩:wr.cell? ⟨xb,0,none⟩=some (.pointer (some ⟨p5,0,none⟩))∧wr.cell? ⟨xb,1,none⟩=some (.int .i64 (i5:Int)):=⟨cell_of_row wr xb 0 _ _ _ DV,cell_of_row wr xb 1 _ _ _ DV⟩;have CI:xb < wr.heap.size:=(zg DV).1;have hp5l:p5 < wr.heap.size:=JE p5 OZ;have Cq:wr.drew.cell? ⟨xb,0,none⟩=some (.pointer (some ⟨p5,0,none⟩))∧wr.drew.cell? ⟨xb,1,none⟩=some (.int .i64 (i5:Int))∧wr.drew.cell? ⟨p5,3,none⟩=some (.slice (some ⟨cb,co,none⟩) (zH u) cc):=⟨x50,x51,yk⟩;have Bg:∀W,Below wr.heap.size wr W→W.cell? ⟨xb,0,none⟩=some (.pointer (some ⟨p5,0,none⟩))∧W.cell? ⟨xb,1,none⟩=some (.int .i64 (i5:Int))∧W.cell? ⟨p5,3,none⟩=some (.slice (some ⟨cb,co,none⟩) (zH u) cc):=fun W hW=> ⟨(hW.cell (p:=⟨xb,0,none⟩) CI).trans x50,(hW.cell (p:=⟨xb,1,none⟩) CI).trans x51,(hW.cell (p:=⟨p5,3,none⟩) hp5l).trans yk⟩;have B9:=zh Bg;have Rm:=zh Ec;have Oj:=zh CR;have C1:=zh G5;have HU:=zh hu;have J6:=zh Ee;have Ql:=zh NF;have IV:=zh AA;have J5:=zh EX;have Ru:=zh Db;have VX:=zh FG;have GI:=EX.reads.1;have Bb:IntKind.i64.wrap ((i5:Int)+1)=((i5+1:Nat):Int):=by rw [zw _ (by omega)];omega
    have Aa:qs.length≤20:=by omega
    have Ae:i5+1≤qs.length:=by omega
    have Am:0 < ps5.length:=by omega
    have Ar:ps5.length≤2:=by omega
    have Ag:cur5.size≠0:=by rw [EN];omega
    have AT:w.heap.size≤wr.heap.size:=zs Dr AA.size;clear DO AV CR G5 DV hu Kc EE BA Ee JD Ah Ec IM De AQ TP Db FG EN NF Bg Pw AA EX gu1 gu2 gu3 gu4 gs1 gs2 gs3 gs4 yk x50 x51 C4 GT;generalize zH u=lu at *;clear Fv;go_wp2_with fail
    go_region_held_law (fun W'=> W'.cell? ⟨xb,0,none⟩=some (.pointer (some ⟨p5,0,none⟩))∧W'.cell? ⟨xb,1,none⟩=some (.int .i64 (i5:Int))∧W'.cell? ⟨p5,3,none⟩=some (.slice (some ⟨cb,co,none⟩) lu cc))
     (first | exact Cq | exact B9.out _ (by first | with_reducible exact Hv | with_reducible exact DF | with_reducible exact As))
     (first
           | (go_at_call 151
              refine HC.out.mono ?_;rintro r wq ⟨vq,rfl,Lc,Jb⟩;have As:Below wr.heap.size wr wq:=⟨Jb.os,Jb.tape,Jb.output,Jb.size,Jb.block⟩;have aR:wr.heap.size≤wq.heap.size:=As.size;have LO:=zh (zcF (c2:=cap5) Lc i5 (i5+1) (by omega) (by omega) (by omega) ((Ru.out.heap (As.block g5 EQ)).row zE) (by omega) (by omega) (by omega) ((As.block g5 EQ).trans VX.out) Ag (fun h=> by have:=(Lc.lt _ h).1;have h2:wr.drew.heap.size=wr.heap.size:=rfl;omega) (by show wr.heap.size≤_;omega))
              have WN:=zh Lc.lt;have Gm:=zh As;clear Lc Jb)
           | (go_at_call 150
              refine LO.out.mono ?_;rintro r wp ⟨vp,rfl,Lb,Jg⟩;have DF:Below wr.heap.size wr wp:=Gm.out.grown Jg Gm.out.size (fun j hj=> (WN.out j hj).1);have QT:(qs.take i5++(ps5++qs.drop (i5+1))).length≤100∧0 < (qs.take i5++(ps5++qs.drop (i5+1))).length:=by
                 rw [List.length_append,List.length_append,List.length_take,List.length_drop];omega
              obtain ⟨gp,capp,rfl,XM,Yi,MD,U0⟩:=Lb.someE QT.2;have BY:zat wp S5 (qs.take i5++(ps5++qs.drop (i5+1))) ((zx u).take i5++(zho s e++(zx u).drop (i5+1))):=by
                 have FK:zbk S5 wr wp:=fun j hj=> DF.block j (C1.out.lt j hj);have BX:=(Rm.out.more C1.out.sub).same FK;exact (BX.take i5).app ((Oj.out.same FK).app (BX.drop (i5+1)))
              have HI:=zh (zea (c:=capp) (U0.row zE) MD (by omega) QT.2 BY Ql.out (fun j hj=> zt (C1.out.lt j hj) DF.size))
              have In:=zh DF;generalize (qs.take i5++(ps5++qs.drop (i5+1))).length=lp at *;clear Lb Jg QT MD U0 BY)
           | (go_at_call 149
              refine HI.out.mono ?_;rintro r wo ⟨vo,po,rfl,K9,Ti,FF⟩;have Hv:Below wr.heap.size wr wo:=In.out.trans (FF.mono In.out.size)))
    all_goals
     obtain ⟨k0,k1,-⟩:=B9.out wo Hv;have GL:=FF.size;have yG:=In.out.size;have TX:q < wo.heap.size:=by omega
     have K7:=World.alloc_size wo (.cells #[.pointer (some ⟨p5,0,none⟩), .int .i64 (i5:Int)] 244);have Ei:=zh (zg5 ((J5.out.heap (Hv.block q P4)).heap (Below.heap_alloc wo (.cells #[.pointer (some ⟨p5,0,none⟩), .int .i64 (i5:Int)] 244) q TX)));have Uq:(wo.alloc (.cells #[.pointer (some ⟨p5,0,none⟩), .int .i64 (i5:Int)] 244)).heap[wo.heap.size]? =some (.cells #[.pointer (some ⟨p5,0,none⟩), .int .i64 (i5:Int)] 244 (0,0)):=heap_alloc_new wo _;have EJ:=zh Uq;have VP:=zh Hv;have RD:=zh K9;have Wk:=zh Ti;have qD:=zh FF;have OA:=zh K7;unfold zv at Ei;clear Uq Hv K9 Ti FF K7 As DF HC LO HI;go_wp2_with fail;refine Ei.out.mono ?_;rintro r w6 ⟨op6,iv6,rfl,AX,EV⟩;have D6:wo.grownBy w6 (some q):=⟨AX.os,AX.tape,AX.output,by have:=AX.size;have:=OA.out;omega,fun j hj Aj=> (AX.block j (by have:=OA.out;omega) Aj).trans (Below.heap_alloc _ _ _ hj)⟩
     have GX:w6.heap[wo.heap.size]? =some (.cells #[.pointer (some ⟨p5,0,none⟩), .int .i64 (i5:Int)] 244 (0,0)):=(AX.block _ (by have:=OA.out;omega) (fun h=> by have:=Option.some.inj h;omega)).trans EJ.out
     have k60:=cell_of_row w6 _ 0 _ _ _ GX;have k61:=cell_of_row w6 _ 1 _ _ _ GX;simp at k60 k61;have k6f:∀i,w6.frozen? ⟨wo.heap.size,i,none⟩=false:=fun i=> by simp [World.frozen?,GX]
     have hT:=ze0 w6 wo.heap.size (.pointer op6) (.int .i64 iv6);have IQ:=zeU GX (.pointer op6) (.int .i64 iv6);have Ca:¬(S5 q∨(wp.heap.size≤q∧q < wo.heap.size)):=fun h=> h.elim P3 (fun h=> by omega)
     have Ed:(l= []∧zZ ((w6.setCell ⟨wo.heap.size,0,none⟩ (.pointer op6)).setCell ⟨wo.heap.size,1,none⟩ (.int .i64 iv6)) q [])∨∃l':List (Nat × Nat),l≠ []∧l.length=l'.length+1∧zZ ((w6.setCell ⟨wo.heap.size,0,none⟩ (.pointer op6)).setCell ⟨wo.heap.size,1,none⟩ (.int .i64 iv6)) q l':=by
           rcases EV with ⟨h1,h2⟩ | ⟨l',p',i',h1,h2,h3,h4⟩
           ·exact .inl ⟨h1,h2.heap (hT.block q (by omega))⟩
           ·exact .inr ⟨l',by rw [h1];simp,by rw [h1];simp,h4.heap (hT.block q (by omega))⟩
     have CS:zlR wc S w.heap.size e.1 t (fun {m} (s:Tr m)=> zho s e) q wo.heap.size vo (.bool (!decide (l= []))) l ((w6.setCell ⟨wo.heap.size,0,none⟩ (.pointer op6)).setCell ⟨wo.heap.size,1,none⟩ (.int .i64 iv6)):=by
           refine zlR.laid (W:=wo) HU.out (RD.out.base (by omega)) (S:=fun j=> S5 j∨(wp.heap.size≤j∧j < wo.heap.size)) (by rw [J6.out];exact Wk.out) ?_ Ca ?_ ?_ IQ ?_ (IV.out.trans (VP.out.mono AT)) IL (by omega) TX zl
           ·exact ⟨fun j h=> .inl (C1.out.sub j h),fun j hj=> hj.elim (C1.out.new j) (fun h=> .inr (by omega)),fun j hj=> hj.elim (fun h=> by have:=C1.out.lt j h;omega) (fun h=> h.2)⟩
           ·intro h;have:=(RD.out.lt q h).1
            omega
           ·exact ⟨hT.os.trans D6.os,hT.tape.trans D6.tape,hT.output.trans D6.output,by rw [hT.size];exact D6.size,fun j hj Aj=> (hT.block j (by omega)).trans (D6.block j hj Aj)⟩
           ·rcases EV with ⟨h,-⟩ | ⟨l',p',i',h1,h2,h3,h4⟩
            ·exact .inl h
            ·exact .inr ⟨l',p',i',h1,h2,h3,h4.heap (hT.block q (by omega))⟩
     have Wn:=zh CS;have Rp:=zh Ed;clear CS Ed EV AX D6 GX IQ hT Ei Ca;go_wp2_with fail
     go_roundw
     case rel=> exact ⟨wo.heap.size,l,rfl,Wn.out⟩
     case measure=>
           rw [GI];rcases Rp.out with ⟨h1,h2⟩ | ⟨l',h1,h2,h3⟩
           ·rw [h2.reads.1,h1];simp [intOf]
           ·rw [h3.reads.1,decide_eq_false h1,h2];simp [intOf]
theorem zpz {S:Nat→Prop} {w:World} {pt:Nat} {l:List En} (h:za5 w S pt l) (hl:l.length≤2000) (e:En):
 Calls Tryz.prog 108 #[zv pt,zd1 e] w fun r w'=> ∃v S',r= .returned v∧za5 w' S' pt (zaR l e)∧Ext S w.heap.size S' w'∧w.grownBy w' (some pt):=by
 rcases h.has with ⟨rfl,h2⟩ | ⟨d,p,t,h1,h2,h3,rfl⟩
 ·exact znj h h2 e
 ·exact zor h.apart h1 h2 h3 h.rise h.lt hl e
end
section
open Go.RowKit
structure zaF (w:World) (ph pt pa:Nat) (l:List En) (F:List Nat) (L:List Uc) (n:Nat) (E:Nat→Prop):Prop where
 has:∃(S D:Nat→Prop),w.heap[ph]? =some (.cells #[zv pt,zv pa] 47 (0,0))∧za5 w S pt l∧zX w pa F L n D∧(∀j,E j↔j=ph∨j=pt∨S j∨D j)∧¬S ph∧¬D ph∧ph≠pt∧¬D pt∧∀j,S j→¬D j
theorem zaF.kept {w w':World} {ph pt pa:Nat} {l:List En} {F:List Nat} {L:List Uc} {n:Nat} {E:Nat→Prop} (h:zaF w ph pt pa l F L n E) (hk:zbD E w w'):zaF w' ph pt pa l F L n E:=by
 obtain ⟨S,D,h1,h2,h3,h4,h5⟩:=h.has;exact ⟨S,D,(hk.block _ ((h4 _).2 (.inl rfl))).trans h1,h2.same (fun j hj=> hk.block _ ((h4 _).2 (.inr (.inr (.inl hj))))) (hk.block _ ((h4 _).2 (.inr (.inl rfl)))) hk.size,h3.kept (hk.less fun j hj=> (h4 j).2 (.inr (.inr (.inr hj)))),h4,h5⟩
theorem zaF.lt {w:World} {ph pt pa:Nat} {l:List En} {F:List Nat} {L:List Uc} {n:Nat} {E:Nat→Prop} (h:zaF w ph pt pa l F L n E):∀j,E j→j < w.heap.size:=by
 obtain ⟨S,D,h1,h2,h3,h4,h5⟩:=h.has;intro j hj;rcases (h4 j).1 hj with rfl | rfl | hj | hj
 ·exact (zg h1).1
 ·exact h2.ptlt
 ·exact h2.lt j hj
 ·exact h3.lt j hj
theorem zaF.below {w w':World} {ph pt pa:Nat} {l:List En} {F:List Nat} {L:List Uc} {n:Nat} {E:Nat→Prop} (h:zaF w ph pt pa l F L n E) (hb:Below w.heap.size w w'):zaF w' ph pt pa l F L n E:=h.kept (zbD.of_below hb h.lt)
theorem zaF.reads {w:World} {ph pt pa:Nat} {l:List En} {F:List Nat} {L:List Uc} {n:Nat} {E:Nat→Prop} (h:zaF w ph pt pa l F L n E):w.cell? ⟨ph,0,none⟩=some (zv pt)∧w.cell? ⟨ph,1,none⟩=some (zv pa):=by
 obtain ⟨S,D,h1,-⟩:=h.has;exact ⟨cell_of_row w ph 0 _ _ _ h1,cell_of_row w ph 1 _ _ _ h1⟩
theorem zaF.hlt {w:World} {ph pt pa:Nat} {l:List En} {F:List Nat} {L:List Uc} {n:Nat} {E:Nat→Prop} (h:zaF w ph pt pa l F L n E):ph < w.heap.size:=by
 obtain ⟨S,D,h1,-⟩:=h.has;exact (zg h1).1
def HT (ph pt pa n:Nat) (E:Nat→Prop) (w:World) (l:List En) (F:List Nat) (L:List Uc) (w':World):Prop:=∃E',zaF w' ph pt pa l F L n E'∧zba E w E' w'∧zD E w w'
theorem HT.pre {ph pt pa n:Nat} {E:Nat→Prop} {w w1 w':World} {l:List En} {F:List Nat} {L:List Uc} (h:HT ph pt pa n E w1 l F L w') (hb:Below w.heap.size w w1) (hE:∀j,E j→j < w.heap.size):HT ph pt pa n E w l F L w':=by
 obtain ⟨E',h1,h2,h3⟩:=h;exact ⟨E',h1,(zba.refl hE hb.size).trans h2 hb.size,(zD.of_below hb).trans h3 fun j hj=> .inl hj⟩
theorem HT.trans {ph pt pa n:Nat} {E E1:Nat→Prop} {w w1 w':World} {l:List En} {F:List Nat} {L:List Uc} (hg:zba E w E1 w1) (ho:zD E w w1) (h:HT ph pt pa n E1 w1 l F L w'):HT ph pt pa n E w l F L w':=by
 obtain ⟨E',h1,h2,h3⟩:=h;exact ⟨E',h1,hg.trans h2 ho.size,ho.trans h3 hg.new⟩
theorem zaF.treed {w w':World} {ph pt pa:Nat} {l l':List En} {F:List Nat} {L:List Uc} {n:Nat} {E S S' D:Nat→Prop}
 (h1:w.heap[ph]? =some (.cells #[zv pt,zv pa] 47 (0,0))) (h2:za5 w S pt l) (h3:zX w pa F L n D) (h4:∀j,E j↔j=ph∨j=pt∨S j∨D j) (h5:¬S ph∧¬D ph∧ph≠pt∧¬D pt∧∀j,S j→¬D j)
 (hT:za5 w' S' pt l') (hx:Ext S w.heap.size S' w') (hg:w.grownBy w' (some pt)):HT ph pt pa n E w l' F L w':=by
 obtain ⟨k1,k2,k3,k4,k5⟩:=h5;have Ih:=(zg h1).1;have hD:=h3.lt;have BT:∀j,j < w.heap.size→j≠pt→w'.heap[j]? =w.heap[j]? :=fun j hj Aj=> hg.block j hj (fun e=> Aj (Option.some.inj e));have W9:∀j,D j→j≠pt:=fun j hj e=> k4 (e ▸ hj);refine ⟨fun j=> j=ph∨j=pt∨S' j∨D j,⟨S',D,(BT ph Ih k3).trans h1,hT,h3.kept ⟨hg.os,hg.tape,hg.output,hg.size,fun j hj=> BT j (hD j hj) (W9 j hj)⟩,fun j=> Iff.rfl,fun e=> ?_,k2,k3,k4,fun j hj e=> ?_⟩,⟨fun j hj=> ?_,fun j hj=> ?_⟩,⟨hg.os,hg.tape,hg.output,hg.size,fun j hj hn=> BT j hj (fun e=> hn ((h4 j).2 (.inr (.inl e))))⟩⟩
 ·rcases hx.new _ e with h | h
  ·exact k1 h
  ·omega
 ·rcases hx.new _ hj with h | h
  ·exact k5 j h e
  ·have:=hD j e;omega
 ·rcases hj with rfl | rfl | hj | hj
  ·exact .inl ((h4 _).2 (.inl rfl))
  ·exact .inl ((h4 _).2 (.inr (.inl rfl)))
  ·rcases hx.new _ hj with h | h
   ·exact .inl ((h4 _).2 (.inr (.inr (.inl h))))
   ·exact .inr h
  ·exact .inl ((h4 _).2 (.inr (.inr (.inr hj))))
 ·rcases hj with rfl | rfl | hj | hj
  ·exact zt Ih hg.size
  ·exact hT.ptlt
  ·exact hT.lt j hj
  ·exact zt (hD j hj) hg.size
theorem zaF.alloced {w w':World} {ph pt pa:Nat} {l:List En} {F F':List Nat} {L L':List Uc} {n:Nat} {E S D D':Nat→Prop}
 (h1:w.heap[ph]? =some (.cells #[zv pt,zv pa] 47 (0,0))) (h2:za5 w S pt l) (h3:zX w pa F L n D) (h4:∀j,E j↔j=ph∨j=pt∨S j∨D j) (h5:¬S ph∧¬D ph∧ph≠pt∧¬D pt∧∀j,S j→¬D j)
 (hA:zX w' pa F' L' n D') (hg:zba D w D' w') (ho:zD D w w'):HT ph pt pa n E w l F' L' w':=by
 obtain ⟨k1,k2,k3,k4,k5⟩:=h5;have Ih:=(zg h1).1;have BZ:=h2.ptlt;have hS:=h2.lt;have PX:∀j,j < w.heap.size→D' j→D j:=fun j hj hd=> by
  rcases hg.new j hd with h | h
  ·exact h
  ·omega
 refine ⟨fun j=> j=ph∨j=pt∨S j∨D' j,⟨S,D',(ho.block ph Ih k2).trans h1,h2.same (fun j hj=> ho.block j (hS j hj) (k5 j hj)) (ho.block pt BZ k4) ho.size,hA,fun j=> Iff.rfl,k1,fun e=> k2 (PX _ Ih e),k3,fun e=> k4 (PX _ BZ e),fun j hj e=> k5 j hj (PX j (hS j hj) e)⟩,⟨fun j hj=> ?_,fun j hj=> ?_⟩,ho.more fun j hj=> (h4 j).2 (.inr (.inr (.inr hj)))⟩
 ·rcases hj with rfl | rfl | hj | hj
  ·exact .inl ((h4 _).2 (.inl rfl))
  ·exact .inl ((h4 _).2 (.inr (.inl rfl)))
  ·exact .inl ((h4 _).2 (.inr (.inr (.inl hj))))
  ·rcases hg.new _ hj with h | h
   ·exact .inl ((h4 _).2 (.inr (.inr (.inr h))))
   ·exact .inr h
 ·rcases hj with rfl | rfl | hj | hj
  ·exact zt Ih ho.size
  ·exact zt BZ ho.size
  ·exact zt (hS j hj) ho.size
  ·exact hA.lt j hj
theorem zfQ {w:World} {pa:Nat} {F:List Nat} {L:List Uc} {n:Nat} {D:Nat→Prop} (h:zX w pa F L n D):
 Calls Tryz.prog 22 #[zv pa] w fun e w'=> ∃ph pt E,e= .returned (zv ph)∧zaF w' ph pt pa [] F L n E∧(∀j,E j→D j∨w.heap.size≤j)∧Below w.heap.size w w':=by
 have HH:=zh h;unfold zv;clear h;go_enter Tryz.func22,Tryz.ntmps22;go_wp2_with fail;go_ret;have C6:(w.alloc (.cells #[.pointer none, .int .i64 0] 100)).heap.size=w.heap.size+1:=by simp
 have hx:=heap_alloc_new (w.alloc (.cells #[.pointer none, .int .i64 0] 100)) (.cells #[.pointer (some ⟨w.heap.size,0,none⟩), .pointer (some ⟨pa,0,none⟩)] 47);rw [C6] at hx;have hb:Below w.heap.size w ((w.alloc (.cells #[.pointer none, .int .i64 0] 100)).alloc (.cells #[.pointer (some ⟨w.heap.size,0,none⟩), .pointer (some ⟨pa,0,none⟩)] 47)):=(zr.alloc zl _).alloc (by omega) _
 have hlt:=HH.out.lt;refine ⟨w.heap.size+1,w.heap.size,fun j=> j=w.heap.size+1∨j=w.heap.size∨False∨D j,rfl,⟨fun _=> False,D,hx,⟨List.Pairwise.nil,fun j hj=> hj.elim,id, .inl ⟨rfl, ?_⟩⟩,HH.out.kept (zbD.of_below hb hlt),fun j=> Iff.rfl,id,fun e=> ?_,by omega,fun e=> ?_,fun j hj=> hj.elim⟩,fun j hj=> ?_,hb⟩
 ·unfold zaw;rw [Below.heap_alloc _ _ _ (by omega)]
  exact heap_alloc_new w _
 ·have:=hlt _ e;omega
 ·have:=hlt _ e;omega
 ·rcases hj with rfl | rfl | hj | hj
  ·exact .inr (by omega)
  ·exact .inr (by omega)
  ·exact hj.elim
  ·exact .inl hj
theorem zjl {w:World} {ph pt pa:Nat} {l:List En} {F:List Nat} {L:List Uc} {n:Nat} {E:Nat→Prop} (h:zaF w ph pt pa l F L n E) (hl:l.length≤2000) (k a:Nat):
 Calls Tryz.prog 61 #[zv ph,za2 k, .int .u32 (a:Int)] w fun e w'=> e= .returned (.tuple #[])∧HT ph pt pa n E w (zaR l (k,a)) F L w':=by
 have Aq:Below w.heap.size w (w.alloc (.cells #[.int .u16 (zj k:Int), .int .u32 (zo k:Int), .int .u64 (zp k:Int)] 132)):=zr.alloc zl _;have x0:(w.alloc (.cells #[.int .u16 (zj k:Int), .int .u32 (zo k:Int), .int .u64 (zp k:Int)] 132)).cell? ⟨w.heap.size,0,none⟩=some (.int .u16 (zj k:Int)):=by simp
 have x1:(w.alloc (.cells #[.int .u16 (zj k:Int), .int .u32 (zo k:Int), .int .u64 (zp k:Int)] 132)).cell? ⟨w.heap.size,1,none⟩=some (.int .u32 (zo k:Int)):=by simp
 have x2:(w.alloc (.cells #[.int .u16 (zj k:Int), .int .u32 (zo k:Int), .int .u64 (zp k:Int)] 132)).cell? ⟨w.heap.size,2,none⟩=some (.int .u64 (zp k:Int)):=by simp
 have hE:=h.lt;have h':=h.below Aq;obtain ⟨x3,-⟩:=h'.reads;have h'':=h'.below (w':=(w.alloc (.cells #[.int .u16 (zj k:Int), .int .u32 (zo k:Int), .int .u64 (zp k:Int)] 132)).drew) (Below.drewB zr);obtain ⟨S,D,h1,h2,h3,h4,h5⟩:=h''.has;have HS:=zh (zpz h2 hl (k,a));have Y4:pt < w.heap.size:=hE pt ((h4 pt).2 (.inr (.inl rfl)));have Ni:∀w5:World,(w.alloc (.cells #[.int .u16 (zj k:Int), .int .u32 (zo k:Int), .int .u64 (zp k:Int)] 132)).drew.grownBy w5 (some pt)→w5.cell? ⟨w.heap.size,0,none⟩=some (.int .u16 (zj k:Int))∧w5.cell? ⟨w.heap.size,1,none⟩=some (.int .u32 (zo k:Int))∧w5.cell? ⟨w.heap.size,2,none⟩=some (.int .u64 (zp k:Int))∧w5.cell? ⟨ph,0,none⟩=some (zv pt):=fun w5 hg=> by
  have e1:=hg.block w.heap.size (by show w.heap.size < (w.alloc _).heap.size;rw [World.alloc_size];omega) (fun e=> by have:=Option.some.inj e;omega)
  have e2:=hg.block ph (zg h1).1 (fun e=> h5.2.2.1 (Option.some.inj e));exact ⟨(World.cell?_of_block e1).trans x0,(World.cell?_of_block e1).trans x1,(World.cell?_of_block e1).trans x2,(World.cell?_of_block e2).trans x3⟩
 have Rk:=zh Ni;have AJ:=zh (fun (w':World) S' (hT:za5 w' S' pt (zaR l (k,a))) hx hg=> HT.pre (HT.pre (zaF.treed h1 h2 h3 h4 h5 hT hx hg) (Below.drewB zr) h'.lt) Aq hE);unfold zv za2 at *;unfold zd1 at HS;clear h h' h'' h1 h2 h3 h4 h5 hE Aq Y4 Ni;go_enter Tryz.func61,Tryz.ntmps61;go_wp2_with fail;generalize Zu:(w.alloc (.cells #[.int .u16 (zj k:Int), .int .u32 (zo k:Int), .int .u64 (zp k:Int)] 132))=w0 at *;generalize hB:w.heap.size=B at *;clear Zu hB;have hS:w0.drew.cell? ⟨B,0,none⟩=some (.int .u16 (zj k:Int))∧w0.drew.cell? ⟨B,1,none⟩=some (.int .u32 (zo k:Int))∧w0.drew.cell? ⟨B,2,none⟩=some (.int .u64 (zp k:Int))∧w0.drew.cell? ⟨ph,0,none⟩=some (.pointer (some ⟨pt,0,none⟩)):=⟨x0,x1,x2,x3⟩
 go_region_held (fun W'=> W'.cell? ⟨B,0,none⟩=some (.int .u16 (zj k:Int))∧W'.cell? ⟨B,1,none⟩=some (.int .u32 (zo k:Int))∧W'.cell? ⟨B,2,none⟩=some (.int .u64 (zp k:Int))∧W'.cell? ⟨ph,0,none⟩=some (.pointer (some ⟨pt,0,none⟩))) (first | exact Ca | exact hS)
  (first | (go_at_call 108;refine HS.out.mono ?_;rintro e w5 ⟨v,S',rfl,hT,hx,hg⟩;have Ca:=Rk.out w5 hg;have HR:=zh (AJ.out w5 S' hT hx hg);clear hT hx hg))
 all_goals
  go_wp2_with fail;go_end0;exact ⟨rfl,HR.out⟩
theorem zlE {w:World} {ph pt pa:Nat} {l:List En} {F:List Nat} {L:List Uc} {n:Nat} {E:Nat→Prop} (h:zaF w ph pt pa l F L n E) (hl:l.length≤2000) (k:Nat):
 Calls Tryz.prog 57 #[zv ph,za2 k, .int .u32 0] w fun e w'=> e= .returned (.tuple #[])∧HT ph pt pa n E w (zaR l (k,0)) F L w':=by
 have Aq:Below w.heap.size w (w.alloc (.cells #[.int .u16 (zj k:Int), .int .u32 (zo k:Int), .int .u64 (zp k:Int)] 132)):=zr.alloc zl _;have HP:=zh (zjl (h.below Aq) hl k 0);have AJ:=zh (fun (w':World) (hr:HT ph pt pa n E (w.alloc (.cells #[.int .u16 (zj k:Int), .int .u32 (zo k:Int), .int .u64 (zp k:Int)] 132)) (zaR l (k,0)) F L w')=> HT.pre hr Aq h.lt);unfold zv za2 at *;clear h Aq;go_enter Tryz.func57,Tryz.ntmps57;go_wp2_with fail;refine HP.out.mono ?_;rintro e w5 ⟨rfl,hr⟩;have HR:=zh (AJ.out w5 hr);clear hr;go_wp2_with fail;go_end0;exact ⟨rfl,HR.out⟩
theorem zjv {w:World} {ph pt pa:Nat} {l:List En} {F:List Nat} {L:List Uc} {n:Nat} {E:Nat→Prop} (h:zaF w ph pt pa l F L n E) (hl:l.length≤2000) (k a:Nat) (Mf:0 < a) (ha:a < 4294967296) (Em:0 < zan L a) (hc:zan L a < 1000000):
 Calls Tryz.prog 57 #[zv ph,za2 k, .int .u32 (a:Int)] w fun e w'=> e= .returned (.tuple #[])∧HT ph pt pa n E w (zaR l (k,a)) F (zbV L a (zan L a+1)) w':=by
 have Aq:Below w.heap.size w (w.alloc (.cells #[.int .u16 (zj k:Int), .int .u32 (zo k:Int), .int .u64 (zp k:Int)] 132)):=zr.alloc zl _;have hE:=h.lt;have h':=h.below Aq;obtain ⟨-,x3⟩:=h'.reads;obtain ⟨S,D,h1,h2,h3,h4,h5⟩:=h'.has;have jd:∀j,D j→j < w.heap.size:=fun j hj=> hE j ((h4 j).2 (.inr (.inr (.inr hj))));have HH:=zh (zgz h3 a Mf ha Em hc);have hX:=heap_alloc_new w (.cells #[.int .u16 (zj k:Int), .int .u32 (zo k:Int), .int .u64 (zp k:Int)] 132);have HK:=zh (fun (w':World) D' (hA:zX w' pa F (zbV L a (zan L a+1)) n D') hg ho=> zn (zaF.alloced h1 h2 h3 h4 h5 hA hg ho) (show w'.heap[w.heap.size]? =_ from (ho.block w.heap.size (by rw [World.alloc_size];omega) (fun e=> by have:=jd _ e;omega)).trans hX))
 have J2:=zh (fun (w':World) (hr:HT ph pt pa n E (w.alloc (.cells #[.int .u16 (zj k:Int), .int .u32 (zo k:Int), .int .u64 (zp k:Int)] 132)) (zaR l (k,a)) F (zbV L a (zan L a+1)) w')=> HT.pre hr Aq hE);have z0:((a:Int)==0)=false:=by rw [beq_eq_false_iff_ne];omega
 have z1:((a:Int) !=0)=true:=by rw [bne_iff_ne];omega
 unfold zv za2 at *;clear h h' h1 h2 h3 h4 h5 hE Aq jd hX Em hc;generalize zan L a+1=c at *;go_enter Tryz.func57,Tryz.ntmps57;go_wp2_with fail;refine HH.out.mono ?_;clear HH;rintro e w5 ⟨D',rfl,hA,hg,ho⟩;obtain ⟨⟨E1,q1,q2,q3⟩,AH⟩:=HK.out w5 D' hA hg ho;have HP:=zh (zjl q1 hl k a);have AJ:=zh (fun (w':World) (hr:HT ph pt pa n E1 w5 (zaR l (k,a)) F (zbV L a c) w')=> J2.out w' (HT.trans q2 q3 hr));have y0:=cell_of_row w5 w.heap.size 0 _ _ _ AH;have y1:=cell_of_row w5 w.heap.size 1 _ _ _ AH;have y2:=cell_of_row w5 w.heap.size 2 _ _ _ AH;unfold zv za2 at HP;clear HK J2 q1 q2 q3 AH hA hg ho x3;go_wp2_with fail;refine HP.out.mono ?_;rintro e w6 ⟨rfl,hr⟩;have HR:=zh (AJ.out w6 hr);clear hr;go_wp2_with fail;go_end0;exact ⟨rfl,HR.out⟩
end
section
open Go.RowKit
theorem zj6:∀(n:Nat) (F:List Nat),F.Nodup→(∀x ∈ F,0 < x∧x≤n)→F.length≤n
 | 0,F,_,h=> by
   cases F with
   | nil=> simp
   | cons x F=> have:=h x List.mem_cons_self;omega
 | n +1,F,hn,h=> by
   have:=zj6 n (F.erase (n+1)) (hn.erase _) fun x hx=> by
     have Q7:=hn.mem_erase_iff.1 hx;have:=h x Q7.2
     omega
   by_cases hm:n+1 ∈ F
   ·rw [List.length_erase_of_mem hm] at this;omega
   ·rw [List.erase_of_not_mem hm] at this;omega
theorem zcR.flen {n:Nat} {l:List En} {F:List Nat} {L:List Uc} (h:zcR n l F L) (hF:F.Nodup):F.length≤n:=zj6 n F hF fun x hx=> (h.all x).2 (.inl hx)
def HO (ph pt pa n:Nat) (E:Nat→Prop) (w:World) (l:List En) (w':World):Prop:=∃F L,HT ph pt pa n E w l F L w'∧zcR n l F L
end
end Go.Proofs.YtfldlfladcfggaaGreat
