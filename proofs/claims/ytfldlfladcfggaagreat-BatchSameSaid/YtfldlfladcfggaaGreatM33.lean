/- Lemmas of the walks, merged and pressed by press.py. Conditions: those of each theorem. -/
import Derived.Test.YtfldlfladcfggaaGreatM30
import Derived.Test.YtfldlfladcfggaaGreatM31
import Derived.Test.YtfldlfladcfggaaGreatM32
set_option maxRecDepth 100000
set_option maxHeartbeats 64000000
set_option linter.all false
namespace Go.Proofs.YtfldlfladcfggaaGreat
section
open Go.RowKit
attribute [local simp] Below.refl
theorem same56_any {w:World} {a:Option Addr} {n:Nat} (c:Nat) {l:List Oq} (h:zoW w a n l):
 Calls Tryz.prog 3 #[.slice a n c] w fun e w'=> e= .returned (.bool true)∧Below w.heap.size w w':=by
 have HF:=zh (ziU c h 30 (by omega))
 have Ac:=h.row.1
 cases kx:znE l 30 with
 | false=>
   rw [kx] at HF;clear h Ac kx;go_enter Tryz.func3,Tryz.ntmps3;go_wp2_with fail;refine HF.out.mono ?_;rintro e w1 ⟨rfl,Aa⟩;have HB:=zh Aa;clear Aa HF;go_wp2_with fail;go_ret;exact ⟨rfl,HB.out⟩
 | true=>
   rw [kx] at HF;unfold znE at kx;rw [Bool.and_eq_true,List.all_eq_true] at kx;have hn:n≤30:=by have:=of_decide_eq_true kx.1;omega
   have BN:∀z ∈ l,zfl z.o=false:=fun z hz=> by simpa using kx.2 z hz
   have Rh:=zh (zsc h.ok BN);have dq:=zh BN;have H:=zh h;have HN:=zh Ac;clear h Ac kx BN;go_enter Tryz.func3,Tryz.ntmps3;go_wp2_with fail;refine HF.out.mono ?_;rintro e w1 ⟨rfl,Aa⟩;have HB:=zh Aa;clear Aa HF;go_upto_region 4 with fail;have Af:=zsm w1 (B:=w.heap.size) HB.out.size;have FE:Below w.heap.size w (w1.alloc (.cells #[.int .i64 1, .int .i64 0, .int .i64 0, .int .i64 0, .int .i64 32, .int .u64 0, .slice none 0 0, .slice none 0 0] 28)):=HB.out.alloc HB.out.size _;generalize w1.alloc (.cells #[.int .i64 1, .int .i64 0, .int .i64 0, .int .i64 0, .int .i64 32, .int .u64 0, .slice none 0 0, .slice none 0 0] 28)=w2 at *;have H2:=zh (zn Af FE);clear Af FE;go_wp2_with fail
   go_loopw [3,4] (fun u3 u4 wr=> ∃i:Nat,i≤n∧u4= .int .i64 i∧z7 wr w.heap.size u3 (zrT::zip (l.take i))∧Below w.heap.size w wr) (fun _ u4 _=> n - (intOf u4).toNat)
   case atStart=> exact ⟨0,Nat.zero_le _,rfl,H2.out.1,H2.out.2⟩
   case round=>
    obtain ⟨i,hi,rfl,Af,CF⟩:=hrel;have HO:=zh (zn Af CF)
    by_cases hlt:i < n
    ·have AD:(0:Int)≤(i:Int):=by omega
     have Bb:(i:Int) < (n:Int):=by omega
     obtain ⟨z,hz⟩:∃z,l[i]? =some z:=⟨_,ze (by have:=HN.out;omega)⟩
     obtain ⟨g,o,Gy,hcells⟩:=(H.out.below CF).row.2 i z hz;have Fv:=(H.out.below CF).ok z (zm hz);have eE:=zh (zrO (dq.out z (zm hz)));have HG:=zh (zse (l.take i) z);have Iz:l.take (i+1)=l.take i++ [z]:=by rw [List.take_add_one,hz];rfl
     rw [← Iz] at HG;obtain ⟨⟨k,v,i2,b,n2,pt,d,m⟩,da,dc,ma,mc⟩:=z;have eH:=zh Fv;subst Gy;have c0:=hcells 0 _ rfl;have c1:=hcells 1 _ rfl;have c2:=hcells 2 _ rfl;have c3:=hcells 3 _ rfl;have c4:=hcells 4 _ rfl;have c5:=hcells 5 _ rfl;have c6:=hcells 6 _ rfl;have c7:=hcells 7 _ rfl;simp only [Nat.add_zero] at c0 c1 c2 c3 c4 c5 c6 c7;clear hcells Fv Iz Af;go_upto_region 8 with fail;have hX:=heap_alloc_new wr (.cells #[.int .i64 k, .int .i64 v, .int .i64 i2, .int .i64 b, .int .i64 n2, .int .u64 pt, .slice da d.length dc, .slice ma m.length mc] 28);have FE:Below wr.heap.size wr (wr.alloc (.cells #[.int .i64 k, .int .i64 v, .int .i64 i2, .int .i64 b, .int .i64 n2, .int .u64 pt, .slice da d.length dc, .slice ma m.length mc] 28)):=zr.alloc zl _;generalize wr.alloc (.cells #[.int .i64 k, .int .i64 v, .int .i64 i2, .int .i64 b, .int .i64 n2, .int .u64 pt, .slice da d.length dc, .slice ma m.length mc] 28)=wA at *;have x1:=cell_of_row wA _ 1 _ _ _ hX;have f1:wA.frozen? ⟨wr.heap.size,1,none⟩=false:=by simp [World.frozen?,hX]
     clear c0 c1 c2 c3 c4 c5 c6 c7;go_upto_region 9 with fail;have hY:(wA.setCell ⟨wr.heap.size,1,none⟩ (.int .i64 1)).heap[wr.heap.size]? =some (.cells #[.int .i64 k, .int .i64 1, .int .i64 i2, .int .i64 b, .int .i64 n2, .int .u64 pt, .slice da d.length dc, .slice ma m.length mc] 28 (0,0)):=heap_setCell_same _ _ 1 _ _ _ hX;have B4:Below wr.heap.size wr (wA.setCell ⟨wr.heap.size,1,none⟩ (.int .i64 1)):=FE.setCell (p:=⟨wr.heap.size,1,none⟩) zl _;generalize wA.setCell ⟨wr.heap.size,1,none⟩ (.int .i64 1)=wB at *;have HP:=zh (zr2 k 1 i2 b n2 pt da ma d.length dc m.length mc m wB (zk5 (eH.out.below B4).ms) (by have:=eE.out.2;simp only at this;omega))
     have HY:=zh (zn hY B4);obtain ⟨y0,y1,y2,y3,y4,y5,y6,y7⟩:=rd8 (w:=wB) hY;clear hX FE x1 f1 hY B4;go_wp2_with fail;refine HP.out.mono ?_;rintro e w5 ⟨rfl,Ag⟩;obtain ⟨pb,kZ⟩:∃pb,zrb k 1 i2 b n2 d.length m=pb:=⟨_,rfl⟩;have Co:Below wr.heap.size wr w5:=HY.out.2.trans (Ag.mono HY.out.2.size);have CL:=HO.out.2.trans (Co.mono HO.out.2.size);have AV:=HO.out.1.stays Co zl HO.out.2.size;have Fk:=(Ag.block wr.heap.size (zg HY.out.1).1).trans HY.out.1;obtain ⟨y0,y1,y2,y3,y4,y5,y6,y7⟩:=rd8 (w:=w5) Fk;have H5:=zh (zn AV CL);have BE:=AV.push ⟨k,1,i2,b,n2,pt,d,m⟩ (da:=da) (ma:=ma) (dc:=dc) (mc:=mc) (.inr ⟨w,zl,CL,da,dc,ma,mc,rfl,rfl,(H.out.ok _ (zm hz)).bs,zk5 (H.out.ok _ (zm hz)).ms⟩) (by have:=zrM (l.take i);rw [List.length_cons];simp at this;omega) CL.size
     rw [kZ];have jj:=zh (show zrL (zst ⟨k,v,i2,b,n2,pt,d,m⟩)=(pb && (k==4 || decide (b+n2≤32))) from by rw [← kZ];rfl)
     have eI:=zh (fun e:pb=true=> zf3 (o:=⟨k,1,i2,b,n2,pt,d,m⟩) (kZ.trans e));clear kZ Co CL AV Ag Fk HP hz
     cases pb with
     | false=>
       have j3:=zh (zr6 (z:=⟨⟨k,v,i2,b,n2,pt,d,m⟩,da,dc,ma,mc⟩) HG.out (jj.out.trans (Bool.false_and _)));clear BE;go_wp2_with fail
       go_roundw
       case rel=> exact ⟨i+1,by omega,by go_num,by rw [j3.out];exact H5.out.1,H5.out.2⟩
       case measure=> simp [intOf];omega
     | true=>
       have DF:=eI.out rfl;simp only at DF;obtain ⟨v',w',hr,ET,Wr⟩:=BE;have dk:=H5.out.1.below H5.out.2 Wr zl H5.out.2.size;have Hc:=zh (zn ET dk);clear ET Wr dk
       by_cases hk:k=4
       ·have Jk:(k==4)=true:=by simp [hk]
        have qa:=zh (zrN (z:=⟨⟨k,v,i2,b,n2,pt,d,m⟩,da,dc,ma,mc⟩) HG.out (jj.out.trans (by rw [Jk];rfl)))
        clear DF hk
        go_wp2_with (at_builtin;refine za rfl _ _ _ rfl hr ?_)
        go_roundw
        case rel=> exact ⟨i+1,by omega,by go_num,by rw [qa.out];exact Hc.out.1,Hc.out.2⟩
        case measure=> simp [intOf];omega
       ·have Jk:(k==4)=false:=by simp [hk]
        have Zw:wrap64 (b+n2)=b+n2:=by unfold wrap64;omega
        by_cases Bz:b+n2≤32
        ·have hd:decide (b+n2≤32)=true:=decide_eq_true Bz;have qa:=zh (zrN (z:=⟨⟨k,v,i2,b,n2,pt,d,m⟩,da,dc,ma,mc⟩) HG.out (jj.out.trans (by simp [hd])))
         clear DF
         go_wp2_with (at_builtin;refine za rfl _ _ _ rfl hr ?_)
         go_roundw
         case rel=> exact ⟨i+1,by omega,by go_num,by rw [qa.out];exact Hc.out.1,Hc.out.2⟩
         case measure=> simp [intOf];omega
        ·have hd:decide (b+n2≤32)=false:=decide_eq_false Bz;have j3:=zh (zr6 (z:=⟨⟨k,v,i2,b,n2,pt,d,m⟩,da,dc,ma,mc⟩) HG.out (jj.out.trans (by simp [hd,hk])))
         clear DF hr;go_wp2_with fail
         go_roundw
         case rel=> exact ⟨i+1,by omega,by go_num,by rw [j3.out];exact H5.out.1,H5.out.2⟩
         case measure=> simp [intOf];omega
    ·obtain rfl:i=n:=by omega
     rw [zk (by have:=HN.out;omega)] at Af
     obtain ⟨aa,ac,rfl,Ig,-⟩:=Af.ops;obtain ⟨L,hL⟩:∃L,zrT::zip l=L:=⟨_,rfl⟩;have RV:L.length≤31:=by
      have:=zrM l;have:=HN.out;rw [← hL,List.length_cons]
      omega
     rw [hL] at Ig Rh ⊢;have WH:=zh (zrx aa L.length ac L wr Ig (by omega) (fun o ho=> by have:=(Rh.out o ho).few.2;omega))
     have j0:=zh (zn Ig CF);have HL:=zh (zn hL RV);clear Ig hL RV Af CF HO;go_wp2_with fail;refine WH.out.mono ?_;rintro e w3 ⟨v3,rfl,H9,Am⟩;obtain ⟨fa,fc,rfl,E4,-⟩:=H9.ops;have H3:=zh (zn (j0.out.1.below Am zl) (zn E4 (j0.out.2.trans (Am.mono j0.out.2.size))));clear H9 E4 Am WH j0;obtain ⟨M,hM⟩:∃M,z6 L=M:=⟨_,rfl⟩;have eS:M.length≤L.length:=by rw [← hM];exact zrh L
     rw [hM] at H3 ⊢;have HM:=zh (zn hM eS);have ZO:=zh (zrS w3 cfZ zsv);rw [show cfA cfZ=#[.int .i64 0, .int .i64 0, .int .u64 0, .int .u64 0, .int .u64 0, .int .u64 0] from rfl] at ZO;clear hM;go_wp2_with fail;refine ZO.out.mono ?_;rintro e w4 ⟨ps,sa,Es,ss,xs,rfl,BS,ee,Ar⟩;have I1:=zh (zrS w4 cfZ zsv);rw [show cfA cfZ=#[.int .i64 0, .int .i64 0, .int .u64 0, .int .u64 0, .int .u64 0, .int .u64 0] from rfl] at I1;have Az:=zh (zn BS (zn ee Ar));clear BS ee Ar ZO;go_wp2_with fail;refine I1.out.mono ?_;rintro e w5 ⟨pt,ta,Et,ts,ys,rfl,cz,cy,Ag⟩;obtain ⟨Qs,hs,AE⟩:=SqW.start Az.out.1 Az.out.2.1 Ag;obtain ⟨Qt,ht,j2⟩:=SqW.start cz cy zr;have Dj:Below w3.heap.size w3 w5:=Az.out.2.2.trans (Ag.mono Az.out.2.2.size);have Q5:∀j,Qs j→¬Qt j:=fun j h1 h2=> by have:=AE j h1;have:=j2 j h2;omega
     have AR:=Ag.size;have hS:SqW w5 w5 Qs Qt ps sa []:=SqW.of hs Q5 fun j hj=> (j2 j hj).2;have hT:∀W,zD Qs w5 W→SqW W W Qt (fun _=> False) pt ta []:=fun W hW=> SqW.again ht (fun j h1 h2=> Q5 j h2 h1) (fun j hj=> ⟨by have:=(AE j hj).2.1;omega,(AE j hj).2.2⟩) hW
     have H5:=zh (zn hS (zn hT (zn Dj (zn (fun j hj=> (AE j hj).1:∀j,Qs j→w3.heap.size≤j) (fun j hj=> zs Az.out.2.2.size (j2 j hj).1:∀j,Qt j→w3.heap.size≤j)))));have Ky:decide (L.length < M.length)=false:=decide_eq_false (by have:=HM.out.2;omega)
     clear hs AE ht j2 Dj Q5 AR hS hT cz cy Ag I1 Az;go_wp2_with fail
     go_loopw [11] (fun u11 wr=> ∃i:Nat,i≤L.length∧u11= .int .i64 i∧SqW w5 wr Qs Qt ps sa (L.take i)) (fun u11 _=> L.length - (intOf u11).toNat)
     case atStart=> exact ⟨0,Nat.zero_le _,rfl,H5.out.1⟩
     case round=>
      obtain ⟨i,hi,rfl,hS⟩:=hrel;have ff:L.length≤31:=HL.out.2
      by_cases hlt:i < L.length
      ·have AD:(0:Int)≤(i:Int):=by omega
       have Bb:(i:Int) < (L.length:Int):=by omega
       obtain ⟨o,ho⟩:∃o,L[i]? =some o:=⟨_,ze hlt⟩;have D5:=Rh.out o (zm ho);obtain ⟨b,q,da,dc,ma,mc,rfl,Bn,hO⟩:=(H3.out.1.below (hS.bel H5.out.2.2.1 H5.out.2.2.2.1 H5.out.2.2.1.size) zl).op ho D5.few D5.fit D5.pt;have HR:=zh (hS.run dc mc hO (by rw [List.length_take];have:=HL.out.2;omega) (by
        have:=HL.out.1;subst this;exact zsz (zrC l) ho))
       have Iz:L.take (i+1)=L.take i++ [o]:=by rw [List.take_add_one,ho];rfl
       rw [← Iz] at HR;unfold zf4 at Bn;have c0:=Bn 0 _ rfl;have c1:=Bn 1 _ rfl;have c2:=Bn 2 _ rfl;have c3:=Bn 3 _ rfl;have c4:=Bn 4 _ rfl;have c5:=Bn 5 _ rfl;have c6:=Bn 6 _ rfl;have c7:=Bn 7 _ rfl;simp only [Nat.add_zero] at c0;unfold opA at HR;clear Bn hO Iz ho D5 hS;go_wp2_with fail;refine HR.out.mono ?_;rintro e w6 ⟨x,rfl,AT,BE⟩;have Hc:=zh BE;clear BE AT HR c0 c1 c2 c3 c4 c5 c6 c7;go_wp2_with fail;refine Hc.out.mono ?_;rintro e w7 ⟨rfl,Hs⟩;have G1:=zh Hs;clear Hs Hc;go_wp2_with fail
       go_roundw
       case rel=> exact ⟨i+1,by omega,by go_num,G1.out⟩
       case measure=> simp [intOf];omega
      ·obtain rfl:i=L.length:=by omega
       rw [zk zl] at hS;have HT:=zh (H5.out.2.1 wr hS.outs);have HS:=zh hS;have ea:=hS.bel H5.out.2.2.1 H5.out.2.2.2.1 H5.out.2.2.1.size;have H6:=zh (zn ea trivial);clear hS ea;go_wp2_with fail
       go_loopw [14] (fun u14 wt=> ∃i:Nat,i≤M.length∧u14= .int .i64 i∧SqW wr wt Qt (fun _=> False) pt ta (M.take i)) (fun u14 _=> M.length - (intOf u14).toNat)
       case atStart=> exact ⟨0,Nat.zero_le _,rfl,HT.out⟩
       case round=>
        obtain ⟨i,hi,rfl,hS⟩:=hrel;have fg:M.length≤31:=zs HM.out.2 HL.out.2
        by_cases hlt:i < M.length
        ·have AD:(0:Int)≤(i:Int):=by omega
         have Bb:(i:Int) < (M.length:Int):=by omega
         obtain ⟨o,ho⟩:∃o,M[i]? =some o:=⟨_,ze hlt⟩;have D5:=Rh.out o (zra L o (by rw [HM.out.1];exact zm ho))
         obtain ⟨b,q,da,dc,ma,mc,rfl,Bn,hO⟩:=(H3.out.2.1.below (hS.bel H6.out.1 H5.out.2.2.2.2 H6.out.1.size) zl).op ho D5.few D5.fit D5.pt;have HR:=zh (hS.run dc mc hO (by rw [List.length_take];have:=HL.out.2;have:=HM.out.2;omega) (by
          have h1:=HL.out.1;have h2:=HM.out.1;rw [← h1,zsZ] at h2;subst h2;exact zsz (Gd.keep (zrC l)) ho))
         have Iz:M.take (i+1)=M.take i++ [o]:=by rw [List.take_add_one,ho];rfl
         rw [← Iz] at HR;unfold zf4 at Bn;have c0:=Bn 0 _ rfl;have c1:=Bn 1 _ rfl;have c2:=Bn 2 _ rfl;have c3:=Bn 3 _ rfl;have c4:=Bn 4 _ rfl;have c5:=Bn 5 _ rfl;have c6:=Bn 6 _ rfl;have c7:=Bn 7 _ rfl;simp only [Nat.add_zero] at c0;unfold opA at HR;clear Bn hO Iz ho D5 hS;go_wp2_with fail;refine HR.out.mono ?_;rintro e w6 ⟨x,rfl,AT,BE⟩;have Hc:=zh BE;clear BE AT HR c0 c1 c2 c3 c4 c5 c6 c7;go_wp2_with fail;refine Hc.out.mono ?_;rintro e w7 ⟨rfl,Hs⟩;have G1:=zh Hs;clear Hs Hc;go_wp2_with fail
         go_roundw
         case rel=> exact ⟨i+1,by omega,by go_num,G1.out⟩
         case measure=> simp [intOf];omega
        ·obtain rfl:i=M.length:=by omega
         rw [zk zl] at hS;rename World=> wt;obtain ⟨h1,Q1,st,R8,-,cq⟩:=HS.out.kept hS.outs;obtain ⟨h2,Q2,tt,O1,-,-,Hr⟩:=hS.ex;have hE:=zs9 (zrC l) (by rw [HL.out.1];exact cq) (by rw [← zsZ,HL.out.1,HM.out.1];exact Hr)
         have Hy:=H3.out.2.2.trans ((hS.bel H6.out.1 H5.out.2.2.2.2 H6.out.1.size).mono H3.out.2.2.size);have H7:=zh (zn R8 (zn O1 (zn hE Hy)));clear R8 cq O1 Hr hE Hy hS;go_wp2_with fail
         go_loopw [17] (fun u17 wq=> ∃b:Nat,b≤32∧u17= .int .i64 b∧Below wt.heap.size wt wq) (fun u17 _=> 32 - (intOf u17).toNat)
         case atStart=> exact ⟨0,by omega,rfl,Below.refl _ _⟩
         case round=>
          obtain ⟨b,hb,rfl,Jb⟩:=hrel
          by_cases hlt:b < 32
          ·have Aq:(0:Int)≤(b:Int):=by omega
           have Aa:(b:Int) < 32:=by omega
           obtain ⟨d,hd,BK,B7⟩:=H7.out.2.2.1.1 b hlt;have WC:=zh (zm9 (H7.out.1.below Jb) 1 b (by omega))
           rw [BK] at WC;have HQ:=zh (zn Jb (zn hd B7));clear Jb hd BK B7;go_wp2_with fail;refine WC.out.mono ?_;intro e wa hE;unfold zfL at hE;obtain ⟨hE,FE⟩:=hE;rcases hE with ⟨h0,-⟩ | ⟨-,-,v,rfl,ho⟩
           ·exact absurd rfl h0
           ·obtain ⟨g,gc,rfl⟩:=zdp ho (by simp only [HQ.out.2.1];omega)
            have HA:=zh (zn (zfw ho) (HQ.out.1.trans (FE.mono HQ.out.1.size)));have Hi:=zh (zm9 (H7.out.2.1.below HA.out.2) 1 b (by omega))
            rw [HQ.out.2.2] at Hi;clear ho FE WC;simp only;go_wp2_with fail;refine Hi.out.mono ?_;intro e wb hE;unfold zfL at hE;obtain ⟨hE,E7⟩:=hE;rcases hE with ⟨h0,-⟩ | ⟨-,-,v,rfl,ho⟩
            ·exact absurd rfl h0
            ·obtain ⟨g2,gc2,rfl⟩:=zdp ho (by simp only [HQ.out.2.1];omega)
             have V7:=zh (zrJ (c:=gc) (c':=gc2) (HA.out.1.below E7 zl) (zfw ho) (by simp only [HQ.out.2.1];omega))
             have Ap:=zh (HA.out.2.trans (E7.mono HA.out.2.size));clear ho E7 Hi;simp only;go_wp2_with fail;refine V7.out.mono ?_;rintro e we ⟨rfl,Hv⟩;have VP:=zh (Ap.out.trans (Hv.mono Ap.out.size));clear Hv V7;go_wp2_with fail
             go_roundw
             case rel=> exact ⟨b+1,by omega,by go_num,VP.out⟩
             case measure=> simp [intOf];omega
          ·obtain rfl : b=32:=by omega
           go_upto_region 35 with fail;rename World=> wq;have eU:=Jb;obtain ⟨F1,L1,E1,Ng⟩:=(H7.out.1.below Jb).hist;obtain ⟨F2,L2,E2,vj⟩:=(H7.out.2.1.below Jb).hist;obtain ⟨r1,BC⟩:=Ng.len;obtain ⟨r2,A9⟩:=vj.len;obtain ⟨-,-,-,-,-,-,-,-,-,s9,-⟩:=(H7.out.1.below Jb).reads;obtain ⟨-,-,-,-,-,-,-,-,-,t9,-⟩:=(H7.out.2.1.below Jb).reads;have s0:=Ng.reads.1;have t0:=vj.reads.1;unfold zv at s0 t0;have HC:=zh (fun (W:World) (hW:Below wq.heap.size wq W)=> show W.cell? ⟨ps,9,none⟩=some (.pointer (some ⟨sa.ph,0,none⟩))∧W.cell? ⟨sa.ph,0,none⟩=some (.pointer (some ⟨sa.pt,0,none⟩))∧W.cell? ⟨pt,9,none⟩=some (.pointer (some ⟨ta.ph,0,none⟩))∧W.cell? ⟨ta.ph,0,none⟩=some (.pointer (some ⟨ta.pt,0,none⟩)) from ⟨zbB hW s9,zbB hW s0,zbB hW t9,zbB hW t0⟩);have eL:=zh (fun (W:World) (hW:Below wq.heap.size wq W)=> zrn (show zaw W sa.pt r1 _ from (hW.block _ (zg BC).1).trans BC));have eM:=zh (fun (W:World) (hW:Below wq.heap.size wq W)=> zrn (show zaw W ta.pt r2 _ from (hW.block _ (zg A9).1).trans A9));have a7:=zh Jb;have BO:decide (tt.l.length≤st.l.length)=true:=decide_eq_true H7.out.2.2.1.2;clear Ng vj BC A9;generalize st.l.length=n1 at *;generalize tt.l.length=n2 at *;have Cu:Below wq.heap.size wq wq.drew:=zr.drew
           go_region_held3 (fun W=> W.cell? ⟨ps,9,none⟩=some (.pointer (some ⟨sa.ph,0,none⟩))∧W.cell? ⟨sa.ph,0,none⟩=some (.pointer (some ⟨sa.pt,0,none⟩))∧W.cell? ⟨pt,9,none⟩=some (.pointer (some ⟨ta.ph,0,none⟩))∧W.cell? ⟨ta.ph,0,none⟩=some (.pointer (some ⟨ta.pt,0,none⟩))) (first | with_reducible exact eT | go_keep)
                      (first
                        | (go_at_call 12;((first | with_reducible refine (eM.out _ Cu).mono ?_ | with_reducible refine (eL.out _ Cu).mono ?_);rintro e w6 ⟨rfl,rfl⟩))
                        | (go_at_call 13;(with_reducible refine (zro _).mono ?_);rintro e w8 ⟨rfl,Sj⟩;have Sj:Below wq.heap.size wq w8:=Cu.trans (Sj.mono Cu.size);have eT:=HC.out _ Sj))
           go_wp2_with fail;go_ret;exact ⟨rfl,H7.out.2.2.2.trans ((a7.out.trans (Sj.mono a7.out.size)).mono H7.out.2.2.2.size)⟩
end
end Go.Proofs.YtfldlfladcfggaaGreat
