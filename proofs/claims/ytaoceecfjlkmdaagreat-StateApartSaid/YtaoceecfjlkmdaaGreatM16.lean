/- Lemmas of the walks, merged and pressed by press.py. Conditions: those of each theorem. -/
import Derived.Test.YtaoceecfjlkmdaaGreatM14
import Derived.Test.YtaoceecfjlkmdaaGreatM15
set_option maxRecDepth 100000
set_option maxHeartbeats 64000000
set_option linter.all false
namespace Go.Proofs.YtaoceecfjlkmdaaGreat
open Tryz
variable {l:List En} {d p pt:Nat} {S:Nat→Prop} {w:World}
section
open Go.RowKit
theorem zmc (h:za5 w S pt []) (AF:zaw w pt none 0) (k:Nat):
 χ 117 #[zv pt,za2 k] w fun r w'=> ∃v S',r=ρ v/\za5 w' S' pt []/\Ext S ↑w S' w'/\w.grownBy w' (some pt):=by
 have Aq:θ w w (w.alloc (.cells #[τ (zj k),ν (zo k),υ (zp k)] 111)):=zr.alloc zl _;have DP:(w.alloc (.cells #[τ (zj k),ν (zo k),υ (zp k)] 111)).heap[w.heap.size]? =some (.cells #[τ (zj k),ν (zo k),υ (zp k)] 111):=heap_alloc_new w _;have BZ:pt < ↑w:=h.ptlt;have DD:zaw (w.alloc (.cells #[τ (zj k),ν (zo k),υ (zp k)] 111)) pt none 0:=(Aq.block pt BZ).trans AF;have HW:=zh (zhl DD k);have HH:=zh h;obtain ⟨z0,z1,z2⟩:=rd3 DP;simp at z0 z1 z2;unfold za2 at HW ⊢;unfold zv at HW ⊢;go_in;go_wp2_with fail;generalize w.alloc (.cells #[τ (zj k),ν (zo k),υ (zp k)] 111)=w0 at *;refine HW.out.mono ?_;rintro r w1 ⟨q,rfl,-,-,Aa⟩;have HB:=zh (Aq.trans (Aa.mono Aq.size));go_wp2;go_ret2;have hb:=HB.out;exact ⟨_,S,rfl,HH.out.same (zbk.of_below hb HH.out.lt) (hb.block pt BZ) hb.size,(Ext.refl HH.out.lt).later hb.size,⟨hb.os,hb.tape,hb.output,hb.size,fun j hj _=> hb.block j hj⟩⟩
theorem znY {t:Tr d} (QY:¬S pt) (AF:zaw w pt (some p) (flatT t).length) (ht:zQ w S p t) (hR:zcM t) (AC:zac (flatT t)) (hS:∀j,S j->j < w.heap.size) (Ac:(flatT t).length<=2000) (k:Nat):
 χ 117 #[zv pt,za2 k] w fun r w'=> ∃v S',r=ρ v/\za5 w' S' pt (zaJ (flatT t) k)/\Ext S w.heap.size S' w'/\w.grownBy w' (some pt):=by
 have Aq:θ w.heap.size w (w.alloc (.cells #[τ (zj k),ν (zo k),υ (zp k)] 111)):=zr.alloc zl _;have DP:(w.alloc (.cells #[τ (zj k),ν (zo k),υ (zp k)] 111)).heap[w.heap.size]? =some (.cells #[τ (zj k),ν (zo k),υ (zp k)] 111):=heap_alloc_new w _;have Cd:=World.alloc_size w (.cells #[τ (zj k),ν (zo k),υ (zp k)] 111);have BZ:pt < w.heap.size:=(zg AF).1;have DD:zaw (w.alloc (.cells #[τ (zj k),ν (zo k),υ (zp k)] 111)) pt (some p) (flatT t).length:=(Aq.block pt BZ).trans AF;have HW:=zh (zhm DD (ht.same (zbk.of_below Aq hS)) (fun j hj=> by rw [Cd];have:=hS j hj;omega) hR.lo hR.hi hR.kids AC (by have:=hR.depth Ac;omega) k)
 have HX:=zh DP;have Cj:=zh AF;have HT:=zh ht;have HR:=zh hR;have A3:=zh AC;obtain ⟨z0,z1,z2⟩:=rd3 DP;simp at z0 z1 z2;unfold za2 at HW ⊢;unfold zv at HW ⊢;clear ht AF DD hR AC;go_enter func117,ntmps117;go_wp2_with fail;generalize w.alloc (.cells #[τ (zj k),ν (zo k),υ (zp k)] 111)=w0 at *;refine HW.out.mono ?_;rintro r w1 ⟨q,path,pl,lt,rfl,AO,TW,D9,Aa⟩;have B3:=Aq.trans (Aa.mono Aq.size);have BB:w1.heap[w.heap.size]? =some (.cells #[τ (zj k),ν (zo k),υ (zp k)] 111):=(Aa.block _ (by omega)).trans HX.out
 obtain ⟨y0,y1,y2⟩:w1.cell? ⟨w.heap.size,0,none⟩=some (τ (zj k))/\w1.cell? ⟨w.heap.size,1,none⟩=some (ν (zo k))/\w1.cell? ⟨w.heap.size,2,none⟩=some (υ (zp k)):=⟨cell_of_row w1 _ 0 _ _ _ BB,cell_of_row w1 _ 1 _ _ _ BB,cell_of_row w1 _ 2 _ _ _ BB⟩;have QJ:∀j,S j->j < w1.heap.size:=fun j hj=> zt (hS j hj) B3.size;obtain ⟨Jt,QF⟩:=zf2.up (UpT.top (w:=w1) (S:=S) (k:=k) (t:=t)) D9;rw [List.nil_append] at Jt;obtain ⟨Gb,CC,Gc,QR,Yv⟩:=Jt.good HR.out.lo HR.out.hi HR.out.kids A3.out;have Je:=Jt.get HR.out.lo HR.out.hi HR.out.kids A3.out;have Ky:zdi (flatT lt) k=zdi (zS lt) k:=rfl;have Ji:(zdi (flatT t) k).isSome=decide (k ∈ zC lt):=by rw [Je,Ky];exact ziX _ _
 have FX:=zgL (l:=flatT t) (k:=k) A3.out;rw [Ji] at FX;have Jz:=zh (zjC QF QJ (by omega) (show zac (zS lt) from QR) k)
 have KX:(zS lt).length<=6:=CC;have Fc:(zaJ (zS lt) k).length<=6:=zs (zgM _ _).length_le KX;have WK:=zh Jt;have EZ:=zh AO;have Fd:=zh B3;have Ez:=zh FX;have LK:=zh Ji;have Jp:=B3.size;have IL:w.heap.size<=q:=by omega
 have IK:=AO.lt;unfold za2 at Jz;unfold zv at Jz;clear z0 z1 z2 DP BB Aq Aa B3 D9 QF Jt AO Gb CC Gc QR Yv Je Ky Ji FX Cd HW TW KX
 by_cases hm:k ∈ zC lt
 ·have KI:decide (k ∈ zC lt)=true:=decide_eq_true hm;have hg:(zdi (flatT t) k).isSome=true:=LK.out.trans KI;have FX:(zaJ (flatT t) k).length+1=(flatT t).length:=by have:=Ez.out;rw [KI,if_pos rfl] at this;exact this
  rw [KI] at Jz;have HG:=zh hg;clear hm KI hg Ez LK;go_wp2_with fail;refine Jz.out.mono ?_;rintro r w2 ⟨v2,x2,rfl,Ef,Ae⟩;have BW:=Fd.out.trans (Ae.mono Jp);have CV:w2.heap[pt]? =some (.cells #[π (some ⟨p,0,none⟩),ι ((flatT t).length)] 159):=(BW.block pt BZ).trans Cj.out;have TR:w2.cell? ⟨pt,0,none⟩=some (π (some ⟨p,0,none⟩)):=cell_of_row w2 pt 0 _ _ _ CV;have TS:w2.cell? ⟨pt,1,none⟩=some (ι ((flatT t).length)):=cell_of_row w2 pt 1 _ _ _ CV;have MP:∀i,w2.frozen? ⟨pt,i,none⟩=false:=fun i=> by simp [World.frozen?,CV]
  have Q8:IntKind.i64.wrap (((flatT t).length:Int) - 1)=((zaJ (flatT t) k).length:Int):=by rw [zw _ (by omega)];omega
  have KU:=heap_setCell_same w2 pt 1 _ _ (ι ((zaJ (flatT t) k).length:Int)) CV;have CA:zcN pt w2 (w2.setCell ⟨pt,1,none⟩ (ι ((zaJ (flatT t) k).length:Int))):=⟨rfl,rfl,rfl,by simp,fun j hj=> by rw [heap_setCell_other _ _ j _ hj]⟩
  have GP:=Ae.size;generalize bh:w2.setCell ⟨pt,1,none⟩ (ι ((zaJ (flatT t) k).length:Int))=wc at *;have bH:=zh bh;have El:∀j,j < w.heap.size->j≠pt->wc.heap[j]? =w.heap[j]? :=fun j hj Aj=> (CA.block j Aj).trans (BW.block j hj);have MR:v2.ownBlock≠some pt:=fun h=> by have:=(Ef.lt pt h).1;omega
  have Um:=Ef.kept CA.grown (.inr MR);obtain ⟨va,vc,rfl,JN,Un,-⟩:=Um.row zN;have HL:=zh (zee (c:=vc) JN Un (by omega))
  have Ke:zbk S w1 wc:=fun j hj=> (CA.block j (fun h=> QY (h ▸ hj))).trans (Ae.block j (zt (hS j hj) Jp));have OC:=zh (WK.out.same Ke);have Ey:zZ wc q path:=EZ.out.heap ((CA.block q (by omega)).trans (Ae.block q IK))
  have Hl:=zh Ey;have Dr:w.heap.size<=wc.heap.size:=by rw [CA.size];omega
  have Ou:=zh KU;have Oc:=zh El;have OB:=zh CA;have Gl:=zh BW;have P2:q < wc.heap.size:=by rw [CA.size];omega
  clear KU CA El MR Um JN Un Ke Ey CV BW Ef Ae Jz y0 y1 y2;generalize (zaJ (zS lt) k).length=nr at *;go_wp2_with fail;refine HL.out.mono ?_;rintro r w4 ⟨v4,ps,rfl,Bf,Jk,Ar⟩;have GQ:=Ar.size;have Ei:=zh (zg5 (Hl.out.heap (Ar.block q P2)));have I3:=zh Bf;have Wj:=zh Jk;have Cz:=zh Ar;unfold zv at Ei;clear Bf Jk Ar;go_wp2_with fail;refine Ei.out.mono ?_;rintro r w5 ⟨op,iv,rfl,Bj,Fw⟩;have NZ:=Bj.size;have CS:zlR wc S w.heap.size k t (fun {m} (s:Tr m)=> zir s k) q w5.heap.size v4 (.bool (!decide (path= []))) path (w5.alloc (.cells #[π op,ι iv] 223)):=by
   refine zlR.laid (W:=w4) OC.out (I3.out.base Dr) (S:=fun j=> S j\/(wc.heap.size<=j/\j < w4.heap.size)) (Wj.out.more (fun j hj=> .inr hj)) ?_ ?_ ?_ ?_ (heap_alloc_new w5 _) ?_ (Cz.out.mono Dr) IL (by omega) (by omega) NZ
   ·exact ⟨fun _ h=> .inl h,fun j hj=> hj.elim .inl (fun h=> .inr (by omega)),fun j hj=> hj.elim (fun h=> by have:=hS j h;omega) (fun h=> h.2)⟩
   ·rintro (h | h)
    ·have:=hS q h;omega
    omega
   ·intro h;have:=(I3.out.lt q h).1
    omega
   ·exact ⟨Bj.os,Bj.tape,Bj.output,by rw [World.alloc_size];omega,fun j hj Aj=> by rw [Below.heap_alloc _ _ _ (by omega)];exact Bj.block j hj Aj⟩
   rcases Fw with ⟨h,-⟩ | ⟨l',p',i',h1,h2,h3,h4⟩
   ·exact .inl h
   exact .inr ⟨l',p',i',h1,h2,h3,h4.heap (Below.heap_alloc _ _ _ h4.lt)⟩
  have RA:=zh CS;clear CS Fw Bj Ei;go_wp2_with fail;generalize w5.alloc (.cells #[π op,ι iv] 223)=w6 at *;generalize w5.heap.size=xb0 at *
  go_loopw [11,12,13] (fun u11 u12 u13 wr=> ∃(xb:Nat) (pre:List (Nat × Nat)),u12=π (some ⟨xb,0,none⟩)/\zlR wc S w.heap.size k t (fun {m} (s:Tr m)=> zir s k) q xb u11 u13 pre wr) (fun u11 u12 u13 wr=> ((wr.cell? ⟨q,32,none⟩).map fun v=> (intOf v).toNat).getD 0+(match u13 with | .bool true=> 1 | _=> 0))
  case atStart=> exact ⟨xb0,path,rfl,RA.out⟩
  case round=>
   obtain ⟨xb,pre,rfl,GT⟩:=hrel;obtain ⟨m,s,ps5,S5,DO,AV,CR,G5,P3⟩:=GT.at';obtain ⟨op5,iv5,DV,Fx⟩:=GT.cell;have Fv:=GT.ok;have AA:=GT.below;rcases Fx with rfl | ⟨l,p5,i5,rfl,rfl,rfl,EX⟩
   ·obtain rfl:u13= .bool false:=Fv;have C2:=DO.end rfl;obtain ⟨rfl,Gi⟩:=Sigma.mk.inj C2;obtain rfl:=eq_of_heq Gi;have DK:wr.heap[pt]? =some (.cells #[π (some ⟨p,0,none⟩),ι ((zaJ (flatT s) k).length:Int)] 159):=(AA.block pt BZ).trans Ou.out;have TV:wr.cell? ⟨pt,0,none⟩=some (π (some ⟨p,0,none⟩)):=cell_of_row wr pt 0 _ _ _ DK;have Y5:∀i,wr.frozen? ⟨pt,i,none⟩=false:=fun i=> by simp [World.frozen?,DK]
    have Dp:zac (zaJ (flatT s) k):=zhH A3.out;have Ev:¬S5 pt:=fun h=> (G5.new pt h).elim QY (fun h2=> by omega)
    have Zw:w.heap.size<=wr.heap.size:=zs Dr AA.size;have BT:∀j,j < w.heap.size->j≠pt->wr.heap[j]? =w.heap[j]? :=fun j hj Aj=> (AA.block j hj).trans (Oc.out j hj Aj);have KO:wr.os=w.os/\wr.tape=w.tape/\wr.output=w.output:=⟨AA.os.trans (OB.out.os.trans Gl.out.os),AA.tape.trans (OB.out.tape.trans Gl.out.tape),AA.output.trans (OB.out.output.trans Gl.out.output)⟩;have AQ:=CR.1
    -- what the root's block IG at the end decides
    have AL:∀(W:World) (x:Option Nat),zcN pt wr W->zaw W pt x (zaJ (flatT s) k).length->(zaJ (flatT s) k= []/\x=none\/∃(d' pa:Nat) (a:Tr d'),x=some pa/\zQ wr S5 pa a/\zcM a/\flatT a=zaJ (flatT s) k)->za5 W S5 pt (zaJ (flatT s) k)/\Ext S w.heap.size S5 W/\w.grownBy W (some pt):=fun W x hT Xu hx=> by
     refine ⟨⟨Dp,fun j hj=> by rw [hT.size];exact G5.lt j hj,Ev, ?_⟩,G5.later (by rw [hT.size];exact zl),⟨hT.os.trans KO.1,hT.tape.trans KO.2.1,hT.output.trans KO.2.2,by rw [hT.size];exact Zw,fun j hj Aj=> (hT.block j (fun h=> Aj (by rw [h]))).trans (BT j hj (fun h=> Aj (by rw [h])))⟩⟩
     rcases hx with ⟨h1,rfl⟩ | ⟨d',pa,a,rfl,h2,h3,h4⟩
     ·rw [h1] at Xu;exact .inl ⟨h1,Xu⟩
     exact .inr ⟨d',pa,a,Xu,h2.same (fun j hj=> hT.block j (fun h=> by rw [h] at hj;exact Ev hj)),h3,h4⟩
    have AJ:=zh AL;have jT:∀x:Value,zcN pt wr (wr.setCell ⟨pt,0,none⟩ x):=fun x=> ⟨rfl,rfl,rfl,by simp,fun j hj=> by rw [heap_setCell_other _ _ j _ hj]⟩
    have Jy:=zh jT;have Bn:∀x:Value,(wr.setCell ⟨pt,0,none⟩ x).heap[pt]? =some (.cells #[x,ι ((zaJ (flatT s) k).length:Int)] 159):=fun x=> heap_setCell_same wr pt 0 _ _ x DK;have C8:=zh Bn;have qi:∀(W:World) (x:Value),zcN pt wr W->zcN pt wr (W.setCell ⟨pt,0,none⟩ x):=fun W x h=> h.trans ⟨rfl,rfl,rfl,by simp,fun j hj=> by rw [heap_setCell_other _ _ j _ hj]⟩
    have Hm:=zh qi;have Mu:∀(W:World) (b o:Nat),zcN pt wr W->b≠pt->W.cell? ⟨b,o,none⟩=wr.cell? ⟨b,o,none⟩:=fun W b o h hb=> by simp only [World.cell?];rw [h.block b hb]
    have JX:=zh Mu;have Nw:∀(W:World) (x y n:Value),W.heap[pt]? =some (.cells #[y,n] 159)->(W.setCell ⟨pt,0,none⟩ x).heap[pt]? =some (.cells #[x,n] 159):=fun W x y n h=> heap_setCell_same W pt 0 _ _ x h;have JT:=zh Nw;clear qi Mu Nw;clear AL jT Bn Dp BT KO C2 Gi DO GT DV AA G5
    cases m with
    | zero=>
      rcases zne HR.out A3.out HG.out with ⟨DL,EO⟩ | ⟨a,DL,NW,Gf⟩
      ·rw [DL] at AQ;obtain rfl:ps5= []:=List.eq_nil_of_length_eq_zero AQ;obtain ⟨a5,c5,rfl,-,-,-⟩:=AV.row zE;have IW:=zh EO;clear AV CR DL EO AQ DK;go_wp2_with fail;have F9:(wr.setCell ⟨pt,0,none⟩ (π none)).cell? ⟨pt,0,none⟩=some (π none):=cell_of_row _ pt 0 _ _ _ (C8.out (π none));refine wp_loop_rounds 1 ?_;rw [rounds_succ];go_wp2_with fail;go_ret2;exact ⟨_,S5,rfl,AJ.out _ none (Jy.out _) (C8.out _) (.inl ⟨IW.out,rfl⟩)⟩
      rw [DL] at CR AQ;obtain ⟨pa,rfl⟩:=List.length_eq_one_iff.1 (show ps5.length=1 from AQ);obtain ⟨g5,cap5,rfl,FN,EQ,C4,Db⟩:=AV.someE (by show 0 < 1;omega)
      have Pg:wr.cell? ⟨g5,0,none⟩=some (π (some ⟨pa,0,none⟩)):=by
       obtain ⟨b',o',he,hc⟩:=(Db.row zE).ptr 0 pa rfl
       cases he
       exact hc
      have I8:=CR.2 0 pa a rfl rfl;obtain ⟨ka,kc,va',vn',vc',ca',cn',cc',AH,-⟩:=I8.box;have ML:S5 pa:=AH.self;have MM:pa≠pt:=fun h=> Ev (h ▸ ML);have EP:((wr.setCell ⟨pt,0,none⟩ (π none)).setCell ⟨pt,0,none⟩ (π (some ⟨pa,0,none⟩))).cell? ⟨pa,0,none⟩=some (.bool true):=(JX.out _ pa 0 (Hm.out (wr.setCell ⟨pt,0,none⟩ (π none)) (π (some ⟨pa,0,none⟩)) (Jy.out _)) MM).trans AH.reads.1;have F9:((wr.setCell ⟨pt,0,none⟩ (π none)).setCell ⟨pt,0,none⟩ (π (some ⟨pa,0,none⟩))).cell? ⟨pt,0,none⟩=some (π (some ⟨pa,0,none⟩)):=cell_of_row _ pt 0 _ _ _ (JT.out (wr.setCell ⟨pt,0,none⟩ (π none)) (π (some ⟨pa,0,none⟩)) _ _ (C8.out _));have Os:=zh (zn I8 (zn NW Gf));have hg5p:g5≠pt:=by omega
      have XR:(wr.setCell ⟨pt,0,none⟩ (π none)).cell? ⟨g5,0,none⟩=some (π (some ⟨pa,0,none⟩)):=(za3 wr _ _ _ hg5p).trans Pg;clear AV CR DL AQ DK Db I8 NW Gf AH;go_wp2_with fail;refine wp_loop_rounds 1 ?_;rw [rounds_succ];go_wp2_with fail;go_ret2;exact ⟨_,S5,rfl,AJ.out _ (some pa) (Hm.out (wr.setCell ⟨pt,0,none⟩ (π none)) (π (some ⟨pa,0,none⟩)) (Jy.out _)) (JT.out (wr.setCell ⟨pt,0,none⟩ (π none)) (π (some ⟨pa,0,none⟩)) _ _ (C8.out _)) (.inr ⟨0,pa,a,rfl,Os.out.1,Os.out.2.1,Os.out.2.2⟩)⟩
    | succ m=>
      obtain ⟨a,DL,Gf,Xy,Xz,SE⟩:=znf HR.out A3.out HG.out;rw [DL] at CR AQ;obtain ⟨pa,rfl⟩:=List.length_eq_one_iff.1 (show ps5.length=1 from AQ);obtain ⟨g5,cap5,rfl,FN,EQ,C4,Db⟩:=AV.someE (by show 0 < 1;omega)
      have Pg:wr.cell? ⟨g5,0,none⟩=some (π (some ⟨pa,0,none⟩)):=by
       obtain ⟨b',o',he,hc⟩:=(Db.row zE).ptr 0 pa rfl
       cases he
       exact hc
      have I8:=CR.2 0 pa a rfl rfl;obtain ⟨ka,kc,va',vn',vc',ca',cn',cc',AH,-⟩:=I8.box;have ML:S5 pa:=AH.self;have MM:pa≠pt:=fun h=> Ev (h ▸ ML);have EP:((wr.setCell ⟨pt,0,none⟩ (π none)).setCell ⟨pt,0,none⟩ (π (some ⟨pa,0,none⟩))).cell? ⟨pa,0,none⟩=some (.bool false):=(JX.out _ pa 0 (Hm.out (wr.setCell ⟨pt,0,none⟩ (π none)) (π (some ⟨pa,0,none⟩)) (Jy.out _)) MM).trans AH.reads.1;have F9:((wr.setCell ⟨pt,0,none⟩ (π none)).setCell ⟨pt,0,none⟩ (π (some ⟨pa,0,none⟩))).cell? ⟨pt,0,none⟩=some (π (some ⟨pa,0,none⟩)):=cell_of_row _ pt 0 _ _ _ (JT.out (wr.setCell ⟨pt,0,none⟩ (π none)) (π (some ⟨pa,0,none⟩)) _ _ (C8.out _));have hg5p:g5≠pt:=by omega
      have XR:(wr.setCell ⟨pt,0,none⟩ (π none)).cell? ⟨g5,0,none⟩=some (π (some ⟨pa,0,none⟩)):=(za3 wr _ _ _ hg5p).trans Pg;have FK:∀W,zcN pt wr W->zbk S5 wr W:=fun W hW j hj=> hW.block j (fun h=> by rw [h] at hj;exact Ev hj)
      have UA:=zh (zg0 (I8.same (FK ((wr.setCell ⟨pt,0,none⟩ (π none)).setCell ⟨pt,0,none⟩ (π (some ⟨pa,0,none⟩))) (Hm.out (wr.setCell ⟨pt,0,none⟩ (π none)) (π (some ⟨pa,0,none⟩)) (Jy.out _)))));unfold zv at UA;rcases SE with h2 | ⟨c,U8,Vc⟩
      ·have Gb:¬((zH a:Int)=1):=by omega
       have Os:=zh (zn I8 (zn (show zcM a from ⟨by omega,Xy,Xz, .inr h2⟩) Gf))
       clear AV CR DL AQ DK Db I8 Gf AH Xy Xz h2 FK;generalize zH a=la at *;go_wp2_with fail;refine wp_loop_rounds 1 ?_;rw [rounds_succ];go_wp2_with fail;refine UA.out.mono ?_;rintro r w9 ⟨rfl,rfl⟩;go_wp2_with fail;go_ret2;exact ⟨_,S5,rfl,AJ.out _ (some pa) (Hm.out (wr.setCell ⟨pt,0,none⟩ (π none)) (π (some ⟨pa,0,none⟩)) (Jy.out _)) (JT.out (wr.setCell ⟨pt,0,none⟩ (π none)) (π (some ⟨pa,0,none⟩)) _ _ (C8.out _)) (.inr ⟨m+1,pa,a,rfl,Os.out.1,Os.out.2.1,Os.out.2.2⟩)⟩
      have KC:zH a=1:=by show (zx a).length=1;rw [U8];rfl
      obtain ⟨cb,co,cc,qs,yk,-,Ah,Ec,-,Kf,-⟩:=I8.inner (by omega)
      rw [U8] at Ec;rw [KC] at yk Ah UA;obtain ⟨pc,rfl⟩:=List.length_eq_one_iff.1 (show qs.length=1 from Ec.1);obtain ⟨b',o',X1,Jc⟩:=Ah.ptr 0 pc rfl
      cases X1
      unfold zv at Jc;have Iw:=Ec.2 0 pc c rfl rfl;obtain ⟨kaC,kcC,vaC,vnC,vcC,caC,cnC,ccC,Pe,-⟩:=Iw.box;have TT:S5 pc:=Pe.self;have YS:pc≠pt:=fun h=> Ev (h ▸ TT);have XS:cb≠pt:=fun h=> Ev (h ▸ Kf);have Lf:((wr.setCell ⟨pt,0,none⟩ (π none)).setCell ⟨pt,0,none⟩ (π (some ⟨pa,0,none⟩))).cell? ⟨pa,3,none⟩=some (σ (some ⟨cb,co,none⟩) 1 cc):=(JX.out _ pa 3 (Hm.out (wr.setCell ⟨pt,0,none⟩ (π none)) (π (some ⟨pa,0,none⟩)) (Jy.out _)) MM).trans yk;have LD:((wr.setCell ⟨pt,0,none⟩ (π none)).setCell ⟨pt,0,none⟩ (π (some ⟨pa,0,none⟩))).cell? ⟨cb,co,none⟩=some (π (some ⟨pc,0,none⟩)):=(JX.out _ cb co (Hm.out (wr.setCell ⟨pt,0,none⟩ (π none)) (π (some ⟨pa,0,none⟩)) (Jy.out _)) XS).trans Jc;have Ia:(((wr.setCell ⟨pt,0,none⟩ (π none)).setCell ⟨pt,0,none⟩ (π (some ⟨pa,0,none⟩))).setCell ⟨pt,0,none⟩ (π (some ⟨pc,0,none⟩))).cell? ⟨pc,0,none⟩=some (.bool (m==0)):=(JX.out _ pc 0 (Hm.out ((wr.setCell ⟨pt,0,none⟩ (π none)).setCell ⟨pt,0,none⟩ (π (some ⟨pa,0,none⟩))) (π (some ⟨pc,0,none⟩)) (Hm.out (wr.setCell ⟨pt,0,none⟩ (π none)) (π (some ⟨pa,0,none⟩)) (Jy.out _))) YS).trans Pe.reads.1;have Bd:(((wr.setCell ⟨pt,0,none⟩ (π none)).setCell ⟨pt,0,none⟩ (π (some ⟨pa,0,none⟩))).setCell ⟨pt,0,none⟩ (π (some ⟨pc,0,none⟩))).cell? ⟨pt,0,none⟩=some (π (some ⟨pc,0,none⟩)):=cell_of_row _ pt 0 _ _ _ (JT.out ((wr.setCell ⟨pt,0,none⟩ (π none)).setCell ⟨pt,0,none⟩ (π (some ⟨pa,0,none⟩))) (π (some ⟨pc,0,none⟩)) _ _ (JT.out (wr.setCell ⟨pt,0,none⟩ (π none)) (π (some ⟨pa,0,none⟩)) _ _ (C8.out _)));have M7:=zh (zg0 (Iw.same (FK (((wr.setCell ⟨pt,0,none⟩ (π none)).setCell ⟨pt,0,none⟩ (π (some ⟨pa,0,none⟩))).setCell ⟨pt,0,none⟩ (π (some ⟨pc,0,none⟩))) (Hm.out ((wr.setCell ⟨pt,0,none⟩ (π none)).setCell ⟨pt,0,none⟩ (π (some ⟨pa,0,none⟩))) (π (some ⟨pc,0,none⟩)) (Hm.out (wr.setCell ⟨pt,0,none⟩ (π none)) (π (some ⟨pa,0,none⟩)) (Jy.out _))))));unfold zv at M7;have Yw:=Vc.lo;have Gb:¬((zH c:Int)=1):=by omega
      have ky:flatT a=flatT c:=by show (zx a).flatMap flatT=_;rw [U8];simp
      rw [ky] at Gf;have Iq:=zh (zn Iw (zn (show zcM c from ⟨by omega,Vc.hi,Vc.kids, .inr (by omega)⟩) Gf))
      have k7:∀i,((wr.setCell ⟨pt,0,none⟩ (π none)).setCell ⟨pt,0,none⟩ (π (some ⟨pa,0,none⟩))).frozen? ⟨pt,i,none⟩=false:=fun i=> by
       have h:=(JT.out (wr.setCell ⟨pt,0,none⟩ (π none)) (π (some ⟨pa,0,none⟩)) _ _ (C8.out _));simp [World.frozen?,h]
      clear AV CR DL AQ DK Db I8 Gf AH Xy Xz FK KC U8 Ah Ec Iw Pe Vc ky Yw ML TT;generalize zH c=lc at *;go_wp2_with fail;refine wp_loop_rounds 2 ?_;rw [rounds_succ];go_wp2_with fail;refine UA.out.mono ?_;rintro r w9 ⟨rfl,rfl⟩;go_wp2_with fail
      cases m with
      | zero=>
        have Ye:(((wr.setCell ⟨pt,0,none⟩ (π none)).setCell ⟨pt,0,none⟩ (π (some ⟨pa,0,none⟩))).setCell ⟨pt,0,none⟩ (π (some ⟨pc,0,none⟩))).cell? ⟨pc,0,none⟩=some (.bool true):=Ia;clear Ia;rw [rounds_succ];go_wp2_with fail;go_ret2;exact ⟨_,S5,rfl,AJ.out _ (some pc) (Hm.out ((wr.setCell ⟨pt,0,none⟩ (π none)).setCell ⟨pt,0,none⟩ (π (some ⟨pa,0,none⟩))) (π (some ⟨pc,0,none⟩)) (Hm.out (wr.setCell ⟨pt,0,none⟩ (π none)) (π (some ⟨pa,0,none⟩)) (Jy.out _))) (JT.out ((wr.setCell ⟨pt,0,none⟩ (π none)).setCell ⟨pt,0,none⟩ (π (some ⟨pa,0,none⟩))) (π (some ⟨pc,0,none⟩)) _ _ (JT.out (wr.setCell ⟨pt,0,none⟩ (π none)) (π (some ⟨pa,0,none⟩)) _ _ (C8.out _))) (.inr ⟨0,pc,c,rfl,Iq.out.1,Iq.out.2.1,Iq.out.2.2⟩)⟩
      | succ m=>
        have Ye:(((wr.setCell ⟨pt,0,none⟩ (π none)).setCell ⟨pt,0,none⟩ (π (some ⟨pa,0,none⟩))).setCell ⟨pt,0,none⟩ (π (some ⟨pc,0,none⟩))).cell? ⟨pc,0,none⟩=some (.bool false):=Ia;clear Ia;rw [rounds_succ];go_wp2_with fail;refine M7.out.mono ?_;rintro r w9 ⟨rfl,rfl⟩;go_wp2_with fail;go_ret2;exact ⟨_,S5,rfl,AJ.out _ (some pc) (Hm.out ((wr.setCell ⟨pt,0,none⟩ (π none)).setCell ⟨pt,0,none⟩ (π (some ⟨pa,0,none⟩))) (π (some ⟨pc,0,none⟩)) (Hm.out (wr.setCell ⟨pt,0,none⟩ (π none)) (π (some ⟨pa,0,none⟩)) (Jy.out _))) (JT.out ((wr.setCell ⟨pt,0,none⟩ (π none)).setCell ⟨pt,0,none⟩ (π (some ⟨pa,0,none⟩))) (π (some ⟨pc,0,none⟩)) _ _ (JT.out (wr.setCell ⟨pt,0,none⟩ (π none)) (π (some ⟨pa,0,none⟩)) _ _ (C8.out _))) (.inr ⟨m+1,pc,c,rfl,Iq.out.1,Iq.out.2.1,Iq.out.2.2⟩)⟩
   obtain rfl:u13= .bool true:=by rw [Fv,decide_eq_false (by simp)];rfl
   have P4:=GT.ql;obtain ⟨u,hu,Kc,Pw,EE⟩:=DO.last rfl;obtain ⟨gu1,gu2,gu3,gu4,-⟩:=hu.good HR.out.lo HR.out.hi HR.out.kids A3.out;have ji:=DO.full HR.out A3.out (by simp)
   obtain ⟨-,-,-,gs4,-⟩:=DO.good HR.out.lo HR.out.hi HR.out.kids A3.out;have BF:(zdi (flatT s) k).isSome=true:=by rw [<- DO.get HR.out.lo HR.out.hi HR.out.kids A3.out];exact HG.out
   have Ee:=zo4 k (show (zx u)[zP (zC u) k]? =some s by rw [<- Pw];exact EE)
   rw [<- Pw] at Ee;obtain ⟨a,SJ,hA,ja,jq,RS,js⟩:=zmd gu3 gu2 (hu.two HR.out A3.out) EE ji gs4 BF;rw [SJ] at Ee;rw [SJ] at CR;have JE:∀j,S j->j < wr.heap.size:=fun j hj=> zt (hS j hj) (zs Dr AA.size);have JD:=Kc.same (zbk.of_below AA hS);obtain ⟨cb,co,cc,qs,yk,-,Ah,Ec,OZ,-,-⟩:=JD.inner gu1;have IM:qs.length=zH u:=Ah.1;have De:i5 < zH u:=(zi EE).1;have AQ:ps5.length=1:=CR.1;obtain ⟨g5,cap5,rfl,FN,EQ,C4,Db⟩:=AV.someE (by omega)
   obtain ⟨cur5,FG,EN,-⟩:=Db.ex;have HC:=zh (zdg (c:=cc) (w:=wr.drew) Ah (by omega))
   obtain ⟨x50,x51⟩:wr.cell? ⟨xb,0,none⟩=some (π (some ⟨p5,0,none⟩))/\wr.cell? ⟨xb,1,none⟩=some (ι i5):=⟨cell_of_row wr xb 0 _ _ _ DV,cell_of_row wr xb 1 _ _ _ DV⟩;have CI:xb < wr.heap.size:=(zg DV).1;have hp5l:p5 < wr.heap.size:=JE p5 OZ;have Cq:wr.drew.cell? ⟨xb,0,none⟩=some (π (some ⟨p5,0,none⟩))/\wr.drew.cell? ⟨xb,1,none⟩=some (ι i5)/\wr.drew.cell? ⟨p5,3,none⟩=some (σ (some ⟨cb,co,none⟩) (zH u) cc):=⟨x50,x51,yk⟩;have Bg:∀W,θ wr.heap.size wr W->W.cell? ⟨xb,0,none⟩=some (π (some ⟨p5,0,none⟩))/\W.cell? ⟨xb,1,none⟩=some (ι i5)/\W.cell? ⟨p5,3,none⟩=some (σ (some ⟨cb,co,none⟩) (zH u) cc):=fun W hW=> ⟨(hW.cell (p:=⟨xb,0,none⟩) CI).trans x50,(hW.cell (p:=⟨xb,1,none⟩) CI).trans x51,(hW.cell (p:=⟨p5,3,none⟩) hp5l).trans yk⟩;have B9:=zh Bg;have Rm:=zh Ec;have Oj:=zh CR;have C1:=zh G5;have HU:=zh hu;have J6:=zh Ee;have HA:=zh hA;have JO:=zh ja;have qS:=zh jq;have qU:=zh RS;have qT:=zh js;have ap:zH u<=6:=gu2;have IV:=zh AA;have J5:=zh EX;have Ru:=zh Db;have VX:=zh FG;have GI:=EX.reads.1;have Bb:IntKind.i64.wrap ((i5:Int)+1)=((i5+1:Nat):Int):=by rw [zw _ (by omega)];omega
   have Aa:qs.length<=20:=by omega
   have Ae:i5+1<=qs.length:=by omega
   have Am:0 < ps5.length:=by omega
   have Ar:ps5.length<=1:=by omega
   have Ag:cur5.size≠0:=by rw [EN];omega
   have AT:w.heap.size<=wr.heap.size:=zs Dr AA.size;clear DO AV CR G5 DV hu Kc EE Ee JD Ah Ec IM AQ Db FG EN Bg Pw AA EX gu1 gu2 gu3 gu4 gs4 yk ji BF SJ hA ja jq RS js x50 x51 C4 GT;generalize zH u=lu at *;clear Fv;go_wp2_with fail
   go_region_held_law (fun W'=> W'.cell? ⟨xb,0,none⟩=some (π (some ⟨p5,0,none⟩))/\W'.cell? ⟨xb,1,none⟩=some (ι i5)/\W'.cell? ⟨p5,3,none⟩=some (σ (some ⟨cb,co,none⟩) lu cc))
    (first | exact Cq | exact B9.out _ (by first | with_reducible exact Hv | with_reducible exact DF | with_reducible exact As))
    (first
      | (go_at_call 156
         refine HC.out.mono ?_;rintro r wq ⟨vq,rfl,Lc,Jb⟩;have As:θ wr.heap.size wr wq:=⟨Jb.os,Jb.tape,Jb.output,Jb.size,Jb.block⟩;have aR:wr.heap.size<=wq.heap.size:=As.size;have LO:=zh (zcF (c2:=cap5) Lc i5 (i5+1) (by omega) (by omega) (by omega) ((Ru.out.heap (As.block g5 EQ)).row zE) (by omega) (by omega) (by omega) ((As.block g5 EQ).trans VX.out) Ag (fun h=> by have:=(Lc.lt _ h).1;have h2:wr.drew.heap.size=wr.heap.size:=rfl;omega) (by show wr.heap.size<=_;omega))
         have WN:=zh Lc.lt;have Gm:=zh As;clear Lc Jb)
      | (go_at_call 155
         refine LO.out.mono ?_;rintro r wp ⟨vp,rfl,Lb,Jg⟩;have DF:θ wr.heap.size wr wp:=Gm.out.grown Jg Gm.out.size (fun j hj=> (WN.out j hj).1);have QT:(qs.take i5++(ps5++qs.drop (i5+1))).length<=100/\0 < (qs.take i5++(ps5++qs.drop (i5+1))).length:=by
                rw [List.length_append,List.length_append,List.length_take,List.length_drop];omega
         obtain ⟨gp,capp,rfl,XM,Yi,MD,U0⟩:=Lb.someE QT.2;have BY:zat wp S5 (qs.take i5++(ps5++qs.drop (i5+1))) ((zx u).take i5++([a]++(zx u).drop (i5+1))):=by
                have FK:zbk S5 wr wp:=fun j hj=> DF.block j (C1.out.lt j hj);have BX:=(Rm.out.more C1.out.sub).same FK;exact (BX.take i5).app ((Oj.out.same FK).app (BX.drop (i5+1)))
         have Qk:=zh (zk7 Lb BY i5 (by rw [JO.out];exact De) (by rw [JO.out];omega) (fun gg Ic yl=> by have:=C1.out.lt gg yl;have:=(Lb.lt gg Ic).1;have h2:wr.drew.heap.size=wr.heap.size:=rfl;omega) (fun j hj=> zt (C1.out.lt j hj) DF.size) DF.size HA.out)
         have In:=zh DF;have WM:=zh Lb.lt;have ah:=B9.out wp DF;generalize (qs.take i5++(ps5++qs.drop (i5+1))).length=lp at *;clear Lb Jg QT MD U0 BY))
   all_goals
    obtain ⟨kx0,kx1,-⟩:=ah;go_wp2_with fail;refine Qk.out.mono ?_;rintro r wj ⟨vj,pj,S6,rfl,qo,Vn,kA,Vg⟩;have j9:θ wr.heap.size wr wj:=In.out.grown kA In.out.size (fun j hj=> (WM.out j hj).1);have PY:0 < pj.length:=by rw [Vn.1];exact qU.out
    have YV:pj.length<=6:=by rw [Vn.1];exact qT.out
    obtain ⟨gj,capj,rfl,yv,yR,Tp,jO⟩:=qo.someE PY;have HI:=zh (zea (c:=capj) (jO.row zE) Tp (by omega) PY Vn qS.out Vg.lt)
    have JQ:=zh j9;have V5:=zh (C1.out.trans Vg (by have:=In.out.size;omega))
    have Y8:¬S6 q:=fun h=> (Vg.new q h).elim P3 (fun h2=> by have:=In.out.size;omega)
    clear qo Vn kA Vg j9 Tp jO PY YV;generalize pj.length=lj at *;go_wp2_with fail;refine HI.out.mono ?_;rintro r wo ⟨vo,po,rfl,K9,Ti,FF⟩;have Hv:θ wr.heap.size wr wo:=JQ.out.trans (FF.mono JQ.out.size);obtain ⟨k0,k1,-⟩:=B9.out wo Hv;have GL:=FF.size;have yG:=JQ.out.size;have TX:q < wo.heap.size:=by omega
    have K7:=World.alloc_size wo (.cells #[π (some ⟨p5,0,none⟩),ι i5] 223);have Ei:=zh (zg5 ((J5.out.heap (Hv.block q P4)).heap (Below.heap_alloc wo (.cells #[π (some ⟨p5,0,none⟩),ι i5] 223) q TX)));have Uq:(wo.alloc (.cells #[π (some ⟨p5,0,none⟩),ι i5] 223)).heap[wo.heap.size]? =some (.cells #[π (some ⟨p5,0,none⟩),ι i5] 223):=heap_alloc_new wo _;have EJ:=zh Uq;have VP:=zh Hv;have RD:=zh K9;have Wk:=zh Ti;have qD:=zh FF;have OA:=zh K7;unfold zv at Ei;clear Uq Hv K9 Ti FF K7 As DF HC LO HI Qk kx0 kx1;go_wp2_with fail;refine Ei.out.mono ?_;rintro r w6 ⟨op6,iv6,rfl,AX,EV⟩;have D6:wo.grownBy w6 (some q):=⟨AX.os,AX.tape,AX.output,by have:=AX.size;have:=OA.out;omega,fun j hj Aj=> (AX.block j (by have:=OA.out;omega) Aj).trans (Below.heap_alloc _ _ _ hj)⟩
    have GX:w6.heap[wo.heap.size]? =some (.cells #[π (some ⟨p5,0,none⟩),ι i5] 223):=(AX.block _ (by have:=OA.out;omega) (fun h=> by have:=Option.some.inj h;omega)).trans EJ.out
    have k60:=cell_of_row w6 _ 0 _ _ _ GX;have k61:=cell_of_row w6 _ 1 _ _ _ GX;simp at k60 k61;have k6f:∀i,w6.frozen? ⟨wo.heap.size,i,none⟩=false:=fun i=> by simp [World.frozen?,GX]
    have hT:=ze0 w6 wo.heap.size (π op6) (ι iv6);have IQ:=zeU GX (π op6) (ι iv6);have Ca:¬(S6 q\/(wj.heap.size<=q/\q < wo.heap.size)):=fun h=> h.elim Y8 (fun h=> by omega)
    have Ed:(l= []/\zZ ((w6.setCell ⟨wo.heap.size,0,none⟩ (π op6)).setCell ⟨wo.heap.size,1,none⟩ (ι iv6)) q [])\/∃l':List (Nat × Nat),l≠ []/\l.length=l'.length+1/\zZ ((w6.setCell ⟨wo.heap.size,0,none⟩ (π op6)).setCell ⟨wo.heap.size,1,none⟩ (ι iv6)) q l':=by
     rcases EV with ⟨h1,h2⟩ | ⟨l',p',i',h1,h2,h3,h4⟩
     ·exact .inl ⟨h1,h2.heap (hT.block q (by omega))⟩
     exact .inr ⟨l',by rw [h1];simp,by rw [h1];simp,h4.heap (hT.block q (by omega))⟩
    have CS:zlR wc S w.heap.size k t (fun {m} (s:Tr m)=> zir s k) q wo.heap.size vo (.bool (!decide (l= []))) l ((w6.setCell ⟨wo.heap.size,0,none⟩ (π op6)).setCell ⟨wo.heap.size,1,none⟩ (ι iv6)):=by
     refine zlR.laid (W:=wo) HU.out (RD.out.base (by omega)) (S:=fun j=> S6 j\/(wj.heap.size<=j/\j < wo.heap.size)) (by rw [J6.out];exact Wk.out) ?_ Ca ?_ ?_ IQ ?_ (IV.out.trans (VP.out.mono AT)) IL (by omega) TX zl
     ·exact ⟨fun j h=> .inl (V5.out.sub j h),fun j hj=> hj.elim (V5.out.new j) (fun h=> .inr (by omega)),fun j hj=> hj.elim (fun h=> by have:=V5.out.lt j h;omega) (fun h=> h.2)⟩
     ·intro h;have:=(RD.out.lt q h).1
      omega
     ·exact ⟨hT.os.trans D6.os,hT.tape.trans D6.tape,hT.output.trans D6.output,by rw [hT.size];exact D6.size,fun j hj Aj=> (hT.block j (by omega)).trans (D6.block j hj Aj)⟩
     rcases EV with ⟨h,-⟩ | ⟨l',p',i',h1,h2,h3,h4⟩
     ·exact .inl h
     exact .inr ⟨l',p',i',h1,h2,h3,h4.heap (hT.block q (by omega))⟩
    have Wn:=zh CS;have Rp:=zh Ed;clear CS Ed EV AX D6 GX IQ hT Ei Ca;go_wp2_with fail
    go_roundw
    case rel=> exact ⟨wo.heap.size,l,rfl,Wn.out⟩
    case measure=>
     rw [GI];rcases Rp.out with ⟨h1,h2⟩ | ⟨l',h1,h2,h3⟩
     ·rw [h2.reads.1,h1];simp [intOf]
     rw [h3.reads.1,decide_eq_false h1,h2];simp [intOf]
 have KI:decide (k ∈ zC lt)=false:=decide_eq_false hm;have hd:zaJ (flatT t) k=flatT t:=zma A3.out (by
  have:=LK.out.trans KI;rw [ziX] at this;exact of_decide_eq_false this)
 rw [KI] at Jz;have HD:=zh hd;clear hm KI hd Ez LK;go_wp2_with fail;refine Jz.out.mono ?_;rintro r w2 ⟨v2,x2,rfl,Ef,Ae⟩;have HB:=zh (Fd.out.trans (Ae.mono Jp));clear Ef Ae;go_wp2_with fail;go_ret2;have hb:=HB.out;refine ⟨_,S,rfl, ?_,(Ext.refl hS).later hb.size,⟨hb.os,hb.tape,hb.output,hb.size,fun j hj _=> hb.block j hj⟩⟩;rw [HD.out];exact ⟨A3.out,fun j hj=> zt (hS j hj) hb.size,QY, .inr ⟨d,p,t,(hb.block pt BZ).trans Cj.out,HT.out.same (zbk.of_below hb hS),HR.out,rfl⟩⟩
theorem zo5 (h:za5 w S pt l) (hl:l.length<=2000) (k:Nat):
 χ 117 #[zv pt,za2 k] w fun r w'=> ∃v S',r=ρ v/\za5 w' S' pt (zaJ l k)/\Ext S ↑w S' w'/\w.grownBy w' (some pt):=by
 rcases h.has with ⟨rfl,h2⟩ | ⟨d,p,t,h1,h2,h3,rfl⟩
 ·exact zmc h h2 k
 exact znY h.apart h1 h2 h3 h.rise h.lt hl k
end
end Go.Proofs.YtaoceecfjlkmdaaGreat
