/- Lemmas of the walks, merged and pressed by press.py. Conditions: those of each theorem. -/
import Derived.Test.YtaoceecfjlkmdaaGreatM47
import Derived.Test.YtaoceecfjlkmdaaGreatM31
import Derived.Test.YtaoceecfjlkmdaaGreatM50
set_option maxRecDepth 100000
set_option maxHeartbeats 64000000
set_option linter.all false
namespace Go.Proofs.YtaoceecfjlkmdaaGreat
open Tryz
section
open Go.RowKit
set_option linter.unusedSectionVars false
set_option maxRecDepth 100000
set_option maxHeartbeats 16000000
attribute [local simp] Below.refl
theorem zq0 {w:World} {x:Nat} {h:Ch} {g:Chg} {pv:Value} (X:w.heap[x]? =some (.cells (zb8 h g pv) 81 (0,0))):
 Calls Tryz.prog 17 #[.pointer (some ⟨x,0,none⟩)] w fun e w'=> e= .returned (.int .i64 (g.id:Int))/\w=w':=by
 have e9:w.cell? ⟨x,9,none⟩=some (.int .i64 (g.id:Int)):=cell_of_row w _ 9 _ _ _ X
 go_in
 go_wp2
 go_ret;exact ⟨rfl,rfl⟩
theorem cpA {p:Prop} (h:p:=by
 go_wp2_with fail;refine JO.out.mono ?_;rintro e w9 ⟨rfl,Ja⟩;have Rb:=zh (DW.out.trans (Ja.mono DW.out.size));clear Ja JO;go_wp2_with fail;go_ret;exact ⟨rfl,Rb.out⟩):p:=h
theorem copies_any {w:World} (cf:Cfg) (Mq:zpH cf) {a0:Option Addr} {n0:Nat} (c0:Nat) {l0:List Oq} (h0:zoW w a0 n0 l0) (v b:Int) (hv:v<=9223372036854775807) (t:Nat) (ht:t < 18446744073709551616):
 Calls Tryz.prog 5 #[.agg (cfA cf), .slice a0 n0 c0, .agg (spA v b t)] w fun e w'=> e= .returned (.bool true)/\Below w.heap.size w w':=by
 obtain ⟨w1,Ab,Aa,Ai,C⟩:=zqU w (cfA cf) 24;obtain ⟨w2,GV,Ae,Ax,S⟩:=zqU w1 (spA v b t) 28;have BW:=Aa.trans (Ae.mono Aa.size);have HB:=zh BW;have HC:=zh fun (W:World) (hW:Below w2.heap.size w2 W)=> (C W (Ae.trans (hW.mono Ae.size)));have HS:=zh S;rw [Ai] at HS;have HF:=zh (ziU (w:=w2) c0 (h0.below BW) 40 ud);have Wy:=zh fun (W:World) (hW:Below w2.heap.size w2 W) (hf:znE l0 40=true)=> zln (w:=W) cf Mq c0 (h0.below (BW.trans (hW.mono BW.size))) hf;have HI:=zh (zn Mq (zn hv ht));have HN:Hid (znE l0 40=true->n0<=40):=zh fun h=> by
  unfold znE at h;rw [Bool.and_eq_true] at h;have:=of_decide_eq_true h.1;have:=h0.row.1
  omega
 obtain ⟨f0,Yc⟩:∃f0,znE l0 40=f0:=⟨_,rfl⟩;rw [Yc] at HF Wy;have V8:=zh Yc;unfold cfA spA at *;rw [Ab] at GV;clear h0 Mq hv ht Aa Ae Ai Ax BW Yc C S Ab
 go_in
 go_upto_region 1 with fail;rw [<- GV];clear GV;go_wp2_with fail;refine HF.out.mono ?_;rintro e w3 ⟨rfl,Am⟩;have AI:=zh (zn Am (HB.out.trans (Am.mono HB.out.size)));clear Am HF
 cases f0 with
 | false=>
   go_wp2_with fail;go_ret;exact ⟨rfl,AI.out.2⟩
 | true=>
   have HP:=zh (Wy.out w3 AI.out.1 rfl);have c:=HC.out w3 AI.out.1;have c0:=(c 0).1;have c1:=(c 1).1;have c2:=(c 2).1;have c3:=(c 3).1;have c4:=(c 4).1;have c5:=(c 5).1;clear Wy c;go_wp2_with fail;refine HP.out.mono ?_;rintro e w4 ⟨p,h,a,Q,st,rfl,Be,jV,ee,Ar⟩;have UN:=AI.out.1.trans (Ar.mono AI.out.1.size);have Cz:=zh (zn UN (HB.out.trans (UN.mono HB.out.size)));have R:=jV.reads;obtain ⟨s0,-,-,-,-,-,-,-,-,-,-,-,-,-,-,-,-,-,s18,-,-⟩:=R;have H4:=zh (zn Be (zn jV (zn ee Ar)));have Ym:=Be.inv (zpA cf HI.out.1 200);have HV:=zh (zn (Ym.1) (Be.vol (zpA cf HI.out.1 200) (zqZ cf)));clear Be jV ee Ar HP c0 c1 c2 c3 c4 c5 UN Ym;go_upto_region 6 with fail
   go_quiet (fail)
   have e:=HS.out w4 Cz.out.1;have e0:=(e 0).1;have e2:=(e 2).1;have kf:=H4.out.2.1.inv.ct;obtain ⟨⟨rc,g⟩,hr⟩:∃r,zc9 cf.win cf.every st.c st.l st.seq st.clock ⟨10,v,0,0,0,(t:Int), [], []⟩=r:=⟨_,rfl⟩;have HT:=zh fun (W:World) (hW:Below w4.heap.size w4 W)=> zjB (dc:=0) (mc:=0) (H4.out.2.1.below hW) (zps W 10 v 0 0 0 (t:Int) (by have:=HI.out.2.1;omega) (by have:=HI.out.2.2;omega)) HI.out.1.every
   rw [hr] at HT;have vy:Hid (rc=0->st.seq≠18446744073709551615/\zfJ st.l g (st.seq+1) st.clock/\g.id=st.c.nv+1/\∀(x:Nat) (b:Int),zbo (zcJ st g x) v b t=zly (zcJ st g x) ((st.c.nv+1:Nat):Int) b):=zh fun h0=> by
    have q:=zem (window:=cf.win) (every:=cf.every) (o:=⟨10,v,0,0,0,(t:Int), [], []⟩) kf (hr.trans (Prod.ext h0 rfl));have q2:=fun (x:Nat) (b:Int)=> zqQ (x:=x) (win:=cf.win) (ev:=cf.every) (o:=⟨10,v,0,0,0,(t:Int), [], []⟩) HV.out.1 HV.out.2 rfl (by rw [hr];exact h0) b
    rw [hr] at q2;exact ⟨q.2.1,q.2.2,(q2 0 0).1,fun x b=> (q2 x b).2⟩
   have WC:Hid (rc≠0->st.c.may v t st.seq=true\/rc=44\/rc=40\/rc=10\/rc=50):=zh fun h0=> by
    have q:=zqL (win:=cf.win) (ev:=cf.every) (c:=st.c) (l:=st.l) (s:=st.seq) (clock:=st.clock) (o:=⟨10,v,0,0,0,(t:Int), [], []⟩) rfl (by rw [hr];exact h0)
    rw [hr] at q;exact q
   have Wt:Hid (st.c.nv<=65535):=zh kf.nv;unfold opA at HT;clear kf hr e;go_wp2_with fail;have Jb:Below w4.heap.size w4 (w4.drewN nq):=⟨rfl,rfl,rfl,zl,fun _ _=> rfl⟩;refine (HT.out _ Jb).mono ?_;rintro e w5 ⟨u,rfl,Ag,hz,hs⟩;have O8:Below w4.heap.size w4 w5:=Jb.trans Ag;have HQ:=zh Jb;have A8:=zh (zn O8 (Cz.out.2.trans (O8.mono Cz.out.2.size)));have P4:∀W,Below w4.heap.size w4 W->∀i,W.cell? ⟨p,i,none⟩=(zcH h a cf st)[i]? /\W.frozen? ⟨p,i,none⟩=false:=fun W hW=> rdA ((hW.block p H4.out.2.1.plt).trans H4.out.2.1.box);have S4:∀W,Below w4.heap.size w4 W->∀i,W.cell? ⟨w.heap.size+1,i,none⟩=(#[.int .i64 v, .int .i64 b, .int .u64 (t:Int)]:Array Value)[i]? /\W.frozen? ⟨w.heap.size+1,i,none⟩=false:=fun W hW=> HS.out W (Cz.out.1.trans (hW.mono Cz.out.1.size));unfold zcH at P4;clear Ag O8 Jb HT s0 s18 e0 e2
   by_cases h0:rc=0
   ·subst h0;obtain ⟨x,hc,pv,pl,rfl,X⟩:=hs rfl;obtain ⟨AE,hg,hid,Dn⟩:=vy.out rfl;have hn:=HN.out V8.out;have Hc:=zh (ze3 (H4.out.2.1.below A8.out.1) X (fun j hj=> H4.out.2.1.qlt j hj) hg AE ud ud);have IR:¬Q x:=fun h=> by have h1:=H4.out.2.1.qlt x h;have h2:w4.heap.size<=x:=X.lo;omega
    have HX:=zh fun (W:World) (Q':Nat->Prop) (hG:StG w5 Q W Q')=> (show W.heap[x]? =some (.cells (zb8 hc g pv) 81 (0,0)) from (hG.block X.xlt IR).trans X.box);have BU:=zh Dn;have TK:=Wt.out;have UL:=zh X.xlt;clear hz hs X AE hg Dn hn IR P4;go_wp2_with fail;refine Hc.out.mono ?_;rintro e w6 ⟨rfl,fx,Q',GD,Mc,dS⟩;have JF:=HX.out w6 Q' dS;have M5:=zh fun (W:World) (hW:Below w6.heap.size w6 W)=> zq0 ((hW.block x (zt UL.out dS.outs.size)).trans JF);have DW:=zh (zbr Cz.out.1 ((StG.below Q A8.out.1).trans dS).outs (fun j hj=> zs AI.out.1.size (H4.out.2.2.1 j hj)) Cz.out.1.size);have H6:=zh Mc;rw [hid] at M5;have HV:=zh (BU.out fx);clear GD Mc dS JF Hc HX S4 BU hid;have i1:((st.c.nv+1:Nat):Int)=(st.c.nv:Int)+1:=ud;have i2:(((st.c.nv:Int)+1) !=((st.c.nv:Int)+1))=false:=uh;rw [i1] at HV M5;clear i1;go_wp2_with fail;refine (M5.out w6 zr).mono ?_;rintro e w7 ⟨rfl,rfl⟩;go_wp2_with fail
    go_loopw [14] (fun u wr=> ∃i:Nat,i<=33/\u= .int .i64 i/\Below w6.heap.size w6 wr) (fun u _=> 33 - (intOf u).toNat)
    case atStart=> exact ⟨0,ud,rfl,Below.refl _ _⟩
    case round=>
        obtain ⟨i,hi,rfl,hb⟩:=hrel;have Au:=DW.out.trans (hb.mono DW.out.size);have FO:=HB.out.trans (Au.mono HB.out.size)
        by_cases hlt:i < 33
        ·have j1:(i:Int) < 33:=ud;have e:=HS.out wr Au;have e0:=(e 0).1;have e2:=(e 2).1;have HR:=zh (zgs (H6.out.below hb) v i t HI.out.2.2);have Qh:=zh (zn hb FO);clear e hb Au FO;go_wp2_with fail;refine HR.out.mono ?_;intro e w8 hE;obtain ⟨a1,n1,k1,rfl,Sj,C6,Pp⟩:=zqg hE zqi;have dN:=Qh.out.1.trans (Sj.mono Qh.out.1.size);have d9:=zh (M5.out w8 dN);have Hi:=zh (zm9 (H6.out.below dN) ((st.c.nv:Int)+1) i ud);have Rb:=zh (zn dN (Qh.out.2.trans (Sj.mono Qh.out.2.size)));rw [HV.out] at C6 ⊢;have Dx:=zh (zn C6 Pp);obtain ⟨q,hq⟩:∃q,zly (zcJ st g fx) ((st.c.nv:Int)+1) (i:Int)=q:=⟨_,rfl⟩;have CU:q.1≠0->q.2= []:=fun h=> by rw [<- hq] at h ⊢;exact zql h
         rw [hq] at Hi Dx ⊢;have ek:=zh CU;obtain ⟨qe,ql⟩:=q;clear hE Sj dN C6 Pp hq HR CU e0 e2;go_wp2_with fail;refine d9.out.mono ?_;rintro e w9 ⟨rfl,rfl⟩;go_wp2_with fail;refine Hi.out.mono ?_;intro e w9 hE;obtain ⟨a2,n2,k2,rfl,Ja,GP,kw⟩:=zqg hE ek.out;have HE:=zh (ziC a1 a2 n1 n2 k1 k2 ql ql w9 (Bs.keep Dx.out.1 fun g o e=> Ja.block g (Dx.out.2 g o e).2) GP);rw [show (ql==ql)=true from by simp] at HE
         have dZ:=zh (zn (Rb.out.1.trans (Ja.mono Rb.out.1.size)) (Rb.out.2.trans (Ja.mono Rb.out.2.size)));have i3:((qe:Int) !=(qe:Int))=false:=uh;clear hE Ja GP kw d9 Hi;go_wp2_with fail;refine HE.out.mono ?_;rintro e w10 ⟨rfl,rfl⟩;clear HE;go_wp2_with fail
         go_roundw
         case rel=> exact ⟨i+1,ud,by go_num,dZ.out.1⟩
         case measure=> simp [intOf];omega
        have j1:decide ((i:Int) < 33)=false:=decide_eq_false ud;have JO:=zh (ziv wr);have DW:=zh FO;clear hb Au FO;exact cpA
   obtain rfl:=hz h0;have Jo:=WC.out h0;have i1:((rc:Int) !=0)=true:=by rw [bne_iff_ne];omega
   have HM:=zh fun (W:World) (hW:Below w4.heap.size w4 W)=> zqV (H4.out.2.1.below hW).cat H4.out.2.1.inv.ct v t st.seq;unfold Ch.val Ch.cells at HM;obtain ⟨m,hm⟩:∃m,st.c.may v t st.seq=m:=⟨_,rfl⟩;rw [hm] at Jo HM;clear hz hs hm;go_wp2_with fail;refine rg (fun W=> Below w4.heap.size w4 W) (fun hS=> ?_) A8.out.1.drew
   repeat refine tk ?_
   refine cl (HM.out _ hS) ?_;rintro _ w6 ⟨rfl,AT⟩;have Qx:Below w4.heap.size w4 w6:=hS.trans (AT.mono hS.size);refine ⟨_,rfl,Qx,fun hS=> ?_⟩;simp only [Act.put,zSs]
   repeat refine tk ?_
   refine rz ?_;have DW:=zh (Cz.out.2.trans (Qx.mono Cz.out.2.size));have JO:=zh (ziv w6);have p0:w6.cell? ⟨p,0,none⟩=some (.int .i64 (st.c.nv:Int)):=(P4 w6 Qx 0).1;have p18:w6.cell? ⟨p,18,none⟩=some (.int .u64 (st.seq:Int)):=(P4 w6 Qx 18).1;have i2:((st.seq:Int)==(st.seq:Int))=true:=uh;have i3:((st.c.nv:Int)==(st.c.nv:Int))=true:=uh;clear AT Qx hS P4 S4 HM
   cases m with
   | true=>
     clear Jo;exact cpA
   | false=>
     rcases Jo with Jo | rfl | rfl | rfl | rfl
     ·cases Jo
     ·exact cpA
     ·exact cpA
     ·exact cpA
     exact cpA
end
end Go.Proofs.YtaoceecfjlkmdaaGreat
