/- Lemmas of the walks, merged and pressed by press.py. Conditions: those of each theorem. -/
import Derived.Test.YtaoceecfjlkmdaaGreatM39
import Derived.Test.YtaoceecfjlkmdaaGreatM17
import Derived.Test.YtaoceecfjlkmdaaGreatM18
import Derived.Test.YtaoceecfjlkmdaaGreatM28
set_option maxRecDepth 100000
set_option maxHeartbeats 64000000
set_option linter.all false
namespace Go.Proofs.YtaoceecfjlkmdaaGreat
section
open Go.RowKit
set_option maxRecDepth 100000
set_option maxHeartbeats 16000000
set_option linter.unusedSectionVars false
theorem zlF (l:List En) (v s n:Nat):zcG l v s (n+1)=zcG l v s n++if atL l v n s≠0 then [⟨n,atL l v n s,none⟩] else []:=by
 unfold zcG;rw [List.range_succ,List.filter_append,List.map_append]
 by_cases h:atL l v n s=0 <;> simp [h]
theorem znk (l:List En) (v s n:Nat):(zcG l v s n).length≤n:=by
 unfold zcG;rw [List.length_map];exact zs (List.length_filter_le _ _) (by rw [List.length_range];exact zl)
theorem zm0 {c:Ct} {s k:Nat} (h:CtI c s k) (hs:s < 18446744073709551616) {o:PO} (Ew:0≤o.pt∧o.pt < 18446744073709551616) {pe pn:Nat} (hp:zav c o=(pe,pn)):pn < 18446744073709551616:=by
 unfold zav at hp
 split at hp
 ·split at hp
  ·cases hp;omega
  ·split at hp
   ·cases hp;omega
   ·rename_i n hn
    cases hp
    obtain ⟨m,hm,e,-⟩:=zkn hn;have:=h.times.fit m hm
    omega
 ·split at hp
  ·split at hp
   ·cases hp;omega
   ·rename_i b hb
    have Ml:=List.mem_of_find?_eq_some hb;have:=(h.books b Ml).2.1
    split at hp
    ·cases hp;omega
    ·cases hp;omega
  ·cases hp;omega
theorem zkF (c:Ct) (l:List En) (s:Nat) (o:PO) {pe pn zeo zno ec nid:Nat} {cn:Ct} (hp:zav c o=(pe,pn)) (hz:c.sizeAt o.v pn (s - 1)=(zeo,zno)) (hc:c.create zno s=(ec,cn,nid)):
 (pe≠0→zcO c l s o=(pe,Chg.nil c s))∧(pe=0→zeo≠0→zcO c l s o=(zeo,Chg.nil c s))∧(pe=0→zeo=0→zcO c l s o=(ec,{Chg.nil c s with c:=cn,id:=nid,vol:=nid,puts:=zcG l o.v.toNat pn zno})):=by
 unfold zcO;simp only [hp,hz,hc];exact ⟨fun h=> by rw [if_pos h],fun h h2=> by rw [if_neg (by omega),if_pos h2],fun h h2=> by rw [if_neg (by omega),if_neg (by omega)]⟩
attribute [local simp] Below.refl
theorem zM.keep {α:Type} {enc:α→List Value} {k:Nat} {w w':World} {a:Option Addr} {n:Nat} {l:List α} (h:zM enc k w a n l) (hb:∀b o,a=some ⟨b,o,none⟩→w'.heap[b]? =w.heap[b]?):zM enc k w' a n l:=⟨h.1,fun i r hr=> by
 obtain ⟨b,o,e,-⟩:=h.2 i r hr;subst e;exact (h.block (hb b o rfl)).2 i r hr⟩
theorem maR {p:Prop} (h:p:=by
 have q:=zJ (dP.out w4 (zD.refl _ _));obtain ⟨z0,z1,z2,z3,z4,z5,z6,z7,z8,-⟩:=q;have q:=(H1.out.1.chg.below Cz.out).reads;obtain ⟨y0,y1,y2,y3,y4,y5,y6,y7,y8,y9,y10,-,-,-,-,yf⟩:=q;clear R4;go_upto_region 9 with fail;generalize hw:World.setCell _ (⟨x,8,none⟩:Addr) _=wS;have q:=ChM.lay9 hw.symm (H1.out.1.chg.below Cz.out) X2;obtain ⟨X3,F3,B3,-⟩:=q;generalize GV:World.setCell _ (⟨x,9,none⟩:Addr) _=wT;have q:=ChM.lay1 GV.symm X3;obtain ⟨X4,F4,B4⟩:=q;generalize Dv:World.setCell _ (⟨x,10,none⟩:Addr) _=wU;have q:=ChM.lay10 Dv.symm X4;obtain ⟨X5,F5,B5⟩:=q;have hS:Far x w4 wU:=(F3.tr F4).tr F5;have LG:=zh (show EvC w0 wU p h a cf st nb k Q x h2 {Chg.nil st.c sq with c:=c2,id:=nid,vol:=nid,puts:=zcG st.l o.v.toNat pn 0} (.slice none 0 0) [] from ⟨H1.out.1.st,(((H1.out.1.bel.trans (Cz.out.mono H1.out.1.bel.size)).trans B3).trans B4).trans B5,X5⟩)
 have It:=zh fun (W:World) (hW:Below wU.heap.size wU W)=> by
  obtain ⟨F,L,E,hH⟩:=LG.out.stw.hist;exact zos (hH.below hW) LG.out.stw.llen o.v.toNat pn zno (by have:=HV.out;omega) Lj.out (by have:=J8.out;omega)
 unfold zv at It;simp only [show ((o.v.toNat:Nat):Int)=o.v by have:=HV.out;omega] at It
 have hb:=(Below.refl wU.heap.size wU).drew;have CI:x < wU.heap.size:=LG.out.chg.xlt;clear X3 X4 X5 F3 F4 F5 B3 B4 B5 hw GV Dv z0 z1 z2 z3 z4 z5 z6 z7 z8 y0 y1 y2 y3 y4 y5 y6 y7 y8 y9 y10 yf X2 E;refine rg (fun W=> Far x w4 W) (fun hS=> ?_) (hS.tr (.of hb))
 repeat refine tk ?_
 refine te 10 ?_;refine cl (It.out _ hb) ?_;rintro _ w6 ⟨r,rfl,ho,Bz⟩;have q:=zK.row zeQ ho;obtain ⟨ra,rc,rfl,Ah,-,Gd⟩:=q;simp only [List.length_map,List.length_range] at Ah ⊢;have AT:=hb.trans Bz;refine ⟨_,rfl,hS.tr (.of Bz),fun hS=> ?_⟩
 repeat (first | refine sk ?_ | refine tk ?_)
 refine rz ?_;have Fe:=zh (LG.out.below AT);have ed:=zh fun (W:World) (hW:Far x w6 W)=> Ah.keep fun b o e=> hW.block b (zK.lt ho b (by rw [e];rfl)).2 fun e9=> by have h9:wU.heap.size≤b:=(Gd b o e).1;omega
 have eo:=zh (show zno≤1000 by have:=J8.out;omega)
 clear Ah Gd AT hb Bz ho hS CI It S O LG;go_wp2_with fail
 go_loopw [79] (fun u wr=> ∃(i:Nat) (pv:Value) (pl:List Ph),i≤zno∧u= .int .i64 (i:Int)∧EvC w0 wr p h a cf st nb k Q x h2 {Chg.nil st.c sq with c:=c2,id:=nid,vol:=nid,puts:=zcG st.l o.v.toNat pn i} pv pl∧Far x w6 wr∧∀j,pv.ownBlock=some j→w6.heap.size≤j) (fun u _=> zno - (intOf u).toNat)
 case atStart=> exact ⟨0, .slice none 0 0, [],Nat.zero_le _,rfl,Fe.out,zD.refl _ _,fun j e=> by cases e⟩
 case round=>
  obtain ⟨i,pv,pl,hi,rfl,hE,hS,Aj⟩:=hrel;have Fe:=zh hE
  by_cases hlt:i < zno
  ·have eu:=eo.out;have i0:(0:Int)≤(i:Int):=by omega
   have i1:(i:Int) < (zno:Int):=by omega
   obtain ⟨wa,Ld⟩:∃wa,atL st.l o.v.toNat i pn=wa:=⟨_,rfl⟩;have HI:=zh (zn (zlF st.l o.v.toNat pn i) (zn hlt (znk st.l o.v.toNat pn i)));rw [Ld] at HI;obtain ⟨rb,ro,e,hc⟩:=(ed.out wr hS).2 i wa (by rw [List.getElem?_map,List.getElem?_range hlt,← Ld];rfl)
   subst e;have c0:=hc 0 _ rfl;simp only [Nat.mul_one,Nat.add_zero] at c0;unfold atV at c0;clear hE hc Ld ed
   by_cases h0:wa=0
   ·have i2:((wa:Int) !=0)=false:=by rw [h0];rfl
    have hq:zcG st.l o.v.toNat pn (i+1)=zcG st.l o.v.toNat pn i:=by rw [HI.out.1,if_neg (by omega),List.append_nil]
    have HF:=zh (zn (hq ▸ Fe.out) (zn hS Aj));clear hq h0 hS Aj;go_wp2_with fail
    go_roundw
    case rel=> exact ⟨i+1,pv,pl,HI.out.2.1,by go_num,HF.out⟩
    case measure=> simp [intOf];omega
   ·have i2:((wa:Int) !=0)=true:=by simp;omega
    have hq:zcG st.l o.v.toNat pn (i+1)=zcG st.l o.v.toNat pn i++ [⟨i,wa,none⟩]:=by rw [HI.out.1,if_pos h0]
    have q:=Fe.out.push ⟨i,wa,none⟩ (fun z hz=> by cases hz) (by have:=HI.out.2.2;show (zcG st.l o.v.toNat pn i).length≤1000;omega) hS Aj
    obtain ⟨v',w',hr,⟨⟨a',n',c9,rfl⟩,pa,pn9,pc,rfl⟩,⟨⟨k1,k2⟩,c11,k3⟩,X6,hF,hn⟩:=q;have HF:=zh (zn (show EvC w0 (w'.setCell ⟨x,11,none⟩ (.slice a' n' c9)) p h a cf st nb k Q x h2 {Chg.nil st.c sq with c:=c2,id:=nid,vol:=nid,puts:=zcG st.l o.v.toNat pn (i+1)} (.slice a' n' c9) (pl++ [⟨i,wa,none⟩]) by rw [hq];exact X6) (zn hF hn))
    unfold zaT dV at hr k3;clear hq h0 hS Aj hF hn X6 Fe
    go_wp2_with (at_builtin;refine za rfl _ _ _ rfl hr ?_)
    go_roundw
    case rel=> exact ⟨i+1,_,_,HI.out.2.1,by go_num,HF.out⟩
    case measure=> simp [intOf];omega
  ·have i1:¬(i:Int) < (zno:Int):=by omega
   obtain rfl:i=zno:=by omega
   have CH:=Br.out.2.2 (by first | rfl | trivial) (by first | rfl | trivial)
   have HE:=zh CH;clear hE hS Aj CH;go_wp2_with fail;go_ret;exact ⟨by rw [HE.out];rfl,Fe.out.bel,fun e=> ⟨h2,pv,pl,by rw [HE.out] at e ⊢;exact Ba.elim (fun q=> q.1 ▸ Fe.out.chg) fun q=> absurd e q.2⟩⟩):p:=h
theorem zg1 {w0 w:World} {p:Nat} {h:Ch} {a:StA} {cf:Cfg} {st:PS} {nb k:Nat} {Q:Nat→Prop} {x sq:Nat} {o:PO} {da:Option Addr} {dn dc:Nat} {ma:Option Addr} {mn mc:Nat} (H:EvC w0 w p h a cf st nb k Q x h (Chg.nil st.c sq) (.slice none 0 0) []) (AE:sq=st.seq+1) (hO:OpM w o da dn ma mn) (hv:1≤o.v∧o.v≤65535):
 Calls Tryz.prog 62 #[.pointer (some ⟨p,0,none⟩), .pointer (some ⟨x,0,none⟩), .agg (opA o da dn dc ma mn mc)] w (EvE w0 Q x (zcO st.c st.l sq o)):=by
 have DX:=zh H.st.inv.ct;obtain ⟨⟨pe,pn⟩,hp⟩:∃r,zav st.c o=r:=⟨_,rfl⟩;obtain ⟨⟨zeo,zno⟩,hz⟩:∃r,st.c.sizeAt o.v pn st.seq=r:=⟨_,rfl⟩;obtain ⟨⟨ec,cn,nid⟩,hc⟩:∃r,st.c.create zno sq=r:=⟨_,rfl⟩;have Br:=zh (zkF st.c st.l sq o hp (by rw [AE];exact hz) hc)
 have HV:=zh (zn hv hO.pt);have OE:=zh (fun (e:zeo=0)=> Ct.sizeAt_fit H.st.inv.ct (v:=o.v) (t:=pn) (last:=st.seq) (n:=zno) (by rw [hz,e]))
 have Lj:=zh (show pn < 18446744073709551616 from by have:=zm0 H.st.inv.ct H.st.inv.seq hO.pt hp;exact this)
 obtain ⟨w1,Ab,H1,S,O,E,hb⟩:=ev0 H hO dc mc;have FC:=zh fun (W:World) (hW:Below w1.heap.size w1 W)=> zm2 (o:=o) (da:=da) (dn:=dn) (dc:=dc) (ma:=ma) (mn:=mn) (mc:=mc) (H1.out.1.stw.below hW) HV.out.2;have J3:=zh fun (W:World) (hW:Below w1.heap.size w1 W)=> zbz (H1.out.1.stw.below hW).cat DX.out o.v pn st.seq;rw [hp] at FC;rw [hz] at J3;have tl:=Bx.mk @caM;have tl2:=Bx.mk @maR;unfold opA zcH zb8 Ch.val Ch.cells at *;clear H AE hO hv hp hz;have q:=O w1 (zD.refl _ _);have o0:w1.cell? ⟨w.heap.size,0,none⟩=some (.int .i64 o.k):=(q 0).1;have o1:w1.cell? ⟨w.heap.size,1,none⟩=some (.int .i64 o.v):=(q 1).1;have o2:w1.cell? ⟨w.heap.size,2,none⟩=some (.int .i64 o.i):=(q 2).1;have o3:w1.cell? ⟨w.heap.size,3,none⟩=some (.int .i64 o.b):=(q 3).1;have o4:w1.cell? ⟨w.heap.size,4,none⟩=some (.int .i64 o.n):=(q 4).1;have o5:w1.cell? ⟨w.heap.size,5,none⟩=some (.int .u64 o.pt):=(q 5).1;have o6:w1.cell? ⟨w.heap.size,6,none⟩=some (.slice da dn dc):=(q 6).1;have o7:w1.cell? ⟨w.heap.size,7,none⟩=some (.slice ma mn mc):=(q 7).1
 go_in
 go_upto_region 1 with fail;rw [← Ab];clear Ab q;go_wp2_with fail;refine (FC.out w1 zr).mono ?_;rintro _ w2 ⟨rfl,Ae⟩;clear FC hb o0 o1 o2 o3 o4 o5 o6 o7
 by_cases Fa:pe=0
 ·subst Fa;have hb:=(Below.refl w2.heap.size w2).drew;go_wp2_with fail;refine rg (fun W=> Far x w1 W) (fun hS=> ?_) (.of (Ae.trans (hb.mono Ae.size)))
  repeat refine tk ?_
  refine cl (J3.out _ (Ae.trans (hb.mono Ae.size))) ?_;rintro _ w5 ⟨rfl,Bz⟩;have Ag:=Ae.trans ((hb.trans Bz).mono Ae.size);refine ⟨_,rfl, .of Ag,fun hS=> ?_⟩
  repeat refine tk ?_
  refine rz ?_;clear hS Bz hb Ae J3;replace S:=fun W (hW:Far x w5 W)=> S W ((Far.of Ag).tr hW);replace O:=fun W (hW:Far x w5 W)=> O W ((Far.of Ag).tr hW);have q:=ev1 H1 Ag;clear H1 E Ag;obtain ⟨w1,rfl,H1,E,hb⟩:=q;unfold zb8 at E
  by_cases Ju:zeo=0
  ·have J8:=zh (OE.out Ju);have HC:=zh fun (W:World) (hW:Below w1.heap.size w1 W) (R:Nat→Prop) (hR:∀j,R j→QX Q x j∨w1.heap.size≤j) (B0:∀j,R j→j < W.heap.size)=> zgd (H1.out.1.chg.cat.outs (zD.of_below hW) hR) DX.out B0 zno sq J8.out;simp only [Chg.nil] at HC;rw [hc] at HC;unfold Ch.val Ch.cells at HC;simp only at HC;have sW:=zh fun W (h:Below w1.heap.size w1 W)=> zn (Far.of h:Far x w1 W) (E W h 14).1;subst Ju;clear OE hc;go_wp2_with fail
   go_cut [11,12,13] from 43 to 56 (fun u v v2 w4=> v= .int .i64 (nid:Int)∧CutC Q x w1 ec cn u v2 w4)
   case first=>
        refine rg (fun W=> Far x w1 W∧W.cell? ⟨x,14,none⟩=some (.int .u64 (sq:Int))) (fun hS=> ?_) (sW.out _ hb)
        repeat refine tk ?_
        refine ca 14 (HC.out _ hb (QX Q x) (fun _=> .inl) (cw H1.out.1 · · hb)) ?_ ?_
        ·exact caA
        ·exact caB
   case rest=>
        clear HC sW hb;rename World=> w4;obtain ⟨rfl,cb,h2,c2,rfl,rfl,Ar,AN,Ek,X2,Ba⟩:=hcut;exact caF
  ·have CH:=Br.out.2.1 (by first | rfl | trivial) Ju
   have i1:((zeo:Int) !=0)=true:=by rw [bne_iff_ne];omega
   clear S O E;go_wp2_with fail;go_ret;exact ⟨by rw [CH];rfl,H1.out.1.bel,fun e=> absurd (by rw [CH] at e;exact e) Ju⟩
 ·have CH:=Br.out.1 Fa;have i1:((pe:Int) !=0)=true:=by rw [bne_iff_ne];omega
  clear S O E;go_wp2_with fail;go_ret;exact ⟨by rw [CH];rfl,H1.out.1.bel.trans (Ae.mono H1.out.1.bel.size),fun e=> absurd (by rw [CH] at e;exact e) Fa⟩
end
section
open Go.RowKit
set_option maxRecDepth 100000
set_option maxHeartbeats 16000000
set_option linter.unusedSectionVars false
theorem zlB (l:List En) (v s now size n:Nat):zbw l v s now size (n+1)=zbw l v s now size n++if zeN l v s size n≠atL l v n now then [⟨n,zeN l v s size n,none⟩] else []:=by
 unfold zbw;rw [List.range_succ,List.filter_append,List.map_append]
 by_cases h:zeN l v s size n=atL l v n now <;> simp [h]
theorem znc (l:List En) (v s now size n:Nat):(zbw l v s now size n).length≤n:=by
 unfold zbw;rw [List.length_map];exact zs (List.length_filter_le _ _) (by rw [List.length_range];exact zl)
theorem ziO (c:Ct) (l:List En) (s:Nat) (o:PO) {zeo zno:Nat} (hz:c.sizeAt o.v o.pt.toNat (s - 1)=(zeo,zno)):
 (zeo≠0→zcW c l s o=(zeo,Chg.nil c s))∧(zeo=0→∃y,c.find o.v=some y∧zcW c l s o=(rzE c o.v s zno,{Chg.nil c s with c:=rzC c o.v s zno,vol:=o.v.toNat,puts:=zbw l o.v.toNat o.pt.toNat (s - 1) zno (max zno (zas y.sizes))})):=by
 unfold zcW;simp only [hz];refine ⟨fun h=> by rw [if_pos h],fun h=> ?_⟩
 rw [if_neg (by omega)]
 unfold rzE rzC
 cases hf:c.find o.v with
 | none=> unfold Ct.sizeAt at hz;rw [hf] at hz;cases hz;cases h
 | some y=> exact ⟨y,rfl,rfl⟩
attribute [local simp] Below.refl
theorem roE {p:Prop} (h:p:=by
 have hq:zbw st.l o.v.toNat o.pt.toNat st.seq zno (i+1)=zbw st.l o.v.toNat o.pt.toNat st.seq zno i:=by rw [HI.out.1,RE.out,if_neg (by omega),List.append_nil]
 have HF:=zh (zn (hq ▸ Fe.out) (zn hS Aj));clear hq h0 hS Aj;go_wp2_with fail
 go_roundw
 case rel=> exact ⟨i+1,pv,pl,HI.out.2.1,by go_num,HF.out⟩
 case measure=> simp [intOf];omega):p:=h
theorem roN {p:Prop} (h:p:=by
 have hq:zbw st.l o.v.toNat o.pt.toNat st.seq zno (i+1)=zbw st.l o.v.toNat o.pt.toNat st.seq zno i++ [⟨i,wa,none⟩]:=by rw [HI.out.1,RE.out,if_pos h0]
 have q:=Fe.out.push ⟨i,wa,none⟩ (fun z hz=> by cases hz) (by have:=HI.out.2.2.1;have:=HI.out.2.2.2;show (zbw st.l o.v.toNat o.pt.toNat st.seq zno i).length≤1000;omega) hS Aj
 obtain ⟨v',w',hr,⟨⟨a',n',c9,rfl⟩,pa,pn9,pc,rfl⟩,⟨⟨k1,k2⟩,c11,k3⟩,X6,hF,hn⟩:=q;have HF:=zh (zn (show EvC w0 (w'.setCell ⟨x,11,none⟩ (.slice a' n' c9)) p h a cf st nb k Q x h2 {Chg.nil st.c sq with c:=c2,vol:=o.v.toNat,puts:=zbw st.l o.v.toNat o.pt.toNat st.seq zno (i+1)} (.slice a' n' c9) (pl++ [⟨i,wa,none⟩]) by rw [hq];exact X6) (zn hF hn))
 unfold zaT dV at hr k3
 try rw [Ld] at hr k3
 clear hq h0 hS Aj hF hn X6 Fe
 go_wp2_with (at_builtin;refine za rfl _ _ _ rfl hr ?_)
 go_roundw
 case rel=> exact ⟨i+1,_,_,HI.out.2.1,by go_num,HF.out⟩
 case measure=> simp [intOf];omega):p:=h
theorem roR {p:Prop} (h:p:=by
 have Ag:=(Below.refl w4.heap.size w4).drew;have O7:=Cz.out.trans (Ag.mono Cz.out.size);have FG:=X2.below Ag;clear X2;go_wp2_with fail;refine rg (fun W=> Far x w4 W) (fun hS=> ?_) (.of Ag)
 revert hS Ag O7 FG
 generalize w4.drew=wd;intro Ag O7 FG hS;clear Ag
 repeat refine tk ?_
 refine su ?_;intro wS hw;have q:=ChM.lay9 hw (H1.out.1.chg.below O7) FG;obtain ⟨X3,F3,B3,E3⟩:=q;clear hw;simp only [zb8,Chg.nil] at E3;refine ⟨hS.tr F3,fun hS=> ?_⟩
 repeat refine tk ?_
 refine su ?_;intro wT hw;rw [show o.v=((o.v.toNat:Nat):Int) by have:=HV.out;omega] at hw
 have q:=ChM.lay10 hw X3;obtain ⟨X4,F4,B4⟩:=q;clear hw;refine ⟨hS.tr F4,fun hS=> ?_⟩;refine rz ?_;have LG:=zh (show EvC w0 wT p h a cf st nb k Q x h2 {Chg.nil st.c sq with c:=c2,vol:=o.v.toNat,puts:=zbw st.l o.v.toNat o.pt.toNat st.seq zno 0} (.slice none 0 0) [] from ⟨H1.out.1.st,((H1.out.1.bel.trans (O7.mono H1.out.1.bel.size)).trans B3).trans B4,X4⟩)
 have el:=zh hS;obtain ⟨many,NK⟩:∃many,many=max zno now:=⟨_,rfl⟩;have Tx:max (zno:Int) (now:Int)=(many:Int):=by omega
 have UC:=zh Tx;have qZ:=zh (show many≤1000 by have:=vh.out;have:=J8.out.2;omega)
 rw [← NK] at LI;clear X3 X4 F3 F4 B3 B4 E3 hS O7 FG R4 dP;go_wp2_with fail;clear Tx NK
 go_loopw [72] (fun u wr=> ∃(i:Nat) (pv:Value) (pl:List Ph),i≤many∧u= .int .i64 (i:Int)∧EvC w0 wr p h a cf st nb k Q x h2 {Chg.nil st.c sq with c:=c2,vol:=o.v.toNat,puts:=zbw st.l o.v.toNat o.pt.toNat st.seq zno i} pv pl∧Far x w4 wr∧∀j,pv.ownBlock=some j→w4.heap.size≤j) (fun u _=> many - (intOf u).toNat)
 case atStart=> exact ⟨0, .slice none 0 0, [],Nat.zero_le _,rfl,LG.out,el.out,fun j e=> by cases e⟩
 case round=>
  obtain ⟨i,pv,pl,hi,rfl,hE,hS,Aj⟩:=hrel
  by_cases hlt:i < many
  ·have QV:=qZ.out;have Bb:(i:Int) < max (zno:Int) (now:Int):=by rw [UC.out];omega
   have FS:IntKind.i64.wrap ((i:Int)+1)=((i+1:Nat):Int):=by rw [zw _ (by omega)];omega
   obtain ⟨a1,Kh⟩:∃a1,atL st.l o.v.toNat i st.seq=a1:=⟨_,rfl⟩;have CX:=zlB st.l o.v.toNat o.pt.toNat st.seq zno i;rw [Kh] at CX;have HI:=zh (zn CX (zn hlt (zn (znc st.l o.v.toNat o.pt.toNat st.seq zno i) (show i≤1000 by omega))))
   obtain ⟨F,L,E,hH⟩:=hE.stw.hist;have Cj:=zh fun (t:Nat) (ht:t < 18446744073709551616) (W:World) (hW:Below wr.heap.size wr W)=> zf6 (hH.below hW) hE.stw.llen o.v.toNat i t (by have:=HV.out;omega) (by omega) ht
   have AE:=hE.stw.inv.seq;simp only [show ((o.v.toNat:Nat):Int)=o.v by have:=HV.out;omega] at Cj
   unfold zv at Cj;have dR:=zh (Cj.out st.seq AE);rw [Kh] at dR;have HE:=zh hE;have hb:=(Below.refl wr.heap.size wr).drew;clear hH hE CX Kh AE QV;go_wp2_with fail;refine rg (fun W=> Far x w4 W) (fun hS=> ?_) (hS.tr (.of hb))
   repeat refine tk ?_
   refine cl (dR.out _ hb) ?_;rintro _ w5 ⟨rfl,Bz⟩;have Ag:=hb.trans Bz;refine ⟨_,rfl,hS.tr (.of Bz),fun hS=> ?_⟩
   repeat (first | refine sk ?_ | refine tk ?_)
   refine rz ?_;clear Bz hb
   by_cases G8:i < zno
   ·have Mz:(i:Int) < (zno:Int):=by omega
    obtain ⟨wa,Ld⟩:∃wa,atL st.l o.v.toNat i o.pt.toNat=wa:=⟨_,rfl⟩;have RE:=zh (show zeN st.l o.v.toNat o.pt.toNat zno i=wa by unfold zeN;rw [if_pos G8,Ld])
    have EH:=zh (Cj.out o.pt.toNat (by have:=HV.out;omega))
    rw [Ld] at EH;simp only [show ((o.pt.toNat:Nat):Int)=o.pt by have:=HV.out;omega] at EH
    have hb:=(Below.refl w5.heap.size w5).drew;clear Ld Cj dR;go_wp2_with fail;refine rg (fun W=> Far x w4 W) (fun hS=> ?_) (hS.tr (.of hb))
    repeat refine tk ?_
    refine cl (EH.out _ (Ag.trans (hb.mono Ag.size))) ?_;rintro _ w6 ⟨rfl,Bz⟩;have Fe:=zh (HE.out.below (Ag.trans ((hb.trans Bz).mono Ag.size)));refine ⟨_,rfl,hS.tr (.of Bz),fun hS=> ?_⟩
    repeat refine tk ?_
    refine rz ?_;clear Bz hb Ag EH HE
    by_cases h0:wa=a1
    ·have i0:((wa:Int) !=(a1:Int))=false:=by rw [← h0];simp
     exact roE
    ·have i0:((wa:Int) !=(a1:Int))=true:=by simp;omega
     exact roN
   ·have Mz:¬(i:Int) < (zno:Int):=by omega
    obtain ⟨wa,Ld⟩:∃wa,wa=0:=⟨_,rfl⟩;have RE:=zh (show zeN st.l o.v.toNat o.pt.toNat zno i=wa by unfold zeN;rw [if_neg G8,Ld])
    have Fe:=zh (HE.out.below Ag);clear Ag Cj dR HE
    by_cases h0:wa=a1
    ·have i0:((0:Int) !=(a1:Int))=false:=by rw [← h0,Ld];simp
     clear Ld;exact roE
    ·have i0:((0:Int) !=(a1:Int))=true:=by simp;omega
     exact roN
  ·have Bb:¬(i:Int) < max (zno:Int) (now:Int):=by rw [UC.out];omega
   obtain rfl:i=many:=by omega
   have HE:=zh hE;clear hE hS Aj S O E;go_wp2_with fail;go_ret;exact ⟨by rw [LI.out];rfl,HE.out.bel,fun e=> ⟨h2,pv,pl,by rw [LI.out] at e ⊢;exact Ba.elim (fun q=> q.1 ▸ HE.out.chg) fun q=> absurd e q.2⟩⟩):p:=h
theorem znd {w0 w:World} {p:Nat} {h:Ch} {a:StA} {cf:Cfg} {st:PS} {nb k:Nat} {Q:Nat→Prop} {x sq:Nat} {o:PO} {da:Option Addr} {dn dc:Nat} {ma:Option Addr} {mn mc:Nat} (H:EvC w0 w p h a cf st nb k Q x h (Chg.nil st.c sq) (.slice none 0 0) []) (AE:sq=st.seq+1) (hO:OpM w o da dn ma mn) (hv:1≤o.v∧o.v≤65535):
 Calls Tryz.prog 60 #[.pointer (some ⟨p,0,none⟩), .pointer (some ⟨x,0,none⟩), .agg (opA o da dn dc ma mn mc)] w (EvE w0 Q x (zcW st.c st.l sq o)):=by
 have HV:=zh (zn hv (zn hO.pt AE));obtain ⟨⟨zeo,zno⟩,hz⟩:∃r,st.c.sizeAt o.v o.pt.toNat st.seq=r:=⟨_,rfl⟩;have Br:=zh (ziO st.c st.l sq o (zeo:=zeo) (zno:=zno) (by rw [AE];exact hz))
 have OE:=zh (fun (e:zeo=0)=> Ct.sizeAt_fit H.st.inv.ct (v:=o.v) (t:=o.pt.toNat) (last:=st.seq) (n:=zno) (by rw [hz,e]))
 have DX:=zh H.st.inv.ct;obtain ⟨w1,Ab,H1,S,O,E,hb⟩:=ev0 H hO dc mc;have J3:=zh fun (W:World) (hW:Below w1.heap.size w1 W)=> zbz (H1.out.1.stw.below hW).cat DX.out o.v o.pt.toNat st.seq;rw [hz] at J3;simp only [show ((o.pt.toNat:Nat):Int)=o.pt by have:=hO.pt;omega] at J3
 rw [show sq - 1=st.seq by omega] at Br
 have tl:=Bx.mk @caM;have tl2:=Bx.mk @roR;unfold opA zcH zb8 Ch.val Ch.cells at *;clear H AE hO hv hz
 go_in
 go_upto_region 1 with fail;rw [← Ab];clear Ab;go_wp2_with fail;refine rg (fun W=> Far x w1 W) (fun hS=> ?_) (.of hb)
 repeat refine tk ?_
 refine cl (J3.out _ hb) ?_;rintro _ w3 ⟨rfl,Bz⟩;have Am:=hb.trans Bz;refine ⟨_,rfl, .of Am,fun hS=> ?_⟩
 repeat refine tk ?_
 refine rz ?_;clear hS Bz hb J3
 by_cases Ju:zeo=0
 ·obtain ⟨y,hy,CH⟩:=Br.out.2 Ju;have Mv:zo6 (st.c.find o.v)=0:=by rw [hy];rfl
  have AR:st.c.size o.v=zas y.sizes:=by unfold Ct.size;rw [hy]
  have vh:=zh (zbR (DX.out.vols y (za0 hy).1).sizes);have J8:=zh (OE.out Ju);have Ln:=zh fun (W:World) (hW:Below w1.heap.size w1 W)=> zcI (H1.out.1.stw.below hW).cat DX.out o.v;rw [AR,Mv] at Ln;unfold Ch.val Ch.cells at Ln;have LI:=zh CH;generalize zas y.sizes=now at *;have hb:=(Below.refl w3.heap.size w3).drew;clear hy Mv AR CH Br OE;subst Ju;go_wp2_with fail;refine rg (fun W=> Far x w1 W) (fun hS=> ?_) (.of (Am.trans (hb.mono Am.size)))
  repeat refine tk ?_
  refine cl (Ln.out _ (Am.trans (hb.mono Am.size))) ?_;rintro _ w5 ⟨rfl,Bz⟩;have Ag:=Am.trans ((hb.trans Bz).mono Am.size);refine ⟨_,rfl, .of Ag,fun hS=> ?_⟩
  repeat refine tk ?_
  refine rz ?_;clear hS Bz hb Am Ln;replace S:=fun W (hW:Far x w5 W)=> S W ((Far.of Ag).tr hW);replace O:=fun W (hW:Far x w5 W)=> O W ((Far.of Ag).tr hW);have q:=ev1 H1 Ag;clear H1 E Ag;obtain ⟨w1,rfl,H1,E,hb⟩:=q;unfold zb8 at E;have HC:=zh fun (W:World) (hW:Below w1.heap.size w1 W) (R:Nat→Prop) (hR:∀j,R j→QX Q x j∨w1.heap.size≤j) (B0:∀j,R j→j < W.heap.size)=> zgt (H1.out.1.chg.cat.outs (zD.of_below hW) hR) DX.out B0 o.v zno sq J8.out;obtain ⟨ec,CG⟩:∃ec,rzE st.c o.v sq zno=ec:=⟨_,rfl⟩;obtain ⟨cn,DR⟩:∃cn,rzC st.c o.v sq zno=cn:=⟨_,rfl⟩;simp only [Chg.nil] at HC;rw [CG,DR] at HC LI;unfold Ch.val Ch.cells at HC;have sW:=zh fun W (h:Below w1.heap.size w1 W)=> zn (Far.of h:Far x w1 W) (E W h 14).1;clear CG DR;go_upto_region 5 with fail
  go_cut [11,12] from 45 to 59 (CutC Q x w1 ec cn)
  case first=>
   refine rg (fun W=> Far x w1 W∧W.cell? ⟨x,14,none⟩=some (.int .u64 (sq:Int))) (fun hS=> ?_) (sW.out _ hb)
   repeat refine tk ?_
   refine ca 15 (HC.out _ hb (QX Q x) (fun _=> .inl) (cw H1.out.1 · · hb)) ?_ ?_
   ·exact caA
   ·exact caB
  case rest=>
   clear HC sW hb;rename World=> w4;obtain ⟨cb,h2,c2,rfl,rfl,Ar,AN,Ek,X2,Ba⟩:=hcut;exact caF
 ·have CH:=Br.out.1 Ju;have i1:((zeo:Int) !=0)=true:=by rw [bne_iff_ne];omega
  clear S O E;go_wp2_with fail;go_ret;exact ⟨by rw [CH];rfl,H1.out.1.bel.trans (Am.mono H1.out.1.bel.size),fun e=> absurd (by rw [CH] at e;exact e) Ju⟩
end
section
open Go.RowKit
def wrC (c:Ct) (l:List En) (s:Nat) (o:PO):Chg:=if o.k=5 then {Chg.nil c s with vol:=o.v.toNat,puts:=zaL l o.v.toNat (s - 1) o.b.toNat o.n.toNat} else {Chg.nil c s with vol:=o.v.toNat,puts:= [⟨o.b.toNat,0,some (zdy o.d)⟩]}
theorem zeu (c:Ct) (l:List En) (s:Nat) (o:PO) (hb:0≤o.b) (m:Int) (hm:0≤m) (Vp:o.k=5→m=o.n) (aq:o.k≠5→m=1):((zaD c o.v o.b m).2≠0∧zaz c l s o=((zaD c o.v o.b m).2,Chg.nil c s))∨((zaD c o.v o.b m).2=0∧zaz c l s o=(0,wrC c l s o)):=by
 unfold zaz zaD wrC
 cases c.find o.v with
 | none=> exact .inl ⟨by simp,rfl⟩
 | some y=>
   simp only
   by_cases h5:o.k=5
   ·have h6:=Vp h5;rw [if_pos h5,if_pos h5]
    by_cases h:o.b < 0∨(zas y.sizes:Int) - o.b < m
    ·rw [if_pos h,if_pos (by omega)];exact .inl ⟨by simp,rfl⟩
    ·rw [if_neg h,if_neg (by omega)];exact .inr ⟨rfl,rfl⟩
   ·have h6:=aq h5;rw [if_neg h5,if_neg h5]
    by_cases h:o.b < 0∨(zas y.sizes:Int) - o.b < m
    ·rw [if_pos h,if_pos (by omega)];exact .inl ⟨by simp,rfl⟩
    ·rw [if_neg h,if_neg (by omega)];exact .inr ⟨rfl,rfl⟩
theorem zgA {w:World} (o:Obj) {a:Addr} (v:Value) (h:a.block < w.heap.size):(w.alloc o).setCell a v=(w.setCell a v).alloc o:=by
 unfold World.alloc World.setCell;simp only
 congr 1
 apply Array.ext_getElem?
 intro i;rw [Array.getElem?_modify,Array.getElem?_push,Array.getElem?_push,Array.getElem?_modify,Array.size_modify]
 by_cases hi:a.block=i
 ·subst hi;rw [if_pos rfl,if_pos rfl,if_neg (by omega),if_neg (by omega)]
 ·rw [if_neg hi,if_neg hi]
theorem zbA {w:World} {b:Addr} {u:Value} (o:Obj) (h:w.cell? b=some u):(w.alloc o).cell? b=some u:=by
 rcases Nat.lt_or_ge b.block w.heap.size with h1 | h1
 ·exact (World.cell?_alloc_lt _ _ _ h1).trans h
 ·simp [World.cell?,Array.getElem?_eq_none h1] at h
theorem zfk {w:World} {b:Addr} {u:Value} (o:Obj) (h:w.cell? b=some u) (hf:w.frozen? b=false):(w.alloc o).frozen? b=false:=by
 rcases Nat.lt_or_ge b.block w.heap.size with h1 | h1
 ·simp only [World.frozen?,World.alloc,Array.getElem?_push_lt h1] at *;rw [Array.getElem?_eq_getElem h1] at hf;exact hf
 ·simp [World.cell?,Array.getElem?_eq_none h1] at h
theorem zpr {w:World} {x B m i j k:Nat} {u1 u2 u3 v:Value} (h:w.cell? ⟨B,i,none⟩=some u1∧w.cell? ⟨B,j,none⟩=some u2∧w.cell? ⟨B,k,none⟩=some u3) (hn:x≠B):(w.setCell ⟨x,m,none⟩ v).cell? ⟨B,i,none⟩=some u1∧(w.setCell ⟨x,m,none⟩ v).cell? ⟨B,j,none⟩=some u2∧(w.setCell ⟨x,m,none⟩ v).cell? ⟨B,k,none⟩=some u3:=⟨zam h.1 hn,zam h.2.1 hn,zam h.2.2 hn⟩
theorem zpK {w:World} {B i j k:Nat} {u1 u2 u3:Value} {o:Obj} (h:w.cell? ⟨B,i,none⟩=some u1∧w.cell? ⟨B,j,none⟩=some u2∧w.cell? ⟨B,k,none⟩=some u3):(w.alloc o).cell? ⟨B,i,none⟩=some u1∧(w.alloc o).cell? ⟨B,j,none⟩=some u2∧(w.alloc o).cell? ⟨B,k,none⟩=some u3:=⟨zbA o h.1,zbA o h.2.1,zbA o h.2.2⟩
theorem ChM.lit {Q:Nat→Prop} {B:Nat} {w:World} {x:Nat} {h:Ch} {g:Chg} (X:ChM Q B w x h g (.slice none 0 0) []) (hQ:∀j,Q j→j < w.heap.size) (hB:B≤w.heap.size) (y:Ph) (hd:∀z,y.d=some z→Bs w (some ⟨z.1,0,none⟩) 64 z.2∧¬(Q z.1∨z.1=x)):
 ChM Q B ((w.alloc (.cells (zaT y).toArray 91)).setCell ⟨x,11,none⟩ (.slice (some ⟨w.heap.size,0,none⟩) ((1:Nat)) 1)) x h {g with puts:= [y.pu]} (.slice (some ⟨w.heap.size,0,none⟩) 1 1) [y]∧Below B w ((w.alloc (.cells (zaT y).toArray 91)).setCell ⟨x,11,none⟩ (.slice (some ⟨w.heap.size,0,none⟩) 1 1)):=by
 have CI:=X.xlt;have Aa:Below w.heap.size w (w.alloc (.cells (zaT y).toArray 91)):=zr.alloc zl _;have hg:=zq (w.alloc (.cells (zaT y).toArray 91)) ⟨x,11,none⟩ (.slice (some ⟨w.heap.size,0,none⟩) 1 1);have AH:=(Aa.block x CI).trans X.box;have e1:=heap_setCell_same _ x 11 _ _ (.slice (some ⟨w.heap.size,0,none⟩) 1 1) AH;have B6:=heap_alloc_new w (.cells (zaT y).toArray 91);have AR:=World.alloc_size w (.cells (zaT y).toArray 91);have Mu:∀j,j < w.heap.size→j≠x→((w.alloc (.cells (zaT y).toArray 91)).setCell ⟨x,11,none⟩ (.slice (some ⟨w.heap.size,0,none⟩) 1 1)).heap[j]? =w.heap[j]? :=fun j hj hn=> (hg.block j (by omega) fun e=> hn (by simpa using e)).trans (Aa.block j hj)
 refine ⟨⟨e1, X.lo, ?_, ?_, fun e => by have e:w.heap.size=x:=by simpa [Value.ownBlock] using e
                                        omega,rfl,fun z hz u hu=> ?_⟩,(Aa.mono hB).setCell (p:=⟨x,11,none⟩) X.lo _⟩
 ·refine X.cat.outs (Q':=fun j=> Q j∨j=x∨(Value.slice (some ⟨w.heap.size,0,none⟩) 1 1).ownBlock=some j) (((zD.of_below Aa).trans (zD.turn (D:=fun j=> j=x) hg rfl) fun _ h=> .inl h).more fun j hj=> .inr (.inl hj)) fun j hj=> ?_;rcases hj with hj | hj | hj
  ·exact .inl (.inl hj)
  ·exact .inl (.inr (.inl hj))
  ·have hj:w.heap.size=j:=by simpa [Value.ownBlock] using hj
   exact .inr (by omega)
 ·refine ⟨by simp [zB,zaT], .inr ⟨w.heap.size,1,(zaT y).toArray,rfl,hB, ?_,zl,by decide,by simp [zaT],by simp [zB,zaT]⟩⟩
  exact (hg.block w.heap.size (by omega) fun e => by have e:w.heap.size=x:=by simpa using e
                                                     omega).trans B6
 ·simp only [List.mem_singleton] at hz;subst hz;obtain ⟨h1,h2⟩:=hd u hu;obtain ⟨b,o,c,e,-,-,F5⟩:=Bs.cell h1 0 (by omega)
  cases e
  refine ⟨Bs.heap h1 (Mu u.1 F5 fun e=> h2 (.inr e)),fun hq=> ?_⟩;rcases hq with hq | hq | hq
  ·exact h2 (.inl hq)
  ·exact h2 (.inr hq)
  ·have hq:w.heap.size=u.1:=by simpa [Value.ownBlock] using hq
   omega
theorem zlP {w0 w:World} {p:Nat} {h:Ch} {a:StA} {cf:Cfg} {st:PS} {nb k:Nat} {Q:Nat→Prop} {x sq:Nat} {o:PO} {da:Option Addr} {dn dc:Nat} {ma:Option Addr} {mn mc:Nat} (H:EvC w0 w p h a cf st nb k Q x h (Chg.nil st.c sq) (.slice none 0 0) []) (AE:sq=st.seq+1) (hO:OpM w o da dn ma mn) (hv:1≤o.v∧o.v≤65535) (hb:0≤o.b∧o.b≤31) (hk:o.k=5∧1≤o.n∧o.n≤32):
 Calls Tryz.prog 55 #[.pointer (some ⟨p,0,none⟩), .pointer (some ⟨x,0,none⟩), .agg (opA o da dn dc ma mn mc)] w (EvE w0 Q x (zaz st.c st.l sq o)):=by
 have HV:=zh (zn hv (zn hb hk));have Ik:((o.v.toNat:Nat):Int)=o.v:=by omega
 have Bz:((o.b.toNat:Nat):Int)=o.b:=by omega
 have AW:=zeu st.c st.l sq o hb.1 o.n (by omega) (fun _=> rfl) (fun h=> absurd hk.1 h)
 obtain ⟨ew,Po⟩:∃ew,(zaD st.c o.v o.b o.n).2=ew:=⟨_,rfl⟩;obtain ⟨zwo,Uw⟩:∃zwo,(zaD st.c o.v o.b o.n).1=zwo:=⟨_,rfl⟩;rw [Po] at AW;have Br:=zh (show (ew≠0∧zaz st.c st.l sq o=(ew,Chg.nil st.c sq))∨(ew=0∧zaz st.c st.l sq o=(0,{Chg.nil st.c sq with vol:=o.v.toNat,puts:=zaL st.l o.v.toNat (sq - 1) o.b.toNat o.n.toNat})) from by unfold wrC at AW;rw [if_pos hk.1] at AW;exact AW)
 have HK:=zh hk.1;clear AW;obtain ⟨w1,Ab,hX,H1,Cm,HX,AU⟩:=evS H AE hO dc mc;have Al:=zh (fun (W:World) (hW:Below w1.heap.size w1 W)=> (H1.out.stw.below hW).reads);have CD:=zh (fun (W:World) (hW:Below w1.heap.size w1 W)=> (H1.out.chg.below hW).reads);obtain ⟨s0,s1,s2,s3,s4,s5,s6,s7,s8,s9,s10,s11,s12,s13,s14,s15,s16,s17,s18,s19,-⟩:=H1.out.stw.reads;obtain ⟨e0,e1,e2,e3,e4,e5,e6,e7,e8,e9,e10,e11,e12,e13,e14,-⟩:=H1.out.chg.reads;obtain ⟨o0,o1,o2,o3,o4,o5,o6,o7⟩:=rd8 (w:=w1) hX;clear H AE hO hX;have HW:=zh (fun (W:World) (hW:Below w1.heap.size w1 W)=> zen (H1.out.stw.below hW) o.v o.b o.n (by have:=HV.out;omega))
 rw [Po,Uw] at HW;replace o0:=show w1.cell? ⟨w.heap.size,0,none⟩=some (.int .i64 o.k) from o0;rw [HK.out] at o0;clear Po Uw hv hb hk s0 s1 s2 s3 s4 s5 s6 s7 s8 s9 s10 s11 s12 s13 s14 s15 s16 s17 s18 s19 e0 e1 e2 e3 e4 e5 e6 e7 e8 e9 e10 e11 e12 e13 e14;unfold opA at *;go_enter Tryz.func55,Tryz.ntmps55;go_upto_region 1 with fail;rw [← Ab];clear Ab;go_wp2_with fail;refine (HW.out _ zr).mono ?_;rintro r w3 ⟨rfl,Am⟩
 by_cases hz:ew=0
 ·rcases Br.out with ⟨h0,-⟩ | ⟨-,CH⟩
  ·exact absurd hz h0
  ·have LI:=zh CH;clear CH;subst hz;have HC:=zh (zn Am (H1.out.below Am));have o4:=cell_of_row w3 _ 4 _ _ _ (AU.out w3 Am);have o1:=cell_of_row w3 _ 1 _ _ _ (AU.out w3 Am);have o0:=show w3.cell? ⟨w.heap.size,0,none⟩=some (.int .i64 o.k) from cell_of_row w3 _ 0 _ _ _ (AU.out w3 Am);have o3:=cell_of_row w3 _ 3 _ _ _ (AU.out w3 Am);rw [HK.out] at o0;have HH:=zh (zhU HC.out.2 rfl o.v.toNat o.b.toNat (o.b.toNat+o.n.toNat) (by have:=HV.out;omega) (by have:=HV.out;omega) (by have:=HV.out;omega))
   simp only [Ik,Bz] at HH;have aU:IntKind.i64.wrap (o.b+o.n)=((o.b.toNat+o.n.toNat:Nat):Int):=by have:=HV.out;rw [zw _ (by omega)];omega
   generalize ((o.b.toNat+o.n.toNat:Nat):Int)=bn at *;clear Am;go_wp2_with fail;refine HH.out.mono ?_;rintro r w4 hE;unfold HolE at hE;obtain ⟨rfl,pv,pl,hE⟩:=hE;have JV:=zh hE;clear hE;go_wp2_with fail;go_ret;unfold EvE;rw [LI.out];refine ⟨rfl,JV.out.bel,fun _=> ⟨h,pv,pl, ?_⟩⟩;have h9:=JV.out.chg;have h8:sq - 1=st.seq:=by rw [HX.out.2.2.1];omega
   rw [h8];rw [show o.b.toNat+o.n.toNat - o.b.toNat=o.n.toNat by omega] at h9
   exact h9
 ·rcases Br.out with ⟨h0,CH⟩ | ⟨h0,-⟩
  ·have Q9:((ew:Int) !=0)=true:=by simp;omega
   have HB:=zh (H1.out.bel.trans (Am.mono H1.out.bel.size));clear Am;go_wp2_with fail;go_ret;unfold EvE;rw [CH];exact ⟨rfl,HB.out,fun e=> absurd e hz⟩
  ·exact absurd h0 hz
theorem zlQ {w0 w:World} {p:Nat} {h:Ch} {a:StA} {cf:Cfg} {st:PS} {nb k:Nat} {Q:Nat→Prop} {x sq:Nat} {o:PO} {da:Option Addr} {dn dc:Nat} {ma:Option Addr} {mn mc:Nat} (H:EvC w0 w p h a cf st nb k Q x h (Chg.nil st.c sq) (.slice none 0 0) []) (AE:sq=st.seq+1) (hO:OpM w o da dn ma mn) (hv:1≤o.v∧o.v≤65535) (hb:0≤o.b∧o.b≤31) (hk:o.k=4):
 Calls Tryz.prog 55 #[.pointer (some ⟨p,0,none⟩), .pointer (some ⟨x,0,none⟩), .agg (opA o da dn dc ma mn mc)] w (EvE w0 Q x (zaz st.c st.l sq o)):=by
 have HV:=zh (zn hv (zn hb hk));have Ik:((o.v.toNat:Nat):Int)=o.v:=by omega
 have Bz:((o.b.toNat:Nat):Int)=o.b:=by omega
 have AW:=zeu st.c st.l sq o hb.1 1 (by omega) (fun h=> by omega) (fun _=> rfl)
 obtain ⟨ew,Po⟩:∃ew,(zaD st.c o.v o.b 1).2=ew:=⟨_,rfl⟩;obtain ⟨zwo,Uw⟩:∃zwo,(zaD st.c o.v o.b 1).1=zwo:=⟨_,rfl⟩;rw [Po] at AW;have Br:=zh (show (ew≠0∧zaz st.c st.l sq o=(ew,Chg.nil st.c sq))∨(ew=0∧zaz st.c st.l sq o=(0,{Chg.nil st.c sq with vol:=o.v.toNat,puts:= [⟨o.b.toNat,0,some (zdy o.d)⟩]})) from by unfold wrC at AW;rw [if_neg (by omega)] at AW;exact AW)
 have HK:=zh hk;clear AW;obtain ⟨w1,Ab,hX,H1,Cm,HX,AU⟩:=evS H AE hO dc mc;have Al:=zh (fun (W:World) (hW:Below w1.heap.size w1 W)=> (H1.out.stw.below hW).reads);have CD:=zh (fun (W:World) (hW:Below w1.heap.size w1 W)=> (H1.out.chg.below hW).reads);obtain ⟨s0,s1,s2,s3,s4,s5,s6,s7,s8,s9,s10,s11,s12,s13,s14,s15,s16,s17,s18,s19,-⟩:=H1.out.stw.reads;obtain ⟨e0,e1,e2,e3,e4,e5,e6,e7,e8,e9,e10,e11,e12,e13,e14,-⟩:=H1.out.chg.reads;obtain ⟨o0,o1,o2,o3,o4,o5,o6,o7⟩:=rd8 (w:=w1) hX;clear H AE hO hX;have HW:=zh (fun (W:World) (hW:Below w1.heap.size w1 W)=> zen (H1.out.stw.below hW) o.v o.b 1 (by have:=HV.out;omega))
 rw [Po,Uw] at HW;replace o0:=show w1.cell? ⟨w.heap.size,0,none⟩=some (.int .i64 o.k) from o0;rw [HK.out] at o0;clear Po Uw hv hb hk s0 s1 s2 s3 s4 s5 s6 s7 s8 s9 s10 s11 s12 s13 s14 s15 s16 s17 s18 s19 e0 e1 e2 e3 e4 e5 e6 e7 e8 e9 e10 e11 e12 e13 e14;unfold opA at *;go_enter Tryz.func55,Tryz.ntmps55;go_upto_region 1 with fail;rw [← Ab];clear Ab;go_wp2_with fail;refine (HW.out _ zr).mono ?_;rintro r w3 ⟨rfl,Am⟩
 by_cases hz:ew=0
 ·rcases Br.out with ⟨h0,-⟩ | ⟨-,CH⟩
  ·exact absurd hz h0
  ·have LI:=zh CH;clear CH;subst hz;have HC:=zh (zn Am (H1.out.below Am));have o0:=show w3.cell? ⟨w.heap.size,0,none⟩=some (.int .i64 o.k) from cell_of_row w3 _ 0 _ _ _ (AU.out w3 Am);rw [HK.out] at o0;have Pj:Below w1.heap.size w1 w3.drew:=Am.drew;have Bm:=zh (fun (W:World) (hW:Below w1.heap.size w1 W)=> show W.cell? ⟨w.heap.size,1,none⟩=some (.int .i64 o.v)∧W.cell? ⟨w.heap.size,3,none⟩=some (.int .i64 o.b)∧W.cell? ⟨w.heap.size,6,none⟩=some (.slice da dn dc) from ⟨cell_of_row W _ 1 _ _ _ (AU.out W hW),cell_of_row W _ 3 _ _ _ (AU.out W hW),cell_of_row W _ 6 _ _ _ (AU.out W hW)⟩);have HZ:=Bm.out _ Pj;have Ri:=zh (fun (W:World) (hW:Below w1.heap.size w1 W)=> zjV dc ((HX.out.2.2.2.below (hW.mono zl)).bs));have HB:=zh Pj;go_upto_region 10 with fail;refine zy (by kernel_rfl) [0,1,2,3,4,5,6,7,8,9,10,11,12,13,14,15,16] (fun W=> W.cell? ⟨w.heap.size,1,none⟩=some (.int .i64 o.v)∧W.cell? ⟨w.heap.size,3,none⟩=some (.int .i64 o.b)∧W.cell? ⟨w.heap.size,6,none⟩=some (.slice da dn dc)) (fun _=> True) ?_
   refine tL 0 HZ ?_;refine tL 1 HZ ?_;refine tL 2 HZ ?_;refine tL 4 HZ ?_;refine tL 6 HZ ?_;refine tL 3 HZ ?_;refine tL 5 HZ ?_;refine tL 7 HZ ?_;refine zd (i:=8) (by kernel_rfl) rfl (fun K' hK=> ?_)
   refine zA (o:=⟨some 50,_,_,_,_,_⟩) (by kernel_rfl) 41 Tryz.func41 (by kernel_rfl) rfl _ _ rfl #[.slice da dn dc] (by first | (simp [Act.eval];done) | (simp [Act.eval,Act.put];done)) (Ri.out _ Pj) ?_
   rintro r w5 ⟨g,rfl,hg,Fq,Ag⟩;refine ⟨_,rfl, ?_⟩;have O7:Below w1.heap.size w1 w5:=Pj.trans (Ag.mono Pj.size);have X5:=H1.out.chg.below O7;have EA:=zh (zn X5 (zn O7 (zn hg Fq)));obtain ⟨-,-,-,-,-,-,-,-,-,-,y10,y11,-,-,-,yf⟩:=X5.reads;have g10:=yf 10;have g11:=yf 11;clear yf hg Fq Ag X5;clear HZ;have HZ:=Bm.out _ O7;refine hK.out _ _ ⟨HZ,fun h=> absurd h (by decide)⟩ ?_
   try simp only [Act.put,List.setIfInBounds_toArray,List.set_cons_zero,List.set_cons_succ]
   clear hK K';refine tL 9 HZ ?_;refine tL 11 HZ ?_;refine tL 12 HZ ?_;refine zbq (i:=10) (i':=13) (by kernel_rfl) rfl rfl (fun K' hK=> ?_) (fun K' hK=> ?_)
   ·go_simp;refine hK.out _ _ ⟨(zpK HZ),fun h=> absurd h (by decide)⟩ ?_
    try simp only [Act.put,List.setIfInBounds_toArray,List.set_cons_zero,List.set_cons_succ]
    clear hK K';have y10:=zbA (.cells #[.int .i64 o.b, .int .u32 0, .slice (some ⟨g,0,none⟩) 64 64] 91) y10;have g10:=zfk (.cells #[.int .i64 o.b, .int .u32 0, .slice (some ⟨g,0,none⟩) 64 64] 91) EA.out.1.reads.2.2.2.2.2.2.2.2.2.2.1 g10;refine zd (i:=13) (by kernel_rfl) rfl (fun K' hK=> ?_)
    go_simp;refine hK.out _ _ ⟨(zpr (zpK HZ) Cm),fun h=> absurd h (by decide)⟩ ?_
    try simp only [Act.put,List.setIfInBounds_toArray,List.set_cons_zero,List.set_cons_succ]
    clear hK K';replace HZ:=zpK (o:=(.cells #[.int .i64 o.b, .int .u32 0, .slice (some ⟨g,0,none⟩) 64 64] 91)) (zpr (x:=x) (m:=10) (v:= .int .i64 o.v) HZ Cm);clear y10 g10 y11 g11;obtain ⟨wA,BR⟩:∃wA,wA=w5.setCell ⟨x,10,none⟩ (.int .i64 o.v):=⟨_,rfl⟩;rw [zgA (.cells #[.int .i64 o.b, .int .u32 0, .slice (some ⟨g,0,none⟩) 64 64] 91) _ (show x < w5.heap.size from EA.out.1.xlt)];rw [← BR];rw [← BR] at HZ;have XA:ChM Q w0.heap.size wA x h {Chg.nil st.c sq with vol:=o.v.toNat} (.slice none 0 0) []:=by
     have h9:=EA.out.1.vol1 o.v.toNat;rw [Ik,← BR] at h9;exact h9
    have Js:wA.heap.size=w5.heap.size:=by rw [BR];exact World.size_setCell _ _ _
    have BI:Below w0.heap.size w0 wA:=by rw [BR];exact (H1.out.bel.trans (EA.out.2.1.mono H1.out.bel.size)).setCell (p:=⟨x,10,none⟩) EA.out.1.lo _
    have NB:g≠x:=by have h1:=H1.out.chg.xlt;have h2:=EA.out.2.2.2;have h3:=HB.out.size;omega
    have NA:wA.heap[g]? =w5.heap[g]? :=by rw [BR];exact (zq w5 ⟨x,10,none⟩ (.int .i64 o.v)).block g (zg EA.out.2.2.1).1 (fun e=> NB (by simpa using e))
    have KG:=XA.lit (fun j hj=> by have:=H1.out.stw.qlt j hj;have:=EA.out.2.1.size;omega) BI.size ⟨o.b.toNat,0,some (g,zdy o.d)⟩ (fun z hz=> by
     cases hz
     refine ⟨by have h9:=zjK (NA.trans EA.out.2.2.1);rw [zaK] at h9;exact h9,fun hq=> ?_⟩
     have Fq:=EA.out.2.2.2;have:=HB.out.size;rcases hq with hq | hq
     ·have:=H1.out.stw.qlt _ hq;omega
     ·have:=H1.out.chg.xlt;omega)
    have yA:=XA.reads.2.2.2.2.2.2.2.2.2.2.2.1;have gA:=XA.reads.2.2.2.2.2.2.2.2.2.2.2.2.2.2.2 11;have y11:=zbA (.cells #[.int .i64 o.b, .int .u32 0, .slice (some ⟨g,0,none⟩) 64 64] 91) yA;have g11:=zfk (.cells #[.int .i64 o.b, .int .u32 0, .slice (some ⟨g,0,none⟩) 64 64] 91) yA gA;rw [← Js];have HL:=zh KG;have Jv:=zh BI;unfold zaT dV at HL;simp only [Bz] at HL;clear KG BI NB NA XA Js BR yA gA;generalize wA.alloc _=wB at *;refine tL 14 HZ ?_;refine tL 15 HZ ?_;refine zd (i:=16) (by kernel_rfl) rfl (fun K' hK=> ?_)
    go_simp;refine hK.out _ _ ⟨(zpr HZ Cm),fun h=> absurd h (by decide)⟩ ?_
    try simp only [Act.put,List.setIfInBounds_toArray,List.set_cons_zero,List.set_cons_succ]
    clear hK K';refine zI (by kernel_rfl) ?_ _
    go_wp2_with fail;go_ret;unfold EvE;rw [LI.out];exact ⟨rfl,Jv.out.trans HL.out.2,fun _=> ⟨h,_,_,HL.out.1⟩⟩
   ·go_simp;refine hK.out _ _ ⟨(zpr HZ Cm),fun h=> absurd h (by decide)⟩ ?_
    try simp only [Act.put,List.setIfInBounds_toArray,List.set_cons_zero,List.set_cons_succ]
    clear hK K';refine zd (i:=10) (by kernel_rfl) rfl (fun K' hK=> ?_)
    go_simp;refine hK.out _ _ ⟨(zpK (zpr HZ Cm)),fun h=> absurd h (by decide)⟩ ?_
    try simp only [Act.put,List.setIfInBounds_toArray,List.set_cons_zero,List.set_cons_succ]
    clear hK K';replace HZ:=zpK (o:=(.cells #[.int .i64 o.b, .int .u32 0, .slice (some ⟨g,0,none⟩) 64 64] 91)) (zpr (x:=x) (m:=10) (v:= .int .i64 o.v) HZ Cm);clear y10 g10 y11 g11;obtain ⟨wA,BR⟩:∃wA,wA=w5.setCell ⟨x,10,none⟩ (.int .i64 o.v):=⟨_,rfl⟩;rw [← BR];rw [← BR] at HZ;have XA:ChM Q w0.heap.size wA x h {Chg.nil st.c sq with vol:=o.v.toNat} (.slice none 0 0) []:=by
     have h9:=EA.out.1.vol1 o.v.toNat;rw [Ik,← BR] at h9;exact h9
    have Js:wA.heap.size=w5.heap.size:=by rw [BR];exact World.size_setCell _ _ _
    have BI:Below w0.heap.size w0 wA:=by rw [BR];exact (H1.out.bel.trans (EA.out.2.1.mono H1.out.bel.size)).setCell (p:=⟨x,10,none⟩) EA.out.1.lo _
    have NB:g≠x:=by have h1:=H1.out.chg.xlt;have h2:=EA.out.2.2.2;have h3:=HB.out.size;omega
    have NA:wA.heap[g]? =w5.heap[g]? :=by rw [BR];exact (zq w5 ⟨x,10,none⟩ (.int .i64 o.v)).block g (zg EA.out.2.2.1).1 (fun e=> NB (by simpa using e))
    have KG:=XA.lit (fun j hj=> by have:=H1.out.stw.qlt j hj;have:=EA.out.2.1.size;omega) BI.size ⟨o.b.toNat,0,some (g,zdy o.d)⟩ (fun z hz=> by
     cases hz
     refine ⟨by have h9:=zjK (NA.trans EA.out.2.2.1);rw [zaK] at h9;exact h9,fun hq=> ?_⟩
     have Fq:=EA.out.2.2.2;have:=HB.out.size;rcases hq with hq | hq
     ·have:=H1.out.stw.qlt _ hq;omega
     ·have:=H1.out.chg.xlt;omega)
    have yA:=XA.reads.2.2.2.2.2.2.2.2.2.2.2.1;have gA:=XA.reads.2.2.2.2.2.2.2.2.2.2.2.2.2.2.2 11;have y11:=zbA (.cells #[.int .i64 o.b, .int .u32 0, .slice (some ⟨g,0,none⟩) 64 64] 91) yA;have g11:=zfk (.cells #[.int .i64 o.b, .int .u32 0, .slice (some ⟨g,0,none⟩) 64 64] 91) yA gA;rw [← Js];have HL:=zh KG;have Jv:=zh BI;unfold zaT dV at HL;simp only [Bz] at HL;clear KG BI NB NA XA Js BR yA gA;generalize wA.alloc _=wB at *;refine tL 14 HZ ?_;refine tL 15 HZ ?_;refine zd (i:=16) (by kernel_rfl) rfl (fun K' hK=> ?_)
    go_simp;refine hK.out _ _ ⟨(zpr HZ Cm),fun h=> absurd h (by decide)⟩ ?_
    try simp only [Act.put,List.setIfInBounds_toArray,List.set_cons_zero,List.set_cons_succ]
    clear hK K';refine zI (by kernel_rfl) ?_ _
    go_wp2_with fail;go_ret;unfold EvE;rw [LI.out];exact ⟨rfl,Jv.out.trans HL.out.2,fun _=> ⟨h,_,_,HL.out.1⟩⟩
 ·rcases Br.out with ⟨h0,CH⟩ | ⟨h0,-⟩
  ·have Q9:((ew:Int) !=0)=true:=by simp;omega
   have HB:=zh (H1.out.bel.trans (Am.mono H1.out.bel.size));clear Am;go_wp2_with fail;go_ret;unfold EvE;rw [CH];exact ⟨rfl,HB.out,fun e=> absurd e hz⟩
  ·exact absurd h0 hz
end
end Go.Proofs.YtaoceecfjlkmdaaGreat
