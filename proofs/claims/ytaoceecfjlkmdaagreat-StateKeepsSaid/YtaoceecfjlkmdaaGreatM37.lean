/- Lemmas of the walks, merged and pressed by press.py. Conditions: those of each theorem. -/
import Derived.Test.YtaoceecfjlkmdaaGreatM36
set_option maxRecDepth 100000
set_option maxHeartbeats 64000000
set_option linter.all false
namespace Go.Proofs.YtaoceecfjlkmdaaGreat
open Tryz
section
open Go.RowKit
theorem zlF (l:List En) (v s n:Nat):zcG l v s (n+1)=zcG l v s n++if atL l v n s≠0 then [⟨n,atL l v n s,none⟩] else []:=by
 unfold zcG;rw [List.range_succ,List.filter_append,List.map_append]
 by_cases h:atL l v n s=0 <;> simp [h]
theorem znk (l:List En) (v s n:Nat):(zcG l v s n).length<=n:=by
 unfold zcG;rw [List.length_map];exact zs (List.length_filter_le _ _) (by rw [List.length_range];exact zl)
theorem zm0 {c:Ct} {s k:Nat} (h:CtI c s k) (hs:s < 18446744073709551616) {o:PO} (Ew:0<=o.pt/\o.pt < 18446744073709551616) {pe pn:Nat} (hp:zav c o=(pe,pn)):pn < 18446744073709551616:=by
 unfold zav at hp
 split at hp
 ·split at hp
  ·cases hp;omega
  split at hp
  ·cases hp;omega
  rename_i n hn
  cases hp
  obtain ⟨m,hm,e,-⟩:=zkn hn;have:=h.times.fit m hm
  omega
 split at hp
 ·split at hp
  ·cases hp;omega
  rename_i b hb
  have Ml:=List.mem_of_find?_eq_some hb;have:=(h.books b Ml).2.1
  split at hp
  ·cases hp;omega
  cases hp;omega
 cases hp;omega
theorem zkF (c:Ct) (l:List En) (s:Nat) (o:PO) {pe pn zeo zno ec nid:Nat} {cn:Ct} (hp:zav c o=(pe,pn)) (hz:c.sizeAt o.v pn (s - 1)=(zeo,zno)) (hc:c.create zno s=(ec,cn,nid)):
 (pe≠0->zcO c l s o=(pe,Chg.nil c s))/\(pe=0->zeo≠0->zcO c l s o=(zeo,Chg.nil c s))/\(pe=0->zeo=0->zcO c l s o=(ec,{Chg.nil c s with c:=cn,id:=nid,vol:=nid,puts:=zcG l o.v.toNat pn zno})):=by
 unfold zcO;simp only [hp,hz,hc];exact ⟨fun h=> by rw [if_pos h],fun h h2=> by rw [if_neg ud,if_pos h2],fun h h2=> by rw [if_neg ud,if_neg ud]⟩
theorem zbB {w W:World} {b:Addr} {u:Value} (hW:Below w.heap.size w W) (h:w.cell? b=some u):W.cell? b=some u:=by
 rcases Nat.lt_or_ge b.block w.heap.size with h1 | h1
 ·have h2:=hW.block b.block h1;unfold World.cell? at h ⊢;rw [h2];exact h
 simp [World.cell?,Array.getElem?_eq_none h1] at h
theorem zg1 {w0 w:World} {p:Nat} {h:Ch} {a:StA} {cf:Cfg} {st:PS} {nb k:Nat} {Q:Nat->Prop} {x sq:Nat} {o:PO} {da:Option Addr} {dn dc:Nat} {ma:Option Addr} {mn mc:Nat} (H:EvC w0 w p h a cf st nb k Q x h (Chg.nil st.c sq) (.slice none 0 0) []) (AE:sq=st.seq+1) (hO:OpM w o da dn ma mn) (hv:1<=o.v/\o.v<=65535):
 Calls Tryz.prog 62 #[.pointer (some ⟨p,0,none⟩), .pointer (some ⟨x,0,none⟩), .agg (opA o da dn dc ma mn mc)] w (EvE w0 Q x (zcO st.c st.l sq o)):=by
 have DX:=zh H.st.inv.ct;have Ik:((o.v.toNat:Nat):Int)=o.v:=ud;have MV:sq - 1=st.seq:=ud;obtain ⟨⟨pe,pn⟩,hp⟩:∃r,zav st.c o=r:=⟨_,rfl⟩;obtain ⟨⟨zeo,zno⟩,hz⟩:∃r,st.c.sizeAt o.v pn st.seq=r:=⟨_,rfl⟩;obtain ⟨⟨ec,cn,nid⟩,hc⟩:∃r,st.c.create zno sq=r:=⟨_,rfl⟩;have Br:=zh (zkF st.c st.l sq o hp (by rw [MV];exact hz) hc)
 have HV:=zh (zn hv hO.pt);have OE:=zh (fun (e:zeo=0)=> Ct.sizeAt_fit H.st.inv.ct (v:=o.v) (t:=pn) (last:=st.seq) (n:=zno) (by rw [hz,e]))
 have Lj:=zh (show pn < 18446744073709551616 from by have:=zm0 H.st.inv.ct H.st.inv.seq hO.pt hp;exact this)
 obtain ⟨w1,Ab,hX,H1,Cm,HX,AU⟩:=evS H AE hO dc mc;have Al:=zh (fun (W:World) (hW:Below w1.heap.size w1 W)=> (H1.out.stw.below hW).reads);have CD:=zh (fun (W:World) (hW:Below w1.heap.size w1 W)=> (H1.out.chg.below hW).reads);obtain ⟨s0,s1,s2,s3,s4,s5,s6,s7,s8,s9,s10,s11,s12,s13,s14,s15,s16,s17,s18,s19,-⟩:=H1.out.stw.reads;obtain ⟨e0,e1,e2,e3,e4,e5,e6,e7,e8,e9,e10,e11,e12,e13,e14,-⟩:=H1.out.chg.reads;obtain ⟨o0,o1,o2,o3,o4,o5,o6,o7⟩:=rd8 (w:=w1) hX;clear H AE hO hX;obtain ⟨Qx,BV⟩:∃Qx:Nat->Prop,Qx=fun j=> Q j\/j=x\/(Value.slice none 0 0).ownBlock=some j:=⟨_,rfl⟩;have Bi:zaV Qx w1 h st.c:=by rw [BV];exact H1.out.chg.cat
 have Oy:=zh (fun j (hj:Qx j)=> show j < w1.heap.size from by
  rw [BV] at hj;rcases hj with hj | hj | hj
  ·exact H1.out.stw.qlt j hj
  ·rw [hj];exact H1.out.chg.xlt
  cases hj)
 have Hh:=zh BV;clear BV;have FC:=zh (fun (W:World) (hW:Below w1.heap.size w1 W)=> zm2 (o:=o) (da:=da) (dn:=dn) (dc:=dc) (ma:=ma) (mn:=mn) (mc:=mc) (H1.out.stw.below hW) HV.out.2);rw [hp] at FC;have J3:=zh (fun (W:World) (hW:Below w1.heap.size w1 W)=> zbz (H1.out.stw.below hW).cat DX.out o.v pn st.seq);rw [hz] at J3;have IW:=zh (fun (h0:zeo=0) (W:World) (hW:Below w1.heap.size w1 W) (R:Nat->Prop) (hR:∀j,R j->Qx j\/w1.heap.size<=j) (B0:∀j,R j->j < W.heap.size)=> zgd (Bi.outs (zD.of_below hW) hR) DX.out B0 zno sq (OE.out h0));rw [hc] at IW;unfold Ch.val Ch.cells at J3 IW;simp only at FC J3 IW;unfold opA at FC;have Dx:=zh (fun (W:World) (hW:Below w1.heap.size w1 W)=> show W.cell? ⟨w.heap.size,0,none⟩=some (.int .i64 o.k)/\W.cell? ⟨w.heap.size,1,none⟩=some (.int .i64 o.v)/\W.cell? ⟨w.heap.size,2,none⟩=some (.int .i64 o.i)/\W.cell? ⟨w.heap.size,3,none⟩=some (.int .i64 o.b)/\W.cell? ⟨w.heap.size,4,none⟩=some (.int .i64 o.n)/\W.cell? ⟨w.heap.size,5,none⟩=some (.int .u64 o.pt)/\W.cell? ⟨w.heap.size,6,none⟩=some (.slice da dn dc)/\W.cell? ⟨w.heap.size,7,none⟩=some (.slice ma mn mc) from ⟨cell_of_row W _ 0 _ _ _ (AU.out W (hW)),cell_of_row W _ 1 _ _ _ (AU.out W (hW)),cell_of_row W _ 2 _ _ _ (AU.out W (hW)),cell_of_row W _ 3 _ _ _ (AU.out W (hW)),cell_of_row W _ 4 _ _ _ (AU.out W (hW)),cell_of_row W _ 5 _ _ _ (AU.out W (hW)),cell_of_row W _ 6 _ _ _ (AU.out W (hW)),cell_of_row W _ 7 _ _ _ (AU.out W (hW))⟩);clear Bi hp hz hc hv s0 s1 s2 s3 s4 s5 s6 s7 s8 s9 s10 s11 s12 s13 s14 s15 s16 s17 s18 s19 e0 e1 e2 e3 e4 e5 e6 e7 e8 e9 e10 e11 e12 e13 e14;unfold opA at *;go_in;go_upto_region 1 with fail;rw [<- Ab];clear Ab;go_wp2_with fail;refine (FC.out _ zr).mono ?_;rintro r w3 ⟨rfl,Bz⟩;clear o0 o1 o2 o3 o4 o5 o6 o7 Dx;have Ao:=Bz;clear Bz;have AI:=zh Ao
 by_cases Fa:pe=0
 ·subst Fa;have Az:=zh (fun (W:World) (hW:Below w3.heap.size w3 W)=> show W.cell? ⟨p,0,none⟩=some (.int .i64 (st.c.nv:Int))/\W.cell? ⟨p,1,none⟩=some (.int .i64 (st.c.ng:Int))/\W.cell? ⟨p,2,none⟩=some (.int .i64 (st.c.nb:Int))/\W.cell? ⟨p,3,none⟩=some (.int .u64 (st.c.fl:Int))/\W.cell? ⟨p,4,none⟩=some (.slice h.va st.c.vols.length h.vc)/\W.cell? ⟨p,5,none⟩=some (.slice h.ga st.c.groups.length h.gc)/\W.cell? ⟨p,6,none⟩=some (.slice h.ba st.c.books.length h.bc)/\W.cell? ⟨p,7,none⟩=some (.slice h.ka st.c.kept.length h.kc)/\W.cell? ⟨p,8,none⟩=some (.slice h.ta st.c.times.length h.tc)/\W.cell? ⟨p,18,none⟩=some (.int .u64 (st.seq:Int))/\W.cell? ⟨w.heap.size,1,none⟩=some (.int .i64 o.v) from ⟨(Al.out W (Ao.trans (hW.mono Ao.size))).1,(Al.out W (Ao.trans (hW.mono Ao.size))).2.1,(Al.out W (Ao.trans (hW.mono Ao.size))).2.2.1,(Al.out W (Ao.trans (hW.mono Ao.size))).2.2.2.1,(Al.out W (Ao.trans (hW.mono Ao.size))).2.2.2.2.1,(Al.out W (Ao.trans (hW.mono Ao.size))).2.2.2.2.2.1,(Al.out W (Ao.trans (hW.mono Ao.size))).2.2.2.2.2.2.1,(Al.out W (Ao.trans (hW.mono Ao.size))).2.2.2.2.2.2.2.1,(Al.out W (Ao.trans (hW.mono Ao.size))).2.2.2.2.2.2.2.2.1,(Al.out W (Ao.trans (hW.mono Ao.size))).2.2.2.2.2.2.2.2.2.2.2.2.2.2.2.2.2.2.1,cell_of_row W _ 1 _ _ _ (AU.out W (Ao.trans (hW.mono Ao.size)))⟩);obtain ⟨s0,s1,s2,s3,s4,s5,s6,s7,s8,-,-,-,-,-,-,-,-,-,s18,-,-⟩:=Al.out w3 Ao;have o1:=cell_of_row w3 _ 1 _ _ _ (AU.out w3 Ao);have Cu:Below w3.heap.size w3 w3.drew:=zr.drew;go_wp2_with fail
  go_region_held3 (fun W=> W.cell? ⟨p,0,none⟩=some (.int .i64 (st.c.nv:Int))/\W.cell? ⟨p,1,none⟩=some (.int .i64 (st.c.ng:Int))/\W.cell? ⟨p,2,none⟩=some (.int .i64 (st.c.nb:Int))/\W.cell? ⟨p,3,none⟩=some (.int .u64 (st.c.fl:Int))/\W.cell? ⟨p,4,none⟩=some (.slice h.va st.c.vols.length h.vc)/\W.cell? ⟨p,5,none⟩=some (.slice h.ga st.c.groups.length h.gc)/\W.cell? ⟨p,6,none⟩=some (.slice h.ba st.c.books.length h.bc)/\W.cell? ⟨p,7,none⟩=some (.slice h.ka st.c.kept.length h.kc)/\W.cell? ⟨p,8,none⟩=some (.slice h.ta st.c.times.length h.tc)/\W.cell? ⟨p,18,none⟩=some (.int .u64 (st.seq:Int))/\W.cell? ⟨w.heap.size,1,none⟩=some (.int .i64 o.v)) (first | with_reducible exact Bg | go_keep)
   ((go_at_call 19;((with_reducible refine (J3.out _ (AI.out.drew)).mono ?_);rintro r w4 ⟨rfl,Bz⟩;have Bz:Below w3.heap.size w3 w4:=Cu.trans Bz;have Bg:=Az.out w4 Bz)))
  clear Bg Cu;clear s0 s1 s2 s3 s4 s5 s6 s7 s8 s18 o1 Az;have Aw:=Ao.trans (Bz.mono Ao.size);clear Bz Ao;have Cz:=zh Aw
  by_cases Ju:zeo=0
  ·have HD:=zh (fun (W:World) (hW:Below w4.heap.size w4 W) (R:Nat->Prop) (hR:∀j,R j->Qx j\/w4.heap.size<=j) (B0:∀j,R j->j < W.heap.size)=> IW.out Ju W (Cz.out.trans (hW.mono Cz.out.size)) R (fun j hj=> (hR j hj).imp (fun e=> e) fun e=> zs Cz.out.size e) B0);have J8:=zh (OE.out Ju);subst Ju;have Jw:=zh (fun j (hj:Qx j)=> zt (Oy.out j hj) Cz.out.size);have HS:=zh (fun (W:World) (hW:Below w4.heap.size w4 W)=> show W.cell? ⟨p,0,none⟩=some (.int .i64 (st.c.nv:Int))/\W.cell? ⟨p,1,none⟩=some (.int .i64 (st.c.ng:Int))/\W.cell? ⟨p,2,none⟩=some (.int .i64 (st.c.nb:Int))/\W.cell? ⟨p,3,none⟩=some (.int .u64 (st.c.fl:Int))/\W.cell? ⟨p,4,none⟩=some (.slice h.va st.c.vols.length h.vc)/\W.cell? ⟨p,5,none⟩=some (.slice h.ga st.c.groups.length h.gc)/\W.cell? ⟨p,6,none⟩=some (.slice h.ba st.c.books.length h.bc)/\W.cell? ⟨p,7,none⟩=some (.slice h.ka st.c.kept.length h.kc)/\W.cell? ⟨p,8,none⟩=some (.slice h.ta st.c.times.length h.tc)/\W.cell? ⟨x,14,none⟩=some (.int .u64 (sq:Int)) from ⟨(Al.out W (Aw.trans (hW.mono Aw.size))).1,(Al.out W (Aw.trans (hW.mono Aw.size))).2.1,(Al.out W (Aw.trans (hW.mono Aw.size))).2.2.1,(Al.out W (Aw.trans (hW.mono Aw.size))).2.2.2.1,(Al.out W (Aw.trans (hW.mono Aw.size))).2.2.2.2.1,(Al.out W (Aw.trans (hW.mono Aw.size))).2.2.2.2.2.1,(Al.out W (Aw.trans (hW.mono Aw.size))).2.2.2.2.2.2.1,(Al.out W (Aw.trans (hW.mono Aw.size))).2.2.2.2.2.2.2.1,(Al.out W (Aw.trans (hW.mono Aw.size))).2.2.2.2.2.2.2.2.1,(CD.out W (Aw.trans (hW.mono Aw.size))).2.2.2.2.2.2.2.2.2.2.2.2.2.2.1⟩);obtain ⟨s0,s1,s2,s3,s4,s5,s6,s7,s8,-,-,-,-,-,-,-,-,-,-,-,-⟩:=Al.out w4 Aw;obtain ⟨-,-,-,-,-,-,-,-,-,-,-,-,-,-,e14,-⟩:=CD.out w4 Aw;clear IW Aw FC J3 OE;go_upto_region 7 with fail
   go_cut [11,12,13] from 43 to 56 (fun u11 u12 u13 wx=> ∃(cb:Nat) (h':Ch) (c':Ct),u11= .pointer (some ⟨cb,0,none⟩)/\u12= .int .i64 (nid:Int)/\u13= .int .i64 (ec:Int)/\Below w4.heap.size w4 wx/\w4.heap.size<=cb/\wx.heap[cb]? =some (.cells #[.int .i64 (c'.nv:Int), .int .i64 (c'.ng:Int), .int .i64 (c'.nb:Int), .int .u64 (c'.fl:Int), .slice h'.va c'.vols.length h'.vc, .slice h'.ga c'.groups.length h'.gc, .slice h'.ba c'.books.length h'.bc, .slice h'.ka c'.kept.length h'.kc, .slice h'.ta c'.times.length h'.tc] 54 (0,0))/\zaV Qx wx h' c'/\(c'=cn/\ec=0\/c'=ct0/\ec≠0))
   case first=>
        have Cs:Below w4.heap.size w4 w4.drew:=zr.drew;have Av:=zn trivial (HS.out _ Cs);refine zy ue [0,1,2,4,5,6,7,10,11,12,13,15,16,17] (fun _=> True) (fun W=> W.cell? ⟨p,0,none⟩=some (.int .i64 (st.c.nv:Int))/\W.cell? ⟨p,1,none⟩=some (.int .i64 (st.c.ng:Int))/\W.cell? ⟨p,2,none⟩=some (.int .i64 (st.c.nb:Int))/\W.cell? ⟨p,3,none⟩=some (.int .u64 (st.c.fl:Int))/\W.cell? ⟨p,4,none⟩=some (.slice h.va st.c.vols.length h.vc)/\W.cell? ⟨p,5,none⟩=some (.slice h.ga st.c.groups.length h.gc)/\W.cell? ⟨p,6,none⟩=some (.slice h.ba st.c.books.length h.bc)/\W.cell? ⟨p,7,none⟩=some (.slice h.ka st.c.kept.length h.kc)/\W.cell? ⟨p,8,none⟩=some (.slice h.ta st.c.times.length h.tc)/\W.cell? ⟨x,14,none⟩=some (.int .u64 (sq:Int))) ?_;refine tL 0 trivial ?_;refine tL 1 trivial ?_;refine tL 2 trivial ?_;refine tL 4 trivial ?_;refine tL 5 trivial ?_;refine tL 6 trivial ?_;refine tL 7 trivial ?_;refine tS 3 Av ?_;refine tS 8 Av ?_;refine zbq (i:=9) (i':=14) ue rfl rfl (fun K' hK=> ?_) (fun K' hK=> ?_)
        ·refine zA (o:=⟨some 53,_,_,_,_,_⟩) ue 52 Tryz.func52 ue rfl _ _ rfl #[.agg #[.int .i64 (st.c.nv:Int), .int .i64 (st.c.ng:Int), .int .i64 (st.c.nb:Int), .int .u64 (st.c.fl:Int), .slice h.va st.c.vols.length h.vc, .slice h.ga st.c.groups.length h.gc, .slice h.ba st.c.books.length h.bc, .slice h.ka st.c.kept.length h.kc, .slice h.ta st.c.times.length h.tc], .int .i64 (zno:Int), .int .u64 (sq:Int)] ug (HD.out w4.drew Cs Qx (fun j hj=> .inl hj) (fun j hj=> Jw.out j hj)) ?_;rintro r wD ⟨v,rfl,Eo,As⟩;refine ⟨_,rfl, ?_⟩;have CN:=As;have DE:Below w4.heap.size w4 wD:=Cs.trans (As.mono Cs.size);have AZ:=zn trivial (HS.out _ DE);obtain ⟨h',c',rfl,BM,Ba⟩:=Eo.any;unfold Ch.cells;refine hK.out _ _ ⟨trivial,fun _=> AZ.2⟩ ?_
         try simp only [Act.put,zSs]
         clear hK K';refine tL 10 trivial ?_;refine tL 11 trivial ?_;refine tL 12 trivial ?_;refine tL 13 trivial ?_;refine zd (i:=14) ue rfl (fun K' hK=> ?_);go_simp;obtain ⟨wB,B2⟩:∃wX,wX=wD.alloc (.cells #[.int .i64 0, .int .i64 0, .int .i64 0, .int .u64 0, .slice none 0 0, .slice none 0 0, .slice none 0 0, .slice none 0 0, .slice none 0 0] 54):=⟨_,rfl⟩;rw [<- B2];have B4:Below w4.heap.size w4 wB:=by rw [B2];exact DE.alloc DE.size _
         have AZ:=zn trivial (HS.out _ B4);obtain ⟨cb,An⟩:∃cb,cb=wD.heap.size:=⟨_,rfl⟩;have Ay:wB.heap[cb]? =some (.cells #[.int .i64 0, .int .i64 0, .int .i64 0, .int .u64 0, .slice none 0 0, .slice none 0 0, .slice none 0 0, .slice none 0 0, .slice none 0 0] 54 (0,0)):=by rw [B2,An];exact heap_alloc_new wD _
         have AN:w4.heap.size<=cb:=by rw [An];exact DE.size
         rw [<- An];have Dl:=BM.outs (zD.of_below (show Below wD.heap.size wD wB from by rw [B2];exact zr.alloc zl _)) (Q':=fun j=> Qx j\/j=cb) fun j hj=> hj.imp (fun e=> e) fun e=> by rw [e,An];exact zl
         refine hK.out _ _ ⟨trivial,fun _=> AZ.2⟩ ?_
         try simp only [Act.put,zSs]
         clear hK K' B2 An;obtain ⟨z0,z1,z2,z3,z4,z5,z6,z7,z8,zf⟩:=zJ Ay;have f0:=zf 0;have f1:=zf 1;have f2:=zf 2;have f3:=zf 3;have f4:=zf 4;have f5:=zf 5;have f6:=zf 6;have f7:=zf 7;have f8:=zf 8;refine zd (i:=15) ue rfl (fun K' hK=> ?_);go_simp;refine hK.out _ _ ⟨trivial,fun h=> absurd h uf⟩ ?_
         try simp only [Act.put,zSs]
         clear hK K' AZ;have Ad:=zp4 Ay h' c';have BL:=zp3 (B:=cb) (zD.refl _ wB) rfl h' c';have Au:=zp2 (show Below w4.heap.size w4 wB from B4) AN h' c';generalize World.setCell _ (⟨cb,8,none⟩:Addr) _=wC at *;clear z0 z1 z2 z3 z4 z5 z6 z7 z8 zf f0 f1 f2 f3 f4 f5 f6 f7 f8;refine tL 16 trivial ?_;refine tL 17 trivial ?_;refine zI ue ?_ _;go_wp2_with fail
         go_meet
         case rel=>
          exact ⟨cb,h',c',rfl,rfl,rfl,Au,AN,Ad,Dl.outs (Q':=Qx) (BL.more fun j hj=> .inr hj) fun j hj=> .inl (.inl hj),Ba⟩
        go_simp;obtain ⟨wA,BR⟩:∃wX,wX=(w4.alloc (.cells #[.int .i64 0, .int .i64 0, .int .i64 0, .int .u64 0, .slice none 0 0, .slice none 0 0, .slice none 0 0, .slice none 0 0, .slice none 0 0] 54)).drew:=⟨_,rfl⟩;rw [<- BR];have BI:Below w4.heap.size w4 wA:=by rw [BR];exact ((Below.refl w4.heap.size w4).alloc zl _).drew
        have AZ:=zn trivial (HS.out _ BI);obtain ⟨cb,An⟩:∃cb,cb=w4.heap.size:=⟨_,rfl⟩;have Ay:wA.heap[cb]? =some (.cells #[.int .i64 0, .int .i64 0, .int .i64 0, .int .u64 0, .slice none 0 0, .slice none 0 0, .slice none 0 0, .slice none 0 0, .slice none 0 0] 54 (0,0)):=by rw [BR,An];exact heap_alloc_new w4 _
        have AN:w4.heap.size<=cb:=by rw [An];exact zl
        rw [<- An]
        skip
        refine hK.out _ _ ⟨trivial,fun _=> AZ.2⟩ ?_
        try simp only [Act.put,zSs]
        clear hK K' BR An;refine zd (i:=9) ue rfl (fun K' hK=> ?_);refine zA (o:=⟨some 53,_,_,_,_,_⟩) ue 52 Tryz.func52 ue rfl _ _ rfl #[.agg #[.int .i64 (st.c.nv:Int), .int .i64 (st.c.ng:Int), .int .i64 (st.c.nb:Int), .int .u64 (st.c.fl:Int), .slice h.va st.c.vols.length h.vc, .slice h.ga st.c.groups.length h.gc, .slice h.ba st.c.books.length h.bc, .slice h.ka st.c.kept.length h.kc, .slice h.ta st.c.times.length h.tc], .int .i64 (zno:Int), .int .u64 (sq:Int)] ug (HD.out wA BI (fun j=> Qx j\/j=cb) (fun j hj=> hj.imp (fun e=> e) fun e=> by rw [e];exact AN) (fun j hj=> hj.elim (fun h=> zt (Jw.out j h) BI.size) fun e=> by rw [e];exact (zg Ay).1)) ?_
        rintro r wB ⟨v,rfl,Eo,As⟩;refine ⟨_,rfl, ?_⟩;have CN:=As;have B4:Below w4.heap.size w4 wB:=BI.trans (As.mono BI.size);have AZ:=zn trivial (HS.out _ B4);obtain ⟨h',c',rfl,BM,Ba⟩:=Eo.any;unfold Ch.cells;refine hK.out _ _ ⟨trivial,fun _=> AZ.2⟩ ?_
        try simp only [Act.put,zSs]
        clear hK K'  BI;have Dl:=BM;have Ay:=(CN.block cb (zg Ay).1).trans Ay;obtain ⟨z0,z1,z2,z3,z4,z5,z6,z7,z8,zf⟩:=zJ Ay;have f0:=zf 0;have f1:=zf 1;have f2:=zf 2;have f3:=zf 3;have f4:=zf 4;have f5:=zf 5;have f6:=zf 6;have f7:=zf 7;have f8:=zf 8;refine tL 10 trivial ?_;refine tL 11 trivial ?_;refine tL 12 trivial ?_;refine tL 13 trivial ?_;refine zd (i:=15) ue rfl (fun K' hK=> ?_);go_simp;refine hK.out _ _ ⟨trivial,fun h=> absurd h uf⟩ ?_
        try simp only [Act.put,zSs]
        clear hK K' AZ;have Ad:=zp4 Ay h' c';have BL:=zp3 (B:=cb) (zD.refl _ wB) rfl h' c';have Au:=zp2 (show Below w4.heap.size w4 wB from B4) AN h' c';generalize World.setCell _ (⟨cb,8,none⟩:Addr) _=wC at *;clear z0 z1 z2 z3 z4 z5 z6 z7 z8 zf f0 f1 f2 f3 f4 f5 f6 f7 f8;refine tL 16 trivial ?_;refine tL 17 trivial ?_;refine zI ue ?_ _;go_wp2_with fail
        go_meet
        case rel=>
         exact ⟨cb,h',c',rfl,rfl,rfl,Au,AN,Ad,Dl.outs (Q':=Qx) (BL.more fun j hj=> .inr hj) fun j hj=> .inl (.inl hj),Ba⟩
   case rest=>
        obtain ⟨cb,h',c',rfl,rfl,rfl,As,AN,Ay,BM,Ba⟩:=hcut;rename World=> wc;have Fn:Below w1.heap.size w1 wc:=Cz.out.trans (As.mono Cz.out.size);have Ko:Below w0.heap.size w0 wc:=H1.out.bel.trans (Fn.mono H1.out.bel.size);have X2:=H1.out.chg.below Fn;have AO:=(H1.out.below Fn).stw;obtain ⟨z0,z1,z2,z3,z4,z5,z6,z7,z8,zf⟩:=zJ Ay;obtain ⟨y0,y1,y2,y3,y4,y5,y6,y7,y8,y9,y10,-,-,-,-,yf⟩:=X2.reads;have g0:=yf 0;have g1:=yf 1;have g2:=yf 2;have g3:=yf 3;have g4:=yf 4;have g5:=yf 5;have g6:=yf 6;have g7:=yf 7;have g8:=yf 8;have g9:=yf 9;have g10:=yf 10;have f0:=zf 0;have f1:=zf 1;have f2:=zf 2;have f3:=zf 3;have f4:=zf 4;have f5:=zf 5;have f6:=zf 6;have f7:=zf 7;have f8:=zf 8;have AS:=zh (zn X2 (zn Fn (zn Ko (zn BM Ba))));clear X2 yf zf Ay BM Ba Fn Ko AO As AN HD HS s0 s1 s2 s3 s4 s5 s6 s7 s8 e14;go_upto_region 9 with fail;have X3:=AS.out.1.cat9 (c':=c') uai;have X5:=(X3.id1 nid).vol1 nid;have A8:=((zp2 AS.out.2.2.1 AS.out.1.lo h' c').setCell (p:=⟨x,9,none⟩) AS.out.1.lo (.int .i64 (nid:Int))).setCell (p:=⟨x,10,none⟩) AS.out.1.lo (.int .i64 (nid:Int));have q1:=zam (a:=⟨x,10,none⟩) (v:= .int .i64 (nid:Int)) (zam (a:=⟨x,9,none⟩) (v:= .int .i64 (nid:Int)) (zpF (x:=x) (b:=⟨w.heap.size,1,none⟩) (v0:= .int .i64 (c'.nv:Int)) (v1:= .int .i64 (c'.ng:Int)) (v2:= .int .i64 (c'.nb:Int)) (v3:= .int .u64 (c'.fl:Int)) (v4:= .slice h'.va c'.vols.length h'.vc) (v5:= .slice h'.ga c'.groups.length h'.gc) (v6:= .slice h'.ba c'.books.length h'.bc) (v7:= .slice h'.ka c'.kept.length h'.kc) (v8:= .slice h'.ta c'.times.length h'.tc) (cell_of_row wc _ 1 _ _ _ (AU.out wc AS.out.2.1)) Cm) Cm) Cm;generalize World.setCell _ (⟨x,10,none⟩:Addr) _=wS at *;clear y0 g0 y1 g1 y2 g2 y3 g3 y4 g4 y5 g5 y6 g6 y7 g7 y8 g8 y9 g9 y10 g10 z0 f0 z1 f1 z2 f2 z3 f3 z4 f4 z5 f5 z6 f6 z7 f7 z8 f8;have RK:EvC w0 wS p h a cf st nb k Q x h' {Chg.nil st.c sq with c:=c',id:=nid,vol:=nid,puts:=zcG st.l o.v.toNat pn 0} (.slice none 0 0) []:=⟨H1.out.st,A8,X5⟩
        have LG:=zh RK;obtain ⟨F,L,E,hH⟩:=RK.stw.hist;have It:=zh (fun (W:World) (hW:Below wS.heap.size wS W)=> zos (hH.below hW) RK.stw.llen o.v.toNat pn zno (by have:=HV.out.1;omega) Lj.out (by have:=J8.out.2;omega))
        simp only [Ik] at It;have Ry:=zh (fun (W:World) (hW:Below wS.heap.size wS W)=> show W.cell? ⟨p,9,none⟩=some (.pointer (some ⟨a.ph,0,none⟩))/\W.cell? ⟨w.heap.size,1,none⟩=some (.int .i64 o.v) from ⟨(LG.out.below hW).stw.reads.2.2.2.2.2.2.2.2.2.1,zbB hW q1⟩);have s9:=RK.stw.reads.2.2.2.2.2.2.2.2.2.1;unfold zv at It;clear RK hH X3 X5 A8;have Cu:Below wS.heap.size wS wS.drew:=zr.drew;go_wp2_with fail
        go_region_held3 (fun W=> W.cell? ⟨p,9,none⟩=some (.pointer (some ⟨a.ph,0,none⟩))/\W.cell? ⟨w.heap.size,1,none⟩=some (.int .i64 o.v)) (first | with_reducible exact Bg | go_keep)
        ((go_at_call 106;((with_reducible refine (It.out _ Cu).mono ?_);rintro r w6 ⟨r,rfl,ho,Bz⟩;obtain ⟨ra,rc,rfl,Ah,-,Gd⟩:=zK.row zeQ ho;simp only [List.length_map,List.length_range] at Ah ⊢;have Bz:Below wS.heap.size wS w6:=Cu.trans Bz;have Bg:=Ry.out w6 Bz)))
        clear Bg Cu;have vB:=zh (zn Ah Gd);have je:=LG.out.below Bz;have Wx:=zh (show ∀b o,ra=some ⟨b,o,none⟩->b≠x/\(Value.slice none 0 0).ownBlock≠some b from fun b o e=> ⟨fun e2=> by have h9:wS.heap.size<=b:=(Gd b o e).1;have:=LG.out.chg.xlt;omega,fun e2=> by cases e2⟩)
        have qF:=zh je;clear Ah Gd ho Bz je q1 s9 It Ry;have bC:∀n,({Chg.nil st.c sq with c:=c',id:=nid,vol:=nid,puts:=zcG st.l o.v.toNat pn n}:Chg).puts=zcG st.l o.v.toNat pn n:=fun _=> rfl
        go_wp2_with fail
        go_loopw [79] (fun u wr=> ∃(i:Nat) (pv:Value) (pl:List Ph),i<=zno/\u= .int .i64 (i:Int)/\EvC w0 wr p h a cf st nb k Q x h' {Chg.nil st.c sq with c:=c',id:=nid,vol:=nid,puts:=zcG st.l o.v.toNat pn i} pv pl/\zM zfg 1 wr ra zno ((List.range zno).map fun b=> atL st.l o.v.toNat b pn)/\∀b o,ra=some ⟨b,o,none⟩->b≠x/\pv.ownBlock≠some b) (fun u _=> zno - (intOf u).toNat)
        case atStart=> exact ⟨0, .slice none 0 0, [],Nat.zero_le _,rfl,qF.out,vB.out.1,Wx.out⟩
        case round=>
        obtain ⟨i,pv,pl,hi,rfl,hE,Ah,Aj⟩:=hrel;have HE:=zh hE;have HR:=zh (zn Ah Aj)
        by_cases hlt:i < zno
        ·have Bb:(i:Int) < (zno:Int):=ud;have AD:(0:Int)<=(i:Int):=ud;have bM:zno<=32:=J8.out.2;have FS:IntKind.i64.wrap ((i:Int)+1)=((i+1:Nat):Int):=by rw [zw _ ud];omega
         obtain ⟨at0,AF⟩:∃at0,at0=atL st.l o.v.toNat i pn:=⟨_,rfl⟩;have hx:((List.range zno).map fun b=> atL st.l o.v.toNat b pn)[i]? =some at0:=by rw [List.getElem?_map,List.getElem?_range hlt,AF];rfl
         obtain ⟨rb,ro,DL,hc⟩:=Ah.2 i at0 hx;subst DL;have c0:=hc 0 _ rfl;simp only [Nat.mul_one,Nat.add_zero] at c0;unfold atV at c0;have CX:=zlF st.l o.v.toNat pn i;rw [<- AF] at CX;have HI:=zh (zn CX (zn hlt (znk st.l o.v.toNat pn i)));clear hx hc Ah Aj CX AF hE
         by_cases h0:at0=0
         ·have i0:((at0:Int) !=0)=false:=by rw [h0];rfl
          have hS:zcG st.l o.v.toNat pn (i+1)=zcG st.l o.v.toNat pn i:=by rw [HI.out.1,if_neg ud,List.append_nil]
          have HF:=zh (show EvC w0 wr p h a cf st nb k Q x h' {Chg.nil st.c sq with c:=c',id:=nid,vol:=nid,puts:=zcG st.l o.v.toNat pn (i+1)} pv pl by rw [hS];exact HE.out)
          clear hS h0;go_wp2_with fail
          go_roundw
          case rel=> exact ⟨i+1,pv,pl,HI.out.2.1,by go_num,HF.out,HR.out.1,HR.out.2⟩
          case measure=> simp [intOf];omega
         have i0:((at0:Int) !=0)=true:=uo;have hS:zcG st.l o.v.toNat pn (i+1)=zcG st.l o.v.toNat pn i++ [⟨i,at0,none⟩]:=by rw [HI.out.1,if_pos h0]
         have Ac:pl.length<=1000:=by
            have h1:=congrArg List.length HE.out.chg.map;rw [List.length_map] at h1;have h2:=HI.out.2.2;have h4:pl.length=(zcG st.l o.v.toNat pn i).length:=h1;have:=J8.out.2
            omega
         obtain ⟨v',w',hr,⟨k1,k2⟩,k3,⟨a',n',c9,rfl⟩,Kr,E7,Cv,Af⟩:=HE.out.chg.push HE.out.stw.qlt ⟨i,at0,none⟩ (fun z hz=> by cases hz) Ac HE.out.bel.size
         obtain ⟨pa,pn9,pc,rfl⟩:=HE.out.chg.puts.form;have c11:=HE.out.chg.reads.2.2.2.2.2.2.2.2.2.2.2.1;have T2:=HR.out.2 rb ro rfl;have KX:rb < wr.heap.size:=by
            rcases Nat.lt_or_ge rb wr.heap.size with h1 | h1
            ·exact h1
            simp [World.cell?,Array.getElem?_eq_none h1] at c0
         have HF:=zh (show EvC w0 (w'.setCell ⟨x,11,none⟩ (.slice a' n' c9)) p h a cf st nb k Q x h' {Chg.nil st.c sq with c:=c',id:=nid,vol:=nid,puts:=zcG st.l o.v.toNat pn (i+1)} (.slice a' n' c9) (pl++ [⟨i,at0,none⟩]) by rw [hS];exact ⟨HE.out.st,HE.out.bel.trans E7,Kr⟩)
         have HG:=zh (show zM zfg 1 (w'.setCell ⟨x,11,none⟩ (.slice a' n' c9)) (some ⟨rb,ro,none⟩) zno ((List.range zno).map fun b=> atL st.l o.v.toNat b pn)/\∀b o,(some ⟨rb,ro,none⟩:Option Addr)=some ⟨b,o,none⟩->b≠x/\(Value.slice a' n' c9).ownBlock≠some b from
            ⟨zM.block HR.out.1 (Cv.block rb KX fun hd=> hd.elim T2.1 T2.2),fun b o e=> by
             cases e
             refine ⟨T2.1,fun e2=> ?_⟩;rcases Af rb e2 with h1 | h1
             ·exact T2.2 h1
             omega⟩)
         unfold zaT dV at hr k3;clear hS h0 Ac Kr E7 Cv Af T2 KX HE
         go_wp2_with (at_builtin;refine za rfl _ _ _ rfl hr ?_)
         go_roundw
         case rel=> exact ⟨i+1,_,_,HI.out.2.1,by go_num,HF.out,HG.out.1,HG.out.2⟩
         case measure=> simp [intOf];omega
        have Bb:¬(i:Int) < (zno:Int):=ud;obtain rfl:i=zno:=ud;clear hE Ah Aj;go_wp2_with fail;go_ret;unfold EvE;rw [Br.out.2.2 ubj ubj];refine ⟨ubj,HE.out.bel,fun e=> ⟨h',pv,pl, ?_⟩⟩;rcases AS.out.2.2.2.2 with ⟨h9,-⟩ | ⟨-,h9⟩
        ·have hX:=HE.out.chg;rw [h9] at hX;exact hX
        exact absurd e h9
  have Q9:((zeo:Int) !=0)=true:=uo;go_wp2_with fail;go_ret;unfold EvE;rw [Br.out.2.1 ubj Ju];exact ⟨ubj,H1.out.bel.trans (Cz.out.mono H1.out.bel.size),fun e=> absurd e Ju⟩
 have Q9:((pe:Int) !=0)=true:=uo;go_wp2_with fail;go_ret;unfold EvE;rw [Br.out.1 Fa];exact ⟨ubj,H1.out.bel.trans (AI.out.mono H1.out.bel.size),fun e=> absurd e Fa⟩
end
end Go.Proofs.YtaoceecfjlkmdaaGreat
